/- Part of a proof: the functions that the law reaches, walked by the abstract logic of the texts Ab. -/
import Derived.Test.YtdbbmffachgajaaGreatAbM4
import Derived.Test.YtdbbmffachgajaaGreatAbM3
open Nat(le_refl)
open Bool(and_eq_true false_eq_true)
open Option(bind_eq_some_iff)
set_option linter.unusedVariables false
set_option linter.unusedSimpArgs false
set_option linter.defProp false
namespace Go.Ab
def aMM(x:Nat):List Nat->List Nat
 | []=>[x]
 |y::l=>if x<y then x::y::l else if x=y then y::l else y::aMM x l
def asU(a b:List Nat):List Nat:=a.foldr aMM b
def akr:List aQ->List Nat->List Nat
 | [],out=>out
 |o::r,out=>asU o.reads (match o.dst with|some t=>(akr r out).filter (· !=t)|none=>akr r out)
def bj.slot:bj->List Nat
 | .t n=>[n]
 | .c _=>[]
def live(ret:List Nat):ba->List Nat->List (Nat×List Nat)->ba×List Nat
 | .skip,out,_=>(.skip,out)
 | .region rows ops,out,_=>(.keep out (.region rows ops),akr ops out)
 | .seq a b,out,ex=>
   let qb:=live ret b out ex
   let qa:=live ret a qb.2 ex
   (.seq qa.1 qb.1,qa.2)
 | .cond c t f,out,ex=>
   let qt:=live ret t out ex
   let qf:=live ret f out ex
   (.keep out (.cond c qt.1 qf.1),asU c.slot (asU qt.2 qf.2))
 | .block id b,out,ex=>
   let qb:=live ret b out ((id,out)::ex)
   (.keep out (.block id qb.1),qb.2)
 | .loop b,_,ex=>
   let l1:=(live ret b [] ex).2
   let l2:=asU l1 (live ret b l1 ex).2
   let l3:=asU l2 (live ret b l2 ex).2
   (.loop (live ret b l3 ex).1,l3)
 | .exit id,_,ex=>(.exit id,match ex.find? (λ p=>p.1==id)with|some p=>p.2|none=>[])
 | .ret,_,_=>(.ret,ret)
 | .keep l c,out,ex=>let q:=live ret c out ex;(.keep l q.1,q.2)
 | .mu c,out,ex=>let q:=live ret c out ex;(.mu q.1,q.2)
 | .j3 ops,out,_=>(.j3 ops,out)
structure Cfg where
 fl:List Nat
 fr:List (Nat×Bool×Nat×Nat)
 sg:List (Nat×List eK)
 cut:Bool
def aOc:List (Nat×Bool×Nat×Nat)->Nat->Option (Bool×Nat×Nat)
 | [],_=>none
 |(g,q)::l,f=>if g=f then some q else aOc l f
def aLS:List (Nat×List eK)->Nat->Option (List eK)
 | [],_=>none
 |(g,q)::l,f=>if g=f then some q else aLS l f
def aC9(ops:List aQ):List Nat:=ops.foldr (λ o l=>match o.op with
 | .app _ _ _ (.t k) _=>k::l
 | .bD (.t k)=>(match o.dst with|some d=>if l.contains d=true then k::l else l|none=>l)
 |_=>l) []
def amC(c:Cfg)(drawn base:Bool):gj->gj
 | .call f as=>match aLS c.sg f with
   |some gs=>if drawn=true/\gs.any eK.one=true then .mM gs f as else .aY gs f as
   |none=>match aOc c.fr f with
    |some (nl,e,s)=>if drawn=true/\base=false then(if c.fl.contains f=true then .p9 f as else .fA f as)else .gq nl e s f as
    |none=>if drawn=true then(if c.fl.contains f=true then .p9 f as else .fA f as)else .qd f as
 | .ib x as=> .mN x as
 | .cj s x l h=>if c.cut=true then .cut s x l h else .cj s x l h
 | .buildSlice t s l z ps=>if(drawn=true∨(c.cut=true/\ps.all (λ p=>match p.2 with| .c _=>true| .t _=>false)=true))/\base=false then .ep t s l z ps else .buildSlice t s l z ps
 |o=>o
def aFn(c:Cfg)(rows:Bool)(bs:List Nat)(o:aQ):aQ:={o with op:=amC c rows (match o.dst with|some t=>bs.contains t|none=>false) o.op}
def uK(gen:Cfg):ba->ba
 | .region rows ops=> .region rows (ops.map (aFn gen rows.isSome (aC9 ops)))
 | .seq a b=> .seq (uK gen a) (uK gen b)
 | .cond c t f=> .cond c (uK gen t) (uK gen f)
 | .block id b=> .block id (uK gen b)
 | .loop b=> .loop (uK gen b)
 | .keep l c=> .keep l (uK gen c)
 | .mu c=> .mu (uK gen c)
 |c=>c
theorem jk(ret:List Nat):∀(c:ba) (out:List Nat) (ex:List (Nat×List Nat)),(live ret c out ex).1.strip=c.strip
 | .skip,_,_=>rfl
 | .region rows ops,_,_=>rfl
 | .seq a b,out,ex=>by simp only[live,ba.strip,jk ret a,jk ret b]
 | .cond c t f,out,ex=>by simp only[live,ba.strip,jk ret t,jk ret f]
 | .block id b,out,ex=>by simp only[live,ba.strip,jk ret b]
 | .loop b,out,ex=>by simp only[live,ba.strip,jk ret b]
 | .exit id,_,_=>rfl
 | .ret,_,_=>rfl
 | .keep l c,out,ex=>by simp only[live,ba.strip,jk ret c]
 | .mu c,out,ex=>by simp only[live,ba.strip,jk ret c]
 | .j3 ops,_,_=>rfl
theorem amB(gen:Cfg)(d b:Bool)(o:gj):(amC gen d b o).strip=o.strip:=by
 cases o<;>try rfl
 case buildSlice=>simp only[amC];split<;>rfl
 case cj=>simp only[amC];split<;>rfl
 case call=>
  simp only[amC]
  split
  ·split<;>rfl
  ·split
   ·split
    ·split<;>rfl
    ·rfl
   ·split
    ·split<;>rfl
    ·rfl
theorem jf(gen:Cfg):∀(c:ba),(uK gen c).strip=c.strip
 | .skip=>rfl
 | .region rows ops=>by
   simp only[uK,ba.strip,List.map_map];congr 1;apply List.map_congr_left;intro o _;simp only[Function.comp,aQ.strip,aFn,amB]
 | .seq a b=>by simp only[uK,ba.strip,jf gen a,jf gen b]
 | .cond c t f=>by simp only[uK,ba.strip,jf gen t,jf gen f]
 | .block id b=>by simp only[uK,ba.strip,jf gen b]
 | .loop b=>by simp only[uK,ba.strip,jf gen b]
 | .exit id=>rfl
 | .ret=>rfl
 | .keep l c=>by simp only[uK,ba.strip,jf gen c]
 | .mu c=>by simp only[uK,ba.strip,jf gen c]
 | .j3 ops=>rfl
section
variable {P:Program} {nt:Nat}
theorem aoa{c:Call}{a:gj}(h:ajp P c=some a):a.strip=a:=by
 unfold ajp at h
 split at h
 ·split at h
  ·cases h;rfl
  ·cases h;rfl
  ·cases h
 ·split at h
  ·split at h
   ·simp only[Option.map_eq_some_iff]at h;obtain⟨_,_,rfl⟩:=h;rfl
   ·simp only[Option.map_eq_some_iff]at h;obtain⟨_,_,rfl⟩:=h;rfl
   ·cases h
  ·cases h
 ·split at h
  ·split at h
   ·simp only[Option.bind_eq_bind,bind_eq_some_iff,Option.some.injEq]at h;obtain⟨e,_,⟨s,b,z⟩,_,x,_,y,_,rfl⟩:=h
    rfl
   ·cases h
  ·cases h
 ·cases h
theorem aAe{ty:TypeId}{op:Op}{t s l:Nat}{z:AV}{ps:List (Nat×bj)}(h:eY P ty op=some (.ep t s l z ps)):False:=by
 cases op<;>simp only[eY]at h
 all_goals (repeat' split at h)
 all_goals first
  |(simp[bind_eq_some_iff]at h;done)
  |(exfalso;first|(have q:=nF h;simp at q;done)|(simp_all;done))
theorem auQ{ty:TypeId}{op:Op}{k t s:Nat}{z:AV}(h:eY P ty op=some (.jo k t s z)):False:=by
 cases op<;>simp only[eY]at h
 all_goals (repeat' split at h)
 all_goals first
  |(simp[bind_eq_some_iff]at h;done)
  |(exfalso;first|(have q:=nF h;simp at q;done)|(simp_all;done))
theorem auP{ty:TypeId}{op:Op}{s:Nat}{x:bj}{l h':Option bj}(h:eY P ty op=some (.cut s x l h')):False:=by
 cases op<;>simp only[eY]at h
 all_goals (repeat' split at h)
 all_goals first
  |(simp[bind_eq_some_iff]at h;done)
  |(exfalso;first|(have q:=nF h;simp at q;done)|(simp_all;done))
theorem ams{a:gj}(hA:a.ahj=false)(h:a.afi=false)(hf:∀t s l z ps,a≠ .ep t s l z ps):a.strip=a:=by
 cases a<;>first|rfl|(simp[gj.afi]at h;done)|(simp[gj.ahj]at hA;done)|(exact(hf _ _ _ _ _ rfl).elim)
theorem auO{t:TypeId}{o:Op}{a:gj}(h:cOp P t o=some a):a.strip=a:=by
 unfold cOp aC5 at h;simp only[Option.some.injEq]at h
 split at h
 ·rename_i b hb;subst h;rcases xX hb with⟨_,_,rfl⟩|⟨_,_,_,_,_,_,rfl⟩<;>rfl
 ·cases h0:an8 P t o with
  |none=>rw[h0]at h;subst h;rfl
  |some b=>
   rw[h0]at h;simp only[Option.getD_some]at h;subst h;unfold an8 at h0
   split at h0
   ·exact aoa h0
   ·rw[bind_eq_some_iff]at h0;obtain⟨b',hb,wW⟩:=h0
    split at wW
    ·cases wW
    ·rename_i hc;cases wW;exact ams (by cases b<;>first|rfl|exact(auQ hb).elim|exact(auP hb).elim) (by simpa using hc) (λ t s l z ps he=>aAe (by rw[hb,he]))
theorem an6{ops:Array Oper}{o:Oper}{a:aQ}(h:tW P nt ops o=some a):a.strip=a:=by
 unfold tW at h
 split at h
 ·rename_i op g hop hg
  split at h
  ·cases h;simp only[aQ.strip,auO hop]
  ·cases h
 ·cases h
theorem ae4{f:Oper->Option aQ}(hf:∀o a,f o=some a->a.strip=a):∀(l:List Oper) {r:List aQ},l.mapM f=some r->r.map aQ.strip=r
 | [],r,h=>by simp at h;subst h;rfl
 |o::l,r,h=>by
  simp only[List.mapM_cons,Option.bind_eq_bind,Option.pure_def,bind_eq_some_iff,Option.some.injEq]at h;obtain⟨b,hb,bs,hbs,rfl⟩:=h;simp only[List.map_cons,hf o b hb,ae4 hf l hbs]
theorem an9:∀(code:Code) {c:ba},iR P nt code=some c->c.strip=c:=by
 intro code c h
 induction c generalizing code with
 |skip=>rfl
 |exit=>rfl
 |ret=>rfl
 |region rows ops=>
  rcases cK h with⟨_,h⟩|⟨id,atD,draw,aFo,ali,rfl,h,hm,hdr⟩|⟨_,_,_,_,_,h,_⟩|⟨_,_,_,_,_,_,_,h,_⟩|⟨_,_,_,_,h,_⟩|⟨_,_,_,h,_⟩|⟨_,_,h⟩|⟨_,h⟩<;>first|(cases h;done)|skip
  cases h;simp only[ba.strip];rw[ae4 (λ o a h=>an6 h) _ hm]
 |seq a b iha ihb=>
  rcases cK h with⟨_,h⟩|⟨_,_,_,_,_,_,h,_⟩|⟨cx,cy,ax,ay,rfl,h,hx,hy⟩|⟨_,_,_,_,_,_,_,h,_⟩|⟨_,_,_,_,h,_⟩|⟨_,_,_,h,_⟩|⟨_,_,h⟩|⟨_,h⟩<;>first|(cases h;done)|skip
  cases h;simp only[ba.strip,iha cx hx,ihb cy hy]
 |cond o t f iht ihf=>
  rcases cK h with⟨_,h⟩|⟨_,_,_,_,_,_,h,_⟩|⟨_,_,_,_,_,h,_⟩|⟨o',x,y,ao,ax,ay,rfl,h,h0,h1,h2⟩|⟨_,_,_,_,h,_⟩|⟨_,_,_,h,_⟩|⟨_,_,h⟩|⟨_,h⟩<;>first|(cases h;done)|skip
  cases h;simp only[ba.strip,iht x h1,ihf y h2]
 |block id b ih=>
  rcases cK h with⟨_,h⟩|⟨_,_,_,_,_,_,h,_⟩|⟨_,_,_,_,_,h,_⟩|⟨_,_,_,_,_,_,_,h,_⟩|⟨id',cb,ab,rfl,h,hb⟩|⟨_,_,_,h,_⟩|⟨_,_,h⟩|⟨_,h⟩<;>first|(cases h;done)|skip
  cases h;simp only[ba.strip,ih cb hb]
 |loop b ih=>
  rcases cK h with⟨_,h⟩|⟨_,_,_,_,_,_,h,_⟩|⟨_,_,_,_,_,h,_⟩|⟨_,_,_,_,_,_,_,h,_⟩|⟨_,_,_,_,h,_⟩|⟨cb,ab,rfl,h,hb⟩|⟨_,_,h⟩|⟨_,h⟩<;>first|(cases h;done)|skip
  cases h;simp only[ba.strip,ih cb hb]
 |keep l c ih=>
  rcases cK h with⟨_,h⟩|⟨_,_,_,_,_,_,h,_⟩|⟨_,_,_,_,_,h,_⟩|⟨_,_,_,_,_,_,_,h,_⟩|⟨_,_,_,_,h,_⟩|⟨_,_,_,h,_⟩|⟨_,_,h⟩|⟨_,h⟩<;>cases h
 |mu c ih=>
  rcases cK h with⟨_,h⟩|⟨_,_,_,_,_,_,h,_⟩|⟨_,_,_,_,_,h,_⟩|⟨_,_,_,_,_,_,_,h,_⟩|⟨_,_,_,_,h,_⟩|⟨_,_,_,h,_⟩|⟨_,_,h⟩|⟨_,h⟩<;>cases h
 |j3 ops=>
  rcases cK h with⟨_,h⟩|⟨_,_,_,_,_,_,h,_⟩|⟨_,_,_,_,_,h,_⟩|⟨_,_,_,_,_,_,_,h,_⟩|⟨_,_,_,_,h,_⟩|⟨_,_,_,h,_⟩|⟨_,_,h⟩|⟨_,h⟩<;>cases h
end
def aBh:ff->Nat
 | .tmp t=>t
 | .cell t _=>t
def aow(P:Program)(gen:Cfg)(fn:Func):Option vw:=
 match fn.body with
 |none=>none
 |some code=>match iR P fn.ntmps code,fn.results.toList.mapM (auN P)with
  |some c,some rs=>some ⟨fn.params.size+fn.nfree,fn.ntmps,(live (asU (rs.map aBh) []) (uK gen c) [] []).1,rs⟩
  |_,_=>none
theorem aa6{P:Program}{f:FuncId}{fn:Func}{gen:Cfg}{A:vw}(hf:P.funcs[f]? =some fn)(hA:aow P gen fn=some A)(h1:A.iz<=A.nt)(h2:(fn.name== "runtime.NumGoroutine")=false):cFn P f A:=by
 unfold aow at hA
 split at hA
 ·cases hA
 ·rename_i code azc
  split at hA
  ·rename_i c rs hc hrs;cases hA;refine⟨fn,code,hf,azc,h2,rfl,h1,?_,hrs⟩;rw[hc];simp only[jk,jf,an9 code hc]
  ·cases hA
def aS(P:Program)(gen:Cfg)(fn:Func):Option (Nat×T):=
 match aow P gen fn with
 |some A=>if A.iz<=A.nt/\(fn.name== "runtime.NumGoroutine")=false then
   match A.left gen.fl with
   |some t=>some (A.iz,t)
   |none=>none
  else none
 |none=>none
def uU(P:Program)(gen:Cfg)(nl:Bool)(e m:Nat)(fn:Func):Option (Nat×T):=
 match aow P gen fn with
 |some A=>if A.iz<=A.nt/\(fn.name== "runtime.NumGoroutine")=false then
   match A.uU gen.fl nl e m with
   |some t=>some (A.iz,t)
   |none=>none
  else none
 |none=>none
theorem aF{P:Program}{f:FuncId}{fn:Func}{gen:Cfg}{n:Nat}{t:T}(hf:P.funcs[f]? =some fn)(h:aS P gen fn=some (n,t)){args:List AV}{res:AV}(hl:args.length=n)(hn:AV.ae args=true)
  (hw:cL P (λ _ _ _=>False) (λ a=>a=res) t args []):aW P f args res:=by
 unfold aS at h
 split at h
 ·rename_i A hA
  split at h
  ·rename_i hc
   split at h
   ·rename_i t' ht;cases h;exact azY (aa6 hf hA hc.1 hc.2) ht hl hn hw
   ·cases h
  ·cases h
 ·cases h
theorem sx{P:Program}{f:FuncId}{fn:Func}{gen:Cfg}{nl:Bool}{e m:Nat}{n:Nat}{t:T}(hf:P.funcs[f]? =some fn)(h:uU P gen nl e m fn=some (n,t)){args xs:List AV}(hl:args.length=n)(hn:AV.ae args=true)
  (hw:cL P (λ _ _ _=>False) (λ a=>a= .sl xs) t args []):vv P f args nl e m xs:=by
 unfold uU at h
 split at h
 ·rename_i A hA
  split at h
  ·rename_i hc
   split at h
   ·rename_i t' ht;cases h;exact auu (aa6 hf hA hc.1 hc.2) ht hl hn hw
   ·cases h
  ·cases h
 ·cases h
def ea(P:Program)(gen:Cfg)(g:eK)(fn:Func):Option T:=
 match aow P gen fn with
 |some A=>if A.iz<=A.nt/\(fn.name== "runtime.NumGoroutine")=false then A.ea gen.fl g else none
 |none=>none
theorem gr{P:Program}{f:FuncId}{fn:Func}{gen:Cfg}{g:eK}{t:T}(hf:P.funcs[f]? =some fn)(h:ea P gen g fn=some t){ins outs:List AV}(hl:ins.length=g.n)(ho:outs.length=g.m)(hn:AV.ae ins=true)
  (hw:cL P (λ _ _ _=>False) (λ a=>a=cv outs) t ins []):jY P f g ins outs:=by
 unfold ea at h
 split at h
 ·rename_i A hA
  split at h
  ·rename_i hc;exact as5 (aa6 hf hA hc.1 hc.2) h hl hn ho hw
  ·cases h
 ·cases h
section
variable (P:Program) (L:AX->SS->List AV->Prop) (R:AV->Prop)
def kT(t:T)(r:List AV)(S:List (List AV->Prop)):AV->Prop:=λ v=>cL P L R t (r++ [v]) S
def gn(K:AV->Prop)(v:AV):Prop:=K v
def afg(c:AV)(t f:T)(r:List AV)(S:List (List AV->Prop)):Prop:=match c with
 | .v (.bool b)=>(b=true->cL P L R t r S)/\(b=false->cL P L R f r S)
 |_=>False
def aoe(k:Nat)(a b:T)(r:List AV)(S:List (List AV->Prop)):Prop:=cL P L R (.bind k a b) r S
def tL(init:List AV)(b:T)(r:List AV)(S:List (List AV->Prop)):Prop:=
 ∃(J:Nat->List AV->Prop) (n:Nat),J n init/\∀n vs,J n vs->vs.length=init.length->cL P L R b (r++vs) ((λ rJ=>∃m,m<n/\J m rJ)::S)
def aj8(vs:List AV):Prop:=R (cv vs)
def ayC(S:List (List AV->Prop))(vs:List AV):Prop:=match S with
 |J::_=>J vs
 | []=>False
variable (t f:T) (r:List AV) (S:List (List AV->Prop))
theorem aLE(o:PO):cL P L R (.op o t) r S=o.wp P r (kT P L R t r S):=nr rfl
theorem w_go(v:AV):gn (kT P L R t r S) v=cL P L R t (r++ [v]) S:=nr rfl
theorem aFk(c:eL):cL P L R (.aq c t) r S=c.wp r (cL P L R t r S):=nr rfl
theorem aLF(c:D):cL P L R (.ite c t f) r S=afg P L R (c.ev r) t f r S:=nr rfl
theorem awX(k:Nat):cL P L R (.bind k t f) r S=aoe P L R k t f r S:=nr rfl
theorem aF8(init:List D):cL P L R (.loop init t) r S=tL P L R (D.bn r init) t r S:=by
 simp only[cL,tL,D.bc,List.length_map]
theorem aLD(ds:List D):cL P L R (.ret ds) r S=aj8 R (D.bn r ds):=nr rfl
theorem aF9(vs:List D):cL P L R (.jump vs) r S=ayC S (D.bn r vs):=nr rfl
theorem aLG(J:List AV->Prop):cL P L R (.cM t) r (J::S)=cL P L R t r S:=nr rfl
theorem aAX(J:List AV->Prop)(vs:List AV):ayC (J::S) vs=J vs:=nr rfl
theorem aF7:afg P L R (.v (.bool true)) t f r S=cL P L R t r S:=by simp[afg]
theorem aAY:afg P L R (.v (.bool false)) t f r S=cL P L R f r S:=by simp[afg]
end
section
variable {P:Program} {L:AX->SS->List AV->Prop} {R:AV->Prop} {t f:T} {r:List AV} {S:List (List AV->Prop)}
theorem aA{b:Bool}(h:b=true->cL P L R t r S)(h':b=false->cL P L R f r S):afg P L R (.v (.bool b)) t f r S:=⟨h,h'⟩
theorem aC{p:Prop}[Decidable p](h:p->cL P L R t r S)(h':¬p->cL P L R f r S):afg P L R (.v (.bool (decide p))) t f r S:=⟨λ q=>h (of_decide_eq_true q),λ q=>h' (of_decide_eq_false q)⟩
theorem aP{p:Prop}[Decidable p](h:¬p->cL P L R t r S)(h':p->cL P L R f r S):afg P L R (.v (.bool (!decide p))) t f r S:=
 ⟨λ q=>h (by simpa using q),λ q=>h' (by simpa using q)⟩
theorem bN{k:Nat}(J:List AV->Prop)(h:cL P L R t r (J::S))(h':∀vs,J vs->vs.length=k->cL P L R f (r++vs) S):aoe P L R k t f r S:=
 ef (λ _ _ _ h=>h) (λ _ h=>h) t (.cons (λ vs hv hk=>h' vs hv hk) (.refl _)) h
theorem aG{k:Nat}(vs:List AV)(hk:vs.length=k)(h:cL P L R t r ((λ ws=>ws=vs)::S))(h':cL P L R f (r++vs) S):aoe P L R k t f r S:=
 bN (λ ws=>ws=vs) h λ ws hw _=>by rw[hw];exact h'
theorem aw{k:Nat}(h:cL P L R t r ((λ vs=>cL P L R f (r++vs) S)::S)):aoe P L R k t f r S:=bN _ h λ _ hv _=>hv
theorem fK{ι:Type}{init:List AV}(D:ι->Prop)(σ:ι->List AV)(μ:ι->Nat)(i0:ι)(hd:D i0)(h0:init=σ i0)
  (hr:∀i,D i->cL P L R t (r++σ i) ((λ vs=>∃j,D j/\μ j<μ i/\vs=σ j)::S)):tL P L R init t r S:=by
 refine⟨λ n vs=>∃i,D i/\μ i=n/\vs=σ i,μ i0,⟨i0,hd,rfl,h0⟩,?_⟩;rintro n vs ⟨i,hi,rfl,rfl⟩ _;refine ef (λ _ _ _ h=>h) (λ _ h=>h) t (.cons (λ vs hv=> ?_) (.refl _)) (hr i hi);obtain⟨j,hj,aK,rfl⟩:=hv;exact⟨μ j,aK,j,hj,rfl,rfl⟩
theorem aJ{g:FuncId}{args:List AV}{flat:Bool}{K:AV->Prop}{x:Value}(h:aW P g args (.v x))(k:gn K (.v x)):ajn P g args flat K:=⟨_,h,rfl,λ _=>rfl,k⟩
theorem asA{nl:Bool}{e s:Nat}{g:FuncId}{args:List AV}{K:AV->Prop}{xs:List AV}(h:vv P g args nl e s xs)(hn:AV.ae xs=true)(k:gn K (.sl xs)):aqo P nl e s g args K:=⟨_,h,hn,k⟩
theorem fj{g:eK}{f:FuncId}{args:List AV}{K:AV->Prop}{outs:List AV}(h:jY P f g args outs)(hl:outs.length=g.m)(hn:AV.ae outs=true)(k:gn K (.aZ outs)):rB P f g args K:=⟨_,h,hl,hn,k⟩
theorem bH{g:FuncId}{args:List AV}{K:AV->Prop}{res:AV}(h:aW P g args res)(hn:res.ag=true)(k:gn K res):ajn P g args false K:=⟨_,h,hn,λ h=>(by cases h),k⟩
theorem xT{s:Nat}{xs:List AV}{k:IntKind}{n:Nat}{K:AV->Prop}(x:AV)(h:xs[n]? =some x)(hs:x.cells.length=s)(hk:gn K x):jE s (.sl xs) (.v (.int k (n:Int))) K:=by
 have aK:=(List.getElem?_eq_some_iff.1 h).1;have hx:xs.getD (Int.toNat (n:Int)) .top=x:=by rw[Int.toNat_natCast];exact azt h
 refine⟨Int.natCast_nonneg n,by exact_mod_cast aK,by rw[hx];exact hs,by rw[hx];exact hk⟩
where azt {l:List AV} {i:Nat} {x:AV} (h:l[i]? =some x):l.getD i .top=x:=by simp[List.getD,h]
end
theorem aRI(r:List AV)(d:D)(f:Nat):(D.ip d f).ev r= .bW (d.ev r) f:=nr rfl
section
variable (r:List AV)
theorem e_x(i:Nat):(D.x i).ev r=r.getD i .top:=nr rfl
theorem e_c(a:AV):(D.c a).ev r=a:=nr rfl
theorem aH3(i j:Nat):(D.cell i j).ev r=(r.getD i .top).cells.getD j .top:=nr rfl
theorem aOh(i j:Nat):(D.ext i j).ev r=aw8 (r.getD i .top) j:=nr rfl
theorem aRH(l:D):(D.sl l).ev r= .sl (aU (l.ev r)):=nr rfl
theorem aOi(l:List D):(D.agg l).ev r= .agg (D.bn r l):=nr rfl
theorem aRJ(f:FuncId)(l:List D):(D.fn f l).ev r= .fn f (D.bn r l):=nr rfl
theorem aOg:D.bn r []= []:=nr rfl
theorem aH2(d:D)(l:List D):D.bn r (d::l)=d.ev r::D.bn r l:=nr rfl
end
theorem atH(xs:List AV):aU (.sl xs)=xs:=nr rfl
theorem atZ(k:IntKind)(n:Nat):idxOf (.v (.int k (n:Int)))=n:=nr (by simp[idxOf])
theorem at0(k:IntKind)(n:Int):idxOf (.v (.int k n))=n.toNat:=nr rfl
theorem aA4(vs:List AV)(j:Nat):aw8 (.aZ vs) j=vs.getD j .top:=nr rfl
theorem azL(r:List AV):D.evo r none=none:=nr rfl
theorem azK(r:List AV)(d:D):D.evo r (some d)=some (d.ev r):=nr rfl
section
variable (P:Program) (r:List AV) (K:AV->Prop)
def ic(op:BinOp)(a b:AV)(K:AV->Prop):Prop:=fT op a b [] λ x _=>K x
def unT(op:UnOp)(a:AV)(K:AV->Prop):Prop:=unK op a [] λ x _=>K x
def asJ(k:IntKind)(a:AV)(K:AV->Prop):Prop:=zx k a [] λ x _=>K x
def aby(c a b:AV)(K:AV->Prop):Prop:=sf c a b [] λ x _=>K x
def aCI(off:Nat)(n:Option Nat)(a:AV)(K:AV->Prop):Prop:=aql off n a [] λ x _=>K x
def ayJ(a i:AV)(K:AV->Prop):Prop:=zf a i [] λ x _=>K x
def aBb(a:AV)(lo hi:Option AV)(K:AV->Prop):Prop:=nM a lo hi [] λ x _=>K x
def aBc(s:Nat)(a:AV)(lo hi:Option AV)(K:AV->Prop):Prop:=lJ s a lo hi [] λ x _=>K x
def asf(a:AV)(K:AV->Prop):Prop:=yS a [] λ x _=>K x
def aiP(a:AV)(K:AV->Prop):Prop:=qj a [] λ x _=>K x
def aG4(n:Option Nat)(a:AV)(K:AV->Prop):Prop:=apG n a K
def aHW(off:Nat)(a:AV)(K:AV->Prop):Prop:=aqq off a K
theorem aL9(x:D):PO.wp P r (.val x) K=gn K (x.ev r):=nr rfl
def puT(o:PU)(xs:List AV)(K:AV->Prop):Prop:=puK o xs K
theorem aPP(o:PU)(ds:List D):PO.wp P r (.pu o ds) K=puT o (D.bn r ds) K:=nr rfl
theorem aGG(c a b:D):PO.wp P r (.pick c a b) K=aby (c.ev r) (a.ev r) (b.ev r) K:=nr rfl
theorem aMg(op:BinOp)(a b:D):PO.wp P r (.bin op a b) K=ic op (a.ev r) (b.ev r) K:=nr rfl
def auU(neg:Bool)(a b:AV)(K:AV->Prop):Prop:=alg neg a b K
theorem aMh(neg:Bool)(a b:D):PO.wp P r (.beq neg a b) K=auU neg (a.ev r) (b.ev r) K:=nr rfl
theorem aPO(op:UnOp)(a:D):PO.wp P r (.un op a) K=unT op (a.ev r) K:=nr rfl
theorem aGL(k:IntKind)(a:D):PO.wp P r (.conv k a) K=asJ k (a.ev r) K:=nr rfl
theorem aGK(s:Nat)(l i:D):PO.wp P r (.elem s l i) K=jE s (l.ev r) (i.ev r) K:=nr rfl
theorem aMe(off:Nat)(n:Option Nat)(a:D):PO.wp P r (.zq off n a) K=aCI off n (a.ev r) K:=nr rfl
theorem aBB(f m:Nat)(a:D):PO.wp P r (.tM f m a) K=(f+m<=(a.ev r).cells.length/\gn K (cA (some m) (a.ev r) f)):=nr rfl
theorem aGJ(a i:D):PO.wp P r (.lU a i) K=ayJ (a.ev r) (i.ev r) K:=nr rfl
theorem axN(a:D)(lo hi:Option D):PO.wp P r (.fX a lo hi) K=aBb (a.ev r) (D.evo r lo) (D.evo r hi) K:=nr rfl
theorem axO(s:Nat)(a:D)(lo hi:Option D):PO.wp P r (.cj s a lo hi) K=aBc s (a.ev r) (D.evo r lo) (D.evo r hi) K:=nr rfl
theorem aGH(a:D):PO.wp P r (.oz a) K=asf (a.ev r) K:=nr rfl
theorem aGI(a:D):PO.wp P r (.ch a) K=aiP (a.ev r) K:=nr rfl
theorem aFq(z:AV)(n:Nat)(ps:List (Nat×D)):PO.wp P r (.iE z n ps) K=gn K (.sl (kl (List.replicate n z) (ps.map λ p=>(p.1,p.2.ev r)))):=nr rfl
theorem aMb(bytes:Nat)(z:AV)(n c:D):PO.wp P r (.rep bytes z n c) K=amM bytes z (n.ev r) (c.ev r) K:=nr rfl
theorem aMi(s bytes:Nat)(l y:D):PO.wp P r (.app s bytes l y) K=aox s bytes (aU (l.ev r)) (y.ev r) K:=nr rfl
theorem aMd(l i:D)(f:Nat)(n:Option Nat):PO.wp P r (.get l i f n) K=aCF (aU (l.ev r)) (idxOf (i.ev r)) f n K:=nr rfl
theorem aMa(l i:D)(f m:Nat)(y:D):PO.wp P r (.set l i f m y) K=axj (aU (l.ev r)) (idxOf (i.ev r)) f m (y.ev r) K:=nr rfl
theorem aGM(f:FuncId)(args:List D)(b:Bool):PO.wp P r (.call f args b) K=ajn P f (D.bn r args) b K:=nr rfl
theorem aBC(nl:Bool)(e s:Nat)(f:FuncId)(args:List D):PO.wp P r (.gq nl e s f args) K=aqo P nl e s f (D.bn r args) K:=nr rfl
theorem aBA(f:FuncId)(g:eK)(args:List D):PO.wp P r (.aY f g args) K=rB P f g (D.bn r args) K:=nr rfl
theorem aBD(g:D)(args:List D)(b:Bool):PO.wp P r (.ib g args b) K=vm P (g.ev r) (D.bn r args) b K:=nr rfl
theorem aMc(n:Option Nat)(a:D):PO.wp P r (.ldp n a) K=aG4 n (a.ev r) K:=nr rfl
theorem aMf(off:Nat)(a:D):PO.wp P r (.fap off a) K=aHW off (a.ev r) K:=nr rfl
theorem az6(f:FuncId)(bl args:List AV)(b:Bool):vm P (.fn f bl) args b K=ajn P f (args++bl) b K:=nr rfl
variable (k k':IntKind) (a b:Int) (s u:ByteArray)
theorem aMF(n:Option Nat)(y:AV)(f:Nat):aG4 n (.bW y f) K=(f+n.getD 1<=y.cells.length/\gn K (cA n y f)):=nr rfl
theorem aMH(off:Nat)(y:AV)(f:Nat):aHW off (.bW y f) K=gn K (.bW y (f+off)):=nr rfl
theorem aw6(neg:Bool):puT (.qk neg) [.an] K=gn K (.v (.bool (neg !=true))):=nr rfl
theorem arP(neg:Bool)(x:AV)(xs:List AV):puT (.qk neg) [.sl (x::xs)] K=gn K (.v (.bool (neg !=false))):=nr rfl
theorem aGe(neg:Bool):puT (.aaC neg) [.v (.pointer none)] K=gn K (.v (.bool (neg !=true))):=nr rfl
theorem aGd(neg:Bool)(x:AV)(f:Nat):puT (.aaC neg) [.bW x f] K=gn K (.v (.bool (neg !=false))):=nr rfl
theorem aGf(neg:Bool):puT (.aaD neg) [.v .nilIface] K=gn K (.v (.bool (neg !=true))):=nr rfl
theorem aGg(neg:Bool):puT (.aaD neg) [.xK] K=gn K (.v (.bool (neg !=false))):=nr rfl
theorem aLM:puT .min [.v (.int k a),.v (.int k b)] K=gn K (.v (.int k (if b<a then b else a))):=by simp[puT,puK,zR,gn]
theorem aLN:puT .max [.v (.int k a),.v (.int k b)] K=gn K (.v (.int k (if a<b then b else a))):=by simp[puT,puK,zR,gn]
theorem aLO(s:ByteArray):puT .b2s [.sl (ysS s)] K=gn K (.v (.string s)):=by
 have h:∀l:List UInt8,u8s (l.map λ c=>AV.v (.int .u8 c.toNat))=some l:=by
  intro l
  induction l with
  |nil=>rfl
  |cons c l ih=>simp[u8s,ih]
 simp only[puT,puK,zR,ysS,h,Option.map_some,gn]
theorem aGh:puT .b2s [.an] K=gn K (.v (.string ⟨#[]⟩)):=nr rfl
theorem aMA:(true !=true)=false:=nr rfl
theorem aMB:(true !=false)=true:=nr rfl
theorem aL4:(false !=true)=true:=nr rfl
theorem aL5:(false !=false)=false:=nr rfl
theorem aOF:ic .add (.v (.int k a)) (.v (.int k b)) K=gn K (.v (.int k (k.wrap (a+b)))):=by rw[ic,aot];rfl
theorem aOq:ic .sub (.v (.int k a)) (.v (.int k b)) K=gn K (.v (.int k (k.wrap (a- b)))):=by rw[ic,aog];rfl
theorem aOw:ic .mul (.v (.int k a)) (.v (.int k b)) K=gn K (.v (.int k (k.wrap (a*b)))):=by rw[ic,aom];rfl
theorem aOE:ic .and (.v (.int k a)) (.v (.int k b)) K=gn K (.v (.int k (k.wrap (BitVec.ofInt k.bits a&&&BitVec.ofInt k.bits b).toNat))):=by rw[ic,aos];rfl
theorem aRS:ic .or (.v (.int k a)) (.v (.int k b)) K=gn K (.v (.int k (k.wrap (BitVec.ofInt k.bits a|||BitVec.ofInt k.bits b).toNat))):=by rw[ic,asK];rfl
theorem aOp:ic .xor (.v (.int k a)) (.v (.int k b)) K=gn K (.v (.int k (k.wrap (BitVec.ofInt k.bits a^^^BitVec.ofInt k.bits b).toNat))):=by rw[ic,aof];rfl
theorem aOu:ic .quo (.v (.int k a)) (.v (.int k b)) K=(b≠0/\gn K (.v (.int k (k.wrap (a.tdiv b))))):=by rw[ic,aok];rfl
theorem aOt:ic .rem (.v (.int k a)) (.v (.int k b)) K=(b≠0/\gn K (.v (.int k (a.tmod b)))):=by rw[ic,aoj];rfl
theorem aOB:ic .eql (.v (.int k a)) (.v (.int k b)) K=gn K (.v (.bool (decide (a=b)))):=by rw[ic,aor];rfl
theorem aOv:ic .neq (.v (.int k a)) (.v (.int k b)) K=gn K (.v (.bool (!decide (a=b)))):=by rw[ic,aol];rfl
theorem aOx:ic .lss (.v (.int k a)) (.v (.int k b)) K=gn K (.v (.bool (decide (a<b)))):=by rw[ic,aon];rfl
theorem aOy:ic .leq (.v (.int k a)) (.v (.int k b)) K=gn K (.v (.bool (decide (a<=b)))):=by rw[ic,aoo];rfl
theorem aOz:ic .gtr (.v (.int k a)) (.v (.int k b)) K=gn K (.v (.bool (decide (b<a)))):=by rw[ic,aop];rfl
theorem aOA:ic .geq (.v (.int k a)) (.v (.int k b)) K=gn K (.v (.bool (decide (b<=a)))):=by rw[ic,aoq];rfl
theorem aOs:ic .shl (.v (.int k a)) (.v (.int k' b)) K=(0<=b/\gn K (.v (.int k (k.wrap (a*2^(min b.toNat k.bits)))))):=by rw[ic,aoi];rfl
theorem aOr:ic .shr (.v (.int k a)) (.v (.int k' b)) K=(0<=b/\gn K (.v (.int k (a.fdiv (2^(min b.toNat k.bits)))))):=by rw[ic,aoh];rfl
theorem aIj:ic .add (.v (.string s)) (.v (.string u)) K=(((s.size+u.size:Nat):Int)<=9223372036854775807/\gn K (.v (.string (s++u)))):=by rw[ic,ajt];rfl
theorem aAm:ic .eql (.v (.string s)) (.v (.string u)) K=gn K (.v (.bool (decide (s=u)))):=by rw[ic,ajs];rfl
theorem aIi:ic .neq (.v (.string s)) (.v (.string u)) K=gn K (.v (.bool (!decide (s=u)))):=by rw[ic,ajr];rfl
theorem aOD(x y:Bool):auU false (.v (.bool x)) (.v (.bool y)) K=gn K (.v (.bool (x==y))):=by simp[auU,alg,gn]
theorem aOC(x y:Bool):auU true (.v (.bool x)) (.v (.bool y)) K=gn K (.v (.bool (!(x==y)))):=by simp[auU,alg,gn]
theorem aLK(x:Bool):unT .not (.v (.bool x)) K=gn K (.v (.bool (!x))):=by rw[unT,arN];rfl
theorem aLL:unT .neg (.v (.int k a)) K=gn K (.v (.int k (k.wrap (-a)))):=by rw[unT,arO];rfl
theorem aGa:asJ k (.v (.int k' a)) K=gn K (.v (.int k (k.wrap a))):=by rw[asJ,anY];rfl
theorem az9(x y:AV):aby (.v (.bool true)) x y K=gn K x:=by rw[aby,aeJ];rfl
theorem aAa(x y:AV):aby (.v (.bool false)) x y K=gn K y:=by rw[aby,abz];rfl
theorem aAb(c x y:Bool):aby (.v (.bool c)) (.v (.bool x)) (.v (.bool y)) K=gn K (.v (.bool (if c=true then x else y))):=by rw[aby,aeK];rfl
theorem aMG(off:Nat)(n:Option Nat)(x:AV):aCI off n x K=(x.isAgg=true/\off+n.getD 1<=x.cells.length/\gn K (cA n x off)):=by rw[aCI,asy];rfl
theorem aMP:ayJ (.v (.string s)) (.v (.int k a)) K=(0<=a/\a<s.size/\gn K (.v (.int .u8 (s.data.toList.getD a.toNat 0).toNat))):=by rw[ayJ,ant];rfl
theorem aLT(lo hi:Option AV):aBb (.v (.string s)) lo hi K=bnd 0 lo λ l=>bnd s.size hi λ h=>0<=l/\l<=h/\h<=s.size/\gn K (.v (.string (s.extract l.toNat h.toNat))):=by rw[aBb,aeo];rfl
theorem aLU(m:Nat)(xs:List AV)(lo hi:Option AV):aBc m (.sl xs) lo hi K=bnd 0 lo λ l=>bnd xs.length hi λ h=>0<=l/\l<=h/\h<=xs.length/\(∀y∈xs,y.cells.length=m)/\gn K (.sl ((xs.take h.toNat).drop l.toNat)):=by rw[aBc,aep];rfl
theorem aGV:asf (.v (.string s)) K=gn K (.v (.int .i64 s.size)):=by rw[asf,am8];rfl
theorem aGU:aiP .an K=gn K (.v (.int .i64 0)):=by rw[aiP,ae9];rfl
theorem aMC(xs:List AV):aiP (.sl xs) K=gn K (.v (.int .i64 xs.length)):=by rw[aiP,ae8];rfl
theorem aRW(m bytes:Nat)(xs ys:List AV):aox m bytes xs (.sl ys) K=((∀y∈ys,y.cells.length=m)/\(xs.length+ys.length)*bytes<=140737488355328/\xs.length+ys.length<=9223372036854775807/\gn K (.sl (xs++ys))):=nr rfl
theorem aIo(m bytes:Nat)(xs:List AV):aox m bytes xs .an K=((∀y∈([]:List AV),y.cells.length=m)/\(xs.length+([]:List AV).length)*bytes<=140737488355328/\xs.length+([]:List AV).length<=9223372036854775807/\gn K (.sl (xs++ []))):=nr rfl
theorem aN8(xs:List AV)(i f:Nat)(n:Option Nat):aCF xs i f n K=(i<xs.length/\f+n.getD 1<=(xs.getD i .top).cells.length/\gn K (cA n (xs.getD i .top) f)):=nr rfl
theorem aN7(xs:List AV)(i f m:Nat)(y:AV):axj xs i f m y K=(i<xs.length/\y.cells.length=m/\y.storable=true/\f+m<=(xs.getD i .top).cells.length/\gn K (.sl (xs.set i (ua (xs.getD i .top) f y)))):=nr rfl
theorem aL0(bytes:Nat)(z:AV):amM bytes z (.v (.int .i64 a)) (.v (.int .i64 b)) K=(0<=a/\a<=b/\bytes*b<=281474976710656/\b<=9223372036854775807/\gn K (.sl (List.replicate a.toNat z))):=nr rfl
theorem ao4(z:List AV):kl z []=z:=nr rfl
theorem amD(z:List AV)(i:Nat)(y:AV)(ps:List (Nat×AV)):kl z ((i,y)::ps)=kl (z.set i y) ps:=nr rfl
end
section
variable (r:List AV) (K:Prop)
theorem aCz(a:D)(m:Nat):eL.wp r (.cells a m) K=((a.ev r).isAgg=true/\(a.ev r).cells.length=m/\(a.ev r).storable=true/\K):=nr rfl
theorem aFM(a:D):eL.wp r (.one a) K=((a.ev r).cells.length=1/\(a.ev r).cB=true/\K):=nr rfl
theorem aRl(a:D)(j:Nat):eL.wp r (.lt a j) K=(j<(a.ev r).cells.length/\K):=nr rfl
theorem aNZ(a:D)(j:Nat):eL.wp r (.aZ a j) K=aoU (a.ev r) j K:=nr rfl
theorem aN0(l i:D):eL.wp r (.idx l i) K=anv (aU (l.ev r)) (i.ev r) K:=nr rfl
theorem aHG(a:D):eL.wp r (.ahi a) K=abK (a.ev r) K:=nr rfl
theorem aHF(vs:List AV)(j:Nat):aoU (.aZ vs) j K=(j<vs.length/\K):=nr rfl
theorem aHH(xs:List AV)(k:IntKind)(i:Int):anv xs (.v (.int k i)) K=(0<=i/\i<xs.length/\K):=nr rfl
theorem aN1(a b:D):eL.wp r (.eql a b) K=((aU (a.ev r)).length=(aU (b.ev r)).length/\K):=nr rfl
theorem aRj:eL.wp r .no K=False:=nr rfl
theorem aRk(l:D):eL.wp r (.ne l) K=(aU (l.ev r)≠[]/\K):=nr rfl
theorem azh(x:AV)(f:Nat):abK (.bW x f) K=K:=nr rfl
theorem aCy(f:FuncId)(cs:List AV):abK (.fn f cs) K=K:=nr rfl
end
theorem aBg(x:AV)(vs:List AV):aj8 (λ a=>a=x) vs=(cv vs=x):=nr rfl
theorem aBz(x:AV):cv [x]=x:=nr rfl
theorem aBy(x y:AV)(l:List AV):cv (x::y::l)= .aZ (x::y::l):=nr rfl
def W00:=And.intro @aLE (And.intro @w_go (And.intro @aFk (And.intro @aLF (And.intro @awX (And.intro @aF8 (And.intro @aLD (And.intro @aF9 (And.intro @aLG (And.intro @aAX (And.intro @aF7 (And.intro @aAY (And.intro @e_x (And.intro @e_c (And.intro @aH3 (And.intro @aOh (And.intro @aRH (And.intro @aOi (And.intro @aRJ (@aRI)))))))))))))))))))
def W01:=And.intro @aOg (And.intro @aH2 (And.intro @atH (And.intro @atZ (And.intro @at0 (And.intro @aA4 (And.intro @azL (And.intro @azK (And.intro @aL9 (And.intro @aGG (And.intro @aMg (And.intro @aMh (And.intro @aPO (And.intro @aGL (And.intro @aGK (And.intro @aMe (And.intro @aBB (And.intro @aGJ (And.intro @axN (@axO)))))))))))))))))))
def W02:=And.intro @aGH (And.intro @aGI (And.intro @aFq (And.intro @aMb (And.intro @aMi (And.intro @aMd (And.intro @aMa (And.intro @aGM (And.intro @aBD (And.intro @aMc (And.intro @aMf (And.intro @aMF (And.intro @aMH (And.intro @az6 (And.intro @aOF (And.intro @aOq (And.intro @aOw (And.intro @aOE (And.intro @aRS (@aOp)))))))))))))))))))
def W03:=And.intro @aOu (And.intro @aOt (And.intro @aOB (And.intro @aOv (And.intro @aOx (And.intro @aOy (And.intro @aOz (And.intro @aOA (And.intro @aOs (And.intro @aOr (And.intro @aIj (And.intro @aAm (And.intro @aIi (And.intro @aOD (And.intro @aOC (And.intro @aLK (And.intro @aLL (And.intro @aGa (And.intro @az9 (@aAa)))))))))))))))))))
def W04:=And.intro @aAb (And.intro @aMG (And.intro @aMC (And.intro @aLT (And.intro @aLU (And.intro @aGV (And.intro @aGU (And.intro @aMC (And.intro @aRW (And.intro @aIo (And.intro @aN8 (And.intro @aN7 (And.intro @aL0 (And.intro @ao4 (And.intro @amD (And.intro @aCz (And.intro @aFM (And.intro @aRl (And.intro @aNZ (@aN0)))))))))))))))))))
def W05:=And.intro @aHG (And.intro @aHF (And.intro @aHH (And.intro @aCy (And.intro @azh (And.intro @aRk (And.intro @aBg (And.intro @aBz (And.intro @aBy (And.intro @aod (And.intro @aoc (And.intro @jj (And.intro @ajm (And.intro @au (And.intro @af3 (And.intro @ia (And.intro @an3 (And.intro @aiY (And.intro @jy (@abL)))))))))))))))))))
def W06:=And.intro @aiW (And.intro @aiX (And.intro @yq (And.intro @adZ (And.intro @wH (And.intro @abq (And.intro @abr (And.intro @List.map_cons.{0,0} (And.intro @List.map_nil.{0,0} (And.intro @Option.map_some.{0,0} (And.intro @Option.map_none.{0,0} (And.intro @List.getD_cons_zero.{0} (And.intro @List.getD_cons_succ.{0} (And.intro @List.length_nil.{0} (And.intro @List.length_cons.{0} (And.intro @List.length_append.{0} (And.intro @List.length_set.{0} (And.intro @List.length_map.{0,0} (And.intro @List.length_replicate.{0} (@List.nil_append.{0})))))))))))))))))))
def W07:=And.intro @List.cons_append.{0} (And.intro @List.append_nil.{0} (And.intro @List.set_cons_zero.{0} (And.intro @List.set_cons_succ.{0} (And.intro @List.replicate_succ.{0} (And.intro @List.replicate_zero.{0} (And.intro @List.mem_cons.{0} (And.intro @List.not_mem_nil.{0} (And.intro @or_false (And.intro @forall_eq.{0} (And.intro @false_implies (And.intro @implies_true.{0} (And.intro @List.all_cons.{0} (And.intro @List.all_nil.{0} (And.intro @Bool.and_true (And.intro @Bool.true_and (And.intro @Bool.or_true (And.intro @Bool.true_or (And.intro @Bool.not_true (@Bool.not_false)))))))))))))))))))
def W08:=And.intro @Bool.not_not (And.intro @decide_true (And.intro @decide_false (And.intro @Option.getD_none.{0} (And.intro @Option.getD_some.{0} (And.intro @true_and (And.intro @and_true (And.intro @Nat.zero_add (And.intro @Nat.add_zero (And.intro @Nat.lt_add_one (And.intro @Nat.zero_lt_succ (And.intro @le_refl (And.intro @if_true.{1} (And.intro @if_false.{1} (And.intro @ne_eq.{1} (And.intro @not_false_eq_true (And.intro @Int.toNat_natCast (And.intro @Int.natCast_nonneg (And.intro @eq_self.{1} (@beq_self_eq_true.{0})))))))))))))))))))
def W09:=And.intro @aPP (And.intro @aw6 (And.intro @arP (And.intro @aGe (And.intro @aGf (And.intro @aGg (And.intro @aGd (And.intro @aLM (And.intro @aLN (And.intro @aLO (And.intro @aGh (And.intro @aMA (And.intro @aMB (And.intro @aL4 (And.intro @aL5 (And.intro @aRj (And.intro @aBC (And.intro @aBA @aN1)))))))))))))))))
attribute [irreducible] puT gn kT afg aoe tL aj8 ayC ic unT asJ aby aCI ayJ aBb aBc asf aiP aG4 aHW auU
def BN:=And.intro @decide_true (And.intro @decide_false (And.intro @Bool.not_true (And.intro @Bool.not_false (And.intro @Bool.not_eq_true' @Bool.not_eq_false'))))
def WA:=And.intro W00 (And.intro W01 (And.intro W02 (And.intro W03 (And.intro W04 (And.intro W05 (And.intro W06 (And.intro W07 (And.intro W08 W09))))))))
section
variable {P:Program}
theorem ale{d:Int}{x:Option AV}{M:Int->Prop}(h:bnd d x M):∃i,M i/\∀M':Int->Prop,M' i->bnd d x M':=by
 unfold bnd at h⊢
 split at h
 ·exact⟨_,h,λ _ h=>h⟩
 ·exact⟨_,h,λ _ h=>h⟩
 ·exact h.elim
theorem PO.awS{r:List AV}{o:PO}{K:AV->Prop}(h:o.wp P r K):∃v,K v/\∀K':AV->Prop,K' v->o.wp P r K':=by
 cases o<;>simp only[PO.wp]at h⊢
 case val=>exact⟨_,h,λ _ h=>h⟩
 case pick c a b=>
  generalize c.ev r=A at h⊢;unfold sf at h⊢
  split at h
  ·exact⟨_,h,λ _ h=>h⟩
  ·exact h.elim
 case bin op a b=>
  generalize a.ev r=A at h⊢;generalize b.ev r=B at h⊢;unfold fT at h⊢
  split at h
  ·split at h
   ·rename_i hz;simp only[hz];exact⟨_,h,λ _ h=>h⟩
   ·exact h.elim
  ·exact h.elim
 case beq neg a b=>
  generalize a.ev r=A at h⊢;generalize b.ev r=B at h⊢;unfold alg at h⊢
  split at h
  ·exact⟨_,h,λ _ h=>h⟩
  ·exact h.elim
 case un op a=>
  generalize a.ev r=A at h⊢;unfold unK at h⊢
  split at h
  ·split at h
   ·rename_i hz;simp only[hz];exact⟨_,h,λ _ h=>h⟩
   ·exact h.elim
  ·exact h.elim
 case conv k a=>
  generalize a.ev r=A at h⊢;unfold zx at h⊢
  split at h
  ·exact⟨_,h,λ _ h=>h⟩
  ·exact h.elim
 case elem s l i=>
  generalize l.ev r=A at h⊢;generalize i.ev r=B at h⊢;unfold jE at h⊢
  split at h
  ·exact⟨_,h.2.2.2,λ _ h'=>⟨h.1,h.2.1,h.2.2.1,h'⟩⟩
  ·exact h.elim
 case zq=>exact⟨_,h.2.2,λ _ h'=>⟨h.1,h.2.1,h'⟩⟩
 case tM=>exact⟨_,h.2,λ _ h'=>⟨h.1,h'⟩⟩
 case lU a i=>
  generalize a.ev r=A at h⊢;generalize i.ev r=B at h⊢;unfold zf at h⊢
  split at h
  ·exact⟨_,h.2.2,λ _ h'=>⟨h.1,h.2.1,h'⟩⟩
  ·exact h.elim
 case fX a lo hi=>
  generalize a.ev r=A at h⊢;unfold nM at h⊢
  split at h
  ·obtain⟨l,h1,h2⟩:=ale h;obtain⟨u,h3,h4⟩:=ale h1;exact⟨_,h3.2.2.2,λ _ h'=>h2 _ (h4 _ ⟨h3.1,h3.2.1,h3.2.2.1,h'⟩)⟩
  ·exact h.elim
 case cj s a lo hi=>
  generalize a.ev r=A at h⊢;unfold lJ at h⊢
  split at h
  ·obtain⟨l,h1,h2⟩:=ale h;obtain⟨u,h3,h4⟩:=ale h1;exact⟨_,h3.2.2.2.2,λ _ h'=>h2 _ (h4 _ ⟨h3.1,h3.2.1,h3.2.2.1,h3.2.2.2.1,h'⟩)⟩
  ·exact h.elim
 case oz a=>
  generalize a.ev r=A at h⊢;unfold yS at h⊢
  split at h
  ·exact⟨_,h,λ _ h=>h⟩
  ·exact h.elim
 case ch a=>
  generalize a.ev r=A at h⊢;unfold qj at h⊢
  split at h
  ·exact⟨_,h,λ _ h=>h⟩
  ·exact⟨_,h,λ _ h=>h⟩
  ·simp[aar]at h
  ·exact h.elim
 case iE=>exact⟨_,h,λ _ h=>h⟩
 case rep bytes z n c=>
  generalize n.ev r=A at h⊢;generalize c.ev r=B at h⊢;unfold amM at h⊢
  split at h
  ·exact⟨_,h.2.2.2.2,λ _ h'=>⟨h.1,h.2.1,h.2.2.1,h.2.2.2.1,h'⟩⟩
  ·exact h.elim
 case app s bytes l y=>
  generalize y.ev r=A at h⊢;unfold aox ng at h⊢
  split at h
  ·exact⟨_,h.2.2.2,λ _ h'=>⟨h.1,h.2.1,h.2.2.1,h'⟩⟩
  ·exact⟨_,h.2.2.2,λ _ h'=>⟨h.1,h.2.1,h.2.2.1,h'⟩⟩
  ·simp[aar]at h
  ·exact h.elim
 case get=>exact⟨_,h.2.2,λ _ h'=>⟨h.1,h.2.1,h'⟩⟩
 case set=>exact⟨_,h.2.2.2.2,λ _ h'=>⟨h.1,h.2.1,h.2.2.1,h.2.2.2.1,h'⟩⟩
 case call=>obtain⟨res,h1,h2,h3,h4⟩:=h;exact⟨res,h4,λ _ h'=>⟨res,h1,h2,h3,h'⟩⟩
 case gq=>obtain⟨xs,h1,h2,h3⟩:=h;exact⟨_,h3,λ _ h'=>⟨xs,h1,h2,h'⟩⟩
 case aY=>obtain⟨os,h1,h2,h3,h4⟩:=h;exact⟨_,h4,λ _ h'=>⟨os,h1,h2,h3,h'⟩⟩
 case ib g args flat=>
  generalize g.ev r=A at h⊢;unfold vm at h⊢
  split at h
  ·obtain⟨res,h1,h2,h3,h4⟩:=h;exact⟨res,h4,λ _ h'=>⟨res,h1,h2,h3,h'⟩⟩
  ·exact h.elim
 case ldp n a=>
  generalize a.ev r=A at h⊢;unfold apG at h⊢
  split at h
  ·exact⟨_,h.2,λ _ h'=>⟨h.1,h'⟩⟩
  ·exact h.elim
 case fap off a=>
  generalize a.ev r=A at h⊢;unfold aqq at h⊢
  split at h
  ·exact⟨_,h,λ _ h=>h⟩
  ·exact h.elim
 case pu o ds=>
  cases hz:zR o (D.bn r ds)with
  |some v=>simp only[puK,hz]at h⊢;exact⟨_,h,λ _ h=>h⟩
  |none=>simp only[puK,hz]at h
theorem eL.awS{r:List AV}{c:eL}{K:Prop}(h:c.wp r K):K/\∀K':Prop,K'->c.wp r K':=by
 cases c<;>simp only[eL.wp]at h⊢
 case cells=>exact⟨h.2.2.2,λ _ h'=>⟨h.1,h.2.1,h.2.2.1,h'⟩⟩
 case one=>exact⟨h.2.2,λ _ h'=>⟨h.1,h.2.1,h'⟩⟩
 case lt=>exact⟨h.2,λ _ h'=>⟨h.1,h'⟩⟩
 case aZ a j=>
  generalize a.ev r=A at h⊢;unfold aoU at h⊢
  split at h
  ·exact⟨h.2,λ _ h'=>⟨h.1,h'⟩⟩
  ·exact h.elim
 case idx l i=>
  generalize i.ev r=A at h⊢;unfold anv at h⊢
  split at h
  ·exact⟨h.2.2,λ _ h'=>⟨h.1,h.2.1,h'⟩⟩
  ·exact h.elim
 case ahi a=>
  generalize a.ev r=A at h⊢;unfold abK at h⊢
  split at h
  ·exact⟨h,λ _ h'=>h'⟩
  ·exact⟨h,λ _ h'=>h'⟩
  ·exact h.elim
 case ne=>exact⟨h.2,λ _ h'=>⟨h.1,h'⟩⟩
 case eql=>exact⟨h.2,λ _ h'=>⟨h.1,h'⟩⟩
abbrev LF:AX->SS->List AV->Prop:=λ _ _ _=>False
def Out(P:Program)(R:AV->Prop)(t:T)(r:List AV)(S:List (List AV->Prop)):Prop:=
 (∃a,R a/\∀(R':AV->Prop) (S':List (List AV->Prop)),S'.length=S.length->R' a->cL P LF R' t r S')∨
 (∃(j:Nat) (vs:List AV) (J:List AV->Prop),S[j]? =some J/\J vs/\∀(R':AV->Prop) (S':List (List AV->Prop)) (J':List AV->Prop),S'.length=S.length->S'[j]? =some J'->J' vs->cL P LF R' t r S')∨
 (∀(R':AV->Prop) (S':List (List AV->Prop)),S'.length=S.length->cL P LF R' t r S')
theorem ayg{R:AV->Prop}{r:List AV}{b:T}{k:Nat}{S:List (List AV->Prop)}{J:Nat->List AV->Prop}
  (hb:∀n vs,J n vs->vs.length=k->Out P R b (r++vs) ((λ rJ=>∃m,m<n/\J m rJ)::S)):
  ∀(n:Nat) (vs:List AV),J n vs->(vs.length=k->
   ((∃a,R a/\∀(R':AV->Prop) (S':List (List AV->Prop)),S'.length=S.length->R' a->∃(J':Nat->List AV->Prop) (n':Nat),J' n' vs/\∀n vs,J' n vs->vs.length=k->cL P LF R' b (r++vs) ((λ rJ=>∃m,m<n/\J' m rJ)::S'))∨
    (∃(j:Nat) (ws:List AV) (M:List AV->Prop),S[j]? =some M/\M ws/\∀(R':AV->Prop) (S':List (List AV->Prop)) (M':List AV->Prop),S'.length=S.length->S'[j]? =some M'->M' ws->∃(J':Nat->List AV->Prop) (n':Nat),J' n' vs/\∀n vs,J' n vs->vs.length=k->cL P LF R' b (r++vs) ((λ rJ=>∃m,m<n/\J' m rJ)::S'))∨
    (∀(R':AV->Prop) (S':List (List AV->Prop)),S'.length=S.length->∃(J':Nat->List AV->Prop) (n':Nat),J' n' vs/\∀n vs,J' n vs->vs.length=k->cL P LF R' b (r++vs) ((λ rJ=>∃m,m<n/\J' m rJ)::S')))):=by
 intro n
 induction n using Nat.strongRecOn with
 |_ n ih=>
  intro vs hJ hvk
  have more:∀{rJ:List AV} {R':AV->Prop} {S':List (List AV->Prop)},(∃(J':Nat->List AV->Prop) (n':Nat),J' n' rJ/\∀n vs,J' n vs->vs.length=k->cL P LF R' b (r++vs) ((λ rJ=>∃m,m<n/\J' m rJ)::S'))->
    (∀J2:List AV->Prop,J2 rJ->cL P LF R' b (r++vs) (J2::S'))->
    ∃(J':Nat->List AV->Prop) (n':Nat),J' n' vs/\∀n vs,J' n vs->vs.length=k->cL P LF R' b (r++vs) ((λ rJ=>∃m,m<n/\J' m rJ)::S'):=by
   rintro rJ R' S' ⟨J',n',h1,h2⟩ h3;refine⟨λ m w=>(m<=n'/\J' m w)∨(m=n'+1/\w=vs),n'+1,.inr ⟨rfl,rfl⟩,λ m w hm hw=> ?_⟩;rcases hm with⟨hm1,hm2⟩|⟨rfl,rfl⟩
   ·have:=h2 m w hm2 hw
    have e:(λ rJ=>∃m1,m1<m/\((m1<=n'/\J' m1 rJ)∨(m1=n'+1/\rJ=vs)))=λ rJ=>∃m1,m1<m/\J' m1 rJ:=by
     funext rJ
     apply propext;constructor
     ·rintro⟨m1,h,h'|h'⟩
      ·exact⟨m1,h,h'.2⟩
      ·omega
     ·rintro⟨m1,h,h'⟩;exact⟨m1,h,.inl ⟨by omega,h'⟩⟩
    rw[e];exact this
   ·exact h3 _ ⟨n',by omega,.inl ⟨le_refl _,h1⟩⟩
  have here:∀{R':AV->Prop} {S':List (List AV->Prop)},(∀J2:List AV->Prop,cL P LF R' b (r++vs) (J2::S'))->
    ∃(J':Nat->List AV->Prop) (n':Nat),J' n' vs/\∀n vs,J' n vs->vs.length=k->cL P LF R' b (r++vs) ((λ rJ=>∃m,m<n/\J' m rJ)::S'):=by
   intro R' S' h;refine⟨λ m w=>m=0/\w=vs,0,⟨rfl,rfl⟩,λ m w hm hw=> ?_⟩;obtain⟨rfl,rfl⟩:=hm;exact h _
  rcases hb n vs hJ hvk with⟨a,ha,hw⟩|⟨j,ws,M,hM,hws,hw⟩|hw
  ·exact .inl ⟨a,ha,λ R' S' hl hr=>here λ J2=>hw R' (J2::S') (by simp[hl]) hr⟩
  ·cases j with
   |zero=>
    simp only[List.getElem?_cons_zero,Option.some.injEq]at hM;subst hM;obtain⟨m,hm,hJm⟩:=hws;by_cases zg:ws.length=k
    ·rcases ih m hm ws hJm zg with⟨a,ha,h1⟩|⟨j,us,M,hM,hus,h1⟩|h1
     ·exact .inl ⟨a,ha,λ R' S' hl hr=>more (h1 R' S' hl hr) λ J2 h2=>hw R' (J2::S') J2 (by simp[hl]) rfl h2⟩
     ·exact .inr (.inl ⟨j,us,M,hM,hus,λ R' S' M' hl hm hr=>more (h1 R' S' M' hl hm hr) λ J2 h2=>hw R' (J2::S') J2 (by simp[hl]) rfl h2⟩)
     ·exact .inr (.inr λ R' S' hl=>more (h1 R' S' hl) λ J2 h2=>hw R' (J2::S') J2 (by simp[hl]) rfl h2)
    ·refine .inr (.inr λ R' S' hl=>more (rJ:=ws) ⟨λ m w=>m=0/\w=ws,0,⟨rfl,rfl⟩,λ m w hm hw'=> ?_⟩ λ J2 h2=>hw R' (J2::S') J2 (by simp[hl]) rfl h2);rw[hm.2]at hw';exact(zg hw').elim
   |succ j=>
    simp only[List.getElem?_cons_succ]at hM;exact .inr (.inl ⟨j,ws,M,hM,hws,λ R' S' M' hl hm hr=>here λ J2=>hw R' (J2::S') M' (by simp[hl]) (by simpa using hm) hr⟩)
  ·exact .inr (.inr λ R' S' hl=>here λ J2=>hw R' (J2::S') (by simp[hl]))
theorem pb{R:AV->Prop}:∀(t:T) (r:List AV) (S:List (List AV->Prop)),cL P LF R t r S->Out P R t r S
 | .leaf x s,r,S,h=>h.elim
 | .ret ds,r,S,h=> .inl ⟨_,h,λ R' S' _ hr=>hr⟩
 | .jump vs,r,S,h=>by
   cases S with
   |nil=>exact h.elim
   |cons J S=>
    refine .inr (.inl ⟨0,_,J,rfl,h,λ R' S' J' hl hj hv=> ?_⟩);cases S' with
    |nil=>simp at hj
    |cons J2 S'=>simp only[List.getElem?_cons_zero,Option.some.injEq]at hj;subst hj;exact hv
 | .cM t,r,S,h=>by
   cases S with
   |nil=>exact h.elim
   |cons J S=>
    have key:∀{S':List (List AV->Prop)},S'.length=(J::S).length->∃J2 S2,S'=J2::S2/\S2.length=S.length:=by
     intro S' hl;cases S' with
     |nil=>simp at hl
     |cons J2 S2=>exact⟨J2,S2,rfl,by simpa using hl⟩
    rcases pb t r S h with⟨a,ha,hw⟩|⟨j,vs,M,hM,sD,hw⟩|hw
    ·refine .inl ⟨a,ha,λ R' S' hl hr=> ?_⟩;obtain⟨J2,S2,rfl,h2⟩:=key hl;exact hw R' S2 h2 hr
    ·refine .inr (.inl ⟨j+1,vs,M,by simpa using hM,sD,λ R' S' J' hl hj hv=> ?_⟩);obtain⟨J2,S2,rfl,h2⟩:=key hl;exact hw R' S2 J' h2 (by simpa using hj) hv
    ·refine .inr (.inr λ R' S' hl=> ?_);obtain⟨J2,S2,rfl,h2⟩:=key hl;exact hw R' S2 h2
 | .op o t,r,S,h=>by
   obtain⟨v,h1,h2⟩:=PO.awS h;rcases pb t (r++ [v]) S h1 with⟨a,ha,hw⟩|⟨j,vs,M,hM,sD,hw⟩|hw
   ·exact .inl ⟨a,ha,λ R' S' hl hr=>h2 _ (hw R' S' hl hr)⟩
   ·exact .inr (.inl ⟨j,vs,M,hM,sD,λ R' S' J' hl hj hv=>h2 _ (hw R' S' J' hl hj hv)⟩)
   ·exact .inr (.inr λ R' S' hl=>h2 _ (hw R' S' hl))
 | .aq c t,r,S,h=>by
   obtain⟨h1,h2⟩:=eL.awS h;rcases pb t r S h1 with⟨a,ha,hw⟩|⟨j,vs,M,hM,sD,hw⟩|hw
   ·exact .inl ⟨a,ha,λ R' S' hl hr=>h2 _ (hw R' S' hl hr)⟩
   ·exact .inr (.inl ⟨j,vs,M,hM,sD,λ R' S' J' hl hj hv=>h2 _ (hw R' S' J' hl hj hv)⟩)
   ·exact .inr (.inr λ R' S' hl=>h2 _ (hw R' S' hl))
 | .ite c t f,r,S,h=>by
   simp only[cL]at h
   split at h
   ·rename_i b hb;cases b with
    |true=>
     have go:∀{R' S'},cL P LF R' t r S'->cL P LF R' (.ite c t f) r S':=λ hx=>by simp only[cL,hb];exact⟨λ _=>hx,λ h=>(nomatch h)⟩
     rcases pb t r S (h.1 rfl)with⟨a,ha,hw⟩|⟨j,vs,M,hM,sD,hw⟩|hw
     ·exact .inl ⟨a,ha,λ R' S' hl hr=>go (hw R' S' hl hr)⟩
     ·exact .inr (.inl ⟨j,vs,M,hM,sD,λ R' S' J' hl hj hv=>go (hw R' S' J' hl hj hv)⟩)
     ·exact .inr (.inr λ R' S' hl=>go (hw R' S' hl))
    |false=>
     have go:∀{R' S'},cL P LF R' f r S'->cL P LF R' (.ite c t f) r S':=λ hx=>by simp only[cL,hb];exact⟨λ h=>(nomatch h),λ _=>hx⟩
     rcases pb f r S (h.2 rfl)with⟨a,ha,hw⟩|⟨j,vs,M,hM,sD,hw⟩|hw
     ·exact .inl ⟨a,ha,λ R' S' hl hr=>go (hw R' S' hl hr)⟩
     ·exact .inr (.inl ⟨j,vs,M,hM,sD,λ R' S' J' hl hj hv=>go (hw R' S' J' hl hj hv)⟩)
     ·exact .inr (.inr λ R' S' hl=>go (hw R' S' hl))
   ·exact h.elim
 | .bind k a b,r,S,h=>by
   rcases pb a r _ h with⟨x,hx,hw⟩|⟨j,vs,M,hM,sD,hw⟩|hw
   ·exact .inl ⟨x,hx,λ R' S' hl hr=>hw R' (_::S') (by simp[hl]) hr⟩
   ·cases j with
    |zero=>
     simp only[List.getElem?_cons_zero,Option.some.injEq]at hM;subst hM;by_cases hk:vs.length=k
     ·rcases pb b (r++vs) S (sD hk)with⟨x,hx,h1⟩|⟨j,us,M,hM,hus,h1⟩|h1
      ·exact .inl ⟨x,hx,λ R' S' hl hr=>hw R' (_::S') _ (by simp[hl]) rfl λ _=>h1 R' S' hl hr⟩
      ·exact .inr (.inl ⟨j,us,M,hM,hus,λ R' S' J' hl hj hv=>hw R' (_::S') _ (by simp[hl]) rfl λ _=>h1 R' S' J' hl hj hv⟩)
      ·exact .inr (.inr λ R' S' hl=>hw R' (_::S') _ (by simp[hl]) rfl λ _=>h1 R' S' hl)
     ·exact .inr (.inr λ R' S' hl=>hw R' (_::S') _ (by simp[hl]) rfl λ h=>(hk h).elim)
    |succ j=>
     simp only[List.getElem?_cons_succ]at hM;exact .inr (.inl ⟨j,vs,M,hM,sD,λ R' S' J' hl hj hv=>hw R' (_::S') J' (by simp[hl]) (by simpa using hj) hv⟩)
   ·exact .inr (.inr λ R' S' hl=>hw R' (_::S') (by simp[hl]))
 | .loop init b,r,S,h=>by
   obtain⟨J,n,h1,h2⟩:=h;have hb:∀n vs,J n vs->vs.length=init.length->Out P R b (r++vs) ((λ rJ=>∃m,m<n/\J m rJ)::S):=λ n vs hj hl=>pb b _ _ (h2 n vs hj hl)
   rcases ayg hb n _ h1 (by rw[D.bc,List.length_map])with⟨a,ha,hw⟩|⟨j,vs,M,hM,sD,hw⟩|hw
   ·exact .inl ⟨a,ha,λ R' S' hl hr=>hw R' S' hl hr⟩
   ·exact .inr (.inl ⟨j,vs,M,hM,sD,λ R' S' J' hl hj hv=>hw R' S' J' hl hj hv⟩)
   ·exact .inr (.inr λ R' S' hl=>hw R' S' hl)
theorem aF6{R:AV->Prop}{t:T}{r:List AV}(ej:∃a,R a)(h:cL P LF R t r []):∃a,R a/\cL P LF (λ x=>x=a) t r []:=by
 rcases pb t r [] h with⟨a,ha,hw⟩|⟨j,vs,M,hM,sD,hw⟩|hw
 ·exact⟨a,ha,hw _ [] rfl rfl⟩
 ·simp at hM
 ·obtain⟨a,ha⟩:=ej;exact⟨a,ha,hw _ [] rfl⟩
def ex(m:Nat)(Q:List AV->Prop):AV->Prop:=λ a=>∃outs,outs.length=m/\Q outs/\a=cv outs
theorem anS{m:Nat}{Q:List AV->Prop}{t:T}{r:List AV}(ej:∃outs,outs.length=m/\Q outs)(h:cL P LF (ex m Q) t r []):∃outs,outs.length=m/\Q outs/\cL P LF (λ a=>a=cv outs) t r []:=by
 obtain⟨outs,h1,h2⟩:=ej;obtain⟨a,⟨os,h3,h4,rfl⟩,h5⟩:=aF6 ⟨_,outs,h1,h2,rfl⟩ h;exact⟨os,h3,h4,h5⟩
end
variable {P:Program}
theorem uy:∀(ops:List aQ) {e:Env} {O:List aj} {K:Env->List aj->Prop},wpOps P ops e O K->∃e' O',K e' O'/\∀K':Env->List aj->Prop,K' e' O'->wpOps P ops e O K'
 | [],e,O,K,h=>⟨e,O,h,λ _ h=>h⟩
 |o::r,e,O,K,h=>by
  simp only[wpOps]at h;cases hg:o.guard with
  |none=>
   simp only[hg]at h;obtain⟨x,O1,h1,h2⟩:=abS h;obtain⟨e',O',h3,h4⟩:=uy r h1;exact⟨e',O',h3,λ K' hk=>by simp only[wpOps,hg];exact h2 _ (h4 K' hk)⟩
  |some g=>
   obtain⟨t,want⟩:=g;simp only[hg]at h
   split at h
   ·rename_i b hb;by_cases pz:b=want
    ·obtain⟨x,O1,h1,h2⟩:=abS (h.1 pz);obtain⟨e',O',h3,h4⟩:=uy r h1
     exact⟨e',O',h3,λ K' hk=>by
      simp only[wpOps,hg,hb];exact⟨λ _=>h2 _ (h4 K' hk),λ hn=>by subst pz;cases b<;>simp at hn⟩⟩
    ·have hbn:b= !want:=by cases b<;>cases want<;>simp_all
     obtain⟨e',O',h3,h4⟩:=uy r (h.2 hbn)
     exact⟨e',O',h3,λ K' hk=>by
      simp only[wpOps,hg,hb];exact⟨λ hn=>(pz hn).elim,λ _=>h4 K' hk⟩⟩
   ·rename_i hb;obtain⟨e',O',h3,h4⟩:=uy r h;exact⟨e',O',h3,λ K' hk=>by simp only[wpOps,hg,hb];exact h4 K' hk⟩
   ·exact h.elim
theorem rY:∀(ops:List aQ) {acc:List lK} {e:Env} {O:List aj} {K:List lK->Env->List aj->Prop},cN P ops acc e O K->∃ir e' O',K ir e' O'/\∀K':List lK->Env->List aj->Prop,K' ir e' O'->cN P ops acc e O K'
 | [],acc,e,O,K,h=>⟨acc,e,O,h,λ _ h=>h⟩
 |o::r,acc,e,O,K,h=>by
  simp only[cN]at h;cases hg:o.guard with
  |none=>
   simp only[hg]at h;obtain⟨x,O1,h1,h2⟩:=abS h;obtain⟨l,e',O',h3,h4⟩:=rY r h1;exact⟨l,e',O',h3,λ K' hk=>by simp only[cN,hg];exact h2 _ (h4 K' hk)⟩
  |some g=>
   obtain⟨t,want⟩:=g;simp only[hg]at h
   split at h
   ·rename_i b hb;by_cases pz:b=want
    ·obtain⟨x,O1,h1,h2⟩:=abS (h.1 pz);obtain⟨l,e',O',h3,h4⟩:=rY r h1
     exact⟨l,e',O',h3,λ K' hk=>by
      simp only[cN,hg,hb];exact⟨λ _=>h2 _ (h4 K' hk),λ hn=>by subst pz;cases b<;>simp at hn⟩⟩
    ·have hbn:b= !want:=by cases b<;>cases want<;>simp_all
     obtain⟨l,e',O',h3,h4⟩:=rY r (h.2 hbn)
     exact⟨l,e',O',h3,λ K' hk=>by
      simp only[cN,hg,hb];exact⟨λ hn=>(pz hn).elim,λ _=>h4 K' hk⟩⟩
   ·rename_i hb;obtain⟨l,e',O',h3,h4⟩:=rY r h;exact⟨l,e',O',h3,λ K' hk=>by simp only[cN,hg,hb];exact h4 K' hk⟩
   ·exact h.elim
theorem rX{n0:Nat}:∀(ops:List aQ) {e:Env} {O:List aj} {K:Env->List aj->Prop},jR P n0 ops e O K->∃e' O',K e' O'/\∀K':Env->List aj->Prop,K' e' O'->jR P n0 ops e O K'
 | [],e,O,K,⟨e',O',h1,h2⟩=>⟨e',O',h2,λ _ h=>⟨e',O',h1,h⟩⟩
 |o::r,e0,O0,K,h=>by
  obtain⟨e,O,hw,h⟩:=h;cases hg:o.guard with
  |none=>
   simp only[hg]at h;obtain⟨x,O1,h1,h2⟩:=abS h;obtain⟨e',O',h3,h4⟩:=rX r h1;exact⟨e',O',h3,λ K' hk=>⟨e,O,hw,by simp only[hg];exact h2 _ (h4 K' hk)⟩⟩
  |some g=>
   obtain⟨t,want⟩:=g;simp only[hg]at h
   split at h
   ·rename_i b hb;by_cases pz:b=want
    ·obtain⟨x,O1,h1,h2⟩:=abS (h.1 pz);obtain⟨e',O',h3,h4⟩:=rX r h1
     exact⟨e',O',h3,λ K' hk=>⟨e,O,hw,by
      simp only[hg,hb];exact⟨λ _=>h2 _ (h4 K' hk),λ hn=>by subst pz;cases b<;>simp at hn⟩⟩⟩
    ·have hbn:b= !want:=by cases b<;>cases want<;>simp_all
     obtain⟨e',O',h3,h4⟩:=rX r (h.2 hbn)
     exact⟨e',O',h3,λ K' hk=>⟨e,O,hw,by
      simp only[hg,hb];exact⟨λ hn=>(pz hn).elim,λ _=>h4 K' hk⟩⟩⟩
   ·rename_i hb;obtain⟨e',O',h3,h4⟩:=rX r h;exact⟨e',O',h3,λ K' hk=>⟨e,O,hw,by simp only[hg,hb];exact h4 K' hk⟩⟩
   ·exact h.elim
theorem sE{n0:Nat}:∀(c:ba) {Q:AX->Env->List aj->Prop} {e:Env} {O:List aj},mD P n0 c Q e O->∃x e' O',Q x e' O'/\∀Q':AX->Env->List aj->Prop,Q' x e' O'->mD P n0 c Q' e O
 | .skip,Q,e,O,h=>⟨_,e,O,h,λ _ h=>h⟩
 | .region none ops,Q,e,O,h=>by
   obtain⟨e',O',h1,h2⟩:=uy ops h;exact⟨_,e',O',h1,λ Q' hq=>h2 _ hq⟩
 | .region (some rows) ops,Q,e,O,h=>by
   obtain⟨al,hs,h⟩:=h;obtain⟨l,e',O',⟨h0,h1⟩,h2⟩:=rY al h;exact⟨_,e',O',h1,λ Q' hq=>⟨al,hs,h2 _ ⟨h0,hq⟩⟩⟩
 | .j3 ops,Q,e,O,h=>by
   obtain⟨e',O',h1,h2⟩:=rX ops h;exact⟨_,e',O',h1,λ Q' hq=>h2 _ hq⟩
 | .seq a b,Q,e,O,h=>by
   obtain⟨x,e1,O1,h1,h2⟩:=sE a h;cases x with
   |normal=>
    obtain⟨x,e',O',h3,h4⟩:=sE b h1;exact⟨x,e',O',h3,λ Q' hq=>h2 _ (h4 Q' hq)⟩
   |exit i=>exact⟨_,e1,O1,h1,λ Q' hq=>h2 _ hq⟩
   |ret=>exact⟨_,e1,O1,h1,λ Q' hq=>h2 _ hq⟩
 | .cond c t f,Q,e,O,h=>by
   simp only[mD]at h
   split at h
   ·rename_i b hb;cases b with
    |true=>
     obtain⟨x,e',O',h1,h2⟩:=sE t (h.1 rfl);exact⟨x,e',O',h1,λ Q' hq=>by simp only[mD,hb];exact⟨λ _=>h2 _ hq,λ hn=>(by cases hn)⟩⟩
    |false=>
     obtain⟨x,e',O',h1,h2⟩:=sE f (h.2 rfl);exact⟨x,e',O',h1,λ Q' hq=>by simp only[mD,hb];exact⟨λ hn=>(by cases hn),λ _=>h2 _ hq⟩⟩
   ·exact h.elim
 | .block id b,Q,e,O,h=>by
   obtain⟨x,e',O',h1,h2⟩:=sE b h;cases x with
   |normal=>exact⟨_,e',O',h1,λ Q' hq=>h2 _ hq⟩
   |ret=>exact⟨_,e',O',h1,λ Q' hq=>h2 _ hq⟩
   |exit i=>
    by_cases hi:i=id
    ·simp only[hi,if_true]at h1;exact⟨_,e',O',h1,λ Q' hq=>h2 _ (by simp only[hi,if_true];exact hq)⟩
    ·simp only[if_neg hi]at h1;exact⟨_,e',O',h1,λ Q' hq=>h2 _ (by simp only[if_neg hi];exact hq)⟩
 | .loop b,Q,e,O,h=>by
   obtain⟨J,n,⟨e0,O0,hw0,hj0⟩,hb⟩:=h
   have key:∀n e O,J n e O->∃x e' O',Q x e' O'/\∀Q':AX->Env->List aj->Prop,Q' x e' O'->mD P n0 (.loop b) Q' e O:=by
    intro n
    induction n using Nat.strongRecOn with
    |_ n ih=>
     intro e O hj;obtain⟨x,e1,O1,h1,h2⟩:=sE b (hb n e O hj)
     have out:∀x,x≠ .normal->Q x e1 O1->(∀Q1:AX->Env->List aj->Prop,Q1 x e1 O1->mD P n0 b Q1 e O)->∃x e' O',Q x e' O'/\∀Q':AX->Env->List aj->Prop,Q' x e' O'->mD P n0 (.loop b) Q' e O:=by
      intro x hx hq h2;refine⟨x,e1,O1,hq,λ Q' hq'=>⟨λ k e' O'=>k=0/\e'=e/\O'=O,0,⟨e,O,.refl _ _ _,rfl,rfl,rfl⟩,?_⟩⟩;rintro k e' O' ⟨rfl,rfl,rfl⟩;refine h2 _ ?_;cases x with
      |normal=>exact(hx rfl).elim
      |exit i=>exact hq'
      |ret=>exact hq'
     cases x with
     |exit i=>exact out (.exit i) (by simp) h1 h2
     |ret=>exact out .ret (by simp) h1 h2
     |normal=>
      obtain⟨m,e2,O2,hm,hw,hj2⟩:=h1;obtain⟨x,e',O',h3,h4⟩:=ih m hm e2 O2 hj2;refine⟨x,e',O',h3,λ Q' hq=> ?_⟩;obtain⟨J2,n2,⟨e3,O3,hw3,hj3⟩,hb2⟩:=h4 Q' hq;refine⟨λ k a b=>J2 k a b∨(k=n2+1/\a=e/\b=O),n2+1,⟨e,O,.refl _ _ _,.inr ⟨rfl,rfl,rfl⟩⟩,?_⟩;rintro k a c (hk|⟨rfl,rfl,rfl⟩)
      ·refine amo b (λ x e O h=> ?_) (hb2 k a c hk);cases x with
       |normal=>
        obtain⟨m,e',O',q1,q2,q3⟩:=h;exact⟨m,e',O',q1,q2,.inl q3⟩
       |exit i=>exact h
       |ret=>exact h
      ·exact h2 _ ⟨n2,e3,O3,Nat.lt_succ_self _,hw.trans hw3,.inl hj3⟩
   obtain⟨x,e',O',h1,h2⟩:=key n e0 O0 hj0;refine⟨x,e',O',h1,λ Q' hq=> ?_⟩;obtain⟨J2,n2,⟨e3,O3,hw3,hj3⟩,hb2⟩:=h2 Q' hq;exact⟨J2,n2,⟨e3,O3,hw0.trans hw3,hj3⟩,hb2⟩
 | .exit id,Q,e,O,h=>⟨_,e,O,h,λ _ h=>h⟩
 | .ret,Q,e,O,h=>⟨_,e,O,h,λ _ h=>h⟩
 | .keep live c,Q,e,O,h=>by
   obtain⟨x,e',O',h1,h2⟩:=sE c h;cases x with
   |normal=>exact⟨_,_,O',h1,λ Q' hq=>h2 _ hq⟩
   |exit i=>exact⟨_,e',O',h1,λ Q' hq=>h2 _ hq⟩
   |ret=>exact⟨_,e',O',h1,λ Q' hq=>h2 _ hq⟩
 | .mu c,Q,e,O,h=>by
   obtain⟨e1,O1,hw,h⟩:=h;obtain⟨x,e',O',h1,h2⟩:=sE c h;exact⟨x,e',O',h1,λ Q' hq=>⟨e1,O1,hw,h2 _ hq⟩⟩
def axs(n0:Nat)(rs:List ff)(Q:AV->List aj->Prop)(x:AX)(e:Env)(O:List aj):Prop:=
 match x with
 | .exit _=>False
 |_=>fm e O rs [] λ xs=>∃e' O',WK n0 (λ t=>if t=0 then cv xs else .top) O e' O'/\Q (e' 0) O'
theorem aHJ{e:Env}{O:List aj}(r:ff){K:AV->Prop}(h:r.get e O K):∃x,K x/\∀K':AV->Prop,K' x->r.get e O K':=by
 cases r with
 |tmp t=>exact⟨_,h,λ _ h=>h⟩
 |cell t n=>
  simp only[ff.get]at h
  split at h
  ·rename_i k hk
   split at h
   ·rename_i a b x hx;exact⟨_,h.2,λ K' h'=>by simp only[ff.get,hk,hx];exact⟨h.1,h'⟩⟩
   ·exact h.elim
  ·exact h.elim
theorem arX{e:Env}{O:List aj}:∀(rs:List ff) (acc:List AV) {K:List AV->Prop},fm e O rs acc K->∃xs,K xs/\∀K':List AV->Prop,K' xs->fm e O rs acc K'
 | [],acc,K,h=>⟨_,h,λ _ h=>h⟩
 |r::rs,acc,K,h=>by
  obtain⟨x,h1,h2⟩:=aHJ r h;obtain⟨xs,h3,h4⟩:=arX rs (x::acc) h1;exact⟨xs,h3,λ K' hk=>h2 _ (h4 K' hk)⟩
theorem azZ{f:FuncId}{A:vw}(hf:cFn P f A){args:List AV}{O:List aj}{Q:AV->List aj->Prop}(hl:args.length=A.iz)
  (h:mD P O.length A.code (axs O.length A.res Q) (qw args) O):∃res O',Q res O'/\j7 P f args O res O':=by
 obtain⟨x,e',O',h1,h2⟩:=sE _ h
 have fin:∀x,(fm e' O' A.res [] λ xs=>∃e1 O1,WK O.length (λ t=>if t=0 then cv xs else .top) O' e1 O1/\Q (e1 0) O1)->(∀Q':AX->Env->List aj->Prop,Q' x e' O'->mD P O.length A.code Q' (qw args) O)->x≠ .exit 0->(∀i,x≠ .exit i)->∃res O',Q res O'/\j7 P f args O res O':=by
  intro x hr h2 _ hx;obtain⟨xs,⟨e1,O1,hw,hq⟩,h3⟩:=arX _ _ hr;refine⟨e1 0,O1,hq,gx hf hl (h2 _ ?_)⟩;cases x with
  |exit i=>exact(hx i rfl).elim
  |normal=>exact h3 _ ⟨e1,hw,rfl⟩
  |ret=>exact h3 _ ⟨e1,hw,rfl⟩
 cases x with
 |exit i=>exact h1.elim
 |normal=>exact fin .normal h1 h2 (by simp) (by simp)
 |ret=>exact fin .ret h1 h2 (by simp) (by simp)
theorem se{n0 t:Nat}{Q:AV->List aj->Prop}{x:AX}(hx:x= .ret∨x= .normal){e:Env}{O:List aj}(h:Q (e t) O):axs n0 [.tmp t] Q x e O:=by
 have:fm e O [.tmp t] [] λ xs=>∃e' O',WK n0 (λ t=>if t=0 then cv xs else .top) O e' O'/\Q (e' 0) O':=
  ⟨λ s=>if s=0 then e t else .top,O,.refl _ _ _,h⟩
 rcases hx with rfl|rfl<;>exact this
end Go.Ab
namespace Go.Ab
def evB(d:Int):Option AV->Option Int
 |none=>some d
 |some (.v (.int _ i))=>some i
 |_=>none
def aFP:AV->Option (List AV)
 | .an=>some []
 | .sl ys=>some ys
 |_=>none
def evO(F:FuncId->List AV->Option AV)(G:FuncId->eK->List AV->Option (List AV))(r:List AV):PO->Option AV
 | .val x=>some (x.ev r)
 | .pick c a b=>match c.ev r with
   | .v (.bool t)=>some (if t then a.ev r else b.ev r)
   |_=>none
 | .bin op a b=>match a.ev r,b.ev r with
   | .v x,.v y=>match oj op x y with
     |some z=>some (.v z)
     |none=>none
   |_,_=>none
 | .beq neg a b=>match a.ev r,b.ev r with
   | .v (.bool a),.v (.bool b)=>some (.v (.bool (neg !=(a==b))))
   |_,_=>none
 | .un op a=>match a.ev r with
   | .v x=>match sun op x with
     |some z=>some (.v z)
     |none=>none
   |_=>none
 | .conv k a=>match a.ev r with
   | .v (.int _ n)=>some (.v (.int k (k.wrap n)))
   |_=>none
 | .elem s l i=>match l.ev r,i.ev r with
   | .sl xs,.v (.int _ i)=>if 0<=i/\i<xs.length/\(xs.getD i.toNat .top).cells.length=s then some (xs.getD i.toNat .top)else none
   |_,_=>none
 | .zq off n a=>if(a.ev r).isAgg=true/\off+n.getD 1<=(a.ev r).cells.length then some (cA n (a.ev r) off)else none
 | .tM f m a=>if f+m<=(a.ev r).cells.length then some (cA (some m) (a.ev r) f)else none
 | .lU a i=>match a.ev r,i.ev r with
   | .v (.string s),.v (.int _ i)=>if 0<=i/\i<s.size then some (.v (.int .u8 (s.data.toList.getD i.toNat 0).toNat))else none
   |_,_=>none
 | .fX a lo hi=>match a.ev r with
   | .v (.string s)=>match evB 0 (D.evo r lo),evB s.size (D.evo r hi)with
     |some l,some h=>if 0<=l/\l<=h/\h<=s.size then some (.v (.string (s.extract l.toNat h.toNat)))else none
     |_,_=>none
   |_=>none
 | .cj s a lo hi=>match a.ev r with
   | .sl xs=>match evB 0 (D.evo r lo),evB xs.length (D.evo r hi)with
     |some l,some h=>if 0<=l/\l<=h/\h<=xs.length/\(xs.all λ y=>decide (y.cells.length=s))=true then some (.sl ((xs.take h.toNat).drop l.toNat))else none
     |_,_=>none
   |_=>none
 | .oz a=>match a.ev r with
   | .v (.string s)=>some (.v (.int .i64 s.size))
   |_=>none
 | .ch a=>match a.ev r with
   | .an=>some (.v (.int .i64 0))
   | .sl xs=>some (.v (.int .i64 xs.length))
   |_=>none
 | .iE z n parts=>some (.sl (kl (List.replicate n z) (parts.map λ p=>(p.1,p.2.ev r))))
 | .rep bytes z n c=>match n.ev r,c.ev r with
   | .v (.int .i64 n),.v (.int .i64 c)=>if 0<=n/\n<=c/\bytes*c<=281474976710656/\c<=9223372036854775807 then some (.sl (List.replicate n.toNat z))else none
   |_,_=>none
 | .app s bytes l y=>match aFP (y.ev r)with
   |some ys=>if(ys.all λ y=>decide (y.cells.length=s))=true/\((aU (l.ev r)).length+ys.length)*bytes<=140737488355328/\(aU (l.ev r)).length+ys.length<=maxLen then some (.sl (aU (l.ev r)++ys))else none
   |none=>none
 | .get l i f n=>if idxOf (i.ev r)<(aU (l.ev r)).length/\f+n.getD 1<=((aU (l.ev r)).getD (idxOf (i.ev r)) .top).cells.length then some (cA n ((aU (l.ev r)).getD (idxOf (i.ev r)) .top) f)else none
 | .set l i f m y=>if idxOf (i.ev r)<(aU (l.ev r)).length/\(y.ev r).cells.length=m/\(y.ev r).storable=true/\f+m<=((aU (l.ev r)).getD (idxOf (i.ev r)) .top).cells.length then
  some (.sl ((aU (l.ev r)).set (idxOf (i.ev r)) (ua ((aU (l.ev r)).getD (idxOf (i.ev r)) .top) f (y.ev r))))else none
 | .call f args flat=>match F f (D.bn r args)with
   |some v=>if v.ag=true/\(flat=true->v.flat=true)then some v else none
   |none=>none
 | .ib g args flat=>match g.ev r with
   | .fn f bl=>match F f (D.bn r args++bl)with
     |some v=>if v.ag=true/\(flat=true->v.flat=true)then some v else none
     |none=>none
   |_=>none
 | .ldp n a=>match a.ev r with
   | .bW y f=>if f+n.getD 1<=y.cells.length then some (cA n y f)else none
   |_=>none
 | .fap off a=>match a.ev r with
   | .bW y f=>some (.bW y (f+off))
   |_=>none
 | .pu o ds=>zR o (D.bn r ds)
 | .gq _ _ _ _ _=>none
 | .aY f g args=>match G f g (D.bn r args)with
   |some outs=>if outs.length=g.m/\AV.ae outs=true then some (.aZ outs)else none
   |none=>none
theorem ak7{d:Int}{x:Option AV}{i:Int}(h:evB d x=some i){M:Int->Prop}(k:M i):bnd d x M:=by
 unfold evB at h;unfold bnd
 split at h
 ·injection h with h;subst h;exact k
 ·injection h with h;subst h;exact k
 ·cases h
theorem aHZ{P:Program}{F:FuncId->List AV->Option AV}{G:FuncId->eK->List AV->Option (List AV)}(hF:∀f args v,F f args=some v->aW P f args v)(hG:∀f g args outs,G f g args=some outs->jY P f g args outs)
  {r:List AV} {o:PO} {v:AV} (h:evO F G r o=some v) {K:AV->Prop} (k:K v):o.wp P r K:=by
 cases o<;>simp only[evO]at h<;>simp only[PO.wp]
 case val=>injection h with h;subst h;exact k
 case pick c a b=>
  unfold sf
  split at h
  ·rename_i t hc;rw[hc];injection h with h;subst h;exact k
  ·cases h
 case bin op a b=>
  unfold fT
  split at h
  ·rename_i x y ha hb;rw[ha,hb]
   split at h
   ·rename_i z hz;injection h with h;subst h;simp only[hz];exact k
   ·cases h
  ·cases h
 case beq neg a b=>
  unfold alg
  split at h
  ·rename_i x y ha hb;rw[ha,hb];injection h with h;subst h;exact k
  ·cases h
 case un op a=>
  unfold unK
  split at h
  ·rename_i x ha;rw[ha]
   split at h
   ·rename_i z hz;injection h with h;subst h;simp only[hz];exact k
   ·cases h
  ·cases h
 case conv kk a=>
  unfold zx
  split at h
  ·rename_i n j ha;rw[ha];injection h with h;subst h;exact k
  ·cases h
 case elem s l i=>
  unfold jE
  split at h
  ·rename_i xs j n hl hi;rw[hl,hi]
   split at h
   ·rename_i hc;injection h with h;subst h;exact⟨hc.1,hc.2.1,hc.2.2,k⟩
   ·cases h
  ·cases h
 case zq off n a=>
  unfold aql
  split at h
  ·rename_i hc;injection h with h;subst h;exact⟨hc.1,hc.2,k⟩
  ·cases h
 case tM f m a=>
  unfold ayh
  split at h
  ·rename_i hc;injection h with h;subst h;exact⟨hc,k⟩
  ·cases h
 case lU a i=>
  unfold zf
  split at h
  ·rename_i s j n ha hi;rw[ha,hi]
   split at h
   ·rename_i hc;injection h with h;subst h;exact⟨hc.1,hc.2,k⟩
   ·cases h
  ·cases h
 case fX a lo hi=>
  unfold nM
  split at h
  ·rename_i s ha;rw[ha]
   split at h
   ·rename_i l u hl hu
    split at h
    ·rename_i hc;injection h with h;subst h;exact ak7 hl (ak7 hu ⟨hc.1,hc.2.1,hc.2.2,k⟩)
    ·cases h
   ·cases h
  ·cases h
 case cj s a lo hi=>
  unfold lJ
  split at h
  ·rename_i xs ha;rw[ha]
   split at h
   ·rename_i l u hl hu
    split at h
    ·rename_i hc;injection h with h;subst h;exact ak7 hl (ak7 hu ⟨hc.1,hc.2.1,hc.2.2.1,λ y hy=>of_decide_eq_true (List.all_eq_true.1 hc.2.2.2 y hy),k⟩)
    ·cases h
   ·cases h
  ·cases h
 case oz a=>
  unfold yS
  split at h
  ·rename_i s ha;rw[ha];injection h with h;subst h;exact k
  ·cases h
 case ch a=>
  unfold qj
  split at h
  ·rename_i ha;rw[ha];injection h with h;subst h;exact k
  ·rename_i xs ha;rw[ha];injection h with h;subst h;exact k
  ·cases h
 case iE=>injection h with h;subst h;exact k
 case rep bytes z n c=>
  unfold amM
  split at h
  ·rename_i x y hn hc;rw[hn,hc]
   split at h
   ·rename_i hq;injection h with h;subst h;exact⟨hq.1,hq.2.1,hq.2.2.1,hq.2.2.2,k⟩
   ·cases h
  ·cases h
 case app s bytes l y=>
  unfold aox ng;generalize y.ev r=a at h⊢
  cases a<;>simp only[aFP]at h<;>first
   |(cases h;done)
   |(split at h
     ·rename_i hc;injection h with h;subst h;exact⟨λ y hy=>of_decide_eq_true (List.all_eq_true.1 hc.1 y hy),hc.2.1,hc.2.2,k⟩
     ·cases h)
 case get l i f n=>
  unfold aCF
  split at h
  ·rename_i hc;injection h with h;subst h;exact⟨hc.1,hc.2,k⟩
  ·cases h
 case set l i f m y=>
  unfold axj
  split at h
  ·rename_i hc;injection h with h;subst h;exact⟨hc.1,hc.2.1,hc.2.2.1,hc.2.2.2,k⟩
  ·cases h
 case call f args flat=>
  split at h
  ·rename_i x hx
   split at h
   ·rename_i hc;injection h with h;subst h;exact⟨_,hF _ _ _ hx,hc.1,hc.2,k⟩
   ·cases h
  ·cases h
 case ib g args flat=>
  unfold vm
  split at h
  ·rename_i f bl hg;rw[hg]
   split at h
   ·rename_i x hx
    split at h
    ·rename_i hc;injection h with h;subst h;exact⟨_,hF _ _ _ hx,hc.1,hc.2,k⟩
    ·cases h
   ·cases h
  ·cases h
 case ldp n a=>
  unfold apG
  split at h
  ·rename_i y f ha;rw[ha]
   split at h
   ·rename_i hc;injection h with h;subst h;exact⟨hc,k⟩
   ·cases h
  ·cases h
 case fap off a=>
  unfold aqq
  split at h
  ·rename_i y f ha;rw[ha];injection h with h;subst h;exact k
  ·cases h
 case pu o ds=>
  unfold puK;rw[h];exact k
 case gq=>cases h
 case aY f g args=>
  split at h
  ·rename_i outs ho
   split at h
   ·rename_i hc;injection h with h;subst h;exact⟨outs,hG _ _ _ _ ho,hc.1,hc.2,k⟩
   ·cases h
  ·cases h
def evC(r:List AV):eL->Bool
 | .cells a m=>(a.ev r).isAgg&&decide ((a.ev r).cells.length=m)&&(a.ev r).storable
 | .one a=>decide ((a.ev r).cells.length=1)&&(a.ev r).cB
 | .lt a j=>decide (j<(a.ev r).cells.length)
 | .aZ a j=>match a.ev r with
   | .aZ vs=>decide (j<vs.length)
   |_=>false
 | .idx l i=>match i.ev r with
   | .v (.int _ i)=>decide (0<=i)&&decide (i<(aU (l.ev r)).length)
   |_=>false
 | .ahi a=>match a.ev r with
   | .fn _ _=>true
   | .bW _ _=>true
   |_=>false
 | .ne l=>match aU (l.ev r)with
   | []=>false
   |_=>true
 | .no=>false
 | .eql a b=>decide ((aU (a.ev r)).length=(aU (b.ev r)).length)
theorem aH0{r:List AV}{c:eL}(h:evC r c=true){K:Prop}(k:K):c.wp r K:=by
 cases c<;>simp only[evC]at h<;>simp only[eL.wp]
 case cells=>simp only[and_eq_true,decide_eq_true_eq]at h;exact⟨h.1.1,h.1.2,h.2,k⟩
 case one=>simp only[and_eq_true,decide_eq_true_eq]at h;exact⟨h.1,h.2,k⟩
 case lt=>exact⟨of_decide_eq_true h,k⟩
 case aZ a j=>
  unfold aoU
  split at h
  ·rename_i vs ha;rw[ha];exact⟨of_decide_eq_true h,k⟩
  ·cases h
 case idx l i=>
  unfold anv
  split at h
  ·rename_i j n hi;rw[hi];simp only[and_eq_true,decide_eq_true_eq]at h;exact⟨h.1,h.2,k⟩
  ·cases h
 case ahi a=>
  unfold abK
  split at h
  ·rename_i ha;rw[ha];exact k
  ·rename_i ha;rw[ha];exact k
  ·cases h
 case ne l=>
  split at h
  ·cases h
  ·rename_i hl;exact⟨hl,k⟩
 case no=>cases h
 case eql=>exact⟨of_decide_eq_true h,k⟩
inductive au1 where
 |ret (vs:List AV)
 |jump (n:Nat) (vs:List AV)
def au1.up:au1->au1
 | .ret vs=> .ret vs
 | .jump n vs=> .jump (n+1) vs
def D.xeq:D->D->Bool
 | .x i,.x j=>decide (i=j)
 |_,_=>false
theorem D.aoI{a b:D}(h:a.xeq b=true):a=b:=by
 unfold D.xeq at h
 split at h
 ·rw[of_decide_eq_true h]
 ·cases h
mutual
def SV.seq:SV->SV->Bool
 | .d x,.d y=>x.xeq y
 | .row n x,.row m y=>decide (n=m)&&x.xeq y
 | .ptr n f,.ptr m g=>decide (n=m)&&decide (f=g)
 | .agg a,.agg b=>SV.uL a b
 | .aZ a,.aZ b=>SV.uL a b
 |_,_=>false
def SV.uL:List SV->List SV->Bool
 | [],[]=>true
 |a::l,b::m=>a.seq b&&SV.uL l m
 |_,_=>false
end
mutual
theorem SV.seq_eq:∀(a b:SV),a.seq b=true->a=b
 | .d x,b,h=>by
   cases b<;>simp only[SV.seq,false_eq_true]at h
   rw[D.aoI h]
 | .row n x,b,h=>by
   cases b<;>simp only[SV.seq,false_eq_true,and_eq_true,decide_eq_true_eq]at h
   rw[h.1,D.aoI h.2]
 | .ptr n f,b,h=>by
   cases b<;>simp only[SV.seq,false_eq_true,and_eq_true,decide_eq_true_eq]at h
   rw[h.1,h.2]
 | .agg a,b,h=>by
   cases b<;>simp only[SV.seq,false_eq_true]at h
   rw[SV.pg a _ h]
 | .aZ a,b,h=>by
   cases b<;>simp only[SV.seq,false_eq_true]at h
   rw[SV.pg a _ h]
 | .rp _ _ _ _,b,h=>by cases b<;>simp only[SV.seq,false_eq_true]at h
 | .ip _ _,b,h=>by cases b<;>simp only[SV.seq,false_eq_true]at h
 | .top,b,h=>by cases b<;>simp only[SV.seq,false_eq_true]at h
theorem SV.pg:∀(a b:List SV),SV.uL a b=true->a=b
 | [],[],_=>rfl
 | [],_::_,h=>by simp[SV.uL]at h
 |_::_,[],h=>by simp[SV.uL]at h
 |x::a,y::b,h=>by
  simp only[SV.uL,and_eq_true]at h;rw[SV.seq_eq x y h.1,SV.pg a b h.2]
end
def SO.seq:SO->SO->Bool
 | .dead,.dead=>true
 | .box e cs,.box e' cs'=>decide (e=e')&&SV.uL cs cs'
 | .row n e s x,.row n' e' s' y=>decide (n=n')&&decide (e=e')&&decide (s=s')&&x.xeq y
 |_,_=>false
theorem SO.seq_eq{a b:SO}(h:a.seq b=true):a=b:=by
 cases a<;>cases b<;>simp only[SO.seq,false_eq_true,and_eq_true,decide_eq_true_eq]at h
 case dead.dead=>rfl
 case box.box=>rw[h.1,SV.pg _ _ h.2]
 case row.row=>
  obtain⟨⟨⟨h1,h2⟩,h3⟩,h4⟩:=h;rw[h1,h2,h3,D.aoI h4]
def SO.uL:List SO->List SO->Bool
 | [],[]=>true
 |a::l,b::m=>a.seq b&&SO.uL l m
 |_,_=>false
theorem SO.pg:∀{a b:List SO},SO.uL a b=true->a=b
 | [],[],_=>rfl
 | [],_::_,h=>by simp[SO.uL]at h
 |_::_,[],h=>by simp[SO.uL]at h
 |x::a,y::b,h=>by
  simp only[SO.uL,and_eq_true]at h;rw[SO.seq_eq h.1,SO.pg h.2]
def eK.seq(a b:eK):Bool:=decide (a.n=b.n)&&SV.uL a.args b.args&&SO.uL a.aE b.aE&&decide (a.m=b.m)&&a.res.seq b.res&&SO.uL a.da b.da&&decide (a.keep=b.keep)
theorem eK.seq_eq{a b:eK}(h:a.seq b=true):a=b:=by
 obtain⟨n,ar,o,m,re,o',k⟩:=a;obtain⟨n2,ar2,o2,m2,re2,o2',k2⟩:=b;simp only[eK.seq,and_eq_true,decide_eq_true_eq]at h;obtain⟨⟨⟨⟨⟨⟨h1,h2⟩,h3⟩,h4⟩,h5⟩,h6⟩,h7⟩:=h;rw[h1,SV.pg _ _ h2,SO.pg h3,h4,SV.seq_eq _ _ h5,SO.pg h6,h7]
section
variable (tab:FuncId->Option (Nat×T)) (axd:FuncId->Option (eK×T))
def evT:Nat->Nat->T->List AV->Option au1
 |0,_,_,_=>none
 |n+1,d,t,r=>match t with
  | .leaf _ _=>none
  | .ret ds=>some (.ret (D.bn r ds))
  | .jump vs=>some (.jump 0 (D.bn r vs))
  | .cM t=>match d with
    |0=>none
    |d+1=>match evT n d t r with
     |some out=>some out.up
     |none=>none
  | .op o t=>match evO (λ f args=>match tab f with
        |some (k,u)=>if args.length=k/\AV.ae args=true then(match evT n 0 u args with
         |some (.ret vs)=>some (cv vs)
         |_=>none)else none
        |none=>none) (λ f g args=>match axd f with
        |some (g',u)=>if g'.seq g=true/\args.length=g'.n/\AV.ae args=true then(match evT n 0 u args with
         |some (.ret vs)=>if vs.length=g'.m then some vs else none
         |_=>none)else none
        |none=>none) r o with
    |some v=>evT n d t (r++ [v])
    |none=>none
  | .aq c t=>if evC r c=true then evT n d t r else none
  | .ite c a b=>match c.ev r with
    | .v (.bool true)=>evT n d a r
    | .v (.bool false)=>evT n d b r
    |_=>none
  | .bind k a b=>match evT n (d+1) a r with
    |some (.jump 0 vs)=>if vs.length=k then evT n d b (r++vs)else none
    |some (.jump (m+1) vs)=>some (.jump m vs)
    |some (.ret vs)=>some (.ret vs)
    |none=>none
  | .loop init b=>match evT n (d+1) b (r++D.bn r init)with
    |some (.jump 0 vs)=>evT n d (.loop (vs.map .c) b) r
    |some (.jump (m+1) vs)=>some (.jump m vs)
    |some (.ret vs)=>some (.ret vs)
    |none=>none
def aMk(R:AV->Prop)(S:List (List AV->Prop)):au1->Prop
 | .ret vs=>R (cv vs)
 | .jump n vs=>∃J,S[n]? =some J/\J vs
theorem azJ(r:List AV):∀vs:List AV,D.bn r (vs.map .c)=vs
 | []=>rfl
 |v::vs=>by rw[List.map_cons,D.bn,azJ r vs];rfl
variable {tab axd}
theorem azM{P:Program}(hF:∀f k t,tab f=some (k,t)->∀{args:List AV} {res:AV},args.length=k->AV.ae args=true->cL P (λ _ _ _=>False) (λ a=>a=res) t args []->aW P f args res)
  (hG:∀f g t,axd f=some (g,t)->∀{ins outs:List AV},ins.length=g.n->outs.length=g.m->AV.ae ins=true->cL P (λ _ _ _=>False) (λ a=>a=cv outs) t ins []->jY P f g ins outs):
  ∀(n d:Nat) (t:T) (r:List AV) (out:au1) (R:AV->Prop) (S:List (List AV->Prop)),S.length=d->evT tab axd n d t r=some out->aMk R S out->cL P (λ _ _ _=>False) R t r S:=by
 intro n
 induction n using Nat.strongRecOn with
 |_ n ih=>
 intro d t r out R S hS h hk;cases n with
 |zero=>simp[evT]at h
 |succ n=>
 have ih1:=ih n (by omega);rw[evT.eq_def]at h;cases t<;>simp only at h
 case leaf=>cases h
 case ret ds=>
  injection h with h;subst h;exact hk
 case jump vs=>
  injection h with h;subst h;obtain⟨J,hJ,hv⟩:=hk;cases S with
  |nil=>cases hJ
  |cons K S=>cases hJ;exact hv
 case cM t=>
  cases d with
  |zero=>cases h
  |succ d=>
  simp only at h;cases S with
  |nil=>cases hS
  |cons K S=>
  have hS:S.length=d:=by simpa using hS
  split at h
  ·rename_i o ho;injection h with h;subst h;cases o with
   |ret vs=>exact ih1 d t r _ R S hS ho hk
   |jump m vs=>
    obtain⟨J,hJ,hv⟩:=hk;exact ih1 d t r _ R S hS ho ⟨J,hJ,hv⟩
  ·cases h
 case op o t=>
  split at h
  ·rename_i v hv;refine aHZ ?_ ?_ hv (ih1 d t (r++ [v]) out R S hS h hk)
   ·intro f args v hv
    split at hv
    ·rename_i k u hu
     split at hv
     ·rename_i hc
      split at hv
      ·rename_i vs sD;injection hv with hv;subst hv;exact hF f k u hu hc.1 hc.2 (ih1 0 u args _ _ [] rfl sD rfl)
      ·cases hv
     ·cases hv
    ·cases hv
   ·intro f g args outs hv
    split at hv
    ·rename_i g' u hu
     split at hv
     ·rename_i hc;obtain rfl:=eK.seq_eq hc.1
      split at hv
      ·rename_i vs sD
       split at hv
       ·rename_i hm;injection hv with hv;subst hv;exact hG f g' u hu hc.2.1 hm hc.2.2 (ih1 0 u args _ _ [] rfl sD rfl)
       ·cases hv
      ·cases hv
     ·cases hv
    ·cases hv
  ·cases h
 case aq c t=>
  split at h
  ·rename_i hc;exact aH0 hc (ih1 d t r out R S hS h hk)
  ·cases h
 case ite c a b=>
  rw[cL]
  split at h
  ·rename_i hc;rw[hc];exact⟨λ _=>ih1 d a r out R S hS h hk,λ q=>nomatch q⟩
  ·rename_i hc;rw[hc];exact⟨λ q=>(by cases q),λ _=>ih1 d b r out R S hS h hk⟩
  ·cases h
 case bind k a b=>
  rw[cL]
  split at h
  ·rename_i vs ha
   split at h
   ·exact ih1 (d+1) a r _ R _ (by simp[hS]) ha ⟨_,rfl,λ _=>ih1 d b (r++vs) out R S hS h hk⟩
   ·cases h
  ·rename_i m vs ha;injection h with h;subst h;obtain⟨J,hJ,hv⟩:=hk;exact ih1 (d+1) a r _ R _ (by simp[hS]) ha ⟨J,hJ,hv⟩
  ·rename_i vs ha;injection h with h;subst h;exact ih1 (d+1) a r _ R _ (by simp[hS]) ha hk
  ·cases h
 case loop init b=>
  rw[cL];refine⟨λ m vs=>m<=n+1/\evT tab axd m d (.loop (vs.map .c) b) r=some out,n+1,⟨le_refl _,?_⟩,?_⟩
  ·simp only[evT,azJ];exact h
  ·rintro m vs ⟨hm,hv⟩ _;cases m with
   |zero=>simp[evT]at hv
   |succ m=>
    simp only[evT]at hv;simp only[azJ]at hv;have ihm:=ih m (by omega)
    split at hv
    ·rename_i ws hb;exact ihm (d+1) b (r++vs) _ R _ (by simp[hS]) hb ⟨_,rfl,m,by omega,by omega,hv⟩
    ·rename_i j ws hb;injection hv with hv;subst hv;obtain⟨J,hJ,hw⟩:=hk;exact ihm (d+1) b (r++vs) _ R _ (by simp[hS]) hb ⟨J,hJ,hw⟩
    ·rename_i ws hb;injection hv with hv;subst hv;exact ihm (d+1) b (r++vs) _ R _ (by simp[hS]) hb hk
    ·cases hv
end
inductive CM where
 |all
 |off
 |two (a b:CM)
def T.cut:T->CM->T
 | .op o t,m=>match m with
   | .off=> .aq .no (.ret [])
   |m=> .op o (t.cut m)
 | .aq c t,m=>match m with
   | .off=> .aq .no (.ret [])
   |m=> .aq c (t.cut m)
 | .cM t,m=>match m with
   | .off=> .aq .no (.ret [])
   |m=> .cM (t.cut m)
 | .loop i b,m=>match m with
   | .off=> .aq .no (.ret [])
   |m=> .loop i (b.cut m)
 | .ite c a b,m=>match m with
   | .all=> .ite c a b
   | .off=> .aq .no (.ret [])
   | .two x y=> .ite c (a.cut x) (b.cut y)
 | .bind k a b,m=>match m with
   | .all=> .bind k a b
   | .off=> .aq .no (.ret [])
   | .two x y=> .bind k (a.cut x) (b.cut y)
 | .leaf x s,m=>match m with
   | .off=> .aq .no (.ret [])
   |_=> .leaf x s
 | .ret d,m=>match m with
   | .off=> .aq .no (.ret [])
   |_=> .ret d
 | .jump d,m=>match m with
   | .off=> .aq .no (.ret [])
   |_=> .jump d
theorem jZ{P:Program}{L:AX->SS->List AV->Prop}{R:AV->Prop}:∀(t:T) (m:CM) {r:List AV} {S:List (List AV->Prop)},cL P L R (t.cut m) r S->cL P L R t r S
 | .op o t,m,r,S,h=>by
   cases m with
   |off=>exact(show False from h).elim
   |all=>exact PO.ru h λ v hv=>jZ t .all hv
   |two x y=>exact PO.ru h λ v hv=>jZ t (.two x y) hv
 | .aq c t,m,r,S,h=>by
   cases m with
   |off=>exact(show False from h).elim
   |all=>exact eL.wp_mono h λ h=>jZ t .all h
   |two x y=>exact eL.wp_mono h λ h=>jZ t (.two x y) h
 | .cM t,m,r,S,h=>by
   cases m with
   |off=>exact(show False from h).elim
   |all=>cases S with
    |nil=>exact h
    |cons J S=>exact jZ t .all h
   |two x y=>cases S with
    |nil=>exact h
    |cons J S=>exact jZ t (.two x y) h
 | .loop i b,m,r,S,h=>by
   cases m with
   |off=>exact(show False from h).elim
   |all=>
    obtain⟨J,n,h0,h1⟩:=h;exact⟨J,n,h0,λ n vs hJ hk=>jZ b .all (h1 n vs hJ hk)⟩
   |two x y=>
    obtain⟨J,n,h0,h1⟩:=h;exact⟨J,n,h0,λ n vs hJ hk=>jZ b (.two x y) (h1 n vs hJ hk)⟩
 | .ite c a b,m,r,S,h=>by
   cases m with
   |off=>exact(show False from h).elim
   |all=>exact h
   |two x y=>
    simp only[T.cut,cL]at h⊢
    split at h
    ·exact⟨λ hb=>jZ a x (h.1 hb),λ hb=>jZ b y (h.2 hb)⟩
    ·exact h.elim
 | .bind k a b,m,r,S,h=>by
   cases m with
   |off=>exact(show False from h).elim
   |all=>exact h
   |two x y=>
    have h':=jZ a x (show cL P L R (a.cut x) r ((λ vs=>vs.length=k->cL P L R (b.cut y) (r++vs) S)::S)from h);exact ef (λ _ _ _ h=>h) (λ _ h=>h) a (.cons (λ vs hv hk=>jZ b y (hv hk)) (.refl _)) h'
 | .leaf x s,m,r,S,h=>by cases m<;>first|exact h|exact(show False from h).elim
 | .ret d,m,r,S,h=>by cases m<;>first|exact h|exact(show False from h).elim
 | .jump d,m,r,S,h=>by cases m<;>first|exact h|exact(show False from h).elim
def m6(m:CM):Option (Nat×T)->Option (Nat×T)
 |some (k,t)=>some (k,t.cut m)
 |none=>none
def qx(m:CM):Option T->Option T
 |some t=>some (t.cut m)
 |none=>none
theorem dD{P:Program}{f:FuncId}{fn:Func}{gen:Cfg}{n:Nat}{t:T}{m:CM}(hf:P.funcs[f]? =some fn)(h:m6 m (aS P gen fn)=some (n,t)){args:List AV}(hl:args.length=n)(hn:AV.ae args=true){res:AV}
  (hw:cL P (λ _ _ _=>False) (λ a=>a=res) t args []):aW P f args res:=by
 cases hq:aS P gen fn with
 |none=>rw[hq]at h;cases h
 |some q=>
  obtain⟨k,u⟩:=q;rw[hq]at h;injection h with h;injection h with h1 h2;subst h1;subst h2;exact aF hf hq hl hn (jZ u m hw)
theorem dF{P:Program}{f:FuncId}{fn:Func}{gen:Cfg}{g:eK}{t:T}{m:CM}(hf:P.funcs[f]? =some fn)(h:qx m (ea P gen g fn)=some t){ins outs:List AV}(hl:ins.length=g.n)(hn:AV.ae ins=true)(ho:outs.length=g.m)
  (hw:cL P (λ _ _ _=>False) (λ a=>a=cv outs) t ins []):jY P f g ins outs:=by
 cases hq:ea P gen g fn with
 |none=>rw[hq]at h;cases h
 |some u=>
  rw[hq]at h;injection h with h;subst h;exact gr hf hq hl ho hn (jZ u m hw)
end Go.Ab
