/- Part of a proof: the functions that the law reaches, walked by the abstract logic of the texts Ab. -/
import Derived.Test.YtfebhekplhjigaaAbM4
import Derived.Test.YtfebhekplhjigaaAbM3
open Option(bind_eq_some_iff)
set_option linter.unusedSimpArgs false
set_option linter.unusedVariables false
set_option linter.defProp false
namespace Go.Ab
def ayg(x:Nat):List Nat->List Nat
 | []=>[x]
 |y::l=>if x<y then x::y::l else if x=y then y::l else y::ayg x l
def ajT(a b:List Nat):List Nat:=a.foldr ayg b
def adm:List aO->List Nat->List Nat
 | [],out=>out
 |o::r,out=>ajT o.reads (match o.dst with|some t=>(adm r out).filter (· !=t)|none=>adm r out)
def aI.slot:aI->List Nat
 | .t n=>[n]
 | .c _=>[]
def live(ret:List Nat):aR->List Nat->List (Nat×List Nat)->aR×List Nat
 | .skip,out,_=>(.skip,out)
 | .region rows ops,out,_=>(.ar out (.region rows ops),adm ops out)
 | .seq a b,out,ex=>
   let qb:=live ret b out ex
   let qa:=live ret a qb.2 ex
   (.seq qa.1 qb.1,qa.2)
 | .cond c t f,out,ex=>
   let qt:=live ret t out ex
   let qf:=live ret f out ex
   (.ar out (.cond c qt.1 qf.1),ajT c.slot (ajT qt.2 qf.2))
 | .block id b,out,ex=>
   let qb:=live ret b out ((id,out)::ex)
   (.ar out (.block id qb.1),qb.2)
 | .loop b,_,ex=>
   let l1:=(live ret b [] ex).2
   let l2:=ajT l1 (live ret b l1 ex).2
   let l3:=ajT l2 (live ret b l2 ex).2
   (.loop (live ret b l3 ex).1,l3)
 | .exit id,_,ex=>(.exit id,match ex.find? (λ p=>p.1==id)with|some p=>p.2|none=>[])
 | .ret,_,_=>(.ret,ret)
 | .ar l c,out,ex=>let q:=live ret c out ex;(.ar l q.1,q.2)
 | .k8 c,out,ex=>let q:=live ret c out ex;(.k8 q.1,q.2)
 | .gZ ops,out,_=>(.gZ ops,out)
structure Cfg where
 fl:List Nat
 fr:List (Nat×Bool×Nat×Nat)
 sg:List (Nat×List hD)
 cut:Bool
def azv:List (Nat×Bool×Nat×Nat)->Nat->Option (Bool×Nat×Nat)
 | [],_=>none
 |(g,q)::l,f=>if g=f then some q else azv l f
def axg:List (Nat×List hD)->Nat->Option (List hD)
 | [],_=>none
 |(g,q)::l,f=>if g=f then some q else axg l f
def ash(ops:List aO):List Nat:=ops.foldr (λ o l=>match o.op with
 | .app _ _ _ (.t k) _=>k::l
 | .kN _ _ _ (.t k) _=>k::l
 | .aA (.t k)=>(match o.dst with|some d=>if l.contains d=true then k::l else l|none=>l)
 |_=>l) []
def abB(c:Cfg)(drawn base:Bool):ez->ez
 | .call f as=>match axg c.sg f with
   |some gs=>if drawn=true/\gs.any hD.one=true then .jU gs f as else .bk gs f as
   |none=>match azv c.fr f with
    |some (nl,e,s)=>if drawn=true/\base=false then(if c.fl.contains f=true then .mJ f as else .lK f as)else .eW nl e s f as
    |none=>if drawn=true then(if c.fl.contains f=true then .mJ f as else .lK f as)else .nw f as
 | .ew x as=>if drawn=true then .iN x as else .jV x as
 | .cX s x l h=>if c.cut=true then .cut s x l h else .cX s x l h
 | .buildSlice t s l z ps=>if(drawn=true∨(c.cut=true/\ps.all (λ p=>match p.2 with| .c _=>true| .t _=>false)=true))/\base=false then .iR t s l z ps else .buildSlice t s l z ps
 |o=>o
def asB(c:Cfg)(rows:Bool)(bs:List Nat)(o:aO):aO:={o with op:=abB c rows (match o.dst with|some t=>bs.contains t|none=>false) o.op}
def qh(gen:Cfg):aR->aR
 | .region rows ops=> .region rows (ops.map (asB gen rows.isSome (ash ops)))
 | .seq a b=> .seq (qh gen a) (qh gen b)
 | .cond c t f=> .cond c (qh gen t) (qh gen f)
 | .block id b=> .block id (qh gen b)
 | .loop b=> .loop (qh gen b)
 | .ar l c=> .ar l (qh gen c)
 | .k8 c=> .k8 (qh gen c)
 |c=>c
theorem gx(ret:List Nat):∀(c:aR) (out:List Nat) (ex:List (Nat×List Nat)),(live ret c out ex).1.strip=c.strip
 | .skip,_,_=>rfl
 | .region rows ops,_,_=>rfl
 | .seq a b,out,ex=>by simp only[live,aR.strip,gx ret a,gx ret b]
 | .cond c t f,out,ex=>by simp only[live,aR.strip,gx ret t,gx ret f]
 | .block id b,out,ex=>by simp only[live,aR.strip,gx ret b]
 | .loop b,out,ex=>by simp only[live,aR.strip,gx ret b]
 | .exit id,_,_=>rfl
 | .ret,_,_=>rfl
 | .ar l c,out,ex=>by simp only[live,aR.strip,gx ret c]
 | .k8 c,out,ex=>by simp only[live,aR.strip,gx ret c]
 | .gZ ops,_,_=>rfl
theorem aeI(gen:Cfg)(d b:Bool)(o:ez):(abB gen d b o).strip=o.strip:=by
 cases o<;>try rfl
 case buildSlice=>simp only[abB];split<;>rfl
 case cX=>simp only[abB];split<;>rfl
 case ew=>simp only[abB];split<;>rfl
 case call=>
  simp only[abB]
  split
  ·split<;>rfl
  ·split
   ·split
    ·split<;>rfl
    ·rfl
   ·split
    ·split<;>rfl
    ·rfl
theorem gn(gen:Cfg):∀(c:aR),(qh gen c).strip=c.strip
 | .skip=>rfl
 | .region rows ops=>by
   simp only[qh,aR.strip,List.map_map];congr 1;apply List.map_congr_left;intro o _;simp only[Function.comp,aO.strip,asB,aeI]
 | .seq a b=>by simp only[qh,aR.strip,gn gen a,gn gen b]
 | .cond c t f=>by simp only[qh,aR.strip,gn gen t,gn gen f]
 | .block id b=>by simp only[qh,aR.strip,gn gen b]
 | .loop b=>by simp only[qh,aR.strip,gn gen b]
 | .exit id=>rfl
 | .ret=>rfl
 | .ar l c=>by simp only[qh,aR.strip,gn gen c]
 | .k8 c=>by simp only[qh,aR.strip,gn gen c]
 | .gZ ops=>rfl
section
variable {P:Program} {nt:Nat}
theorem agd{c:Call}{a:ez}(h:wu P c=some a):a.strip=a:=by
 unfold wu at h
 split at h
 ·split at h
  ·cases h;rfl
  ·cases h;rfl
  ·cases h
 ·split at h
  ·split at h
   ·simp only[Option.map_eq_some_iff]at h;obtain⟨_,_,rfl⟩:=h;rfl
   ·simp only[Option.map_eq_some_iff]at h;obtain⟨_,_,rfl⟩:=h;rfl
   ·cases h
  ·cases h
 ·split at h
  ·split at h
   ·simp only[Option.bind_eq_bind,bind_eq_some_iff,Option.some.injEq]at h;obtain⟨e,_,⟨s,b,z⟩,_,x,_,y,_,rfl⟩:=h
    rfl
   ·cases h
  ·cases h
 ·cases h
theorem apg{ty:TypeId}{op:Op}{t s l:Nat}{z:AV}{ps:List (Nat×aI)}(h:bY P ty op=some (.iR t s l z ps)):False:=by
 cases op<;>simp only[bY]at h
 all_goals (repeat' split at h)
 all_goals first
  |(simp[bind_eq_some_iff]at h;done)
  |(exfalso;simp_all;done)
theorem alH{ty:TypeId}{op:Op}{k t s:Nat}{z:AV}(h:bY P ty op=some (.gG k t s z)):False:=by
 cases op<;>simp only[bY]at h
 all_goals (repeat' split at h)
 all_goals first
  |(simp[bind_eq_some_iff]at h;done)
  |(exfalso;simp_all;done)
theorem alG{ty:TypeId}{op:Op}{k t s:Nat}{z:aI}(h:bY P ty op=some (.m9 k t s z)):False:=by
 cases op<;>simp only[bY]at h
 all_goals (repeat' split at h)
 all_goals first
  |(simp[bind_eq_some_iff]at h;done)
  |(exfalso;simp_all;done)
theorem alF{ty:TypeId}{op:Op}{k t s l:Nat}{z:AV}{ps:List (Nat×aI)}(h:bY P ty op=some (.gF k t s l z ps)):False:=by
 cases op<;>simp only[bY]at h
 all_goals (repeat' split at h)
 all_goals first
  |(simp[bind_eq_some_iff]at h;done)
  |(exfalso;simp_all;done)
theorem alE{ty:TypeId}{op:Op}{s:Nat}{x:aI}{l h':Option aI}(h:bY P ty op=some (.cut s x l h')):False:=by
 cases op<;>simp only[bY]at h
 all_goals (repeat' split at h)
 all_goals first
  |(simp[bind_eq_some_iff]at h;done)
  |(exfalso;simp_all;done)
theorem alD{ty:TypeId}{op:Op}{neg:Bool}{x:aI}(h:bY P ty op=some (.wJ neg x)):False:=by
 cases op<;>simp only[bY]at h
 all_goals (repeat' split at h)
 all_goals first
  |(simp[bind_eq_some_iff]at h;done)
  |(exfalso;simp_all;done)
theorem alC{ty:TypeId}{op:Op}{e s b:Nat}{z:AV}{x y:aI}(h:bY P ty op=some (.mkF e s b z x y)):False:=by
 cases op<;>simp only[bY]at h
 all_goals (repeat' split at h)
 all_goals first
  |(simp[bind_eq_some_iff]at h;done)
  |(exfalso;simp_all;done)
theorem alB{ty:TypeId}{op:Op}{k e s b:Nat}{z:AV}{x y:aI}(h:bY P ty op=some (.y4 k e s b z x y)):False:=by
 cases op<;>simp only[bY]at h
 all_goals (repeat' split at h)
 all_goals first
  |(simp[bind_eq_some_iff]at h;done)
  |(exfalso;simp_all;done)
theorem aeC{a:ez}(hA:a.aa8=false)(h:a.zn=false)(hf:∀t s l z ps,a≠ .iR t s l z ps):a.strip=a:=by
 cases a<;>first|rfl|(simp[ez.zn]at h;done)|(simp[ez.aa8]at hA;done)|(exact(hf _ _ _ _ _ rfl).elim)
theorem aly{t:TypeId}{o:Op}{a:ez}(h:cOp P t o=some a):a.strip=a:=by
 unfold cOp alA at h;simp only[Option.some.injEq]at h
 split at h
 ·rename_i b hb;subst h;rcases pk hb with⟨_,_,rfl⟩|⟨_,_,_,_,_,rfl⟩|⟨_,_,_,_,_,_,rfl⟩<;>rfl
 ·cases h0:xm P t o with
  |none=>rw[h0]at h;subst h;rfl
  |some b=>
   rw[h0]at h;simp only[Option.getD_some]at h;subst h;unfold xm at h0
   split at h0
   ·exact agd h0
   ·rw[bind_eq_some_iff]at h0;obtain⟨b',hb,lP⟩:=h0
    split at lP
    ·cases lP
    ·rename_i hc;cases lP;exact aeC (by cases b<;>first|rfl|exact(alH hb).elim|exact(alG hb).elim|exact(alF hb).elim|exact(alE hb).elim|exact(alD hb).elim|exact(alC hb).elim|exact(alB hb).elim) (by simpa using hc) (λ t s l z ps he=>apg (by rw[hb,he]))
theorem aga{ops:Array Oper}{o:Oper}{a:aO}(h:pC P nt ops o=some a):a.strip=a:=by
 unfold pC at h
 split at h
 ·rename_i op g hop hg
  split at h
  ·cases h;simp only[aO.strip,aly hop]
  ·cases h
 ·cases h
theorem y7{f:Oper->Option aO}(hf:∀o a,f o=some a->a.strip=a):∀(l:List Oper) {r:List aO},l.mapM f=some r->r.map aO.strip=r
 | [],r,h=>by simp at h;subst h;rfl
 |o::l,r,h=>by
  simp only[List.mapM_cons,Option.bind_eq_bind,Option.pure_def,bind_eq_some_iff,Option.some.injEq]at h;obtain⟨b,hb,bs,hbs,rfl⟩:=h;simp only[List.map_cons,hf o b hb,y7 hf l hbs]
theorem agc:∀(code:Code) {c:aR},fQ P nt code=some c->c.strip=c:=by
 intro code c h
 induction c generalizing code with
 |skip=>rfl
 |exit=>rfl
 |ret=>rfl
 |region rows ops=>
  rcases cc h with⟨_,h⟩|⟨id,ani,draw,aDi,aea,rfl,h,hm,hdr⟩|⟨_,_,_,_,_,h,_⟩|⟨_,_,_,_,_,_,_,h,_⟩|⟨_,_,_,_,h,_⟩|⟨_,_,_,h,_⟩|⟨_,_,h⟩|⟨_,h⟩<;>first|(cases h;done)|skip
  cases h;simp only[aR.strip];rw[y7 (λ o a h=>aga h) _ hm]
 |seq a b iha ihb=>
  rcases cc h with⟨_,h⟩|⟨_,_,_,_,_,_,h,_⟩|⟨cx,cy,ax,ay,rfl,h,hx,hy⟩|⟨_,_,_,_,_,_,_,h,_⟩|⟨_,_,_,_,h,_⟩|⟨_,_,_,h,_⟩|⟨_,_,h⟩|⟨_,h⟩<;>first|(cases h;done)|skip
  cases h;simp only[aR.strip,iha cx hx,ihb cy hy]
 |cond o t f iht ihf=>
  rcases cc h with⟨_,h⟩|⟨_,_,_,_,_,_,h,_⟩|⟨_,_,_,_,_,h,_⟩|⟨o',x,y,ao,ax,ay,rfl,h,h0,h1,h2⟩|⟨_,_,_,_,h,_⟩|⟨_,_,_,h,_⟩|⟨_,_,h⟩|⟨_,h⟩<;>first|(cases h;done)|skip
  cases h;simp only[aR.strip,iht x h1,ihf y h2]
 |block id b ih=>
  rcases cc h with⟨_,h⟩|⟨_,_,_,_,_,_,h,_⟩|⟨_,_,_,_,_,h,_⟩|⟨_,_,_,_,_,_,_,h,_⟩|⟨id',cb,ab,rfl,h,hb⟩|⟨_,_,_,h,_⟩|⟨_,_,h⟩|⟨_,h⟩<;>first|(cases h;done)|skip
  cases h;simp only[aR.strip,ih cb hb]
 |loop b ih=>
  rcases cc h with⟨_,h⟩|⟨_,_,_,_,_,_,h,_⟩|⟨_,_,_,_,_,h,_⟩|⟨_,_,_,_,_,_,_,h,_⟩|⟨_,_,_,_,h,_⟩|⟨cb,ab,rfl,h,hb⟩|⟨_,_,h⟩|⟨_,h⟩<;>first|(cases h;done)|skip
  cases h;simp only[aR.strip,ih cb hb]
 |ar l c ih=>
  rcases cc h with⟨_,h⟩|⟨_,_,_,_,_,_,h,_⟩|⟨_,_,_,_,_,h,_⟩|⟨_,_,_,_,_,_,_,h,_⟩|⟨_,_,_,_,h,_⟩|⟨_,_,_,h,_⟩|⟨_,_,h⟩|⟨_,h⟩<;>cases h
 |k8 c ih=>
  rcases cc h with⟨_,h⟩|⟨_,_,_,_,_,_,h,_⟩|⟨_,_,_,_,_,h,_⟩|⟨_,_,_,_,_,_,_,h,_⟩|⟨_,_,_,_,h,_⟩|⟨_,_,_,h,_⟩|⟨_,_,h⟩|⟨_,h⟩<;>cases h
 |gZ ops=>
  rcases cc h with⟨_,h⟩|⟨_,_,_,_,_,_,h,_⟩|⟨_,_,_,_,_,h,_⟩|⟨_,_,_,_,_,_,_,h,_⟩|⟨_,_,_,_,h,_⟩|⟨_,_,_,h,_⟩|⟨_,_,h⟩|⟨_,h⟩<;>cases h
end
def aqq:dG->Nat
 | .tmp t=>t
 | .cell t _=>t
def agB(P:Program)(gen:Cfg)(fn:Func):Option mo:=
 match fn.body with
 |none=>none
 |some code=>match fQ P fn.ntmps code,fn.results.toList.mapM (alx P)with
  |some c,some rs=>some ⟨fn.params.size+fn.nfree,fn.ntmps,(live (ajT (rs.map aqq) []) (qh gen c) [] []).1,rs⟩
  |_,_=>none
theorem vC{P:Program}{f:FuncId}{fn:Func}{gen:Cfg}{A:mo}(hf:P.funcs[f]? =some fn)(hA:agB P gen fn=some A)(h1:A.cT<=A.nt)(h2:(fn.name== "runtime.NumGoroutine")=false):rj P f A:=by
 unfold agB at hA
 split at hA
 ·cases hA
 ·rename_i code aos
  split at hA
  ·rename_i c rs hc hrs;cases hA;refine⟨fn,code,hf,aos,h2,rfl,h1,?_,hrs⟩;rw[hc];simp only[gx,gn,agc code hc]
  ·cases hA
def ct(P:Program)(gen:Cfg)(fn:Func):Option (Nat×T):=
 match agB P gen fn with
 |some A=>if A.cT<=A.nt/\(fn.name== "runtime.NumGoroutine")=false then
   match A.left gen.fl with
   |some t=>some (A.cT,t)
   |none=>none
  else none
 |none=>none
def tG(P:Program)(gen:Cfg)(nl:Bool)(e m:Nat)(fn:Func):Option (Nat×T):=
 match agB P gen fn with
 |some A=>if A.cT<=A.nt/\(fn.name== "runtime.NumGoroutine")=false then
   match A.tG gen.fl nl e m with
   |some t=>some (A.cT,t)
   |none=>none
  else none
 |none=>none
theorem aV{P:Program}{f:FuncId}{fn:Func}{gen:Cfg}{n:Nat}{t:T}(hf:P.funcs[f]? =some fn)(h:ct P gen fn=some (n,t)){args:List AV}(hl:args.length=n)(hn:AV.ae args=true){res:AV}
  (hw:bD P (λ _ _ _=>False) (λ a=>a=res) t args []):a7 P f args res:=by
 unfold ct at h
 split at h
 ·rename_i A hA
  split at h
  ·rename_i hc
   split at h
   ·rename_i t' ht;cases h;exact ao7 (vC hf hA hc.1 hc.2) ht hl hn hw
   ·cases h
  ·cases h
 ·cases h
theorem vu{P:Program}{f:FuncId}{fn:Func}{gen:Cfg}{nl:Bool}{e m:Nat}{n:Nat}{t:T}(hf:P.funcs[f]? =some fn)(h:tG P gen nl e m fn=some (n,t)){args:List AV}(hl:args.length=n)(hn:AV.ae args=true){xs:List AV}
  (hw:bD P (λ _ _ _=>False) (λ a=>a= .sl xs) t args []):uq P f args nl e m xs:=by
 unfold tG at h
 split at h
 ·rename_i A hA
  split at h
  ·rename_i hc
   split at h
   ·rename_i t' ht;cases h;exact alk (vC hf hA hc.1 hc.2) ht hl hn hw
   ·cases h
  ·cases h
 ·cases h
def jX(P:Program)(gen:Cfg)(g:hD)(fn:Func):Option T:=
 match agB P gen fn with
 |some A=>if A.cT<=A.nt/\(fn.name== "runtime.NumGoroutine")=false then A.jX gen.fl g else none
 |none=>none
theorem eL{P:Program}{f:FuncId}{fn:Func}{gen:Cfg}{g:hD}{t:T}(hf:P.funcs[f]? =some fn)(h:jX P gen g fn=some t){ins outs:List AV}(hl:ins.length=g.n)(hn:AV.ae ins=true)(ho:outs.length=g.m)
  (hw:bD P (λ _ _ _=>False) (λ a=>a=br outs) t ins []):gQ P f g ins outs:=by
 unfold jX at h
 split at h
 ·rename_i A hA
  split at h
  ·rename_i hc;exact aj6 (vC hf hA hc.1 hc.2) h hl hn ho hw
  ·cases h
 ·cases h
end Go.Ab
namespace Go.Ab
section
variable (P:Program) (L:AX->SS->List AV->Prop) (R:AV->Prop)
def kT(t:T)(r:List AV)(S:List (List AV->Prop)):AV->Prop:=λ v=>bD P L R t (r++ [v]) S
def fq(K:AV->Prop)(v:AV):Prop:=K v
def adq(c:AV)(t f:T)(r:List AV)(S:List (List AV->Prop)):Prop:=match c with
 | .v (.bool b)=>(b=true->bD P L R t r S)/\(b=false->bD P L R f r S)
 |_=>False
def agi(k:Nat)(a b:T)(r:List AV)(S:List (List AV->Prop)):Prop:=bD P L R (.bind k a b) r S
def rQ(init:List AV)(b:T)(r:List AV)(S:List (List AV->Prop)):Prop:=
 ∃(J:Nat->List AV->Prop) (n:Nat),J n init/\∀n vs,J n vs->vs.length=init.length->bD P L R b (r++vs) ((λ nV=>∃m,m<n/\J m nV)::S)
def uM(vs:List AV):Prop:=R (br vs)
def anP(S:List (List AV->Prop))(vs:List AV):Prop:=match S with
 |J::_=>J vs
 | []=>False
variable (t f:T) (r:List AV) (S:List (List AV->Prop))
theorem aw0(o:PO):bD P L R (.op o t) r S=o.wp P r (kT P L R t r S):=nr rfl
theorem aw2(v:AV):fq (kT P L R t r S) v=bD P L R t (r++ [v]) S:=nr rfl
theorem asw(c:nU):bD P L R (.aL c t) r S=c.wp r (bD P L R t r S):=nr rfl
theorem aw1(c:D):bD P L R (.ite c t f) r S=adq P L R (c.ev r) t f r S:=nr rfl
theorem ame(k:Nat):bD P L R (.bind k t f) r S=agi P L R k t f r S:=nr rfl
theorem atA(init:List D):bD P L R (.loop init t) r S=rQ P L R (D.a8 r init) t r S:=by
 simp only[bD,rQ,D.aQ,List.length_map]
theorem awZ(ds:List D):bD P L R (.ret ds) r S=uM R (D.a8 r ds):=nr rfl
theorem atB(vs:List D):bD P L R (.jump vs) r S=anP S (D.a8 r vs):=nr rfl
theorem aw3(J:List AV->Prop):bD P L R (.dq t) r (J::S)=bD P L R t r S:=nr rfl
theorem ap1(J:List AV->Prop)(vs:List AV):anP (J::S) vs=J vs:=nr rfl
theorem atz:adq P L R (.v (.bool true)) t f r S=bD P L R t r S:=by simp[adq]
theorem ap2:adq P L R (.v (.bool false)) t f r S=bD P L R f r S:=by simp[adq]
end
section
variable {P:Program} {L:AX->SS->List AV->Prop} {R:AV->Prop} {t f:T} {r:List AV} {S:List (List AV->Prop)}
theorem aE{b:Bool}(h:b=true->bD P L R t r S)(h':b=false->bD P L R f r S):adq P L R (.v (.bool b)) t f r S:=⟨h,h'⟩
theorem aG{p:Prop}[Decidable p](h:p->bD P L R t r S)(h':¬p->bD P L R f r S):adq P L R (.v (.bool (decide p))) t f r S:=⟨λ q=>h (of_decide_eq_true q),λ q=>h' (of_decide_eq_false q)⟩
theorem aZ{p:Prop}[Decidable p](h:¬p->bD P L R t r S)(h':p->bD P L R f r S):adq P L R (.v (.bool (!decide p))) t f r S:=
 ⟨λ q=>h (by simpa using q),λ q=>h' (by simpa using q)⟩
theorem mA{k:Nat}(J:List AV->Prop)(h:bD P L R t r (J::S))(h':∀vs,J vs->vs.length=k->bD P L R f (r++vs) S):agi P L R k t f r S:=
 dz (λ _ _ _ h=>h) (λ _ h=>h) t (.cons (λ vs hv hk=>h' vs hv hk) (.refl _)) h
theorem cu{k:Nat}(vs:List AV)(hk:vs.length=k)(h:bD P L R t r ((λ ws=>ws=vs)::S))(h':bD P L R f (r++vs) S):agi P L R k t f r S:=
 mA (λ ws=>ws=vs) h λ ws hw _=>by rw[hw];exact h'
theorem aB{k:Nat}(h:bD P L R t r ((λ vs=>bD P L R f (r++vs) S)::S)):agi P L R k t f r S:=mA _ h λ _ hv _=>hv
theorem eh{ι:Type}{init:List AV}(D:ι->Prop)(σ:ι->List AV)(μ:ι->Nat)(i0:ι)(hd:D i0)(h0:init=σ i0)
  (hr:∀i,D i->bD P L R t (r++σ i) ((λ vs=>∃j,D j/\μ j<μ i/\vs=σ j)::S)):rQ P L R init t r S:=by
 refine⟨λ n vs=>∃i,D i/\μ i=n/\vs=σ i,μ i0,⟨i0,hd,rfl,h0⟩,?_⟩;rintro n vs ⟨i,hi,rfl,rfl⟩ _;refine dz (λ _ _ _ h=>h) (λ _ h=>h) t (.cons (λ vs hv=> ?_) (.refl _)) (hr i hi);obtain⟨j,hj,aF,rfl⟩:=hv;exact⟨μ j,aF,j,hj,rfl,rfl⟩
theorem bu{g:FuncId}{args:List AV}{flat:Bool}{K:AV->Prop}{x:Value}(h:a7 P g args (.v x))(k:fq K (.v x)):acp P g args flat K:=⟨_,h,rfl,λ _=>rfl,k⟩
theorem adY{nl:Bool}{e s:Nat}{g:FuncId}{args:List AV}{K:AV->Prop}{xs:List AV}(h:uq P g args nl e s xs)(hn:AV.ae xs=true)(k:fq K (.sl xs)):aim P nl e s g args K:=⟨_,h,hn,k⟩
theorem dU{g:hD}{f:FuncId}{args:List AV}{K:AV->Prop}{outs:List AV}(h:gQ P f g args outs)(hl:outs.length=g.m)(hn:AV.ae outs=true)(k:fq K (.a9 outs)):lB P f g args K:=⟨_,h,hl,hn,k⟩
theorem j7{g:FuncId}{args:List AV}{K:AV->Prop}{res:AV}(h:a7 P g args res)(hn:res.ag=true)(k:fq K res):acp P g args false K:=⟨_,h,hn,λ h=>(by cases h),k⟩
theorem aio{s:Nat}{xs:List AV}{k:IntKind}{n:Nat}{K:AV->Prop}(x:AV)(h:xs[n]? =some x)(hs:x.cells.length=s)(hk:fq K x):lQ s (.sl xs) (.v (.int k (n:Int))) K:=by
 have aF:=(List.getElem?_eq_some_iff.1 h).1;have hx:xs.getD (Int.toNat (n:Int)) .top=x:=by rw[Int.toNat_natCast];exact aoI h
 refine⟨Int.natCast_nonneg n,by exact_mod_cast aF,by rw[hx];exact hs,by rw[hx];exact hk⟩
where aoI {l:List AV} {i:Nat} {x:AV} (h:l[i]? =some x):l.getD i .top=x:=by simp[List.getD,h]
end
theorem aC0(r:List AV)(d:D)(f:Nat):(D.ip d f).ev r= .cj (d.ev r) f:=nr rfl
section
variable (r:List AV)
theorem e_x(i:Nat):(D.x i).ev r=r.getD i .top:=nr rfl
theorem e_c(a:AV):(D.c a).ev r=a:=nr rfl
theorem av0(i j:Nat):(D.cell i j).ev r=(r.getD i .top).cells.getD j .top:=nr rfl
theorem azB(i j:Nat):(D.ext i j).ev r=amm (r.getD i .top) j:=nr rfl
theorem aCZ(l:D):(D.sl l).ev r= .sl (aU (l.ev r)):=nr rfl
theorem azC(l:List D):(D.agg l).ev r= .agg (D.a8 r l):=nr rfl
theorem aC1(f:FuncId)(l:List D):(D.fn f l).ev r= .fn f (D.a8 r l):=nr rfl
theorem azA:D.a8 r []= []:=nr rfl
theorem avZ(d:D)(l:List D):D.a8 r (d::l)=d.ev r::D.a8 r l:=nr rfl
end
theorem akM(xs:List AV):aU (.sl xs)=xs:=nr rfl
theorem akY(k:IntKind)(n:Nat):idxOf (.v (.int k (n:Int)))=n:=nr (by simp[idxOf])
theorem akZ(k:IntKind)(n:Int):idxOf (.v (.int k n))=n.toNat:=nr rfl
theorem aqc(vs:List AV)(j:Nat):amm (.a9 vs) j=vs.getD j .top:=nr rfl
theorem aoV(r:List AV):D.evo r none=none:=nr rfl
theorem aoU(r:List AV)(d:D):D.evo r (some d)=some (d.ev r):=nr rfl
section
variable (P:Program) (r:List AV) (K:AV->Prop)
def fC(op:BinOp)(a b:AV)(K:AV->Prop):Prop:=eT op a b [] λ x _=>K x
def unT(op:UnOp)(a:AV)(K:AV->Prop):Prop:=unK op a [] λ x _=>K x
def ajH(k:IntKind)(a:AV)(K:AV->Prop):Prop:=wj k a [] λ x _=>K x
def vM(c a b:AV)(K:AV->Prop):Prop:=pw c a b [] λ x _=>K x
def arV(off:Nat)(n:Option Nat)(a:AV)(K:AV->Prop):Prop:=alj off n a [] λ x _=>K x
def anW(a i:AV)(K:AV->Prop):Prop:=v8 a i [] λ x _=>K x
def aqh(a:AV)(lo hi:Option AV)(K:AV->Prop):Prop:=lV a lo hi [] λ x _=>K x
def aqi(s:Nat)(a:AV)(lo hi:Option AV)(K:AV->Prop):Prop:=lW s a lo hi [] λ x _=>K x
def aji(a:AV)(K:AV->Prop):Prop:=vV a [] λ x _=>K x
def abT(a:AV)(K:AV->Prop):Prop:=mM a [] λ x _=>K x
def auH(n:Option Nat)(a:AV)(K:AV->Prop):Prop:=akN n a K
def avV(off:Nat)(a:AV)(K:AV->Prop):Prop:=alm off a K
theorem axt(x:D):PO.wp P r (.val x) K=fq K (x.ev r):=nr rfl
def puT(o:PU)(xs:List AV)(K:AV->Prop):Prop:=puK o xs K
def apA(s bytes:Nat)(xs:List AV)(y:AV)(K:AV->Prop):Prop:=aap s bytes xs y K
theorem aA8(o:PU)(ds:List D):PO.wp P r (.pu o ds) K=puT o (D.a8 r ds) K:=nr rfl
theorem auh(s bytes:Nat)(l y:D):PO.wp P r (.kN s bytes l y) K=apA s bytes (aU (l.ev r)) (y.ev r) K:=nr rfl
theorem aua(c a b:D):PO.wp P r (.pick c a b) K=vM (c.ev r) (a.ev r) (b.ev r) K:=nr rfl
theorem axA(op:BinOp)(a b:D):PO.wp P r (.bin op a b) K=fC op (a.ev r) (b.ev r) K:=nr rfl
def alN(neg:Bool)(a b:AV)(K:AV->Prop):Prop:=agz neg a b K
theorem axB(neg:Bool)(a b:D):PO.wp P r (.beq neg a b) K=alN neg (a.ev r) (b.ev r) K:=nr rfl
theorem aA7(op:UnOp)(a:D):PO.wp P r (.un op a) K=unT op (a.ev r) K:=nr rfl
theorem auf(k:IntKind)(a:D):PO.wp P r (.conv k a) K=ajH k (a.ev r) K:=nr rfl
theorem aue(s:Nat)(l i:D):PO.wp P r (.elem s l i) K=lQ s (l.ev r) (i.ev r) K:=nr rfl
theorem axy(off:Nat)(n:Option Nat)(a:D):PO.wp P r (.zZ off n a) K=arV off n (a.ev r) K:=nr rfl
theorem aqJ(f m:Nat)(a:D):PO.wp P r (.vU f m a) K=(f+m<=(a.ev r).cells.length/\fq K (dI (some m) (a.ev r) f)):=nr rfl
theorem aud(a i:D):PO.wp P r (.lF a i) K=anW (a.ev r) (i.ev r) K:=nr rfl
theorem am1(a:D)(lo hi:Option D):PO.wp P r (.fI a lo hi) K=aqh (a.ev r) (D.evo r lo) (D.evo r hi) K:=nr rfl
theorem am2(s:Nat)(a:D)(lo hi:Option D):PO.wp P r (.cX s a lo hi) K=aqi s (a.ev r) (D.evo r lo) (D.evo r hi) K:=nr rfl
theorem aub(a:D):PO.wp P r (.lg a) K=aji (a.ev r) K:=nr rfl
theorem auc(a:D):PO.wp P r (.bm a) K=abT (a.ev r) K:=nr rfl
theorem asE(z:AV)(n:Nat)(ps:List (Nat×D)):PO.wp P r (.mL z n ps) K=fq K (.sl (eX (List.replicate n z) (ps.map λ p=>(p.1,p.2.ev r)))):=nr rfl
theorem axv(bytes:Nat)(z:AV)(n c:D):PO.wp P r (.rep bytes z n c) K=aeT bytes z (n.ev r) (c.ev r) K:=nr rfl
theorem axC(s bytes:Nat)(l y:D):PO.wp P r (.app s bytes l y) K=aiF s bytes (aU (l.ev r)) (y.ev r) K:=nr rfl
theorem axx(l i:D)(f:Nat)(n:Option Nat):PO.wp P r (.get l i f n) K=avJ (aU (l.ev r)) (idxOf (i.ev r)) f n K:=nr rfl
theorem axu(l i:D)(f m:Nat)(y:D):PO.wp P r (.set l i f m y) K=aqk (aU (l.ev r)) (idxOf (i.ev r)) f m (y.ev r) K:=nr rfl
theorem aug(f:FuncId)(args:List D)(b:Bool):PO.wp P r (.call f args b) K=acp P f (D.a8 r args) b K:=nr rfl
theorem aqK(nl:Bool)(e s:Nat)(f:FuncId)(args:List D):PO.wp P r (.eW nl e s f args) K=aim P nl e s f (D.a8 r args) K:=nr rfl
theorem aqI(f:FuncId)(g:hD)(args:List D):PO.wp P r (.bk f g args) K=lB P f g (D.a8 r args) K:=nr rfl
theorem aqL(g:D)(args:List D)(b:Bool):PO.wp P r (.ew g args b) K=qH P (g.ev r) (D.a8 r args) b K:=nr rfl
theorem axw(n:Option Nat)(a:D):PO.wp P r (.ldp n a) K=auH n (a.ev r) K:=nr rfl
theorem axz(off:Nat)(a:D):PO.wp P r (.fap off a) K=avV off (a.ev r) K:=nr rfl
theorem apa(f:FuncId)(aX args:List AV)(b:Bool):qH P (.fn f aX) args b K=acp P f (args++aX) b K:=nr rfl
variable (k k':IntKind) (a b:Int) (s u:ByteArray)
theorem ax8(n:Option Nat)(y:AV)(f:Nat):auH n (.cj y f) K=(f+n.getD 1<=y.cells.length/\fq K (dI n y f)):=nr rfl
theorem aya(off:Nat)(y:AV)(f:Nat):avV off (.cj y f) K=fq K (.cj y (f+off)):=nr rfl
theorem atH(neg:Bool):puT (.u5 neg) [.aw] K=fq K (.v (.bool (neg !=true))):=nr rfl
theorem aqa(neg:Bool)(x:AV)(xs:List AV):puT (.u5 neg) [.sl (x::xs)] K=fq K (.v (.bool (neg !=false))):=nr rfl
theorem atI(neg:Bool):puT (.o0 neg) [.v (.pointer none)] K=fq K (.v (.bool (neg !=true))):=nr rfl
theorem atG(neg:Bool)(x:AV)(f:Nat):puT (.o0 neg) [.cj x f] K=fq K (.v (.bool (neg !=false))):=nr rfl
theorem atJ(neg:Bool):puT (.u6 neg) [.v .nilIface] K=fq K (.v (.bool (neg !=true))):=nr rfl
theorem atK(neg:Bool):puT (.u6 neg) [.v7] K=fq K (.v (.bool (neg !=false))):=nr rfl
theorem axc:puT .min [.v (.int k a),.v (.int k b)] K=fq K (.v (.int k (if b<a then b else a))):=by simp[puT,puK,xv,fq]
theorem axd:puT .max [.v (.int k a),.v (.int k b)] K=fq K (.v (.int k (if a<b then b else a))):=by simp[puT,puK,xv,fq]
theorem axe(s:ByteArray):puT .b2s [.sl (dr s)] K=fq K (.v (.string s)):=by
 have h:∀l:List UInt8,u8s (l.map λ c=>AV.v (.int .u8 c.toNat))=some l:=by
  intro l
  induction l with
  |nil=>rfl
  |cons c l ih=>simp[u8s,ih]
 simp only[puT,puK,xv,dr,h,Option.map_some,fq]
theorem atM:puT .b2s [.aw] K=fq K (.v (.string ⟨#[]⟩)):=nr rfl
theorem awr(m bytes:Nat)(xs:List AV)(s:ByteArray):apA m bytes xs (.v (.string s)) K=(m=1/\(xs.length+s.size)*bytes<=140737488355328/\xs.length+s.size<=9223372036854775807/\fq K (.sl (xs++dr s))):=nr rfl
theorem axY:(true !=true)=false:=nr rfl
theorem axZ:(true !=false)=true:=nr rfl
theorem axq:(false !=true)=true:=nr rfl
theorem axr:(false !=false)=false:=nr rfl
theorem azZ:fC .add (.v (.int k a)) (.v (.int k b)) K=fq K (.v (.int k (k.wrap (a+b)))):=by rw[fC,agx];rfl
theorem azL:fC .sub (.v (.int k a)) (.v (.int k b)) K=fq K (.v (.int k (k.wrap (a- b)))):=by rw[fC,agk];rfl
theorem azR:fC .mul (.v (.int k a)) (.v (.int k b)) K=fq K (.v (.int k (k.wrap (a*b)))):=by rw[fC,agq];rfl
theorem azY:fC .and (.v (.int k a)) (.v (.int k b)) K=fq K (.v (.int k (k.wrap (BitVec.ofInt k.bits a&&&BitVec.ofInt k.bits b).toNat))):=by rw[fC,agw];rfl
theorem aC7:fC .or (.v (.int k a)) (.v (.int k b)) K=fq K (.v (.int k (k.wrap (BitVec.ofInt k.bits a|||BitVec.ofInt k.bits b).toNat))):=by rw[fC,ajK];rfl
theorem azK:fC .xor (.v (.int k a)) (.v (.int k b)) K=fq K (.v (.int k (k.wrap (BitVec.ofInt k.bits a^^^BitVec.ofInt k.bits b).toNat))):=by rw[fC,agj];rfl
theorem azP:fC .quo (.v (.int k a)) (.v (.int k b)) K=(b≠0/\fq K (.v (.int k (k.wrap (a.tdiv b))))):=by rw[fC,ago];rfl
theorem azO:fC .rem (.v (.int k a)) (.v (.int k b)) K=(b≠0/\fq K (.v (.int k (a.tmod b)))):=by rw[fC,agn];rfl
theorem atk:fC .eql (.v (.int k a)) (.v (.int k b)) K=fq K (.v (.bool (decide (a=b)))):=by rw[fC,agv];rfl
theorem azQ:fC .neq (.v (.int k a)) (.v (.int k b)) K=fq K (.v (.bool (!decide (a=b)))):=by rw[fC,agp];rfl
theorem azS:fC .lss (.v (.int k a)) (.v (.int k b)) K=fq K (.v (.bool (decide (a<b)))):=by rw[fC,agr];rfl
theorem azT:fC .leq (.v (.int k a)) (.v (.int k b)) K=fq K (.v (.bool (decide (a<=b)))):=by rw[fC,ags];rfl
theorem azU:fC .gtr (.v (.int k a)) (.v (.int k b)) K=fq K (.v (.bool (decide (b<a)))):=by rw[fC,agt];rfl
theorem azV:fC .geq (.v (.int k a)) (.v (.int k b)) K=fq K (.v (.bool (decide (b<=a)))):=by rw[fC,agu];rfl
theorem azN:fC .shl (.v (.int k a)) (.v (.int k' b)) K=(0<=b/\fq K (.v (.int k (k.wrap (a*2^(min b.toNat k.bits)))))):=by rw[fC,agm];rfl
theorem azM:fC .shr (.v (.int k a)) (.v (.int k' b)) K=(0<=b/\fq K (.v (.int k (a.fdiv (2^(min b.toNat k.bits)))))):=by rw[fC,agl];rfl
theorem awk:fC .add (.v (.string s)) (.v (.string u)) K=(((s.size+u.size:Nat):Int)<=9223372036854775807/\fq K (.v (.string (s++u)))):=by rw[fC,acu];rfl
theorem aps:fC .eql (.v (.string s)) (.v (.string u)) K=fq K (.v (.bool (decide (s=u)))):=by rw[fC,acs];rfl
theorem awj:fC .neq (.v (.string s)) (.v (.string u)) K=fq K (.v (.bool (!decide (s=u)))):=by rw[fC,acr];rfl
theorem azX(x y:Bool):alN false (.v (.bool x)) (.v (.bool y)) K=fq K (.v (.bool (x==y))):=by simp[alN,agz,fq]
theorem azW(x y:Bool):alN true (.v (.bool x)) (.v (.bool y)) K=fq K (.v (.bool (!(x==y)))):=by simp[alN,agz,fq]
theorem axa(x:Bool):unT .not (.v (.bool x)) K=fq K (.v (.bool (!x))):=by rw[unT,aiP];rfl
theorem axb:unT .neg (.v (.int k a)) K=fq K (.v (.int k (k.wrap (-a)))):=by rw[unT,aiQ];rfl
theorem atC:ajH k (.v (.int k' a)) K=fq K (.v (.int k (k.wrap a))):=by rw[ajH,af0];rfl
theorem apc(x y:AV):vM (.v (.bool true)) x y K=fq K x:=by rw[vM,yI];rfl
theorem apd(x y:AV):vM (.v (.bool false)) x y K=fq K y:=by rw[vM,vN];rfl
theorem ape(c x y:Bool):vM (.v (.bool c)) (.v (.bool x)) (.v (.bool y)) K=fq K (.v (.bool (if c=true then x else y))):=by rw[vM,yJ];rfl
theorem ax9(off:Nat)(n:Option Nat)(x:AV):arV off n x K=(x.isAgg=true/\off+n.getD 1<=x.cells.length/\fq K (dI n x off)):=by rw[arV,ajA];rfl
theorem ayk:anW (.v (.string s)) (.v (.int k a)) K=(0<=a/\a<s.size/\fq K (.v (.int .u8 (s.data.toList.getD a.toNat 0).toNat))):=by rw[anW,afv];rfl
theorem axh(lo hi:Option AV):aqh (.v (.string s)) lo hi K=bnd 0 lo λ l=>bnd s.size hi λ h=>0<=l/\l<=h/\h<=s.size/\fq K (.v (.string (s.extract l.toNat h.toNat))):=by rw[aqh,yo];rfl
theorem axi(m:Nat)(xs:List AV)(lo hi:Option AV):aqi m (.sl xs) lo hi K=bnd 0 lo λ l=>bnd xs.length hi λ h=>0<=l/\l<=h/\h<=xs.length/\(∀y∈xs,y.cells.length=m)/\fq K (.sl ((xs.take h.toNat).drop l.toNat)):=by rw[aqi,yp];rfl
theorem auu:aji (.v (.string s)) K=fq K (.v (.int .i64 s.size)):=by rw[aji,afh];rfl
theorem aut:abT .aw K=fq K (.v (.int .i64 0)):=by rw[abT,sK];rfl
theorem ax1(xs:List AV):abT (.sl xs) K=fq K (.v (.int .i64 xs.length)):=by rw[abT,zb];rfl
theorem aDa(m bytes:Nat)(xs ys:List AV):aiF m bytes xs (.sl ys) K=((∀y∈ys,y.cells.length=m)/\(xs.length+ys.length)*bytes<=140737488355328/\xs.length+ys.length<=9223372036854775807/\fq K (.sl (xs++ys))):=nr rfl
theorem awq(m bytes:Nat)(xs:List AV):aiF m bytes xs .aw K=((∀y∈([]:List AV),y.cells.length=m)/\(xs.length+([]:List AV).length)*bytes<=140737488355328/\xs.length+([]:List AV).length<=9223372036854775807/\fq K (.sl (xs++ []))):=nr rfl
theorem azs(xs:List AV)(i f:Nat)(n:Option Nat):avJ xs i f n K=(i<xs.length/\f+n.getD 1<=(xs.getD i .top).cells.length/\fq K (dI n (xs.getD i .top) f)):=nr rfl
theorem azr(xs:List AV)(i f m:Nat)(y:AV):aqk xs i f m y K=(i<xs.length/\y.cells.length=m/\y.storable=true/\f+m<=(xs.getD i .top).cells.length/\fq K (.sl (xs.set i (rH (xs.getD i .top) f y)))):=nr rfl
theorem axo(bytes:Nat)(z:AV):aeT bytes z (.v (.int .i64 a)) (.v (.int .i64 b)) K=(0<=a/\a<=b/\bytes*b<=281474976710656/\b<=9223372036854775807/\fq K (.sl (List.replicate a.toNat z))):=nr rfl
theorem ahc(z:List AV):eX z []=z:=nr rfl
theorem aeJ(z:List AV)(i:Nat)(y:AV)(ps:List (Nat×AV)):eX z ((i,y)::ps)=eX (z.set i y) ps:=nr rfl
end
section
variable (r:List AV) (K:Prop)
theorem arN(a:D)(m:Nat):nU.wp r (.cells a m) K=((a.ev r).isAgg=true/\(a.ev r).cells.length=m/\(a.ev r).storable=true/\K):=nr rfl
theorem atb(a:D):nU.wp r (.one a) K=((a.ev r).cells.length=1/\(a.ev r).cg=true/\K):=nr rfl
theorem aCC(a:D)(j:Nat):nU.wp r (.lt a j) K=(j<(a.ev r).cells.length/\K):=nr rfl
theorem azh(a:D)(j:Nat):nU.wp r (.a9 a j) K=ajV (a.ev r) j K:=nr rfl
theorem azi(l i:D):nU.wp r (.idx l i) K=ah2 (aU (l.ev r)) (i.ev r) K:=nr rfl
theorem avw(a:D):nU.wp r (.anS a) K=zl (a.ev r) K:=nr rfl
theorem avv(vs:List AV)(j:Nat):ajV (.a9 vs) j K=(j<vs.length/\K):=nr rfl
theorem avx(xs:List AV)(k:IntKind)(i:Int):ah2 xs (.v (.int k i)) K=(0<=i/\i<xs.length/\K):=nr rfl
theorem azj(a b:D):nU.wp r (.eql a b) K=((aU (a.ev r)).length=(aU (b.ev r)).length/\K):=nr rfl
theorem aCA:nU.wp r .no K=False:=nr rfl
theorem aCB(l:D):nU.wp r (.ne l) K=(aU (l.ev r)≠[]/\K):=nr rfl
theorem aoy(x:AV)(f:Nat):zl (.cj x f) K=K:=nr rfl
theorem arM(f:FuncId)(cs:List AV):zl (.fn f cs) K=K:=nr rfl
end
theorem aqp(x:AV)(vs:List AV):uM (λ a=>a=x) vs=(br vs=x):=nr rfl
theorem aqH(x:AV):br [x]=x:=nr rfl
theorem aqG(x y:AV)(l:List AV):br (x::y::l)= .a9 (x::y::l):=nr rfl
def W00:=And.intro @aw0 (And.intro @aw2 (And.intro @asw (And.intro @aw1 (And.intro @ame (And.intro @atA (And.intro @awZ (And.intro @atB (And.intro @aw3 (And.intro @ap1 (And.intro @atz (And.intro @ap2 (And.intro @e_x (And.intro @e_c (And.intro @av0 (And.intro @azB (And.intro @aCZ (And.intro @azC (And.intro @aC1 (@aC0)))))))))))))))))))
def W01:=And.intro @azA (And.intro @avZ (And.intro @akM (And.intro @akY (And.intro @akZ (And.intro @aqc (And.intro @aoV (And.intro @aoU (And.intro @axt (And.intro @aua (And.intro @axA (And.intro @axB (And.intro @aA7 (And.intro @auf (And.intro @aue (And.intro @axy (And.intro @aqJ (And.intro @aud (And.intro @am1 (@am2)))))))))))))))))))
def W02:=And.intro @aub (And.intro @auc (And.intro @asE (And.intro @axv (And.intro @axC (And.intro @axx (And.intro @axu (And.intro @aug (And.intro @aqL (And.intro @axw (And.intro @axz (And.intro @ax8 (And.intro @aya (And.intro @apa (And.intro @azZ (And.intro @azL (And.intro @azR (And.intro @azY (And.intro @aC7 (@azK)))))))))))))))))))
def W03:=And.intro @azP (And.intro @azO (And.intro @atk (And.intro @azQ (And.intro @azS (And.intro @azT (And.intro @azU (And.intro @azV (And.intro @azN (And.intro @azM (And.intro @awk (And.intro @aps (And.intro @awj (And.intro @azX (And.intro @azW (And.intro @axa (And.intro @axb (And.intro @atC (And.intro @apc (@apd)))))))))))))))))))
def W04:=And.intro @ape (And.intro @ax9 (And.intro @ax1 (And.intro @axh (And.intro @axi (And.intro @auu (And.intro @aut (And.intro @ax1 (And.intro @aDa (And.intro @awq (And.intro @azs (And.intro @azr (And.intro @axo (And.intro @ahc (And.intro @aeJ (And.intro @arN (And.intro @atb (And.intro @aCC (And.intro @azh (@azi)))))))))))))))))))
def W05:=And.intro @avw (And.intro @avv (And.intro @avx (And.intro @arM (And.intro @aoy (And.intro @aCB (And.intro @aqp (And.intro @aqH (And.intro @aqG (And.intro @agh (And.intro @agf (And.intro @gw (And.intro @aco (And.intro @an (And.intro @aak (And.intro @af6 (And.intro @af7 (And.intro @ab4 (And.intro @oq (@vZ)))))))))))))))))))
def W06:=And.intro @ab2 (And.intro @ab3 (And.intro @te (And.intro @x4 (And.intro @rJ (And.intro @vH (And.intro @vI (And.intro @List.map_cons.{0,0} (And.intro @List.map_nil.{0,0} (And.intro @Option.map_some.{0,0} (And.intro @Option.map_none.{0,0} (And.intro @List.getD_cons_zero.{0} (And.intro @List.getD_cons_succ.{0} (And.intro @List.length_nil.{0} (And.intro @List.length_cons.{0} (And.intro @List.length_append.{0} (And.intro @List.length_set.{0} (And.intro @List.length_map.{0,0} (And.intro @List.length_replicate.{0} (@List.nil_append.{0})))))))))))))))))))
def W07:=And.intro @List.cons_append.{0} (And.intro @List.append_nil.{0} (And.intro @List.set_cons_zero.{0} (And.intro @List.set_cons_succ.{0} (And.intro @List.replicate_succ.{0} (And.intro @List.replicate_zero.{0} (And.intro @List.mem_cons.{0} (And.intro @List.not_mem_nil.{0} (And.intro @or_false (And.intro @forall_eq.{0} (And.intro @false_implies (And.intro @implies_true.{0} (And.intro @List.all_cons.{0} (And.intro @List.all_nil.{0} (And.intro @Bool.and_true (And.intro @Bool.true_and (And.intro @Bool.or_true (And.intro @Bool.true_or (And.intro @Bool.not_true (@Bool.not_false)))))))))))))))))))
def W08:=And.intro @Bool.not_not (And.intro @decide_true (And.intro @decide_false (And.intro @Option.getD_none.{0} (And.intro @Option.getD_some.{0} (And.intro @true_and (And.intro @and_true (And.intro @Nat.zero_add (And.intro @Nat.add_zero (And.intro @Nat.lt_add_one (And.intro @Nat.zero_lt_succ (And.intro @Nat.le_refl (And.intro @if_true.{1} (And.intro @if_false.{1} (And.intro @ne_eq.{1} (And.intro @not_false_eq_true (And.intro @Int.toNat_natCast (And.intro @Int.natCast_nonneg (And.intro @eq_self.{1} (@beq_self_eq_true.{0})))))))))))))))))))
def W09:=And.intro @aA8 (And.intro @auh (And.intro @atH (And.intro @aqa (And.intro @atI (And.intro @atJ (And.intro @atK (And.intro @atG (And.intro @axc (And.intro @axd (And.intro @axe (And.intro @atM (And.intro @awr (And.intro @axY (And.intro @axZ (And.intro @axq (And.intro @axr (And.intro @aCA (And.intro @aqK (And.intro @aqI @azj)))))))))))))))))))
attribute [irreducible] puT apA fq kT adq agi rQ uM anP fC unT ajH vM arV anW aqh aqi aji abT auH avV alN
def WA:=And.intro W00 (And.intro W01 (And.intro W02 (And.intro W03 (And.intro W04 (And.intro W05 (And.intro W06 (And.intro W07 (And.intro W08 W09))))))))
end Go.Ab
namespace Go.Ab
section
variable {P:Program}
theorem ad7{d:Int}{x:Option AV}{M:Int->Prop}(h:bnd d x M):∃i,M i/\∀M':Int->Prop,M' i->bnd d x M':=by
 unfold bnd at h⊢
 split at h
 ·exact⟨_,h,λ _ h=>h⟩
 ·exact⟨_,h,λ _ h=>h⟩
 ·exact h.elim
theorem PO.ama{r:List AV}{o:PO}{K:AV->Prop}(h:o.wp P r K):∃v,K v/\∀K':AV->Prop,K' v->o.wp P r K':=by
 cases o<;>simp only[PO.wp]at h⊢
 case val=>exact⟨_,h,λ _ h=>h⟩
 case pick c a b=>
  generalize c.ev r=A at h⊢;unfold pw at h⊢
  split at h
  ·exact⟨_,h,λ _ h=>h⟩
  ·exact h.elim
 case bin op a b=>
  generalize a.ev r=A at h⊢;generalize b.ev r=B at h⊢;unfold eT at h⊢
  split at h
  ·split at h
   ·rename_i hz;simp only[];exact⟨_,h,λ _ h=>h⟩
   ·exact h.elim
  ·exact h.elim
 case beq neg a b=>
  generalize a.ev r=A at h⊢;generalize b.ev r=B at h⊢;unfold agz at h⊢
  split at h
  ·exact⟨_,h,λ _ h=>h⟩
  ·exact h.elim
 case un op a=>
  generalize a.ev r=A at h⊢;unfold unK at h⊢
  split at h
  ·split at h
   ·rename_i hz;simp only[];exact⟨_,h,λ _ h=>h⟩
   ·exact h.elim
  ·exact h.elim
 case conv k a=>
  generalize a.ev r=A at h⊢;unfold wj at h⊢
  split at h
  ·exact⟨_,h,λ _ h=>h⟩
  ·exact h.elim
 case elem s l i=>
  generalize l.ev r=A at h⊢;generalize i.ev r=B at h⊢;unfold lQ at h⊢
  split at h
  ·exact⟨_,h.2.2.2,λ _ h'=>⟨h.1,h.2.1,h.2.2.1,h'⟩⟩
  ·exact h.elim
 case zZ=>exact⟨_,h.2.2,λ _ h'=>⟨h.1,h.2.1,h'⟩⟩
 case vU=>exact⟨_,h.2,λ _ h'=>⟨h.1,h'⟩⟩
 case lF a i=>
  generalize a.ev r=A at h⊢;generalize i.ev r=B at h⊢;unfold v8 at h⊢
  split at h
  ·exact⟨_,h.2.2,λ _ h'=>⟨h.1,h.2.1,h'⟩⟩
  ·exact h.elim
 case fI a lo hi=>
  generalize a.ev r=A at h⊢;unfold lV at h⊢
  split at h
  ·obtain⟨l,h1,h2⟩:=ad7 h;obtain⟨u,h3,h4⟩:=ad7 h1;exact⟨_,h3.2.2.2,λ _ h'=>h2 _ (h4 _ ⟨h3.1,h3.2.1,h3.2.2.1,h'⟩)⟩
  ·exact h.elim
 case cX s a lo hi=>
  generalize a.ev r=A at h⊢;unfold lW at h⊢
  split at h
  ·obtain⟨l,h1,h2⟩:=ad7 h;obtain⟨u,h3,h4⟩:=ad7 h1;exact⟨_,h3.2.2.2.2,λ _ h'=>h2 _ (h4 _ ⟨h3.1,h3.2.1,h3.2.2.1,h3.2.2.2.1,h'⟩)⟩
  ·exact h.elim
 case lg a=>
  generalize a.ev r=A at h⊢;unfold vV at h⊢
  split at h
  ·exact⟨_,h,λ _ h=>h⟩
  ·exact h.elim
 case bm a=>
  generalize a.ev r=A at h⊢;unfold mM at h⊢
  split at h
  ·exact⟨_,h,λ _ h=>h⟩
  ·exact⟨_,h,λ _ h=>h⟩
  ·simp[uR]at h
  ·exact h.elim
 case mL=>exact⟨_,h,λ _ h=>h⟩
 case rep bytes z n c=>
  generalize n.ev r=A at h⊢;generalize c.ev r=B at h⊢;unfold aeT at h⊢
  split at h
  ·exact⟨_,h.2.2.2.2,λ _ h'=>⟨h.1,h.2.1,h.2.2.1,h.2.2.2.1,h'⟩⟩
  ·exact h.elim
 case app s bytes l y=>
  generalize y.ev r=A at h⊢;unfold aiF k9 at h⊢
  split at h
  ·exact⟨_,h.2.2.2,λ _ h'=>⟨h.1,h.2.1,h.2.2.1,h'⟩⟩
  ·exact⟨_,h.2.2.2,λ _ h'=>⟨h.1,h.2.1,h.2.2.1,h'⟩⟩
  ·simp[uR]at h
  ·exact h.elim
 case get=>exact⟨_,h.2.2,λ _ h'=>⟨h.1,h.2.1,h'⟩⟩
 case set=>exact⟨_,h.2.2.2.2,λ _ h'=>⟨h.1,h.2.1,h.2.2.1,h.2.2.2.1,h'⟩⟩
 case call=>obtain⟨res,h1,h2,h3,h4⟩:=h;exact⟨res,h4,λ _ h'=>⟨res,h1,h2,h3,h'⟩⟩
 case eW=>obtain⟨xs,h1,h2,h3⟩:=h;exact⟨_,h3,λ _ h'=>⟨xs,h1,h2,h'⟩⟩
 case bk=>obtain⟨os,h1,h2,h3,h4⟩:=h;exact⟨_,h4,λ _ h'=>⟨os,h1,h2,h3,h'⟩⟩
 case ew g args flat=>
  generalize g.ev r=A at h⊢;unfold qH at h⊢
  split at h
  ·obtain⟨res,h1,h2,h3,h4⟩:=h;exact⟨res,h4,λ _ h'=>⟨res,h1,h2,h3,h'⟩⟩
  ·exact h.elim
 case ldp n a=>
  generalize a.ev r=A at h⊢;unfold akN at h⊢
  split at h
  ·exact⟨_,h.2,λ _ h'=>⟨h.1,h'⟩⟩
  ·exact h.elim
 case fap off a=>
  generalize a.ev r=A at h⊢;unfold alm at h⊢
  split at h
  ·exact⟨_,h,λ _ h=>h⟩
  ·exact h.elim
 case pu o ds=>
  cases hz:xv o (D.a8 r ds)with
  |some v=>simp only[puK,hz]at h⊢;exact⟨_,h,λ _ h=>h⟩
  |none=>simp only[puK,hz]at h
 case kN s bytes l y=>
  generalize y.ev r=A at h⊢;unfold aap at h⊢
  split at h
  ·exact⟨_,h.2.2.2,λ _ h'=>⟨h.1,h.2.1,h.2.2.1,h'⟩⟩
  ·exact h.elim
theorem nU.ama{r:List AV}{c:nU}{K:Prop}(h:c.wp r K):K/\∀K':Prop,K'->c.wp r K':=by
 cases c<;>simp only[nU.wp]at h⊢
 case cells=>exact⟨h.2.2.2,λ _ h'=>⟨h.1,h.2.1,h.2.2.1,h'⟩⟩
 case one=>exact⟨h.2.2,λ _ h'=>⟨h.1,h.2.1,h'⟩⟩
 case lt=>exact⟨h.2,λ _ h'=>⟨h.1,h'⟩⟩
 case a9 a j=>
  generalize a.ev r=A at h⊢;unfold ajV at h⊢
  split at h
  ·exact⟨h.2,λ _ h'=>⟨h.1,h'⟩⟩
  ·exact h.elim
 case idx l i=>
  generalize i.ev r=A at h⊢;unfold ah2 at h⊢
  split at h
  ·exact⟨h.2.2,λ _ h'=>⟨h.1,h.2.1,h'⟩⟩
  ·exact h.elim
 case anS a=>
  generalize a.ev r=A at h⊢;unfold zl at h⊢
  split at h
  ·exact⟨h,λ _ h'=>h'⟩
  ·exact⟨h,λ _ h'=>h'⟩
  ·exact h.elim
 case ne=>exact⟨h.2,λ _ h'=>⟨h.1,h'⟩⟩
 case eql=>exact⟨h.2,λ _ h'=>⟨h.1,h'⟩⟩
abbrev LF:AX->SS->List AV->Prop:=λ _ _ _=>False
def Out(P:Program)(R:AV->Prop)(t:T)(r:List AV)(S:List (List AV->Prop)):Prop:=
 (∃a,R a/\∀(R':AV->Prop) (S':List (List AV->Prop)),S'.length=S.length->R' a->bD P LF R' t r S')∨
 (∃(j:Nat) (vs:List AV) (J:List AV->Prop),S[j]? =some J/\J vs/\∀(R':AV->Prop) (S':List (List AV->Prop)) (J':List AV->Prop),S'.length=S.length->S'[j]? =some J'->J' vs->bD P LF R' t r S')∨
 (∀(R':AV->Prop) (S':List (List AV->Prop)),S'.length=S.length->bD P LF R' t r S')
theorem anu{R:AV->Prop}{r:List AV}{b:T}{k:Nat}{S:List (List AV->Prop)}{J:Nat->List AV->Prop}
  (hb:∀n vs,J n vs->vs.length=k->Out P R b (r++vs) ((λ nV=>∃m,m<n/\J m nV)::S)):
  ∀(n:Nat) (vs:List AV),J n vs->(vs.length=k->
   ((∃a,R a/\∀(R':AV->Prop) (S':List (List AV->Prop)),S'.length=S.length->R' a->∃(J':Nat->List AV->Prop) (n':Nat),J' n' vs/\∀n vs,J' n vs->vs.length=k->bD P LF R' b (r++vs) ((λ nV=>∃m,m<n/\J' m nV)::S'))∨
    (∃(j:Nat) (ws:List AV) (M:List AV->Prop),S[j]? =some M/\M ws/\∀(R':AV->Prop) (S':List (List AV->Prop)) (M':List AV->Prop),S'.length=S.length->S'[j]? =some M'->M' ws->∃(J':Nat->List AV->Prop) (n':Nat),J' n' vs/\∀n vs,J' n vs->vs.length=k->bD P LF R' b (r++vs) ((λ nV=>∃m,m<n/\J' m nV)::S'))∨
    (∀(R':AV->Prop) (S':List (List AV->Prop)),S'.length=S.length->∃(J':Nat->List AV->Prop) (n':Nat),J' n' vs/\∀n vs,J' n vs->vs.length=k->bD P LF R' b (r++vs) ((λ nV=>∃m,m<n/\J' m nV)::S')))):=by
 intro n
 induction n using Nat.strongRecOn with
 |_ n ih=>
  intro vs hJ hvk
  have more:∀{nV:List AV} {R':AV->Prop} {S':List (List AV->Prop)},(∃(J':Nat->List AV->Prop) (n':Nat),J' n' nV/\∀n vs,J' n vs->vs.length=k->bD P LF R' b (r++vs) ((λ nV=>∃m,m<n/\J' m nV)::S'))->
    (∀J2:List AV->Prop,J2 nV->bD P LF R' b (r++vs) (J2::S'))->
    ∃(J':Nat->List AV->Prop) (n':Nat),J' n' vs/\∀n vs,J' n vs->vs.length=k->bD P LF R' b (r++vs) ((λ nV=>∃m,m<n/\J' m nV)::S'):=by
   rintro nV R' S' ⟨J',n',h1,h2⟩ h3;refine⟨λ m w=>(m<=n'/\J' m w)∨(m=n'+1/\w=vs),n'+1,.inr ⟨rfl,rfl⟩,λ m w hm hw=> ?_⟩;rcases hm with⟨hm1,hm2⟩|⟨rfl,rfl⟩
   ·have:=h2 m w hm2 hw
    have e:(λ nV=>∃m1,m1<m/\((m1<=n'/\J' m1 nV)∨(m1=n'+1/\nV=vs)))=λ nV=>∃m1,m1<m/\J' m1 nV:=by
     funext nV
     apply propext;constructor
     ·rintro⟨m1,h,h'|h'⟩
      ·exact⟨m1,h,h'.2⟩
      ·omega
     ·rintro⟨m1,h,h'⟩;exact⟨m1,h,.inl ⟨by omega,h'⟩⟩
    rw[e];exact this
   ·exact h3 _ ⟨n',by omega,.inl ⟨Nat.le_refl _,h1⟩⟩
  have here:∀{R':AV->Prop} {S':List (List AV->Prop)},(∀J2:List AV->Prop,bD P LF R' b (r++vs) (J2::S'))->
    ∃(J':Nat->List AV->Prop) (n':Nat),J' n' vs/\∀n vs,J' n vs->vs.length=k->bD P LF R' b (r++vs) ((λ nV=>∃m,m<n/\J' m nV)::S'):=by
   intro R' S' h;refine⟨λ m w=>m=0/\w=vs,0,⟨rfl,rfl⟩,λ m w hm hw=> ?_⟩;obtain⟨rfl,rfl⟩:=hm;exact h _
  rcases hb n vs hJ hvk with⟨a,ha,hw⟩|⟨j,ws,M,hM,hws,hw⟩|hw
  ·exact .inl ⟨a,ha,λ R' S' hl hr=>here λ J2=>hw R' (J2::S') (by simp[hl]) hr⟩
  ·cases j with
   |zero=>
    simp only[List.getElem?_cons_zero,Option.some.injEq]at hM;subst hM;obtain⟨m,hm,hJm⟩:=hws;by_cases xc:ws.length=k
    ·rcases ih m hm ws hJm xc with⟨a,ha,h1⟩|⟨j,us,M,hM,hus,h1⟩|h1
     ·exact .inl ⟨a,ha,λ R' S' hl hr=>more (h1 R' S' hl hr) λ J2 h2=>hw R' (J2::S') J2 (by simp[hl]) rfl h2⟩
     ·exact .inr (.inl ⟨j,us,M,hM,hus,λ R' S' M' hl hm hr=>more (h1 R' S' M' hl hm hr) λ J2 h2=>hw R' (J2::S') J2 (by simp[hl]) rfl h2⟩)
     ·exact .inr (.inr λ R' S' hl=>more (h1 R' S' hl) λ J2 h2=>hw R' (J2::S') J2 (by simp[hl]) rfl h2)
    ·refine .inr (.inr λ R' S' hl=>more (nV:=ws) ⟨λ m w=>m=0/\w=ws,0,⟨rfl,rfl⟩,λ m w hm hw'=> ?_⟩ λ J2 h2=>hw R' (J2::S') J2 (by simp[hl]) rfl h2);rw[hm.2]at hw';exact(xc hw').elim
   |succ j=>
    simp only[List.getElem?_cons_succ]at hM;exact .inr (.inl ⟨j,ws,M,hM,hws,λ R' S' M' hl hm hr=>here λ J2=>hw R' (J2::S') M' (by simp[hl]) (by simpa using hm) hr⟩)
  ·exact .inr (.inr λ R' S' hl=>here λ J2=>hw R' (J2::S') (by simp[hl]))
theorem lT{R:AV->Prop}:∀(t:T) (r:List AV) (S:List (List AV->Prop)),bD P LF R t r S->Out P R t r S
 | .leaf x s,r,S,h=>h.elim
 | .ret ds,r,S,h=> .inl ⟨_,h,λ R' S' _ hr=>hr⟩
 | .jump vs,r,S,h=>by
   cases S with
   |nil=>exact h.elim
   |cons J S=>
    refine .inr (.inl ⟨0,_,J,rfl,h,λ R' S' J' hl hj hv=> ?_⟩);cases S' with
    |nil=>simp at hj
    |cons J2 S'=>simp only[List.getElem?_cons_zero,Option.some.injEq]at hj;subst hj;exact hv
 | .dq t,r,S,h=>by
   cases S with
   |nil=>exact h.elim
   |cons J S=>
    have key:∀{S':List (List AV->Prop)},S'.length=(J::S).length->∃J2 S2,S'=J2::S2/\S2.length=S.length:=by
     intro S' hl;cases S' with
     |nil=>simp at hl
     |cons J2 S2=>exact⟨J2,S2,rfl,by simpa using hl⟩
    rcases lT t r S h with⟨a,ha,hw⟩|⟨j,vs,M,hM,nd,hw⟩|hw
    ·refine .inl ⟨a,ha,λ R' S' hl hr=> ?_⟩;obtain⟨J2,S2,rfl,h2⟩:=key hl;exact hw R' S2 h2 hr
    ·refine .inr (.inl ⟨j+1,vs,M,by simpa using hM,nd,λ R' S' J' hl hj hv=> ?_⟩);obtain⟨J2,S2,rfl,h2⟩:=key hl;exact hw R' S2 J' h2 (by simpa using hj) hv
    ·refine .inr (.inr λ R' S' hl=> ?_);obtain⟨J2,S2,rfl,h2⟩:=key hl;exact hw R' S2 h2
 | .op o t,r,S,h=>by
   obtain⟨v,h1,h2⟩:=PO.ama h;rcases lT t (r++ [v]) S h1 with⟨a,ha,hw⟩|⟨j,vs,M,hM,nd,hw⟩|hw
   ·exact .inl ⟨a,ha,λ R' S' hl hr=>h2 _ (hw R' S' hl hr)⟩
   ·exact .inr (.inl ⟨j,vs,M,hM,nd,λ R' S' J' hl hj hv=>h2 _ (hw R' S' J' hl hj hv)⟩)
   ·exact .inr (.inr λ R' S' hl=>h2 _ (hw R' S' hl))
 | .aL c t,r,S,h=>by
   obtain⟨h1,h2⟩:=nU.ama h;rcases lT t r S h1 with⟨a,ha,hw⟩|⟨j,vs,M,hM,nd,hw⟩|hw
   ·exact .inl ⟨a,ha,λ R' S' hl hr=>h2 _ (hw R' S' hl hr)⟩
   ·exact .inr (.inl ⟨j,vs,M,hM,nd,λ R' S' J' hl hj hv=>h2 _ (hw R' S' J' hl hj hv)⟩)
   ·exact .inr (.inr λ R' S' hl=>h2 _ (hw R' S' hl))
 | .ite c t f,r,S,h=>by
   simp only[bD]at h
   split at h
   ·rename_i b hb;cases b with
    |true=>
     have go:∀{R' S'},bD P LF R' t r S'->bD P LF R' (.ite c t f) r S':=λ hx=>by simp only[bD,hb];exact⟨λ _=>hx,λ h=>(nomatch h)⟩
     rcases lT t r S (h.1 rfl)with⟨a,ha,hw⟩|⟨j,vs,M,hM,nd,hw⟩|hw
     ·exact .inl ⟨a,ha,λ R' S' hl hr=>go (hw R' S' hl hr)⟩
     ·exact .inr (.inl ⟨j,vs,M,hM,nd,λ R' S' J' hl hj hv=>go (hw R' S' J' hl hj hv)⟩)
     ·exact .inr (.inr λ R' S' hl=>go (hw R' S' hl))
    |false=>
     have go:∀{R' S'},bD P LF R' f r S'->bD P LF R' (.ite c t f) r S':=λ hx=>by simp only[bD,hb];exact⟨λ h=>(nomatch h),λ _=>hx⟩
     rcases lT f r S (h.2 rfl)with⟨a,ha,hw⟩|⟨j,vs,M,hM,nd,hw⟩|hw
     ·exact .inl ⟨a,ha,λ R' S' hl hr=>go (hw R' S' hl hr)⟩
     ·exact .inr (.inl ⟨j,vs,M,hM,nd,λ R' S' J' hl hj hv=>go (hw R' S' J' hl hj hv)⟩)
     ·exact .inr (.inr λ R' S' hl=>go (hw R' S' hl))
   ·exact h.elim
 | .bind k a b,r,S,h=>by
   rcases lT a r _ h with⟨x,hx,hw⟩|⟨j,vs,M,hM,nd,hw⟩|hw
   ·exact .inl ⟨x,hx,λ R' S' hl hr=>hw R' (_::S') (by simp[hl]) hr⟩
   ·cases j with
    |zero=>
     simp only[List.getElem?_cons_zero,Option.some.injEq]at hM;subst hM;by_cases hk:vs.length=k
     ·rcases lT b (r++vs) S (nd hk)with⟨x,hx,h1⟩|⟨j,us,M,hM,hus,h1⟩|h1
      ·exact .inl ⟨x,hx,λ R' S' hl hr=>hw R' (_::S') _ (by simp[hl]) rfl λ _=>h1 R' S' hl hr⟩
      ·exact .inr (.inl ⟨j,us,M,hM,hus,λ R' S' J' hl hj hv=>hw R' (_::S') _ (by simp[hl]) rfl λ _=>h1 R' S' J' hl hj hv⟩)
      ·exact .inr (.inr λ R' S' hl=>hw R' (_::S') _ (by simp[hl]) rfl λ _=>h1 R' S' hl)
     ·exact .inr (.inr λ R' S' hl=>hw R' (_::S') _ (by simp[hl]) rfl λ h=>(hk h).elim)
    |succ j=>
     simp only[List.getElem?_cons_succ]at hM;exact .inr (.inl ⟨j,vs,M,hM,nd,λ R' S' J' hl hj hv=>hw R' (_::S') J' (by simp[hl]) (by simpa using hj) hv⟩)
   ·exact .inr (.inr λ R' S' hl=>hw R' (_::S') (by simp[hl]))
 | .loop init b,r,S,h=>by
   obtain⟨J,n,h1,h2⟩:=h;have hb:∀n vs,J n vs->vs.length=init.length->Out P R b (r++vs) ((λ nV=>∃m,m<n/\J m nV)::S):=λ n vs hj hl=>lT b _ _ (h2 n vs hj hl)
   rcases anu hb n _ h1 (by rw[D.aQ,List.length_map])with⟨a,ha,hw⟩|⟨j,vs,M,hM,nd,hw⟩|hw
   ·exact .inl ⟨a,ha,λ R' S' hl hr=>hw R' S' hl hr⟩
   ·exact .inr (.inl ⟨j,vs,M,hM,nd,λ R' S' J' hl hj hv=>hw R' S' J' hl hj hv⟩)
   ·exact .inr (.inr λ R' S' hl=>hw R' S' hl)
theorem aty{R:AV->Prop}{t:T}{r:List AV}(bn:∃a,R a)(h:bD P LF R t r []):∃a,R a/\bD P LF (λ x=>x=a) t r []:=by
 rcases lT t r [] h with⟨a,ha,hw⟩|⟨j,vs,M,hM,nd,hw⟩|hw
 ·exact⟨a,ha,hw _ [] rfl rfl⟩
 ·simp at hM
 ·obtain⟨a,ha⟩:=bn;exact⟨a,ha,hw _ [] rfl⟩
def ex(m:Nat)(Q:List AV->Prop):AV->Prop:=λ a=>∃outs,outs.length=m/\Q outs/\a=br outs
theorem qB{m:Nat}{Q:List AV->Prop}{t:T}{r:List AV}(bn:∃outs,outs.length=m/\Q outs)(h:bD P LF (ex m Q) t r []):∃outs,outs.length=m/\Q outs/\bD P LF (λ a=>a=br outs) t r []:=by
 obtain⟨outs,h1,h2⟩:=bn;obtain⟨a,⟨os,h3,h4,rfl⟩,h5⟩:=aty ⟨_,outs,h1,h2,rfl⟩ h;exact⟨os,h3,h4,h5⟩
end
end Go.Ab
namespace Go.Ab
variable {P:Program}
theorem pY:∀(ops:List aO) {e:Env} {O:List ad} {K:Env->List ad->Prop},wpOps P ops e O K->∃e' O',K e' O'/\∀K':Env->List ad->Prop,K' e' O'->wpOps P ops e O K'
 | [],e,O,K,h=>⟨e,O,h,λ _ h=>h⟩
 |o::r,e,O,K,h=>by
  simp only[wpOps]at h;cases hg:o.guard with
  |none=>
   simp only[hg]at h;obtain⟨x,O1,h1,h2⟩:=wh h;obtain⟨e',O',h3,h4⟩:=pY r h1;exact⟨e',O',h3,λ K' hk=>by simp only[wpOps,hg];exact h2 _ (h4 K' hk)⟩
  |some g=>
   obtain⟨t,want⟩:=g;simp only[hg]at h
   split at h
   ·rename_i b hb;by_cases me:b=want
    ·obtain⟨x,O1,h1,h2⟩:=wh (h.1 me);obtain⟨e',O',h3,h4⟩:=pY r h1
     exact⟨e',O',h3,λ K' hk=>by
      simp only[wpOps,hg,hb];exact⟨λ _=>h2 _ (h4 K' hk),λ hn=>by subst me;cases b<;>simp at hn⟩⟩
    ·have lG:b= !want:=by cases b<;>cases want<;>simp_all
     obtain⟨e',O',h3,h4⟩:=pY r (h.2 lG)
     exact⟨e',O',h3,λ K' hk=>by
      simp only[wpOps,hg,hb];exact⟨λ hn=>(me hn).elim,λ _=>h4 K' hk⟩⟩
   ·rename_i hb;obtain⟨e',O',h3,h4⟩:=pY r h;exact⟨e',O',h3,λ K' hk=>by simp only[wpOps,hg,hb];exact h4 K' hk⟩
   ·exact h.elim
theorem nY:∀(ops:List aO) {acc:List iw} {e:Env} {O:List ad} {K:List iw->Env->List ad->Prop},cC P ops acc e O K->∃iD e' O',K iD e' O'/\∀K':List iw->Env->List ad->Prop,K' iD e' O'->cC P ops acc e O K'
 | [],acc,e,O,K,h=>⟨acc,e,O,h,λ _ h=>h⟩
 |o::r,acc,e,O,K,h=>by
  simp only[cC]at h;cases hg:o.guard with
  |none=>
   simp only[hg]at h;obtain⟨x,O1,h1,h2⟩:=wh h;obtain⟨l,e',O',h3,h4⟩:=nY r h1;exact⟨l,e',O',h3,λ K' hk=>by simp only[cC,hg];exact h2 _ (h4 K' hk)⟩
  |some g=>
   obtain⟨t,want⟩:=g;simp only[hg]at h
   split at h
   ·rename_i b hb;by_cases me:b=want
    ·obtain⟨x,O1,h1,h2⟩:=wh (h.1 me);obtain⟨l,e',O',h3,h4⟩:=nY r h1
     exact⟨l,e',O',h3,λ K' hk=>by
      simp only[cC,hg,hb];exact⟨λ _=>h2 _ (h4 K' hk),λ hn=>by subst me;cases b<;>simp at hn⟩⟩
    ·have lG:b= !want:=by cases b<;>cases want<;>simp_all
     obtain⟨l,e',O',h3,h4⟩:=nY r (h.2 lG)
     exact⟨l,e',O',h3,λ K' hk=>by
      simp only[cC,hg,hb];exact⟨λ hn=>(me hn).elim,λ _=>h4 K' hk⟩⟩
   ·rename_i hb;obtain⟨l,e',O',h3,h4⟩:=nY r h;exact⟨l,e',O',h3,λ K' hk=>by simp only[cC,hg,hb];exact h4 K' hk⟩
   ·exact h.elim
theorem nX{n0:Nat}:∀(ops:List aO) {e:Env} {O:List ad} {K:Env->List ad->Prop},gU P n0 ops e O K->∃e' O',K e' O'/\∀K':Env->List ad->Prop,K' e' O'->gU P n0 ops e O K'
 | [],e,O,K,⟨e',O',h1,h2⟩=>⟨e',O',h2,λ _ h=>⟨e',O',h1,h⟩⟩
 |o::r,e0,O0,K,h=>by
  obtain⟨e,O,hw,h⟩:=h;cases hg:o.guard with
  |none=>
   simp only[hg]at h;obtain⟨x,O1,h1,h2⟩:=wh h;obtain⟨e',O',h3,h4⟩:=nX r h1;exact⟨e',O',h3,λ K' hk=>⟨e,O,hw,by simp only[hg];exact h2 _ (h4 K' hk)⟩⟩
  |some g=>
   obtain⟨t,want⟩:=g;simp only[hg]at h
   split at h
   ·rename_i b hb;by_cases me:b=want
    ·obtain⟨x,O1,h1,h2⟩:=wh (h.1 me);obtain⟨e',O',h3,h4⟩:=nX r h1
     exact⟨e',O',h3,λ K' hk=>⟨e,O,hw,by
      simp only[hg,hb];exact⟨λ _=>h2 _ (h4 K' hk),λ hn=>by subst me;cases b<;>simp at hn⟩⟩⟩
    ·have lG:b= !want:=by cases b<;>cases want<;>simp_all
     obtain⟨e',O',h3,h4⟩:=nX r (h.2 lG)
     exact⟨e',O',h3,λ K' hk=>⟨e,O,hw,by
      simp only[hg,hb];exact⟨λ hn=>(me hn).elim,λ _=>h4 K' hk⟩⟩⟩
   ·rename_i hb;obtain⟨e',O',h3,h4⟩:=nX r h;exact⟨e',O',h3,λ K' hk=>⟨e,O,hw,by simp only[hg,hb];exact h4 K' hk⟩⟩
   ·exact h.elim
theorem oK{n0:Nat}:∀(c:aR) {Q:AX->Env->List ad->Prop} {e:Env} {O:List ad},ky P n0 c Q e O->∃x e' O',Q x e' O'/\∀Q':AX->Env->List ad->Prop,Q' x e' O'->ky P n0 c Q' e O
 | .skip,Q,e,O,h=>⟨_,e,O,h,λ _ h=>h⟩
 | .region none ops,Q,e,O,h=>by
   obtain⟨e',O',h1,h2⟩:=pY ops h;exact⟨_,e',O',h1,λ Q' hq=>h2 _ hq⟩
 | .region (some rows) ops,Q,e,O,h=>by
   obtain⟨al,hs,h⟩:=h;obtain⟨l,e',O',⟨h0,h1⟩,h2⟩:=nY al h;exact⟨_,e',O',h1,λ Q' hq=>⟨al,hs,h2 _ ⟨h0,hq⟩⟩⟩
 | .gZ ops,Q,e,O,h=>by
   obtain⟨e',O',h1,h2⟩:=nX ops h;exact⟨_,e',O',h1,λ Q' hq=>h2 _ hq⟩
 | .seq a b,Q,e,O,h=>by
   obtain⟨x,e1,O1,h1,h2⟩:=oK a h;cases x with
   |normal=>
    obtain⟨x,e',O',h3,h4⟩:=oK b h1;exact⟨x,e',O',h3,λ Q' hq=>h2 _ (h4 Q' hq)⟩
   |exit i=>exact⟨_,e1,O1,h1,λ Q' hq=>h2 _ hq⟩
   |ret=>exact⟨_,e1,O1,h1,λ Q' hq=>h2 _ hq⟩
 | .cond c t f,Q,e,O,h=>by
   simp only[ky]at h
   split at h
   ·rename_i b hb;cases b with
    |true=>
     obtain⟨x,e',O',h1,h2⟩:=oK t (h.1 rfl);exact⟨x,e',O',h1,λ Q' hq=>by simp only[ky,hb];exact⟨λ _=>h2 _ hq,λ hn=>(by cases hn)⟩⟩
    |false=>
     obtain⟨x,e',O',h1,h2⟩:=oK f (h.2 rfl);exact⟨x,e',O',h1,λ Q' hq=>by simp only[ky,hb];exact⟨λ hn=>(by cases hn),λ _=>h2 _ hq⟩⟩
   ·exact h.elim
 | .block id b,Q,e,O,h=>by
   obtain⟨x,e',O',h1,h2⟩:=oK b h;cases x with
   |normal=>exact⟨_,e',O',h1,λ Q' hq=>h2 _ hq⟩
   |ret=>exact⟨_,e',O',h1,λ Q' hq=>h2 _ hq⟩
   |exit i=>
    by_cases hi:i=id
    ·simp only[hi,if_true]at h1;exact⟨_,e',O',h1,λ Q' hq=>h2 _ (by simp only[hi,if_true];exact hq)⟩
    ·simp only[if_neg hi]at h1;exact⟨_,e',O',h1,λ Q' hq=>h2 _ (by simp only[if_neg hi];exact hq)⟩
 | .loop b,Q,e,O,h=>by
   obtain⟨J,n,⟨e0,O0,hw0,hj0⟩,hb⟩:=h
   have key:∀n e O,J n e O->∃x e' O',Q x e' O'/\∀Q':AX->Env->List ad->Prop,Q' x e' O'->ky P n0 (.loop b) Q' e O:=by
    intro n
    induction n using Nat.strongRecOn with
    |_ n ih=>
     intro e O hj;obtain⟨x,e1,O1,h1,h2⟩:=oK b (hb n e O hj)
     have out:∀x,x≠ .normal->Q x e1 O1->(∀Q1:AX->Env->List ad->Prop,Q1 x e1 O1->ky P n0 b Q1 e O)->∃x e' O',Q x e' O'/\∀Q':AX->Env->List ad->Prop,Q' x e' O'->ky P n0 (.loop b) Q' e O:=by
      intro x hx hq h2;refine⟨x,e1,O1,hq,λ Q' hq'=>⟨λ k e' O'=>k=0/\e'=e/\O'=O,0,⟨e,O,.refl _ _ _,rfl,rfl,rfl⟩,?_⟩⟩;rintro k e' O' ⟨rfl,rfl,rfl⟩;refine h2 _ ?_;cases x with
      |normal=>exact(hx rfl).elim
      |exit i=>exact hq'
      |ret=>exact hq'
     cases x with
     |exit i=>exact out (.exit i) (by simp) h1 h2
     |ret=>exact out .ret (by simp) h1 h2
     |normal=>
      obtain⟨m,e2,O2,hm,hw,hj2⟩:=h1;obtain⟨x,e',O',h3,h4⟩:=ih m hm e2 O2 hj2;refine⟨x,e',O',h3,λ Q' hq=> ?_⟩;obtain⟨J2,n2,⟨e3,O3,hw3,hj3⟩,hb2⟩:=h4 Q' hq;refine⟨λ k a b=>J2 k a b∨(k=n2+1/\a=e/\b=O),n2+1,⟨e,O,.refl _ _ _,.inr ⟨rfl,rfl,rfl⟩⟩,?_⟩;rintro k a c (hk|⟨rfl,rfl,rfl⟩)
      ·refine aet b (λ x e O h=> ?_) (hb2 k a c hk);cases x with
       |normal=>
        obtain⟨m,e',O',q1,q2,q3⟩:=h;exact⟨m,e',O',q1,q2,.inl q3⟩
       |exit i=>exact h
       |ret=>exact h
      ·exact h2 _ ⟨n2,e3,O3,Nat.lt_succ_self _,hw.trans hw3,.inl hj3⟩
   obtain⟨x,e',O',h1,h2⟩:=key n e0 O0 hj0;refine⟨x,e',O',h1,λ Q' hq=> ?_⟩;obtain⟨J2,n2,⟨e3,O3,hw3,hj3⟩,hb2⟩:=h2 Q' hq;exact⟨J2,n2,⟨e3,O3,hw0.trans hw3,hj3⟩,hb2⟩
 | .exit id,Q,e,O,h=>⟨_,e,O,h,λ _ h=>h⟩
 | .ret,Q,e,O,h=>⟨_,e,O,h,λ _ h=>h⟩
 | .ar live c,Q,e,O,h=>by
   obtain⟨x,e',O',h1,h2⟩:=oK c h;cases x with
   |normal=>exact⟨_,_,O',h1,λ Q' hq=>h2 _ hq⟩
   |exit i=>exact⟨_,e',O',h1,λ Q' hq=>h2 _ hq⟩
   |ret=>exact⟨_,e',O',h1,λ Q' hq=>h2 _ hq⟩
 | .k8 c,Q,e,O,h=>by
   obtain⟨e1,O1,hw,h⟩:=h;obtain⟨x,e',O',h1,h2⟩:=oK c h;exact⟨x,e',O',h1,λ Q' hq=>⟨e1,O1,hw,h2 _ hq⟩⟩
def aeN(n0:Nat)(rs:List dG)(Q:AV->List ad->Prop)(x:AX)(e:Env)(O:List ad):Prop:=
 match x with
 | .exit _=>False
 |_=>dK e O rs [] λ xs=>∃e' O',WK n0 (λ t=>if t=0 then br xs else .top) O e' O'/\Q (e' 0) O'
theorem avH{e:Env}{O:List ad}(r:dG){K:AV->Prop}(h:r.get e O K):∃x,K x/\∀K':AV->Prop,K' x->r.get e O K':=by
 cases r with
 |tmp t=>exact⟨_,h,λ _ h=>h⟩
 |cell t n=>
  simp only[dG.get]at h
  split at h
  ·rename_i k hk
   split at h
   ·rename_i a b x hx;exact⟨_,h.2,λ K' h'=>by simp only[dG.get,hk,hx];exact⟨h.1,h'⟩⟩
   ·exact h.elim
  ·exact h.elim
theorem ai3{e:Env}{O:List ad}:∀(rs:List dG) (acc:List AV) {K:List AV->Prop},dK e O rs acc K->∃xs,K xs/\∀K':List AV->Prop,K' xs->dK e O rs acc K'
 | [],acc,K,h=>⟨_,h,λ _ h=>h⟩
 |r::rs,acc,K,h=>by
  obtain⟨x,h1,h2⟩:=avH r h;obtain⟨xs,h3,h4⟩:=ai3 rs (x::acc) h1;exact⟨xs,h3,λ K' hk=>h2 _ (h4 K' hk)⟩
theorem jx{f:FuncId}{A:mo}(hf:rj P f A){args:List AV}{O:List ad}{Q:AV->List ad->Prop}(hl:args.length=A.cT)
  (h:ky P O.length A.code (aeN O.length A.res Q) (mZ args) O):∃res O',Q res O'/\fE P f args O res O':=by
 obtain⟨x,e',O',h1,h2⟩:=oK _ h
 have fin:∀x,(dK e' O' A.res [] λ xs=>∃e1 O1,WK O.length (λ t=>if t=0 then br xs else .top) O' e1 O1/\Q (e1 0) O1)->(∀Q':AX->Env->List ad->Prop,Q' x e' O'->ky P O.length A.code Q' (mZ args) O)->x≠ .exit 0->(∀i,x≠ .exit i)->∃res O',Q res O'/\fE P f args O res O':=by
  intro x hr h2 _ hx;obtain⟨xs,⟨e1,O1,hw,hq⟩,h3⟩:=ai3 _ _ hr;refine⟨e1 0,O1,hq,gT hf hl (h2 _ ?_)⟩;cases x with
  |exit i=>exact(hx i rfl).elim
  |normal=>exact h3 _ ⟨e1,hw,rfl⟩
  |ret=>exact h3 _ ⟨e1,hw,rfl⟩
 cases x with
 |exit i=>exact h1.elim
 |normal=>exact fin .normal h1 h2 (by simp) (by simp)
 |ret=>exact fin .ret h1 h2 (by simp) (by simp)
theorem aY{n0 t:Nat}{Q:AV->List ad->Prop}{x:AX}(hx:x= .ret∨x= .normal){e:Env}{O:List ad}(h:Q (e t) O):aeN n0 [.tmp t] Q x e O:=by
 have:dK e O [.tmp t] [] λ xs=>∃e' O',WK n0 (λ t=>if t=0 then br xs else .top) O e' O'/\Q (e' 0) O':=
  ⟨λ s=>if s=0 then e t else .top,O,.refl _ _ _,h⟩
 rcases hx with rfl|rfl<;>exact this
end Go.Ab
