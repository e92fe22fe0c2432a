/- Part of a proof: the functions that the law reaches, walked by the abstract logic of the texts Ab. -/
import Derived.Test.YtfebhekplhjigaaAbM4
import Derived.Test.YtfebhekplhjigaaAbM3
open Option(bind_eq_some_iff)
set_option linter.unusedVariables false
set_option linter.unusedSimpArgs false
set_option linter.defProp false
namespace Go.Ab
def awq(x:Nat):List Nat->List Nat
 | []=>[x]
 |y::l=>if x<y then x::y::l else if x=y then y::l else y::awq x l
def ah2(a b:List Nat):List Nat:=a.foldr awq b
def abK:List aP->List Nat->List Nat
 | [],out=>out
 |o::r,out=>ah2 o.reads (match o.dst with|some t=>(abK r out).filter (· !=t)|none=>abK r out)
def aI.slot:aI->List Nat
 | .t n=>[n]
 | .c _=>[]
def live(ret:List Nat):aU->List Nat->List (Nat×List Nat)->aU×List Nat
 | .skip,out,_=>(.skip,out)
 | .region rows ops,out,_=>(.aL out (.region rows ops),abK ops out)
 | .seq a b,out,ex=>
   let qb:=live ret b out ex
   let qa:=live ret a qb.2 ex
   (.seq qa.1 qb.1,qa.2)
 | .cond c t f,out,ex=>
   let qt:=live ret t out ex
   let qf:=live ret f out ex
   (.aL out (.cond c qt.1 qf.1),ah2 c.slot (ah2 qt.2 qf.2))
 | .block id b,out,ex=>
   let qb:=live ret b out ((id,out)::ex)
   (.aL out (.block id qb.1),qb.2)
 | .loop b,_,ex=>
   let l1:=(live ret b [] ex).2
   let l2:=ah2 l1 (live ret b l1 ex).2
   let l3:=ah2 l2 (live ret b l2 ex).2
   (.loop (live ret b l3 ex).1,l3)
 | .exit id,_,ex=>(.exit id,match ex.find? (λ p=>p.1==id)with|some p=>p.2|none=>[])
 | .ret,_,_=>(.ret,ret)
 | .aL l c,out,ex=>let q:=live ret c out ex;(.aL l q.1,q.2)
 | .ku c,out,ex=>let q:=live ret c out ex;(.ku q.1,q.2)
 | .gJ ops,out,_=>(.gJ ops,out)
structure Cfg where
 fl:List Nat
 fr:List (Nat×Bool×Nat×Nat)
 sg:List (Nat×List gK)
 cut:Bool
def axz:List (Nat×Bool×Nat×Nat)->Nat->Option (Bool×Nat×Nat)
 | [],_=>none
 |(g,q)::l,f=>if g=f then some q else axz l f
def avo:List (Nat×List gK)->Nat->Option (List gK)
 | [],_=>none
 |(g,q)::l,f=>if g=f then some q else avo l f
def aqh(ops:List aP):List Nat:=ops.foldr (λ o l=>match o.op with
 | .app _ _ _ (.t k) _=>k::l
 | .j7 _ _ _ (.t k) _=>k::l
 | .bc (.t k)=>(match o.dst with|some d=>if l.contains d=true then k::l else l|none=>l)
 |_=>l) []
def zV(c:Cfg)(drawn base:Bool):ew->ew
 | .call f as=>match avo c.sg f with
   |some gs=>if drawn=true/\gs.any gK.one=true then .jC gs f as else .bp gs f as
   |none=>match axz c.fr f with
    |some (nl,e,s)=>if drawn=true/\base=false then(if c.fl.contains f=true then .lT f as else .k7 f as)else .eV nl e s f as
    |none=>if drawn=true then(if c.fl.contains f=true then .lT f as else .k7 f as)else .mG f as
 | .eu x as=>if drawn=true then .iv x as else .jD x as
 | .db s x l h=>if c.cut=true then .cut s x l h else .db s x l h
 | .buildSlice t s l z ps=>if(drawn=true∨(c.cut=true/\ps.all (λ p=>match p.2 with| .c _=>true| .t _=>false)=true))/\base=false then .iB t s l z ps else .buildSlice t s l z ps
 |o=>o
def aqz(c:Cfg)(rows:Bool)(bs:List Nat)(o:aP):aP:={o with op:=zV c rows (match o.dst with|some t=>bs.contains t|none=>false) o.op}
def pz(gen:Cfg):aU->aU
 | .region rows ops=> .region rows (ops.map (aqz gen rows.isSome (aqh ops)))
 | .seq a b=> .seq (pz gen a) (pz gen b)
 | .cond c t f=> .cond c (pz gen t) (pz gen f)
 | .block id b=> .block id (pz gen b)
 | .loop b=> .loop (pz gen b)
 | .aL l c=> .aL l (pz gen c)
 | .ku c=> .ku (pz gen c)
 |c=>c
theorem gb(ret:List Nat):∀(c:aU) (out:List Nat) (ex:List (Nat×List Nat)),(live ret c out ex).1.strip=c.strip
 | .skip,_,_=>rfl
 | .region rows ops,_,_=>rfl
 | .seq a b,out,ex=>by simp only[live,aU.strip,gb ret a,gb ret b]
 | .cond c t f,out,ex=>by simp only[live,aU.strip,gb ret t,gb ret f]
 | .block id b,out,ex=>by simp only[live,aU.strip,gb ret b]
 | .loop b,out,ex=>by simp only[live,aU.strip,gb ret b]
 | .exit id,_,_=>rfl
 | .ret,_,_=>rfl
 | .aL l c,out,ex=>by simp only[live,aU.strip,gb ret c]
 | .ku c,out,ex=>by simp only[live,aU.strip,gb ret c]
 | .gJ ops,_,_=>rfl
theorem ac1(gen:Cfg)(d b:Bool)(o:ew):(zV gen d b o).strip=o.strip:=by
 cases o<;>try rfl
 case buildSlice=>simp only[zV];split<;>rfl
 case db=>simp only[zV];split<;>rfl
 case eu=>simp only[zV];split<;>rfl
 case call=>
  simp only[zV]
  split
  ·split<;>rfl
  ·split
   ·split
    ·split<;>rfl
    ·rfl
   ·split
    ·split<;>rfl
    ·rfl
theorem fX(gen:Cfg):∀(c:aU),(pz gen c).strip=c.strip
 | .skip=>rfl
 | .region rows ops=>by
   simp only[pz,aU.strip,List.map_map];congr 1;apply List.map_congr_left;intro o _;simp only[Function.comp,aP.strip,aqz,ac1]
 | .seq a b=>by simp only[pz,aU.strip,fX gen a,fX gen b]
 | .cond c t f=>by simp only[pz,aU.strip,fX gen t,fX gen f]
 | .block id b=>by simp only[pz,aU.strip,fX gen b]
 | .loop b=>by simp only[pz,aU.strip,fX gen b]
 | .exit id=>rfl
 | .ret=>rfl
 | .aL l c=>by simp only[pz,aU.strip,fX gen c]
 | .ku c=>by simp only[pz,aU.strip,fX gen c]
 | .gJ ops=>rfl
section
variable {P:Program} {nt:Nat}
theorem aeq{c:Call}{a:ew}(h:vg P c=some a):a.strip=a:=by
 unfold vg at h
 split at h
 ·split at h
  ·cases h;rfl
  ·cases h;rfl
  ·cases h
 ·split at h
  ·split at h
   ·simp only[Option.map_eq_some_iff]at h;obtain⟨_,_,rfl⟩:=h;rfl
   ·simp only[Option.map_eq_some_iff]at h;obtain⟨_,_,rfl⟩:=h;rfl
   ·cases h
  ·cases h
 ·split at h
  ·split at h
   ·simp only[Option.bind_eq_bind,bind_eq_some_iff,Option.some.injEq]at h;obtain⟨e,_,⟨s,b,z⟩,_,x,_,y,_,rfl⟩:=h
    rfl
   ·cases h
  ·cases h
 ·cases h
theorem ann{ty:TypeId}{op:Op}{t s l:Nat}{z:AV}{ps:List (Nat×aI)}(h:b8 P ty op=some (.iB t s l z ps)):False:=by
 cases op<;>simp only[b8]at h
 all_goals (repeat' split at h)
 all_goals first
  |(simp[bind_eq_some_iff]at h;done)
  |(exfalso;simp_all;done)
theorem ajL{ty:TypeId}{op:Op}{k t s:Nat}{z:AV}(h:b8 P ty op=some (.gq k t s z)):False:=by
 cases op<;>simp only[b8]at h
 all_goals (repeat' split at h)
 all_goals first
  |(simp[bind_eq_some_iff]at h;done)
  |(exfalso;simp_all;done)
theorem ajK{ty:TypeId}{op:Op}{k t s:Nat}{z:aI}(h:b8 P ty op=some (.mo k t s z)):False:=by
 cases op<;>simp only[b8]at h
 all_goals (repeat' split at h)
 all_goals first
  |(simp[bind_eq_some_iff]at h;done)
  |(exfalso;simp_all;done)
theorem ajJ{ty:TypeId}{op:Op}{k t s l:Nat}{z:AV}{ps:List (Nat×aI)}(h:b8 P ty op=some (.gn k t s l z ps)):False:=by
 cases op<;>simp only[b8]at h
 all_goals (repeat' split at h)
 all_goals first
  |(simp[bind_eq_some_iff]at h;done)
  |(exfalso;simp_all;done)
theorem ajI{ty:TypeId}{op:Op}{s:Nat}{x:aI}{l h':Option aI}(h:b8 P ty op=some (.cut s x l h')):False:=by
 cases op<;>simp only[b8]at h
 all_goals (repeat' split at h)
 all_goals first
  |(simp[bind_eq_some_iff]at h;done)
  |(exfalso;simp_all;done)
theorem ajH{ty:TypeId}{op:Op}{neg:Bool}{x:aI}(h:b8 P ty op=some (.vt neg x)):False:=by
 cases op<;>simp only[b8]at h
 all_goals (repeat' split at h)
 all_goals first
  |(simp[bind_eq_some_iff]at h;done)
  |(exfalso;simp_all;done)
theorem ajG{ty:TypeId}{op:Op}{e s b:Nat}{z:AV}{x y:aI}(h:b8 P ty op=some (.mkF e s b z x y)):False:=by
 cases op<;>simp only[b8]at h
 all_goals (repeat' split at h)
 all_goals first
  |(simp[bind_eq_some_iff]at h;done)
  |(exfalso;simp_all;done)
theorem ajF{ty:TypeId}{op:Op}{k e s b:Nat}{z:AV}{x y:aI}(h:b8 P ty op=some (.xG k e s b z x y)):False:=by
 cases op<;>simp only[b8]at h
 all_goals (repeat' split at h)
 all_goals first
  |(simp[bind_eq_some_iff]at h;done)
  |(exfalso;simp_all;done)
theorem acV{a:ew}(hA:a.zx=false)(h:a.xX=false)(hf:∀t s l z ps,a≠ .iB t s l z ps):a.strip=a:=by
 cases a<;>first|rfl|(simp[ew.xX]at h;done)|(simp[ew.zx]at hA;done)|(exact(hf _ _ _ _ _ rfl).elim)
theorem ajC{t:TypeId}{o:Op}{a:ew}(h:cOp P t o=some a):a.strip=a:=by
 unfold cOp ajE at h;simp only[Option.some.injEq]at h
 split at h
 ·rename_i b hb;subst h;rcases oK hb with⟨_,_,rfl⟩|⟨_,_,_,_,_,rfl⟩|⟨_,_,_,_,_,_,rfl⟩<;>rfl
 ·cases h0:vV P t o with
  |none=>rw[h0]at h;subst h;rfl
  |some b=>
   rw[h0]at h;simp only[Option.getD_some]at h;subst h;unfold vV at h0
   split at h0
   ·exact aeq h0
   ·rw[bind_eq_some_iff]at h0;obtain⟨b',hb,lh⟩:=h0
    split at lh
    ·cases lh
    ·rename_i hc;cases lh;exact acV (by cases b<;>first|rfl|exact(ajL hb).elim|exact(ajK hb).elim|exact(ajJ hb).elim|exact(ajI hb).elim|exact(ajH hb).elim|exact(ajG hb).elim|exact(ajF hb).elim) (by simpa using hc) (λ t s l z ps he=>ann (by rw[hb,he]))
theorem aen{ops:Array Oper}{o:Oper}{a:aP}(h:oV P nt ops o=some a):a.strip=a:=by
 unfold oV at h
 split at h
 ·rename_i op g hop hg
  split at h
  ·cases h;simp only[aP.strip,ajC hop]
  ·cases h
 ·cases h
theorem xJ{f:Oper->Option aP}(hf:∀o a,f o=some a->a.strip=a):∀(l:List Oper) {r:List aP},l.mapM f=some r->r.map aP.strip=r
 | [],r,h=>by simp at h;subst h;rfl
 |o::l,r,h=>by
  simp only[List.mapM_cons,Option.bind_eq_bind,Option.pure_def,bind_eq_some_iff,Option.some.injEq]at h;obtain⟨b,hb,bs,hbs,rfl⟩:=h;simp only[List.map_cons,hf o b hb,xJ hf l hbs]
theorem aep:∀(code:Code) {c:aU},fJ P nt code=some c->c.strip=c:=by
 intro code c h
 induction c generalizing code with
 |skip=>rfl
 |exit=>rfl
 |ret=>rfl
 |region rows ops=>
  rcases cn h with⟨_,h⟩|⟨id,alp,draw,aA7,acz,rfl,h,hm,hdr⟩|⟨_,_,_,_,_,h,_⟩|⟨_,_,_,_,_,_,_,h,_⟩|⟨_,_,_,_,h,_⟩|⟨_,_,_,h,_⟩|⟨_,_,h⟩|⟨_,h⟩<;>first|(cases h;done)|skip
  cases h;simp only[aU.strip];rw[xJ (λ o a h=>aen h) _ hm]
 |seq a b iha ihb=>
  rcases cn h with⟨_,h⟩|⟨_,_,_,_,_,_,h,_⟩|⟨cx,cy,ax,ay,rfl,h,hx,hy⟩|⟨_,_,_,_,_,_,_,h,_⟩|⟨_,_,_,_,h,_⟩|⟨_,_,_,h,_⟩|⟨_,_,h⟩|⟨_,h⟩<;>first|(cases h;done)|skip
  cases h;simp only[aU.strip,iha cx hx,ihb cy hy]
 |cond o t f iht ihf=>
  rcases cn h with⟨_,h⟩|⟨_,_,_,_,_,_,h,_⟩|⟨_,_,_,_,_,h,_⟩|⟨o',x,y,ao,ax,ay,rfl,h,h0,h1,h2⟩|⟨_,_,_,_,h,_⟩|⟨_,_,_,h,_⟩|⟨_,_,h⟩|⟨_,h⟩<;>first|(cases h;done)|skip
  cases h;simp only[aU.strip,iht x h1,ihf y h2]
 |block id b ih=>
  rcases cn h with⟨_,h⟩|⟨_,_,_,_,_,_,h,_⟩|⟨_,_,_,_,_,h,_⟩|⟨_,_,_,_,_,_,_,h,_⟩|⟨id',cb,ab,rfl,h,hb⟩|⟨_,_,_,h,_⟩|⟨_,_,h⟩|⟨_,h⟩<;>first|(cases h;done)|skip
  cases h;simp only[aU.strip,ih cb hb]
 |loop b ih=>
  rcases cn h with⟨_,h⟩|⟨_,_,_,_,_,_,h,_⟩|⟨_,_,_,_,_,h,_⟩|⟨_,_,_,_,_,_,_,h,_⟩|⟨_,_,_,_,h,_⟩|⟨cb,ab,rfl,h,hb⟩|⟨_,_,h⟩|⟨_,h⟩<;>first|(cases h;done)|skip
  cases h;simp only[aU.strip,ih cb hb]
 |aL l c ih=>
  rcases cn h with⟨_,h⟩|⟨_,_,_,_,_,_,h,_⟩|⟨_,_,_,_,_,h,_⟩|⟨_,_,_,_,_,_,_,h,_⟩|⟨_,_,_,_,h,_⟩|⟨_,_,_,h,_⟩|⟨_,_,h⟩|⟨_,h⟩<;>cases h
 |ku c ih=>
  rcases cn h with⟨_,h⟩|⟨_,_,_,_,_,_,h,_⟩|⟨_,_,_,_,_,h,_⟩|⟨_,_,_,_,_,_,_,h,_⟩|⟨_,_,_,_,h,_⟩|⟨_,_,_,h,_⟩|⟨_,_,h⟩|⟨_,h⟩<;>cases h
 |gJ ops=>
  rcases cn h with⟨_,h⟩|⟨_,_,_,_,_,_,h,_⟩|⟨_,_,_,_,_,h,_⟩|⟨_,_,_,_,_,_,_,h,_⟩|⟨_,_,_,_,h,_⟩|⟨_,_,_,h,_⟩|⟨_,_,h⟩|⟨_,h⟩<;>cases h
end
def aow:dO->Nat
 | .tmp t=>t
 | .cell t _=>t
def aeN(P:Program)(gen:Cfg)(fn:Func):Option nT:=
 match fn.body with
 |none=>none
 |some code=>match fJ P fn.ntmps code,fn.results.toList.mapM (ajB P)with
  |some c,some rs=>some ⟨fn.params.size+fn.nfree,fn.ntmps,(live (ah2 (rs.map aow) []) (pz gen c) [] []).1,rs⟩
  |_,_=>none
theorem uo{P:Program}{f:FuncId}{fn:Func}{gen:Cfg}{A:nT}(hf:P.funcs[f]? =some fn)(hA:aeN P gen fn=some A)(h1:A.dX<=A.nt)(h2:(fn.name== "runtime.NumGoroutine")=false):vf P f A:=by
 unfold aeN at hA
 split at hA
 ·cases hA
 ·rename_i code amz
  split at hA
  ·rename_i c rs hc hrs;cases hA;refine⟨fn,code,hf,amz,h2,rfl,h1,?_,hrs⟩;rw[hc];simp only[gb,fX,aep code hc]
  ·cases hA
def cB(P:Program)(gen:Cfg)(fn:Func):Option (Nat×T):=
 match aeN P gen fn with
 |some A=>if A.dX<=A.nt/\(fn.name== "runtime.NumGoroutine")=false then
   match A.left gen.fl with
   |some t=>some (A.dX,t)
   |none=>none
  else none
 |none=>none
def sG(P:Program)(gen:Cfg)(nl:Bool)(e m:Nat)(fn:Func):Option (Nat×T):=
 match aeN P gen fn with
 |some A=>if A.dX<=A.nt/\(fn.name== "runtime.NumGoroutine")=false then
   match A.sG gen.fl nl e m with
   |some t=>some (A.dX,t)
   |none=>none
  else none
 |none=>none
theorem aZ{P:Program}{f:FuncId}{fn:Func}{gen:Cfg}{n:Nat}{t:T}(hf:P.funcs[f]? =some fn)(h:cB P gen fn=some (n,t)){args:List AV}(hl:args.length=n)(hn:AV.ad args=true){res:AV}
  (hw:bF P (λ _ _ _=>False) (λ a=>a=res) t args []):a7 P f args res:=by
 unfold cB at h
 split at h
 ·rename_i A hA
  split at h
  ·rename_i hc
   split at h
   ·rename_i t' ht;cases h;exact ane (uo hf hA hc.1 hc.2) ht hl hn hw
   ·cases h
  ·cases h
 ·cases h
theorem ue{P:Program}{f:FuncId}{fn:Func}{gen:Cfg}{nl:Bool}{e m:Nat}{n:Nat}{t:T}(hf:P.funcs[f]? =some fn)(h:sG P gen nl e m fn=some (n,t)){args:List AV}(hl:args.length=n)(hn:AV.ad args=true){xs:List AV}
  (hw:bF P (λ _ _ _=>False) (λ a=>a= .sl xs) t args []):tf P f args nl e m xs:=by
 unfold sG at h
 split at h
 ·rename_i A hA
  split at h
  ·rename_i hc
   split at h
   ·rename_i t' ht;cases h;exact ajq (uo hf hA hc.1 hc.2) ht hl hn hw
   ·cases h
  ·cases h
 ·cases h
def jF(P:Program)(gen:Cfg)(g:gK)(fn:Func):Option T:=
 match aeN P gen fn with
 |some A=>if A.dX<=A.nt/\(fn.name== "runtime.NumGoroutine")=false then A.jF gen.fl g else none
 |none=>none
theorem eI{P:Program}{f:FuncId}{fn:Func}{gen:Cfg}{g:gK}{t:T}(hf:P.funcs[f]? =some fn)(h:jF P gen g fn=some t){ins outs:List AV}(hl:ins.length=g.n)(hn:AV.ad ins=true)(ho:outs.length=g.m)
  (hw:bF P (λ _ _ _=>False) (λ a=>a=bz outs) t ins []):gA P f g ins outs:=by
 unfold jF at h
 split at h
 ·rename_i A hA
  split at h
  ·rename_i hc;exact aie (uo hf hA hc.1 hc.2) h hl hn ho hw
  ·cases h
 ·cases h
end Go.Ab
namespace Go.Ab
section
variable (P:Program) (L:AX->SS->List AV->Prop) (R:AV->Prop)
def kT(t:T)(r:List AV)(S:List (List AV->Prop)):AV->Prop:=λ v=>bF P L R t (r++ [v]) S
def e7(K:AV->Prop)(v:AV):Prop:=K v
def abO(c:AV)(t f:T)(r:List AV)(S:List (List AV->Prop)):Prop:=match c with
 | .v (.bool b)=>(b=true->bF P L R t r S)/\(b=false->bF P L R f r S)
 |_=>False
def aeu(k:Nat)(a b:T)(r:List AV)(S:List (List AV->Prop)):Prop:=bF P L R (.bind k a b) r S
def qL(init:List AV)(b:T)(r:List AV)(S:List (List AV->Prop)):Prop:=
 ∃(J:Nat->List AV->Prop) (n:Nat),J n init/\∀n vs,J n vs->vs.length=init.length->bF P L R b (r++vs) ((λ ng=>∃m,m<n/\J m ng)::S)
def tC(vs:List AV):Prop:=R (bz vs)
def alV(S:List (List AV->Prop))(vs:List AV):Prop:=match S with
 |J::_=>J vs
 | []=>False
variable (t f:T) (r:List AV) (S:List (List AV->Prop))
theorem au9(o:PO):bF P L R (.op o t) r S=o.wp P r (kT P L R t r S):=nr rfl
theorem avc(v:AV):e7 (kT P L R t r S) v=bF P L R t (r++ [v]) S:=nr rfl
theorem aqr(c:nf):bF P L R (.aJ c t) r S=c.wp r (bF P L R t r S):=nr rfl
theorem ava(c:D):bF P L R (.ite c t f) r S=abO P L R (c.ev r) t f r S:=nr rfl
theorem akm(k:Nat):bF P L R (.bind k t f) r S=aeu P L R k t f r S:=nr rfl
theorem arB(init:List D):bF P L R (.loop init t) r S=qL P L R (D.a9 r init) t r S:=by
 simp only[bF,qL,D.aT,List.length_map]
theorem au8(ds:List D):bF P L R (.ret ds) r S=tC R (D.a9 r ds):=nr rfl
theorem arC(vs:List D):bF P L R (.jump vs) r S=alV S (D.a9 r vs):=nr rfl
theorem avd(J:List AV->Prop):bF P L R (.dM t) r (J::S)=bF P L R t r S:=nr rfl
theorem an8(J:List AV->Prop)(vs:List AV):alV (J::S) vs=J vs:=nr rfl
theorem arA:abO P L R (.v (.bool true)) t f r S=bF P L R t r S:=by simp[abO]
theorem an9:abO P L R (.v (.bool false)) t f r S=bF P L R f r S:=by simp[abO]
end
section
variable {P:Program} {L:AX->SS->List AV->Prop} {R:AV->Prop} {t f:T} {r:List AV} {S:List (List AV->Prop)}
theorem aD{b:Bool}(h:b=true->bF P L R t r S)(h':b=false->bF P L R f r S):abO P L R (.v (.bool b)) t f r S:=⟨h,h'⟩
theorem aE{p:Prop}[Decidable p](h:p->bF P L R t r S)(h':¬p->bF P L R f r S):abO P L R (.v (.bool (decide p))) t f r S:=⟨λ q=>h (of_decide_eq_true q),λ q=>h' (of_decide_eq_false q)⟩
theorem a8{p:Prop}[Decidable p](h:¬p->bF P L R t r S)(h':p->bF P L R f r S):abO P L R (.v (.bool (!decide p))) t f r S:=
 ⟨λ q=>h (by simpa using q),λ q=>h' (by simpa using q)⟩
theorem jq{k:Nat}(J:List AV->Prop)(h:bF P L R t r (J::S))(h':∀vs,J vs->vs.length=k->bF P L R f (r++vs) S):aeu P L R k t f r S:=
 dz (λ _ _ _ h=>h) (λ _ h=>h) t (.cons (λ vs hv hk=>h' vs hv hk) (.refl _)) h
theorem cC{k:Nat}(vs:List AV)(hk:vs.length=k)(h:bF P L R t r ((λ ws=>ws=vs)::S))(h':bF P L R f (r++vs) S):aeu P L R k t f r S:=
 jq (λ ws=>ws=vs) h λ ws hw _=>by rw[hw];exact h'
theorem aB{k:Nat}(h:bF P L R t r ((λ vs=>bF P L R f (r++vs) S)::S)):aeu P L R k t f r S:=jq _ h λ _ hv _=>hv
theorem dk{ι:Type}{init:List AV}(D:ι->Prop)(σ:ι->List AV)(μ:ι->Nat)(i0:ι)(hd:D i0)(h0:init=σ i0)
  (hr:∀i,D i->bF P L R t (r++σ i) ((λ vs=>∃j,D j/\μ j<μ i/\vs=σ j)::S)):qL P L R init t r S:=by
 refine⟨λ n vs=>∃i,D i/\μ i=n/\vs=σ i,μ i0,⟨i0,hd,rfl,h0⟩,?_⟩;rintro n vs ⟨i,hi,rfl,rfl⟩ _;refine dz (λ _ _ _ h=>h) (λ _ h=>h) t (.cons (λ vs hv=> ?_) (.refl _)) (hr i hi);obtain⟨j,hj,aF,rfl⟩:=hv;exact⟨μ j,aF,j,hj,rfl,rfl⟩
theorem bn{g:FuncId}{args:List AV}{flat:Bool}{K:AV->Prop}{x:Value}(h:a7 P g args (.v x))(k:e7 K (.v x)):aaS P g args flat K:=⟨_,h,rfl,λ _=>rfl,k⟩
theorem acm{nl:Bool}{e s:Nat}{g:FuncId}{args:List AV}{K:AV->Prop}{xs:List AV}(h:tf P g args nl e s xs)(hn:AV.ad xs=true)(k:e7 K (.sl xs)):agv P nl e s g args K:=⟨_,h,hn,k⟩
theorem dT{g:gK}{f:FuncId}{args:List AV}{K:AV->Prop}{outs:List AV}(h:gA P f g args outs)(hl:outs.length=g.m)(hn:AV.ad outs=true)(k:e7 K (.ba outs)):kP P f g args K:=⟨_,h,hl,hn,k⟩
theorem mi{g:FuncId}{args:List AV}{K:AV->Prop}{res:AV}(h:a7 P g args res)(hn:res.ag=true)(k:e7 K res):aaS P g args false K:=⟨_,h,hn,λ h=>(by cases h),k⟩
theorem oF{s:Nat}{xs:List AV}{k:IntKind}{n:Nat}{K:AV->Prop}(x:AV)(h:xs[n]? =some x)(hs:x.cells.length=s)(hk:e7 K x):kK s (.sl xs) (.v (.int k (n:Int))) K:=by
 have aF:=(List.getElem?_eq_some_iff.1 h).1;have hx:xs.getD (Int.toNat (n:Int)) .top=x:=by rw[Int.toNat_natCast];exact amO h
 refine⟨Int.natCast_nonneg n,by exact_mod_cast aF,by rw[hx];exact hs,by rw[hx];exact hk⟩
where amO {l:List AV} {i:Nat} {x:AV} (h:l[i]? =some x):l.getD i .top=x:=by simp[List.getD,h]
end
theorem aAQ(r:List AV)(d:D)(f:Nat):(D.ip d f).ev r= .ct (d.ev r) f:=nr rfl
section
variable (r:List AV)
theorem e_x(i:Nat):(D.x i).ev r=r.getD i .top:=nr rfl
theorem e_c(a:AV):(D.c a).ev r=a:=nr rfl
theorem atZ(i j:Nat):(D.cell i j).ev r=(r.getD i .top).cells.getD j .top:=nr rfl
theorem axF(i j:Nat):(D.ext i j).ev r=akv (r.getD i .top) j:=nr rfl
theorem aAP(l:D):(D.sl l).ev r= .sl (aY (l.ev r)):=nr rfl
theorem axG(l:List D):(D.agg l).ev r= .agg (D.a9 r l):=nr rfl
theorem aAR(f:FuncId)(l:List D):(D.fn f l).ev r= .fn f (D.a9 r l):=nr rfl
theorem axE:D.a9 r []= []:=nr rfl
theorem atY(d:D)(l:List D):D.a9 r (d::l)=d.ev r::D.a9 r l:=nr rfl
end
theorem aiW(xs:List AV):aY (.sl xs)=xs:=nr rfl
theorem ai9(k:IntKind)(n:Nat):idxOf (.v (.int k (n:Int)))=n:=nr (by simp[idxOf])
theorem aja(k:IntKind)(n:Int):idxOf (.v (.int k n))=n.toNat:=nr rfl
theorem aog(vs:List AV)(j:Nat):akv (.ba vs) j=vs.getD j .top:=nr rfl
theorem am1(r:List AV):D.evo r none=none:=nr rfl
theorem am0(r:List AV)(d:D):D.evo r (some d)=some (d.ev r):=nr rfl
section
variable (P:Program) (r:List AV) (K:AV->Prop)
def fu(op:BinOp)(a b:AV)(K:AV->Prop):Prop:=eS op a b [] λ x _=>K x
def unT(op:UnOp)(a:AV)(K:AV->Prop):Prop:=unK op a [] λ x _=>K x
def ahO(k:IntKind)(a:AV)(K:AV->Prop):Prop:=vb k a [] λ x _=>K x
def uD(c a b:AV)(K:AV->Prop):Prop:=oQ c a b [] λ x _=>K x
def apV(off:Nat)(n:Option Nat)(a:AV)(K:AV->Prop):Prop:=ajp off n a [] λ x _=>K x
def al2(a i:AV)(K:AV->Prop):Prop:=uV a i [] λ x _=>K x
def aon(a:AV)(lo hi:Option AV)(K:AV->Prop):Prop:=lq a lo hi [] λ x _=>K x
def aoo(s:Nat)(a:AV)(lo hi:Option AV)(K:AV->Prop):Prop:=lu s a lo hi [] λ x _=>K x
def ahq(a:AV)(K:AV->Prop):Prop:=uN a [] λ x _=>K x
def aan(a:AV)(K:AV->Prop):Prop:=lV a [] λ x _=>K x
def asJ(n:Option Nat)(a:AV)(K:AV->Prop):Prop:=aiX n a K
def atU(off:Nat)(a:AV)(K:AV->Prop):Prop:=ajr off a K
theorem avF(x:D):PO.wp P r (.val x) K=e7 K (x.ev r):=nr rfl
def puT(o:PU)(xs:List AV)(K:AV->Prop):Prop:=puK o xs K
def anH(s bytes:Nat)(xs:List AV)(y:AV)(K:AV->Prop):Prop:=yS s bytes xs y K
theorem ay5(o:PU)(ds:List D):PO.wp P r (.pu o ds) K=puT o (D.a9 r ds) K:=nr rfl
theorem asf(s bytes:Nat)(l y:D):PO.wp P r (.j7 s bytes l y) K=anH s bytes (aY (l.ev r)) (y.ev r) K:=nr rfl
theorem ar8(c a b:D):PO.wp P r (.pick c a b) K=uD (c.ev r) (a.ev r) (b.ev r) K:=nr rfl
theorem avN(op:BinOp)(a b:D):PO.wp P r (.bin op a b) K=fu op (a.ev r) (b.ev r) K:=nr rfl
def ajR(neg:Bool)(a b:AV)(K:AV->Prop):Prop:=aeL neg a b K
theorem avO(neg:Bool)(a b:D):PO.wp P r (.beq neg a b) K=ajR neg (a.ev r) (b.ev r) K:=nr rfl
theorem ay4(op:UnOp)(a:D):PO.wp P r (.un op a) K=unT op (a.ev r) K:=nr rfl
theorem asd(k:IntKind)(a:D):PO.wp P r (.conv k a) K=ahO k (a.ev r) K:=nr rfl
theorem asc(s:Nat)(l i:D):PO.wp P r (.elem s l i) K=kK s (l.ev r) (i.ev r) K:=nr rfl
theorem avL(off:Nat)(n:Option Nat)(a:D):PO.wp P r (.yC off n a) K=apV off n (a.ev r) K:=nr rfl
theorem aoP(f m:Nat)(a:D):PO.wp P r (.uM f m a) K=(f+m<=(a.ev r).cells.length/\e7 K (dG (some m) (a.ev r) f)):=nr rfl
theorem asb(a i:D):PO.wp P r (.kU a i) K=al2 (a.ev r) (i.ev r) K:=nr rfl
theorem ak8(a:D)(lo hi:Option D):PO.wp P r (.fC a lo hi) K=aon (a.ev r) (D.evo r lo) (D.evo r hi) K:=nr rfl
theorem ak9(s:Nat)(a:D)(lo hi:Option D):PO.wp P r (.db s a lo hi) K=aoo s (a.ev r) (D.evo r lo) (D.evo r hi) K:=nr rfl
theorem ar9(a:D):PO.wp P r (.kC a) K=ahq (a.ev r) K:=nr rfl
theorem asa(a:D):PO.wp P r (.bM a) K=aan (a.ev r) K:=nr rfl
theorem aqC(z:AV)(n:Nat)(ps:List (Nat×D)):PO.wp P r (.kB z n ps) K=e7 K (.sl (eX (List.replicate n z) (ps.map λ p=>(p.1,p.2.ev r)))):=nr rfl
theorem avH(bytes:Nat)(z:AV)(n c:D):PO.wp P r (.rep bytes z n c) K=adb bytes z (n.ev r) (c.ev r) K:=nr rfl
theorem avP(s bytes:Nat)(l y:D):PO.wp P r (.app s bytes l y) K=agM s bytes (aY (l.ev r)) (y.ev r) K:=nr rfl
theorem avK(l i:D)(f:Nat)(n:Option Nat):PO.wp P r (.get l i f n) K=atE (aY (l.ev r)) (idxOf (i.ev r)) f n K:=nr rfl
theorem avG(l i:D)(f m:Nat)(y:D):PO.wp P r (.set l i f m y) K=aoq (aY (l.ev r)) (idxOf (i.ev r)) f m (y.ev r) K:=nr rfl
theorem ase(f:FuncId)(args:List D)(b:Bool):PO.wp P r (.call f args b) K=aaS P f (D.a9 r args) b K:=nr rfl
theorem aoQ(nl:Bool)(e s:Nat)(f:FuncId)(args:List D):PO.wp P r (.eV nl e s f args) K=agv P nl e s f (D.a9 r args) K:=nr rfl
theorem aoO(f:FuncId)(g:gK)(args:List D):PO.wp P r (.bp f g args) K=kP P f g (D.a9 r args) K:=nr rfl
theorem aoR(g:D)(args:List D)(b:Bool):PO.wp P r (.eu g args b) K=pT P (g.ev r) (D.a9 r args) b K:=nr rfl
theorem avJ(n:Option Nat)(a:D):PO.wp P r (.ldp n a) K=asJ n (a.ev r) K:=nr rfl
theorem avM(off:Nat)(a:D):PO.wp P r (.fap off a) K=atU off (a.ev r) K:=nr rfl
theorem anh(f:FuncId)(a6 args:List AV)(b:Bool):pT P (.fn f a6) args b K=aaS P f (args++a6) b K:=nr rfl
variable (k k':IntKind) (a b:Int) (s u:ByteArray)
theorem awj(n:Option Nat)(y:AV)(f:Nat):asJ n (.ct y f) K=(f+n.getD 1<=y.cells.length/\e7 K (dG n y f)):=nr rfl
theorem awl(off:Nat)(y:AV)(f:Nat):atU off (.ct y f) K=e7 K (.ct y (f+off)):=nr rfl
theorem arH(neg:Bool):puT (.tP neg) [.aw] K=e7 K (.v (.bool (neg !=true))):=nr rfl
theorem aoe(neg:Bool)(x:AV)(xs:List AV):puT (.tP neg) [.sl (x::xs)] K=e7 K (.v (.bool (neg !=false))):=nr rfl
theorem arI(neg:Bool):puT (.oj neg) [.v (.pointer none)] K=e7 K (.v (.bool (neg !=true))):=nr rfl
theorem arG(neg:Bool)(x:AV)(f:Nat):puT (.oj neg) [.ct x f] K=e7 K (.v (.bool (neg !=false))):=nr rfl
theorem arJ(neg:Bool):puT (.tQ neg) [.v .nilIface] K=e7 K (.v (.bool (neg !=true))):=nr rfl
theorem arK(neg:Bool):puT (.tQ neg) [.uU] K=e7 K (.v (.bool (neg !=false))):=nr rfl
theorem avj:puT .min [.v (.int k a),.v (.int k b)] K=e7 K (.v (.int k (if b<a then b else a))):=by simp[puT,puK,v8,e7]
theorem avk:puT .max [.v (.int k a),.v (.int k b)] K=e7 K (.v (.int k (if a<b then b else a))):=by simp[puT,puK,v8,e7]
theorem avl(s:ByteArray):puT .b2s [.sl (dt s)] K=e7 K (.v (.string s)):=by
 have h:∀l:List UInt8,u8s (l.map λ c=>AV.v (.int .u8 c.toNat))=some l:=by
  intro l
  induction l with
  |nil=>rfl
  |cons c l ih=>simp[u8s,ih]
 simp only[puT,puK,v8,dt,h,Option.map_some,e7]
theorem arL:puT .b2s [.aw] K=e7 K (.v (.string ⟨#[]⟩)):=nr rfl
theorem aut(m bytes:Nat)(xs:List AV)(s:ByteArray):anH m bytes xs (.v (.string s)) K=(m=1/\(xs.length+s.size)*bytes<=140737488355328/\xs.length+s.size<=9223372036854775807/\e7 K (.sl (xs++dt s))):=nr rfl
theorem awa:(true !=true)=false:=nr rfl
theorem awb:(true !=false)=true:=nr rfl
theorem avC:(false !=true)=true:=nr rfl
theorem avD:(false !=false)=false:=nr rfl
theorem ax6:fu .add (.v (.int k a)) (.v (.int k b)) K=e7 K (.v (.int k (k.wrap (a+b)))):=by rw[fu,aeJ];rfl
theorem axS:fu .sub (.v (.int k a)) (.v (.int k b)) K=e7 K (.v (.int k (k.wrap (a- b)))):=by rw[fu,aew];rfl
theorem axY:fu .mul (.v (.int k a)) (.v (.int k b)) K=e7 K (.v (.int k (k.wrap (a*b)))):=by rw[fu,aeC];rfl
theorem ax5:fu .and (.v (.int k a)) (.v (.int k b)) K=e7 K (.v (.int k (k.wrap (BitVec.ofInt k.bits a&&&BitVec.ofInt k.bits b).toNat))):=by rw[fu,aeI];rfl
theorem aAW:fu .or (.v (.int k a)) (.v (.int k b)) K=e7 K (.v (.int k (k.wrap (BitVec.ofInt k.bits a|||BitVec.ofInt k.bits b).toNat))):=by rw[fu,ahR];rfl
theorem axR:fu .xor (.v (.int k a)) (.v (.int k b)) K=e7 K (.v (.int k (k.wrap (BitVec.ofInt k.bits a^^^BitVec.ofInt k.bits b).toNat))):=by rw[fu,aev];rfl
theorem axW:fu .quo (.v (.int k a)) (.v (.int k b)) K=(b≠0/\e7 K (.v (.int k (k.wrap (a.tdiv b))))):=by rw[fu,aeA];rfl
theorem axV:fu .rem (.v (.int k a)) (.v (.int k b)) K=(b≠0/\e7 K (.v (.int k (a.tmod b)))):=by rw[fu,aez];rfl
theorem arj:fu .eql (.v (.int k a)) (.v (.int k b)) K=e7 K (.v (.bool (decide (a=b)))):=by rw[fu,aeH];rfl
theorem axX:fu .neq (.v (.int k a)) (.v (.int k b)) K=e7 K (.v (.bool (!decide (a=b)))):=by rw[fu,aeB];rfl
theorem axZ:fu .lss (.v (.int k a)) (.v (.int k b)) K=e7 K (.v (.bool (decide (a<b)))):=by rw[fu,aeD];rfl
theorem ax0:fu .leq (.v (.int k a)) (.v (.int k b)) K=e7 K (.v (.bool (decide (a<=b)))):=by rw[fu,aeE];rfl
theorem ax1:fu .gtr (.v (.int k a)) (.v (.int k b)) K=e7 K (.v (.bool (decide (b<a)))):=by rw[fu,aeF];rfl
theorem ax2:fu .geq (.v (.int k a)) (.v (.int k b)) K=e7 K (.v (.bool (decide (b<=a)))):=by rw[fu,aeG];rfl
theorem axU:fu .shl (.v (.int k a)) (.v (.int k' b)) K=(0<=b/\e7 K (.v (.int k (k.wrap (a*2^(min b.toNat k.bits)))))):=by rw[fu,aey];rfl
theorem axT:fu .shr (.v (.int k a)) (.v (.int k' b)) K=(0<=b/\e7 K (.v (.int k (a.fdiv (2^(min b.toNat k.bits)))))):=by rw[fu,aex];rfl
theorem aul:fu .add (.v (.string s)) (.v (.string u)) K=(((s.size+u.size:Nat):Int)<=9223372036854775807/\e7 K (.v (.string (s++u)))):=by rw[fu,aaW];rfl
theorem anz:fu .eql (.v (.string s)) (.v (.string u)) K=e7 K (.v (.bool (decide (s=u)))):=by rw[fu,aaV];rfl
theorem auk:fu .neq (.v (.string s)) (.v (.string u)) K=e7 K (.v (.bool (!decide (s=u)))):=by rw[fu,aaU];rfl
theorem ax4(x y:Bool):ajR false (.v (.bool x)) (.v (.bool y)) K=e7 K (.v (.bool (x==y))):=by simp[ajR,aeL,e7]
theorem ax3(x y:Bool):ajR true (.v (.bool x)) (.v (.bool y)) K=e7 K (.v (.bool (!(x==y)))):=by simp[ajR,aeL,e7]
theorem avh(x:Bool):unT .not (.v (.bool x)) K=e7 K (.v (.bool (!x))):=by rw[unT,agW];rfl
theorem avi:unT .neg (.v (.int k a)) K=e7 K (.v (.int k (k.wrap (-a)))):=by rw[unT,agX];rfl
theorem arD:ahO k (.v (.int k' a)) K=e7 K (.v (.int k (k.wrap a))):=by rw[ahO,aec];rfl
theorem anj(x y:AV):uD (.v (.bool true)) x y K=e7 K x:=by rw[uD,xm];rfl
theorem ank(x y:AV):uD (.v (.bool false)) x y K=e7 K y:=by rw[uD,uE];rfl
theorem anl(c x y:Bool):uD (.v (.bool c)) (.v (.bool x)) (.v (.bool y)) K=e7 K (.v (.bool (if c=true then x else y))):=by rw[uD,xn];rfl
theorem awk(off:Nat)(n:Option Nat)(x:AV):apV off n x K=(x.isAgg=true/\off+n.getD 1<=x.cells.length/\e7 K (dG n x off)):=by rw[apV,ahH];rfl
theorem awu:al2 (.v (.string s)) (.v (.int k a)) K=(0<=a/\a<s.size/\e7 K (.v (.int .u8 (s.data.toList.getD a.toNat 0).toNat))):=by rw[al2,adN];rfl
theorem avp(lo hi:Option AV):aon (.v (.string s)) lo hi K=y8 0 lo λ l=>y8 s.size hi λ h=>0<=l/\l<=h/\h<=s.size/\e7 K (.v (.string (s.extract l.toNat h.toNat))):=by rw[aon,wV];rfl
theorem avq(m:Nat)(xs:List AV)(lo hi:Option AV):aoo m (.sl xs) lo hi K=y8 0 lo λ l=>y8 xs.length hi λ h=>0<=l/\l<=h/\h<=xs.length/\(∀y∈xs,y.cells.length=m)/\e7 K (.sl ((xs.take h.toNat).drop l.toNat)):=by rw[aoo,wW];rfl
theorem asu:ahq (.v (.string s)) K=e7 K (.v (.int .i64 s.size)):=by rw[ahq,adz];rfl
theorem ast:aan .aw K=e7 K (.v (.int .i64 0)):=by rw[aan,rM];rfl
theorem awc(xs:List AV):aan (.sl xs) K=e7 K (.v (.int .i64 xs.length)):=by rw[aan,xN];rfl
theorem aA0(m bytes:Nat)(xs ys:List AV):agM m bytes xs (.sl ys) K=((∀y∈ys,y.cells.length=m)/\(xs.length+ys.length)*bytes<=140737488355328/\xs.length+ys.length<=9223372036854775807/\e7 K (.sl (xs++ys))):=nr rfl
theorem aus(m bytes:Nat)(xs:List AV):agM m bytes xs .aw K=((∀y∈([]:List AV),y.cells.length=m)/\(xs.length+([]:List AV).length)*bytes<=140737488355328/\xs.length+([]:List AV).length<=9223372036854775807/\e7 K (.sl (xs++ []))):=nr rfl
theorem axw(xs:List AV)(i f:Nat)(n:Option Nat):atE xs i f n K=(i<xs.length/\f+n.getD 1<=(xs.getD i .top).cells.length/\e7 K (dG n (xs.getD i .top) f)):=nr rfl
theorem axv(xs:List AV)(i f m:Nat)(y:AV):aoq xs i f m y K=(i<xs.length/\y.cells.length=m/\y.storable=true/\f+m<=(xs.getD i .top).cells.length/\e7 K (.sl (xs.set i (qC (xs.getD i .top) f y)))):=nr rfl
theorem avy(bytes:Nat)(z:AV):adb bytes z (.v (.int .i64 a)) (.v (.int .i64 b)) K=(0<=a/\a<=b/\bytes*b<=281474976710656/\b<=9223372036854775807/\e7 K (.sl (List.replicate a.toNat z))):=nr rfl
theorem afm(z:List AV):eX z []=z:=nr rfl
theorem ac2(z:List AV)(i:Nat)(y:AV)(ps:List (Nat×AV)):eX z ((i,y)::ps)=eX (z.set i y) ps:=nr rfl
end
section
variable (r:List AV) (K:Prop)
theorem apN(a:D)(m:Nat):nf.wp r (.cells a m) K=((a.ev r).isAgg=true/\(a.ev r).cells.length=m/\(a.ev r).storable=true/\K):=nr rfl
theorem aq9(a:D):nf.wp r (.one a) K=((a.ev r).cells.length=1/\(a.ev r).cg=true/\K):=nr rfl
theorem aAv(a:D)(j:Nat):nf.wp r (.lt a j) K=(j<(a.ev r).cells.length/\K):=nr rfl
theorem axm(a:D)(j:Nat):nf.wp r (.ba a j) K=ah4 (a.ev r) j K:=nr rfl
theorem axn(l i:D):nf.wp r (.idx l i) K=agh (aY (l.ev r)) (i.ev r) K:=nr rfl
theorem ats(a:D):nf.wp r (.alY a) K=xV (a.ev r) K:=nr rfl
theorem atr(vs:List AV)(j:Nat):ah4 (.ba vs) j K=(j<vs.length/\K):=nr rfl
theorem att(xs:List AV)(k:IntKind)(i:Int):agh xs (.v (.int k i)) K=(0<=i/\i<xs.length/\K):=nr rfl
theorem axo(a b:D):nf.wp r (.eql a b) K=((aY (a.ev r)).length=(aY (b.ev r)).length/\K):=nr rfl
theorem aAt:nf.wp r .no K=False:=nr rfl
theorem aAu(l:D):nf.wp r (.ne l) K=(aY (l.ev r)≠[]/\K):=nr rfl
theorem amE(x:AV)(f:Nat):xV (.ct x f) K=K:=nr rfl
theorem apM(f:FuncId)(cs:List AV):xV (.fn f cs) K=K:=nr rfl
end
theorem aov(x:AV)(vs:List AV):tC (λ a=>a=x) vs=(bz vs=x):=nr rfl
theorem aoN(x:AV):bz [x]=x:=nr rfl
theorem aoM(x y:AV)(l:List AV):bz (x::y::l)= .ba (x::y::l):=nr rfl
def W00:=And.intro @au9 (And.intro @avc (And.intro @aqr (And.intro @ava (And.intro @akm (And.intro @arB (And.intro @au8 (And.intro @arC (And.intro @avd (And.intro @an8 (And.intro @arA (And.intro @an9 (And.intro @e_x (And.intro @e_c (And.intro @atZ (And.intro @axF (And.intro @aAP (And.intro @axG (And.intro @aAR (@aAQ)))))))))))))))))))
def W01:=And.intro @axE (And.intro @atY (And.intro @aiW (And.intro @ai9 (And.intro @aja (And.intro @aog (And.intro @am1 (And.intro @am0 (And.intro @avF (And.intro @ar8 (And.intro @avN (And.intro @avO (And.intro @ay4 (And.intro @asd (And.intro @asc (And.intro @avL (And.intro @aoP (And.intro @asb (And.intro @ak8 (@ak9)))))))))))))))))))
def W02:=And.intro @ar9 (And.intro @asa (And.intro @aqC (And.intro @avH (And.intro @avP (And.intro @avK (And.intro @avG (And.intro @ase (And.intro @aoR (And.intro @avJ (And.intro @avM (And.intro @awj (And.intro @awl (And.intro @anh (And.intro @ax6 (And.intro @axS (And.intro @axY (And.intro @ax5 (And.intro @aAW (@axR)))))))))))))))))))
def W03:=And.intro @axW (And.intro @axV (And.intro @arj (And.intro @axX (And.intro @axZ (And.intro @ax0 (And.intro @ax1 (And.intro @ax2 (And.intro @axU (And.intro @axT (And.intro @aul (And.intro @anz (And.intro @auk (And.intro @ax4 (And.intro @ax3 (And.intro @avh (And.intro @avi (And.intro @arD (And.intro @anj (@ank)))))))))))))))))))
def W04:=And.intro @anl (And.intro @awk (And.intro @awc (And.intro @avp (And.intro @avq (And.intro @asu (And.intro @ast (And.intro @awc (And.intro @aA0 (And.intro @aus (And.intro @axw (And.intro @axv (And.intro @avy (And.intro @afm (And.intro @ac2 (And.intro @apN (And.intro @aq9 (And.intro @aAv (And.intro @axm (@axn)))))))))))))))))))
def W05:=And.intro @ats (And.intro @atr (And.intro @att (And.intro @apM (And.intro @amE (And.intro @aAu (And.intro @aov (And.intro @aoN (And.intro @aoM (And.intro @aet (And.intro @aes (And.intro @ga (And.intro @aaR (And.intro @aq (And.intro @yN (And.intro @aei (And.intro @aej (And.intro @aax (And.intro @nI (@uS)))))))))))))))))))
def W06:=And.intro @aav (And.intro @aaw (And.intro @si (And.intro @wK (And.intro @qF (And.intro @uy (And.intro @uz (And.intro @List.map_cons.{0,0} (And.intro @List.map_nil.{0,0} (And.intro @Option.map_some.{0,0} (And.intro @Option.map_none.{0,0} (And.intro @List.getD_cons_zero.{0} (And.intro @List.getD_cons_succ.{0} (And.intro @List.length_nil.{0} (And.intro @List.length_cons.{0} (And.intro @List.length_append.{0} (And.intro @List.length_set.{0} (And.intro @List.length_map.{0,0} (And.intro @List.length_replicate.{0} (@List.nil_append.{0})))))))))))))))))))
def W07:=And.intro @List.cons_append.{0} (And.intro @List.append_nil.{0} (And.intro @List.set_cons_zero.{0} (And.intro @List.set_cons_succ.{0} (And.intro @List.replicate_succ.{0} (And.intro @List.replicate_zero.{0} (And.intro @List.mem_cons.{0} (And.intro @List.not_mem_nil.{0} (And.intro @or_false (And.intro @forall_eq.{0} (And.intro @false_implies (And.intro @implies_true.{0} (And.intro @List.all_cons.{0} (And.intro @List.all_nil.{0} (And.intro @Bool.and_true (And.intro @Bool.true_and (And.intro @Bool.or_true (And.intro @Bool.true_or (And.intro @Bool.not_true (@Bool.not_false)))))))))))))))))))
def W08:=And.intro @Bool.not_not (And.intro @decide_true (And.intro @decide_false (And.intro @Option.getD_none.{0} (And.intro @Option.getD_some.{0} (And.intro @true_and (And.intro @and_true (And.intro @Nat.zero_add (And.intro @Nat.add_zero (And.intro @Nat.lt_add_one (And.intro @Nat.zero_lt_succ (And.intro @Nat.le_refl (And.intro @if_true.{1} (And.intro @if_false.{1} (And.intro @ne_eq.{1} (And.intro @not_false_eq_true (And.intro @Int.toNat_natCast (And.intro @Int.natCast_nonneg (And.intro @eq_self.{1} (@beq_self_eq_true.{0})))))))))))))))))))
def W09:=And.intro @ay5 (And.intro @asf (And.intro @arH (And.intro @aoe (And.intro @arI (And.intro @arJ (And.intro @arK (And.intro @arG (And.intro @avj (And.intro @avk (And.intro @avl (And.intro @arL (And.intro @aut (And.intro @awa (And.intro @awb (And.intro @avC (And.intro @avD (And.intro @aAt (And.intro @aoQ (And.intro @aoO @axo)))))))))))))))))))
attribute [irreducible] puT anH e7 kT abO aeu qL tC alV fu unT ahO uD apV al2 aon aoo ahq aan asJ atU ajR
def WA:=And.intro W00 (And.intro W01 (And.intro W02 (And.intro W03 (And.intro W04 (And.intro W05 (And.intro W06 (And.intro W07 (And.intro W08 W09))))))))
end Go.Ab
namespace Go.Ab
section
variable {P:Program}
theorem acw{d:Int}{x:Option AV}{M:Int->Prop}(h:y8 d x M):∃i,M i/\∀M':Int->Prop,M' i->y8 d x M':=by
 unfold y8 at h⊢
 split at h
 ·exact⟨_,h,λ _ h=>h⟩
 ·exact⟨_,h,λ _ h=>h⟩
 ·exact h.elim
theorem PO.aki{r:List AV}{o:PO}{K:AV->Prop}(h:o.wp P r K):∃v,K v/\∀K':AV->Prop,K' v->o.wp P r K':=by
 cases o<;>simp only[PO.wp]at h⊢
 case val=>exact⟨_,h,λ _ h=>h⟩
 case pick c a b=>
  generalize c.ev r=A at h⊢;unfold oQ at h⊢
  split at h
  ·exact⟨_,h,λ _ h=>h⟩
  ·exact h.elim
 case bin op a b=>
  generalize a.ev r=A at h⊢;generalize b.ev r=B at h⊢;unfold eS at h⊢
  split at h
  ·split at h
   ·rename_i hz;simp only[hz];exact⟨_,h,λ _ h=>h⟩
   ·exact h.elim
  ·exact h.elim
 case beq neg a b=>
  generalize a.ev r=A at h⊢;generalize b.ev r=B at h⊢;unfold aeL at h⊢
  split at h
  ·exact⟨_,h,λ _ h=>h⟩
  ·exact h.elim
 case un op a=>
  generalize a.ev r=A at h⊢;unfold unK at h⊢
  split at h
  ·split at h
   ·rename_i hz;simp only[hz];exact⟨_,h,λ _ h=>h⟩
   ·exact h.elim
  ·exact h.elim
 case conv k a=>
  generalize a.ev r=A at h⊢;unfold vb at h⊢
  split at h
  ·exact⟨_,h,λ _ h=>h⟩
  ·exact h.elim
 case elem s l i=>
  generalize l.ev r=A at h⊢;generalize i.ev r=B at h⊢;unfold kK at h⊢
  split at h
  ·exact⟨_,h.2.2.2,λ _ h'=>⟨h.1,h.2.1,h.2.2.1,h'⟩⟩
  ·exact h.elim
 case yC=>exact⟨_,h.2.2,λ _ h'=>⟨h.1,h.2.1,h'⟩⟩
 case uM=>exact⟨_,h.2,λ _ h'=>⟨h.1,h'⟩⟩
 case kU a i=>
  generalize a.ev r=A at h⊢;generalize i.ev r=B at h⊢;unfold uV at h⊢
  split at h
  ·exact⟨_,h.2.2,λ _ h'=>⟨h.1,h.2.1,h'⟩⟩
  ·exact h.elim
 case fC a lo hi=>
  generalize a.ev r=A at h⊢;unfold lq at h⊢
  split at h
  ·obtain⟨l,h1,h2⟩:=acw h;obtain⟨u,h3,h4⟩:=acw h1;exact⟨_,h3.2.2.2,λ _ h'=>h2 _ (h4 _ ⟨h3.1,h3.2.1,h3.2.2.1,h'⟩)⟩
  ·exact h.elim
 case db s a lo hi=>
  generalize a.ev r=A at h⊢;unfold lu at h⊢
  split at h
  ·obtain⟨l,h1,h2⟩:=acw h;obtain⟨u,h3,h4⟩:=acw h1;exact⟨_,h3.2.2.2.2,λ _ h'=>h2 _ (h4 _ ⟨h3.1,h3.2.1,h3.2.2.1,h3.2.2.2.1,h'⟩)⟩
  ·exact h.elim
 case kC a=>
  generalize a.ev r=A at h⊢;unfold uN at h⊢
  split at h
  ·exact⟨_,h,λ _ h=>h⟩
  ·exact h.elim
 case bM a=>
  generalize a.ev r=A at h⊢;unfold lV at h⊢
  split at h
  ·exact⟨_,h,λ _ h=>h⟩
  ·exact⟨_,h,λ _ h=>h⟩
  ·simp[tH]at h
  ·exact h.elim
 case kB=>exact⟨_,h,λ _ h=>h⟩
 case rep bytes z n c=>
  generalize n.ev r=A at h⊢;generalize c.ev r=B at h⊢;unfold adb at h⊢
  split at h
  ·exact⟨_,h.2.2.2.2,λ _ h'=>⟨h.1,h.2.1,h.2.2.1,h.2.2.2.1,h'⟩⟩
  ·exact h.elim
 case app s bytes l y=>
  generalize y.ev r=A at h⊢;unfold agM kx at h⊢
  split at h
  ·exact⟨_,h.2.2.2,λ _ h'=>⟨h.1,h.2.1,h.2.2.1,h'⟩⟩
  ·exact⟨_,h.2.2.2,λ _ h'=>⟨h.1,h.2.1,h.2.2.1,h'⟩⟩
  ·simp[tH]at h
  ·exact h.elim
 case get=>exact⟨_,h.2.2,λ _ h'=>⟨h.1,h.2.1,h'⟩⟩
 case set=>exact⟨_,h.2.2.2.2,λ _ h'=>⟨h.1,h.2.1,h.2.2.1,h.2.2.2.1,h'⟩⟩
 case call=>obtain⟨res,h1,h2,h3,h4⟩:=h;exact⟨res,h4,λ _ h'=>⟨res,h1,h2,h3,h'⟩⟩
 case eV=>obtain⟨xs,h1,h2,h3⟩:=h;exact⟨_,h3,λ _ h'=>⟨xs,h1,h2,h'⟩⟩
 case bp=>obtain⟨os,h1,h2,h3,h4⟩:=h;exact⟨_,h4,λ _ h'=>⟨os,h1,h2,h3,h'⟩⟩
 case eu g args flat=>
  generalize g.ev r=A at h⊢;unfold pT at h⊢
  split at h
  ·obtain⟨res,h1,h2,h3,h4⟩:=h;exact⟨res,h4,λ _ h'=>⟨res,h1,h2,h3,h'⟩⟩
  ·exact h.elim
 case ldp n a=>
  generalize a.ev r=A at h⊢;unfold aiX at h⊢
  split at h
  ·exact⟨_,h.2,λ _ h'=>⟨h.1,h'⟩⟩
  ·exact h.elim
 case fap off a=>
  generalize a.ev r=A at h⊢;unfold ajr at h⊢
  split at h
  ·exact⟨_,h,λ _ h=>h⟩
  ·exact h.elim
 case pu o ds=>
  cases hz:v8 o (D.a9 r ds)with
  |some v=>simp only[puK,hz]at h⊢;exact⟨_,h,λ _ h=>h⟩
  |none=>simp only[puK,hz]at h
 case j7 s bytes l y=>
  generalize y.ev r=A at h⊢;unfold yS at h⊢
  split at h
  ·exact⟨_,h.2.2.2,λ _ h'=>⟨h.1,h.2.1,h.2.2.1,h'⟩⟩
  ·exact h.elim
theorem nf.aki{r:List AV}{c:nf}{K:Prop}(h:c.wp r K):K/\∀K':Prop,K'->c.wp r K':=by
 cases c<;>simp only[nf.wp]at h⊢
 case cells=>exact⟨h.2.2.2,λ _ h'=>⟨h.1,h.2.1,h.2.2.1,h'⟩⟩
 case one=>exact⟨h.2.2,λ _ h'=>⟨h.1,h.2.1,h'⟩⟩
 case lt=>exact⟨h.2,λ _ h'=>⟨h.1,h'⟩⟩
 case ba a j=>
  generalize a.ev r=A at h⊢;unfold ah4 at h⊢
  split at h
  ·exact⟨h.2,λ _ h'=>⟨h.1,h'⟩⟩
  ·exact h.elim
 case idx l i=>
  generalize i.ev r=A at h⊢;unfold agh at h⊢
  split at h
  ·exact⟨h.2.2,λ _ h'=>⟨h.1,h.2.1,h'⟩⟩
  ·exact h.elim
 case alY a=>
  generalize a.ev r=A at h⊢;unfold xV at h⊢
  split at h
  ·exact⟨h,λ _ h'=>h'⟩
  ·exact⟨h,λ _ h'=>h'⟩
  ·exact h.elim
 case ne=>exact⟨h.2,λ _ h'=>⟨h.1,h'⟩⟩
 case eql=>exact⟨h.2,λ _ h'=>⟨h.1,h'⟩⟩
abbrev LF:AX->SS->List AV->Prop:=λ _ _ _=>False
def Out(P:Program)(R:AV->Prop)(t:T)(r:List AV)(S:List (List AV->Prop)):Prop:=
 (∃a,R a/\∀(R':AV->Prop) (S':List (List AV->Prop)),S'.length=S.length->R' a->bF P LF R' t r S')∨
 (∃(j:Nat) (vs:List AV) (J:List AV->Prop),S[j]? =some J/\J vs/\∀(R':AV->Prop) (S':List (List AV->Prop)) (J':List AV->Prop),S'.length=S.length->S'[j]? =some J'->J' vs->bF P LF R' t r S')∨
 (∀(R':AV->Prop) (S':List (List AV->Prop)),S'.length=S.length->bF P LF R' t r S')
theorem alB{R:AV->Prop}{r:List AV}{b:T}{k:Nat}{S:List (List AV->Prop)}{J:Nat->List AV->Prop}
  (hb:∀n vs,J n vs->vs.length=k->Out P R b (r++vs) ((λ ng=>∃m,m<n/\J m ng)::S)):
  ∀(n:Nat) (vs:List AV),J n vs->(vs.length=k->
   ((∃a,R a/\∀(R':AV->Prop) (S':List (List AV->Prop)),S'.length=S.length->R' a->∃(J':Nat->List AV->Prop) (n':Nat),J' n' vs/\∀n vs,J' n vs->vs.length=k->bF P LF R' b (r++vs) ((λ ng=>∃m,m<n/\J' m ng)::S'))∨
    (∃(j:Nat) (ws:List AV) (M:List AV->Prop),S[j]? =some M/\M ws/\∀(R':AV->Prop) (S':List (List AV->Prop)) (M':List AV->Prop),S'.length=S.length->S'[j]? =some M'->M' ws->∃(J':Nat->List AV->Prop) (n':Nat),J' n' vs/\∀n vs,J' n vs->vs.length=k->bF P LF R' b (r++vs) ((λ ng=>∃m,m<n/\J' m ng)::S'))∨
    (∀(R':AV->Prop) (S':List (List AV->Prop)),S'.length=S.length->∃(J':Nat->List AV->Prop) (n':Nat),J' n' vs/\∀n vs,J' n vs->vs.length=k->bF P LF R' b (r++vs) ((λ ng=>∃m,m<n/\J' m ng)::S')))):=by
 intro n
 induction n using Nat.strongRecOn with
 |_ n ih=>
  intro vs hJ hvk
  have more:∀{ng:List AV} {R':AV->Prop} {S':List (List AV->Prop)},(∃(J':Nat->List AV->Prop) (n':Nat),J' n' ng/\∀n vs,J' n vs->vs.length=k->bF P LF R' b (r++vs) ((λ ng=>∃m,m<n/\J' m ng)::S'))->
    (∀J2:List AV->Prop,J2 ng->bF P LF R' b (r++vs) (J2::S'))->
    ∃(J':Nat->List AV->Prop) (n':Nat),J' n' vs/\∀n vs,J' n vs->vs.length=k->bF P LF R' b (r++vs) ((λ ng=>∃m,m<n/\J' m ng)::S'):=by
   rintro ng R' S' ⟨J',n',h1,h2⟩ h3;refine⟨λ m w=>(m<=n'/\J' m w)∨(m=n'+1/\w=vs),n'+1,.inr ⟨rfl,rfl⟩,λ m w hm hw=> ?_⟩;rcases hm with⟨hm1,hm2⟩|⟨rfl,rfl⟩
   ·have:=h2 m w hm2 hw
    have e:(λ ng=>∃m1,m1<m/\((m1<=n'/\J' m1 ng)∨(m1=n'+1/\ng=vs)))=λ ng=>∃m1,m1<m/\J' m1 ng:=by
     funext ng
     apply propext;constructor
     ·rintro⟨m1,h,h'|h'⟩
      ·exact⟨m1,h,h'.2⟩
      ·omega
     ·rintro⟨m1,h,h'⟩;exact⟨m1,h,.inl ⟨by omega,h'⟩⟩
    rw[e];exact this
   ·exact h3 _ ⟨n',by omega,.inl ⟨Nat.le_refl _,h1⟩⟩
  have here:∀{R':AV->Prop} {S':List (List AV->Prop)},(∀J2:List AV->Prop,bF P LF R' b (r++vs) (J2::S'))->
    ∃(J':Nat->List AV->Prop) (n':Nat),J' n' vs/\∀n vs,J' n vs->vs.length=k->bF P LF R' b (r++vs) ((λ ng=>∃m,m<n/\J' m ng)::S'):=by
   intro R' S' h;refine⟨λ m w=>m=0/\w=vs,0,⟨rfl,rfl⟩,λ m w hm hw=> ?_⟩;obtain⟨rfl,rfl⟩:=hm;exact h _
  rcases hb n vs hJ hvk with⟨a,ha,hw⟩|⟨j,ws,M,hM,hws,hw⟩|hw
  ·exact .inl ⟨a,ha,λ R' S' hl hr=>here λ J2=>hw R' (J2::S') (by simp[hl]) hr⟩
  ·cases j with
   |zero=>
    simp only[List.getElem?_cons_zero,Option.some.injEq]at hM;subst hM;obtain⟨m,hm,hJm⟩:=hws;by_cases vN:ws.length=k
    ·rcases ih m hm ws hJm vN with⟨a,ha,h1⟩|⟨j,us,M,hM,hus,h1⟩|h1
     ·exact .inl ⟨a,ha,λ R' S' hl hr=>more (h1 R' S' hl hr) λ J2 h2=>hw R' (J2::S') J2 (by simp[hl]) rfl h2⟩
     ·exact .inr (.inl ⟨j,us,M,hM,hus,λ R' S' M' hl hm hr=>more (h1 R' S' M' hl hm hr) λ J2 h2=>hw R' (J2::S') J2 (by simp[hl]) rfl h2⟩)
     ·exact .inr (.inr λ R' S' hl=>more (h1 R' S' hl) λ J2 h2=>hw R' (J2::S') J2 (by simp[hl]) rfl h2)
    ·refine .inr (.inr λ R' S' hl=>more (ng:=ws) ⟨λ m w=>m=0/\w=ws,0,⟨rfl,rfl⟩,λ m w hm hw'=> ?_⟩ λ J2 h2=>hw R' (J2::S') J2 (by simp[hl]) rfl h2);rw[hm.2]at hw';exact(vN hw').elim
   |succ j=>
    simp only[List.getElem?_cons_succ]at hM;exact .inr (.inl ⟨j,ws,M,hM,hws,λ R' S' M' hl hm hr=>here λ J2=>hw R' (J2::S') M' (by simp[hl]) (by simpa using hm) hr⟩)
  ·exact .inr (.inr λ R' S' hl=>here λ J2=>hw R' (J2::S') (by simp[hl]))
theorem ll{R:AV->Prop}:∀(t:T) (r:List AV) (S:List (List AV->Prop)),bF P LF R t r S->Out P R t r S
 | .leaf x s,r,S,h=>h.elim
 | .ret ds,r,S,h=> .inl ⟨_,h,λ R' S' _ hr=>hr⟩
 | .jump vs,r,S,h=>by
   cases S with
   |nil=>exact h.elim
   |cons J S=>
    refine .inr (.inl ⟨0,_,J,rfl,h,λ R' S' J' hl hj hv=> ?_⟩);cases S' with
    |nil=>simp at hj
    |cons J2 S'=>simp only[List.getElem?_cons_zero,Option.some.injEq]at hj;subst hj;exact hv
 | .dM t,r,S,h=>by
   cases S with
   |nil=>exact h.elim
   |cons J S=>
    have key:∀{S':List (List AV->Prop)},S'.length=(J::S).length->∃J2 S2,S'=J2::S2/\S2.length=S.length:=by
     intro S' hl;cases S' with
     |nil=>simp at hl
     |cons J2 S2=>exact⟨J2,S2,rfl,by simpa using hl⟩
    rcases ll t r S h with⟨a,ha,hw⟩|⟨j,vs,M,hM,nh,hw⟩|hw
    ·refine .inl ⟨a,ha,λ R' S' hl hr=> ?_⟩;obtain⟨J2,S2,rfl,h2⟩:=key hl;exact hw R' S2 h2 hr
    ·refine .inr (.inl ⟨j+1,vs,M,by simpa using hM,nh,λ R' S' J' hl hj hv=> ?_⟩);obtain⟨J2,S2,rfl,h2⟩:=key hl;exact hw R' S2 J' h2 (by simpa using hj) hv
    ·refine .inr (.inr λ R' S' hl=> ?_);obtain⟨J2,S2,rfl,h2⟩:=key hl;exact hw R' S2 h2
 | .op o t,r,S,h=>by
   obtain⟨v,h1,h2⟩:=PO.aki h;rcases ll t (r++ [v]) S h1 with⟨a,ha,hw⟩|⟨j,vs,M,hM,nh,hw⟩|hw
   ·exact .inl ⟨a,ha,λ R' S' hl hr=>h2 _ (hw R' S' hl hr)⟩
   ·exact .inr (.inl ⟨j,vs,M,hM,nh,λ R' S' J' hl hj hv=>h2 _ (hw R' S' J' hl hj hv)⟩)
   ·exact .inr (.inr λ R' S' hl=>h2 _ (hw R' S' hl))
 | .aJ c t,r,S,h=>by
   obtain⟨h1,h2⟩:=nf.aki h;rcases ll t r S h1 with⟨a,ha,hw⟩|⟨j,vs,M,hM,nh,hw⟩|hw
   ·exact .inl ⟨a,ha,λ R' S' hl hr=>h2 _ (hw R' S' hl hr)⟩
   ·exact .inr (.inl ⟨j,vs,M,hM,nh,λ R' S' J' hl hj hv=>h2 _ (hw R' S' J' hl hj hv)⟩)
   ·exact .inr (.inr λ R' S' hl=>h2 _ (hw R' S' hl))
 | .ite c t f,r,S,h=>by
   simp only[bF]at h
   split at h
   ·rename_i b hb;cases b with
    |true=>
     have go:∀{R' S'},bF P LF R' t r S'->bF P LF R' (.ite c t f) r S':=λ hx=>by simp only[bF,hb];exact⟨λ _=>hx,λ h=>(nomatch h)⟩
     rcases ll t r S (h.1 rfl)with⟨a,ha,hw⟩|⟨j,vs,M,hM,nh,hw⟩|hw
     ·exact .inl ⟨a,ha,λ R' S' hl hr=>go (hw R' S' hl hr)⟩
     ·exact .inr (.inl ⟨j,vs,M,hM,nh,λ R' S' J' hl hj hv=>go (hw R' S' J' hl hj hv)⟩)
     ·exact .inr (.inr λ R' S' hl=>go (hw R' S' hl))
    |false=>
     have go:∀{R' S'},bF P LF R' f r S'->bF P LF R' (.ite c t f) r S':=λ hx=>by simp only[bF,hb];exact⟨λ h=>(nomatch h),λ _=>hx⟩
     rcases ll f r S (h.2 rfl)with⟨a,ha,hw⟩|⟨j,vs,M,hM,nh,hw⟩|hw
     ·exact .inl ⟨a,ha,λ R' S' hl hr=>go (hw R' S' hl hr)⟩
     ·exact .inr (.inl ⟨j,vs,M,hM,nh,λ R' S' J' hl hj hv=>go (hw R' S' J' hl hj hv)⟩)
     ·exact .inr (.inr λ R' S' hl=>go (hw R' S' hl))
   ·exact h.elim
 | .bind k a b,r,S,h=>by
   rcases ll a r _ h with⟨x,hx,hw⟩|⟨j,vs,M,hM,nh,hw⟩|hw
   ·exact .inl ⟨x,hx,λ R' S' hl hr=>hw R' (_::S') (by simp[hl]) hr⟩
   ·cases j with
    |zero=>
     simp only[List.getElem?_cons_zero,Option.some.injEq]at hM;subst hM;by_cases hk:vs.length=k
     ·rcases ll b (r++vs) S (nh hk)with⟨x,hx,h1⟩|⟨j,us,M,hM,hus,h1⟩|h1
      ·exact .inl ⟨x,hx,λ R' S' hl hr=>hw R' (_::S') _ (by simp[hl]) rfl λ _=>h1 R' S' hl hr⟩
      ·exact .inr (.inl ⟨j,us,M,hM,hus,λ R' S' J' hl hj hv=>hw R' (_::S') _ (by simp[hl]) rfl λ _=>h1 R' S' J' hl hj hv⟩)
      ·exact .inr (.inr λ R' S' hl=>hw R' (_::S') _ (by simp[hl]) rfl λ _=>h1 R' S' hl)
     ·exact .inr (.inr λ R' S' hl=>hw R' (_::S') _ (by simp[hl]) rfl λ h=>(hk h).elim)
    |succ j=>
     simp only[List.getElem?_cons_succ]at hM;exact .inr (.inl ⟨j,vs,M,hM,nh,λ R' S' J' hl hj hv=>hw R' (_::S') J' (by simp[hl]) (by simpa using hj) hv⟩)
   ·exact .inr (.inr λ R' S' hl=>hw R' (_::S') (by simp[hl]))
 | .loop init b,r,S,h=>by
   obtain⟨J,n,h1,h2⟩:=h;have hb:∀n vs,J n vs->vs.length=init.length->Out P R b (r++vs) ((λ ng=>∃m,m<n/\J m ng)::S):=λ n vs hj hl=>ll b _ _ (h2 n vs hj hl)
   rcases alB hb n _ h1 (by rw[D.aT,List.length_map])with⟨a,ha,hw⟩|⟨j,vs,M,hM,nh,hw⟩|hw
   ·exact .inl ⟨a,ha,λ R' S' hl hr=>hw R' S' hl hr⟩
   ·exact .inr (.inl ⟨j,vs,M,hM,nh,λ R' S' J' hl hj hv=>hw R' S' J' hl hj hv⟩)
   ·exact .inr (.inr λ R' S' hl=>hw R' S' hl)
theorem arz{R:AV->Prop}{t:T}{r:List AV}(bB:∃a,R a)(h:bF P LF R t r []):∃a,R a/\bF P LF (λ x=>x=a) t r []:=by
 rcases ll t r [] h with⟨a,ha,hw⟩|⟨j,vs,M,hM,nh,hw⟩|hw
 ·exact⟨a,ha,hw _ [] rfl rfl⟩
 ·simp at hM
 ·obtain⟨a,ha⟩:=bB;exact⟨a,ha,hw _ [] rfl⟩
def ex(m:Nat)(Q:List AV->Prop):AV->Prop:=λ a=>∃outs,outs.length=m/\Q outs/\a=bz outs
theorem pN{m:Nat}{Q:List AV->Prop}{t:T}{r:List AV}(bB:∃outs,outs.length=m/\Q outs)(h:bF P LF (ex m Q) t r []):∃outs,outs.length=m/\Q outs/\bF P LF (λ a=>a=bz outs) t r []:=by
 obtain⟨outs,h1,h2⟩:=bB;obtain⟨a,⟨os,h3,h4,rfl⟩,h5⟩:=arz ⟨_,outs,h1,h2,rfl⟩ h;exact⟨os,h3,h4,h5⟩
end
end Go.Ab
namespace Go.Ab
variable {P:Program}
theorem pn:∀(ops:List aP) {e:Env} {O:List ae} {K:Env->List ae->Prop},wpOps P ops e O K->∃e' O',K e' O'/\∀K':Env->List ae->Prop,K' e' O'->wpOps P ops e O K'
 | [],e,O,K,h=>⟨e,O,h,λ _ h=>h⟩
 |o::r,e,O,K,h=>by
  simp only[wpOps]at h;cases hg:o.guard with
  |none=>
   simp only[hg]at h;obtain⟨x,O1,h1,h2⟩:=u9 h;obtain⟨e',O',h3,h4⟩:=pn r h1;exact⟨e',O',h3,λ K' hk=>by simp only[wpOps,hg];exact h2 _ (h4 K' hk)⟩
  |some g=>
   obtain⟨t,want⟩:=g;simp only[hg]at h
   split at h
   ·rename_i b hb;by_cases lA:b=want
    ·obtain⟨x,O1,h1,h2⟩:=u9 (h.1 lA);obtain⟨e',O',h3,h4⟩:=pn r h1
     exact⟨e',O',h3,λ K' hk=>by
      simp only[wpOps,hg,hb];exact⟨λ _=>h2 _ (h4 K' hk),λ hn=>by subst lA;cases b<;>simp at hn⟩⟩
    ·have kV:b= !want:=by cases b<;>cases want<;>simp_all
     obtain⟨e',O',h3,h4⟩:=pn r (h.2 kV)
     exact⟨e',O',h3,λ K' hk=>by
      simp only[wpOps,hg,hb];exact⟨λ hn=>(lA hn).elim,λ _=>h4 K' hk⟩⟩
   ·rename_i hb;obtain⟨e',O',h3,h4⟩:=pn r h;exact⟨e',O',h3,λ K' hk=>by simp only[wpOps,hg,hb];exact h4 K' hk⟩
   ·exact h.elim
theorem nk:∀(ops:List aP) {acc:List g9} {e:Env} {O:List ae} {K:List g9->Env->List ae->Prop},cI P ops acc e O K->∃ic e' O',K ic e' O'/\∀K':List g9->Env->List ae->Prop,K' ic e' O'->cI P ops acc e O K'
 | [],acc,e,O,K,h=>⟨acc,e,O,h,λ _ h=>h⟩
 |o::r,acc,e,O,K,h=>by
  simp only[cI]at h;cases hg:o.guard with
  |none=>
   simp only[hg]at h;obtain⟨x,O1,h1,h2⟩:=u9 h;obtain⟨l,e',O',h3,h4⟩:=nk r h1;exact⟨l,e',O',h3,λ K' hk=>by simp only[cI,hg];exact h2 _ (h4 K' hk)⟩
  |some g=>
   obtain⟨t,want⟩:=g;simp only[hg]at h
   split at h
   ·rename_i b hb;by_cases lA:b=want
    ·obtain⟨x,O1,h1,h2⟩:=u9 (h.1 lA);obtain⟨l,e',O',h3,h4⟩:=nk r h1
     exact⟨l,e',O',h3,λ K' hk=>by
      simp only[cI,hg,hb];exact⟨λ _=>h2 _ (h4 K' hk),λ hn=>by subst lA;cases b<;>simp at hn⟩⟩
    ·have kV:b= !want:=by cases b<;>cases want<;>simp_all
     obtain⟨l,e',O',h3,h4⟩:=nk r (h.2 kV)
     exact⟨l,e',O',h3,λ K' hk=>by
      simp only[cI,hg,hb];exact⟨λ hn=>(lA hn).elim,λ _=>h4 K' hk⟩⟩
   ·rename_i hb;obtain⟨l,e',O',h3,h4⟩:=nk r h;exact⟨l,e',O',h3,λ K' hk=>by simp only[cI,hg,hb];exact h4 K' hk⟩
   ·exact h.elim
theorem nj{n0:Nat}:∀(ops:List aP) {e:Env} {O:List ae} {K:Env->List ae->Prop},gD P n0 ops e O K->∃e' O',K e' O'/\∀K':Env->List ae->Prop,K' e' O'->gD P n0 ops e O K'
 | [],e,O,K,⟨e',O',h1,h2⟩=>⟨e',O',h2,λ _ h=>⟨e',O',h1,h⟩⟩
 |o::r,e0,O0,K,h=>by
  obtain⟨e,O,hw,h⟩:=h;cases hg:o.guard with
  |none=>
   simp only[hg]at h;obtain⟨x,O1,h1,h2⟩:=u9 h;obtain⟨e',O',h3,h4⟩:=nj r h1;exact⟨e',O',h3,λ K' hk=>⟨e,O,hw,by simp only[hg];exact h2 _ (h4 K' hk)⟩⟩
  |some g=>
   obtain⟨t,want⟩:=g;simp only[hg]at h
   split at h
   ·rename_i b hb;by_cases lA:b=want
    ·obtain⟨x,O1,h1,h2⟩:=u9 (h.1 lA);obtain⟨e',O',h3,h4⟩:=nj r h1
     exact⟨e',O',h3,λ K' hk=>⟨e,O,hw,by
      simp only[hg,hb];exact⟨λ _=>h2 _ (h4 K' hk),λ hn=>by subst lA;cases b<;>simp at hn⟩⟩⟩
    ·have kV:b= !want:=by cases b<;>cases want<;>simp_all
     obtain⟨e',O',h3,h4⟩:=nj r (h.2 kV)
     exact⟨e',O',h3,λ K' hk=>⟨e,O,hw,by
      simp only[hg,hb];exact⟨λ hn=>(lA hn).elim,λ _=>h4 K' hk⟩⟩⟩
   ·rename_i hb;obtain⟨e',O',h3,h4⟩:=nj r h;exact⟨e',O',h3,λ K' hk=>⟨e,O,hw,by simp only[hg,hb];exact h4 K' hk⟩⟩
   ·exact h.elim
theorem nV{n0:Nat}:∀(c:aU) {Q:AX->Env->List ae->Prop} {e:Env} {O:List ae},jR P n0 c Q e O->∃x e' O',Q x e' O'/\∀Q':AX->Env->List ae->Prop,Q' x e' O'->jR P n0 c Q' e O
 | .skip,Q,e,O,h=>⟨_,e,O,h,λ _ h=>h⟩
 | .region none ops,Q,e,O,h=>by
   obtain⟨e',O',h1,h2⟩:=pn ops h;exact⟨_,e',O',h1,λ Q' hq=>h2 _ hq⟩
 | .region (some rows) ops,Q,e,O,h=>by
   obtain⟨al,hs,h⟩:=h;obtain⟨l,e',O',⟨h0,h1⟩,h2⟩:=nk al h;exact⟨_,e',O',h1,λ Q' hq=>⟨al,hs,h2 _ ⟨h0,hq⟩⟩⟩
 | .gJ ops,Q,e,O,h=>by
   obtain⟨e',O',h1,h2⟩:=nj ops h;exact⟨_,e',O',h1,λ Q' hq=>h2 _ hq⟩
 | .seq a b,Q,e,O,h=>by
   obtain⟨x,e1,O1,h1,h2⟩:=nV a h;cases x with
   |normal=>
    obtain⟨x,e',O',h3,h4⟩:=nV b h1;exact⟨x,e',O',h3,λ Q' hq=>h2 _ (h4 Q' hq)⟩
   |exit i=>exact⟨_,e1,O1,h1,λ Q' hq=>h2 _ hq⟩
   |ret=>exact⟨_,e1,O1,h1,λ Q' hq=>h2 _ hq⟩
 | .cond c t f,Q,e,O,h=>by
   simp only[jR]at h
   split at h
   ·rename_i b hb;cases b with
    |true=>
     obtain⟨x,e',O',h1,h2⟩:=nV t (h.1 rfl);exact⟨x,e',O',h1,λ Q' hq=>by simp only[jR,hb];exact⟨λ _=>h2 _ hq,λ hn=>(by cases hn)⟩⟩
    |false=>
     obtain⟨x,e',O',h1,h2⟩:=nV f (h.2 rfl);exact⟨x,e',O',h1,λ Q' hq=>by simp only[jR,hb];exact⟨λ hn=>(by cases hn),λ _=>h2 _ hq⟩⟩
   ·exact h.elim
 | .block id b,Q,e,O,h=>by
   obtain⟨x,e',O',h1,h2⟩:=nV b h;cases x with
   |normal=>exact⟨_,e',O',h1,λ Q' hq=>h2 _ hq⟩
   |ret=>exact⟨_,e',O',h1,λ Q' hq=>h2 _ hq⟩
   |exit i=>
    by_cases hi:i=id
    ·simp only[hi,if_true]at h1;exact⟨_,e',O',h1,λ Q' hq=>h2 _ (by simp only[hi,if_true];exact hq)⟩
    ·simp only[if_neg hi]at h1;exact⟨_,e',O',h1,λ Q' hq=>h2 _ (by simp only[if_neg hi];exact hq)⟩
 | .loop b,Q,e,O,h=>by
   obtain⟨J,n,⟨e0,O0,hw0,hj0⟩,hb⟩:=h
   have key:∀n e O,J n e O->∃x e' O',Q x e' O'/\∀Q':AX->Env->List ae->Prop,Q' x e' O'->jR P n0 (.loop b) Q' e O:=by
    intro n
    induction n using Nat.strongRecOn with
    |_ n ih=>
     intro e O hj;obtain⟨x,e1,O1,h1,h2⟩:=nV b (hb n e O hj)
     have out:∀x,x≠ .normal->Q x e1 O1->(∀Q1:AX->Env->List ae->Prop,Q1 x e1 O1->jR P n0 b Q1 e O)->∃x e' O',Q x e' O'/\∀Q':AX->Env->List ae->Prop,Q' x e' O'->jR P n0 (.loop b) Q' e O:=by
      intro x hx hq h2;refine⟨x,e1,O1,hq,λ Q' hq'=>⟨λ k e' O'=>k=0/\e'=e/\O'=O,0,⟨e,O,.refl _ _ _,rfl,rfl,rfl⟩,?_⟩⟩;rintro k e' O' ⟨rfl,rfl,rfl⟩;refine h2 _ ?_;cases x with
      |normal=>exact(hx rfl).elim
      |exit i=>exact hq'
      |ret=>exact hq'
     cases x with
     |exit i=>exact out (.exit i) (by simp) h1 h2
     |ret=>exact out .ret (by simp) h1 h2
     |normal=>
      obtain⟨m,e2,O2,hm,hw,hj2⟩:=h1;obtain⟨x,e',O',h3,h4⟩:=ih m hm e2 O2 hj2;refine⟨x,e',O',h3,λ Q' hq=> ?_⟩;obtain⟨J2,n2,⟨e3,O3,hw3,hj3⟩,y7⟩:=h4 Q' hq;refine⟨λ k a b=>J2 k a b∨(k=n2+1/\a=e/\b=O),n2+1,⟨e,O,.refl _ _ _,.inr ⟨rfl,rfl,rfl⟩⟩,?_⟩;rintro k a c (hk|⟨rfl,rfl,rfl⟩)
      ·refine acQ b (λ x e O h=> ?_) (y7 k a c hk);cases x with
       |normal=>
        obtain⟨m,e',O',q1,q2,q3⟩:=h;exact⟨m,e',O',q1,q2,.inl q3⟩
       |exit i=>exact h
       |ret=>exact h
      ·exact h2 _ ⟨n2,e3,O3,Nat.lt_succ_self _,hw.trans hw3,.inl hj3⟩
   obtain⟨x,e',O',h1,h2⟩:=key n e0 O0 hj0;refine⟨x,e',O',h1,λ Q' hq=> ?_⟩;obtain⟨J2,n2,⟨e3,O3,hw3,hj3⟩,y7⟩:=h2 Q' hq;exact⟨J2,n2,⟨e3,O3,hw0.trans hw3,hj3⟩,y7⟩
 | .exit id,Q,e,O,h=>⟨_,e,O,h,λ _ h=>h⟩
 | .ret,Q,e,O,h=>⟨_,e,O,h,λ _ h=>h⟩
 | .aL live c,Q,e,O,h=>by
   obtain⟨x,e',O',h1,h2⟩:=nV c h;cases x with
   |normal=>exact⟨_,_,O',h1,λ Q' hq=>h2 _ hq⟩
   |exit i=>exact⟨_,e',O',h1,λ Q' hq=>h2 _ hq⟩
   |ret=>exact⟨_,e',O',h1,λ Q' hq=>h2 _ hq⟩
 | .ku c,Q,e,O,h=>by
   obtain⟨e1,O1,hw,h⟩:=h;obtain⟨x,e',O',h1,h2⟩:=nV c h;exact⟨x,e',O',h1,λ Q' hq=>⟨e1,O1,hw,h2 _ hq⟩⟩
def afo(n0:Nat)(rs:List dO)(Q:AV->List ae->Prop)(x:AX)(e:Env)(O:List ae):Prop:=
 match x with
 | .exit _=>False
 |_=>dQ e O rs [] λ xs=>∃e' O',WK n0 (λ t=>if t=0 then bz xs else .top) O e' O'/\Q (e' 0) O'
theorem atD{e:Env}{O:List ae}(r:dO){K:AV->Prop}(h:r.get e O K):∃x,K x/\∀K':AV->Prop,K' x->r.get e O K':=by
 cases r with
 |tmp t=>exact⟨_,h,λ _ h=>h⟩
 |cell t n=>
  simp only[dO.get]at h
  split at h
  ·rename_i k hk
   split at h
   ·rename_i a b x hx;exact⟨_,h.2,λ K' h'=>by simp only[dO.get,hk,hx];exact⟨h.1,h'⟩⟩
   ·exact h.elim
  ·exact h.elim
theorem ahb{e:Env}{O:List ae}:∀(rs:List dO) (acc:List AV) {K:List AV->Prop},dQ e O rs acc K->∃xs,K xs/\∀K':List AV->Prop,K' xs->dQ e O rs acc K'
 | [],acc,K,h=>⟨_,h,λ _ h=>h⟩
 |r::rs,acc,K,h=>by
  obtain⟨x,h1,h2⟩:=atD r h;obtain⟨xs,h3,h4⟩:=ahb rs (x::acc) h1;exact⟨xs,h3,λ K' hk=>h2 _ (h4 K' hk)⟩
theorem pQ{f:FuncId}{A:nT}(hf:vf P f A){args:List AV}{O:List ae}{Q:AV->List ae->Prop}(hl:args.length=A.dX)
  (h:jR P O.length A.code (afo O.length A.res Q) (mg args) O):∃res O',Q res O'/\hD P f args O res O':=by
 obtain⟨x,e',O',h1,h2⟩:=nV _ h
 have fin:∀x,(dQ e' O' A.res [] λ xs=>∃e1 O1,WK O.length (λ t=>if t=0 then bz xs else .top) O' e1 O1/\Q (e1 0) O1)->(∀Q':AX->Env->List ae->Prop,Q' x e' O'->jR P O.length A.code Q' (mg args) O)->x≠ .exit 0->(∀i,x≠ .exit i)->∃res O',Q res O'/\hD P f args O res O':=by
  intro x hr h2 _ hx;obtain⟨xs,⟨e1,O1,hw,hq⟩,h3⟩:=ahb _ _ hr;refine⟨e1 0,O1,hq,ik hf hl (h2 _ ?_)⟩;cases x with
  |exit i=>exact(hx i rfl).elim
  |normal=>exact h3 _ ⟨e1,hw,rfl⟩
  |ret=>exact h3 _ ⟨e1,hw,rfl⟩
 cases x with
 |exit i=>exact h1.elim
 |normal=>exact fin .normal h1 h2 (by simp) (by simp)
 |ret=>exact fin .ret h1 h2 (by simp) (by simp)
theorem ck{n0 t:Nat}{Q:AV->List ae->Prop}{x:AX}(hx:x= .ret∨x= .normal){e:Env}{O:List ae}(h:Q (e t) O):afo n0 [.tmp t] Q x e O:=by
 have:dQ e O [.tmp t] [] λ xs=>∃e' O',WK n0 (λ t=>if t=0 then bz xs else .top) O e' O'/\Q (e' 0) O':=
  ⟨λ s=>if s=0 then e t else .top,O,.refl _ _ _,h⟩
 rcases hx with rfl|rfl<;>exact this
end Go.Ab
