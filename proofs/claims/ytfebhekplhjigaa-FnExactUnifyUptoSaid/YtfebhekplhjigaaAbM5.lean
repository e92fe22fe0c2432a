/- Part of a proof: the functions that the law reaches, walked by the abstract logic of the texts Ab. -/
import Derived.Test.YtfebhekplhjigaaAbM4
import Derived.Test.YtfebhekplhjigaaAbM3
open Option(bind_eq_some_iff)
set_option linter.unusedVariables false
set_option linter.unusedSimpArgs false
set_option linter.defProp false
namespace Go.Ab
def axZ(x:Nat):List Nat->List Nat
 | []=>[x]
 |y::l=>if x<y then x::y::l else if x=y then y::l else y::axZ x l
def akQ(a b:List Nat):List Nat:=a.foldr axZ b
def aeZ:List aH->List Nat->List Nat
 | [],out=>out
 |o::r,out=>akQ o.reads (match o.dst with|some t=>(aeZ r out).filter (· !=t)|none=>aeZ r out)
def aC.slot:aC->List Nat
 | .t n=>[n]
 | .c _=>[]
def live(ret:List Nat):aK->List Nat->List (Nat×List Nat)->aK×List Nat
 | .skip,out,_=>(.skip,out)
 | .region rows ops,out,_=>(.ai out (.region rows ops),aeZ ops out)
 | .seq a b,out,ex=>
   let qb:=live ret b out ex
   let qa:=live ret a qb.2 ex
   (.seq qa.1 qb.1,qa.2)
 | .cond c t f,out,ex=>
   let qt:=live ret t out ex
   let qf:=live ret f out ex
   (.ai out (.cond c qt.1 qf.1),akQ c.slot (akQ qt.2 qf.2))
 | .block id b,out,ex=>
   let qb:=live ret b out ((id,out)::ex)
   (.ai out (.block id qb.1),qb.2)
 | .loop b,_,ex=>
   let l1:=(live ret b [] ex).2
   let l2:=akQ l1 (live ret b l1 ex).2
   let l3:=akQ l2 (live ret b l2 ex).2
   (.loop (live ret b l3 ex).1,l3)
 | .exit id,_,ex=>(.exit id,match ex.find? (λ p=>p.1==id)with|some p=>p.2|none=>[])
 | .ret,_,_=>(.ret,ret)
 | .ai l c,out,ex=>let q:=live ret c out ex;(.ai l q.1,q.2)
 | .mb c,out,ex=>let q:=live ret c out ex;(.mb q.1,q.2)
 | .gK ops,out,_=>(.gK ops,out)
structure Cfg where
 fl:List Nat
 fr:List (Nat×Bool×Nat×Nat)
 sg:List (Nat×List iW)
 cut:Bool
def azj:List (Nat×Bool×Nat×Nat)->Nat->Option (Bool×Nat×Nat)
 | [],_=>none
 |(g,q)::l,f=>if g=f then some q else azj l f
def awZ:List (Nat×List iW)->Nat->Option (List iW)
 | [],_=>none
 |(g,q)::l,f=>if g=f then some q else awZ l f
def asr(ops:List aH):List Nat:=ops.foldr (λ o l=>match o.op with
 | .app _ _ _ (.t k) _=>k::l
 | .mz _ _ _ (.t k) _=>k::l
 | .aq (.t k)=>(match o.dst with|some d=>if l.contains d=true then k::l else l|none=>l)
 |_=>l) []
def adq(c:Cfg)(drawn base:Bool):dY->dY
 | .call f as=>match awZ c.sg f with
   |some gs=>if drawn=true/\gs.any iW.one=true then .ko gs f as else .gy gs f as
   |none=>match azj c.fr f with
    |some (nl,e,s)=>if drawn=true/\base=false then(if c.fl.contains f=true then .nR f as else .mN f as)else .fc nl e s f as
    |none=>if drawn=true then(if c.fl.contains f=true then .nR f as else .mN f as)else .pb f as
 | .eI x as=>if drawn=true then .jc x as else .kx x as
 | .cO s x l h=>if c.cut=true then .cut s x l h else .cO s x l h
 | .buildSlice t s l z ps=>if(drawn=true∨(c.cut=true/\ps.all (λ p=>match p.2 with| .c _=>true| .t _=>false)=true))/\base=false then .jf t s l z ps else .buildSlice t s l z ps
 |o=>o
def asK(c:Cfg)(rows:Bool)(bs:List Nat)(o:aH):aH:={o with op:=adq c rows (match o.dst with|some t=>bs.contains t|none=>false) o.op}
def sM(gen:Cfg):aK->aK
 | .region rows ops=> .region rows (ops.map (asK gen rows.isSome (asr ops)))
 | .seq a b=> .seq (sM gen a) (sM gen b)
 | .cond c t f=> .cond c (sM gen t) (sM gen f)
 | .block id b=> .block id (sM gen b)
 | .loop b=> .loop (sM gen b)
 | .ai l c=> .ai l (sM gen c)
 | .mb c=> .mb (sM gen c)
 |c=>c
theorem fZ(ret:List Nat):∀(c:aK) (out:List Nat) (ex:List (Nat×List Nat)),(live ret c out ex).1.strip=c.strip
 | .skip,_,_=>rfl
 | .region rows ops,_,_=>rfl
 | .seq a b,out,ex=>by simp only[live,aK.strip,fZ ret a,fZ ret b]
 | .cond c t f,out,ex=>by simp only[live,aK.strip,fZ ret t,fZ ret f]
 | .block id b,out,ex=>by simp only[live,aK.strip,fZ ret b]
 | .loop b,out,ex=>by simp only[live,aK.strip,fZ ret b]
 | .exit id,_,_=>rfl
 | .ret,_,_=>rfl
 | .ai l c,out,ex=>by simp only[live,aK.strip,fZ ret c]
 | .mb c,out,ex=>by simp only[live,aK.strip,fZ ret c]
 | .gK ops,_,_=>rfl
theorem agp(gen:Cfg)(d b:Bool)(o:dY):(adq gen d b o).strip=o.strip:=by
 cases o<;>try rfl
 case buildSlice=>simp only[adq];split<;>rfl
 case cO=>simp only[adq];split<;>rfl
 case eI=>simp only[adq];split<;>rfl
 case call=>
  simp only[adq]
  split
  ·split<;>rfl
  ·split
   ·split
    ·split<;>rfl
    ·rfl
   ·split
    ·split<;>rfl
    ·rfl
theorem fY(gen:Cfg):∀(c:aK),(sM gen c).strip=c.strip
 | .skip=>rfl
 | .region rows ops=>by
   simp only[sM,aK.strip,List.map_map];congr 1;apply List.map_congr_left;intro o _;simp only[Function.comp,aH.strip,asK,agp]
 | .seq a b=>by simp only[sM,aK.strip,fY gen a,fY gen b]
 | .cond c t f=>by simp only[sM,aK.strip,fY gen t,fY gen f]
 | .block id b=>by simp only[sM,aK.strip,fY gen b]
 | .loop b=>by simp only[sM,aK.strip,fY gen b]
 | .exit id=>rfl
 | .ret=>rfl
 | .ai l c=>by simp only[sM,aK.strip,fY gen c]
 | .mb c=>by simp only[sM,aK.strip,fY gen c]
 | .gK ops=>rfl
section
variable {P:Program} {nt:Nat}
theorem ahK{c:Call}{a:dY}(h:yV P c=some a):a.strip=a:=by
 unfold yV at h
 split at h
 ·split at h
  ·cases h;rfl
  ·cases h;rfl
  ·cases h
 ·split at h
  ·split at h
   ·simp only[Option.map_eq_some_iff]at h;obtain⟨_,_,rfl⟩:=h;rfl
   ·simp only[Option.map_eq_some_iff]at h;obtain⟨_,_,rfl⟩:=h;rfl
   ·cases h
  ·cases h
 ·split at h
  ·split at h
   ·simp only[Option.bind_eq_bind,bind_eq_some_iff,Option.some.injEq]at h;obtain⟨e,_,⟨s,b,z⟩,_,x,_,y,_,rfl⟩:=h
    rfl
   ·cases h
  ·cases h
 ·cases h
theorem apU{ty:TypeId}{op:Op}{t s l:Nat}{z:AV}{ps:List (Nat×aC)}(h:bL P ty op=some (.jf t s l z ps)):False:=by
 cases op<;>simp only[bL]at h
 all_goals (repeat' split at h)
 all_goals first
  |(simp[bind_eq_some_iff]at h;done)
  |(exfalso;simp_all;done)
theorem amA{ty:TypeId}{op:Op}{k t s:Nat}{z:AV}(h:bL P ty op=some (.gx k t s z)):False:=by
 cases op<;>simp only[bL]at h
 all_goals (repeat' split at h)
 all_goals first
  |(simp[bind_eq_some_iff]at h;done)
  |(exfalso;simp_all;done)
theorem amz{ty:TypeId}{op:Op}{k t s:Nat}{z:aC}(h:bL P ty op=some (.oz k t s z)):False:=by
 cases op<;>simp only[bL]at h
 all_goals (repeat' split at h)
 all_goals first
  |(simp[bind_eq_some_iff]at h;done)
  |(exfalso;simp_all;done)
theorem amy{ty:TypeId}{op:Op}{k t s l:Nat}{z:AV}{ps:List (Nat×aC)}(h:bL P ty op=some (.gw k t s l z ps)):False:=by
 cases op<;>simp only[bL]at h
 all_goals (repeat' split at h)
 all_goals first
  |(simp[bind_eq_some_iff]at h;done)
  |(exfalso;simp_all;done)
theorem amx{ty:TypeId}{op:Op}{s:Nat}{x:aC}{l h':Option aC}(h:bL P ty op=some (.cut s x l h')):False:=by
 cases op<;>simp only[bL]at h
 all_goals (repeat' split at h)
 all_goals first
  |(simp[bind_eq_some_iff]at h;done)
  |(exfalso;simp_all;done)
theorem amw{ty:TypeId}{op:Op}{neg:Bool}{x:aC}(h:bL P ty op=some (.y8 neg x)):False:=by
 cases op<;>simp only[bL]at h
 all_goals (repeat' split at h)
 all_goals first
  |(simp[bind_eq_some_iff]at h;done)
  |(exfalso;simp_all;done)
theorem amv{ty:TypeId}{op:Op}{e s b:Nat}{z:AV}{x y:aC}(h:bL P ty op=some (.mkF e s b z x y)):False:=by
 cases op<;>simp only[bL]at h
 all_goals (repeat' split at h)
 all_goals first
  |(simp[bind_eq_some_iff]at h;done)
  |(exfalso;simp_all;done)
theorem amu{ty:TypeId}{op:Op}{k e s b:Nat}{z:AV}{x y:aC}(h:bL P ty op=some (.aa0 k e s b z x y)):False:=by
 cases op<;>simp only[bL]at h
 all_goals (repeat' split at h)
 all_goals first
  |(simp[bind_eq_some_iff]at h;done)
  |(exfalso;simp_all;done)
theorem agj{a:dY}(hA:a.acV=false)(h:a.abo=false)(hf:∀t s l z ps,a≠ .jf t s l z ps):a.strip=a:=by
 cases a<;>first|rfl|(simp[dY.abo]at h;done)|(simp[dY.acV]at hA;done)|(exact(hf _ _ _ _ _ rfl).elim)
theorem amr{t:TypeId}{o:Op}{a:dY}(h:cOp P t o=some a):a.strip=a:=by
 unfold cOp amt at h;simp only[Option.some.injEq]at h
 split at h
 ·rename_i b hb;subst h;rcases rJ hb with⟨_,_,rfl⟩|⟨_,_,_,_,_,rfl⟩|⟨_,_,_,_,_,_,rfl⟩<;>rfl
 ·cases h0:zB P t o with
  |none=>rw[h0]at h;subst h;rfl
  |some b=>
   rw[h0]at h;simp only[Option.getD_some]at h;subst h;unfold zB at h0
   split at h0
   ·exact ahK h0
   ·rw[bind_eq_some_iff]at h0;obtain⟨b',hb,kD⟩:=h0
    split at kD
    ·cases kD
    ·rename_i hc;cases kD;exact agj (by cases b<;>first|rfl|exact(amA hb).elim|exact(amz hb).elim|exact(amy hb).elim|exact(amx hb).elim|exact(amw hb).elim|exact(amv hb).elim|exact(amu hb).elim) (by simpa using hc) (λ t s l z ps he=>apU (by rw[hb,he]))
theorem ahH{ops:Array Oper}{o:Oper}{a:aH}(h:rY P nt ops o=some a):a.strip=a:=by
 unfold rY at h
 split at h
 ·rename_i op g hop hg
  split at h
  ·cases h;simp only[aH.strip,amr hop]
  ·cases h
 ·cases h
theorem aa7{f:Oper->Option aH}(hf:∀o a,f o=some a->a.strip=a):∀(l:List Oper) {r:List aH},l.mapM f=some r->r.map aH.strip=r
 | [],r,h=>by simp at h;subst h;rfl
 |o::l,r,h=>by
  simp only[List.mapM_cons,Option.bind_eq_bind,Option.pure_def,bind_eq_some_iff,Option.some.injEq]at h;obtain⟨b,hb,bs,hbs,rfl⟩:=h;simp only[List.map_cons,hf o b hb,aa7 hf l hbs]
theorem ahJ:∀(code:Code) {c:aK},fE P nt code=some c->c.strip=c:=by
 intro code c h
 induction c generalizing code with
 |skip=>rfl
 |exit=>rfl
 |ret=>rfl
 |region rows ops=>
  rcases bR h with⟨_,h⟩|⟨id,an5,draw,aCW,afP,rfl,h,hm,hdr⟩|⟨_,_,_,_,_,h,_⟩|⟨_,_,_,_,_,_,_,h,_⟩|⟨_,_,_,_,h,_⟩|⟨_,_,_,h,_⟩|⟨_,_,h⟩|⟨_,h⟩<;>first|(cases h;done)|skip
  cases h;simp only[aK.strip];rw[aa7 (λ o a h=>ahH h) _ hm]
 |seq a b iha ihb=>
  rcases bR h with⟨_,h⟩|⟨_,_,_,_,_,_,h,_⟩|⟨cx,cy,ax,ay,rfl,h,hx,hy⟩|⟨_,_,_,_,_,_,_,h,_⟩|⟨_,_,_,_,h,_⟩|⟨_,_,_,h,_⟩|⟨_,_,h⟩|⟨_,h⟩<;>first|(cases h;done)|skip
  cases h;simp only[aK.strip,iha cx hx,ihb cy hy]
 |cond o t f iht ihf=>
  rcases bR h with⟨_,h⟩|⟨_,_,_,_,_,_,h,_⟩|⟨_,_,_,_,_,h,_⟩|⟨o',x,y,ao,ax,ay,rfl,h,h0,h1,h2⟩|⟨_,_,_,_,h,_⟩|⟨_,_,_,h,_⟩|⟨_,_,h⟩|⟨_,h⟩<;>first|(cases h;done)|skip
  cases h;simp only[aK.strip,iht x h1,ihf y h2]
 |block id b ih=>
  rcases bR h with⟨_,h⟩|⟨_,_,_,_,_,_,h,_⟩|⟨_,_,_,_,_,h,_⟩|⟨_,_,_,_,_,_,_,h,_⟩|⟨id',cb,ab,rfl,h,hb⟩|⟨_,_,_,h,_⟩|⟨_,_,h⟩|⟨_,h⟩<;>first|(cases h;done)|skip
  cases h;simp only[aK.strip,ih cb hb]
 |loop b ih=>
  rcases bR h with⟨_,h⟩|⟨_,_,_,_,_,_,h,_⟩|⟨_,_,_,_,_,h,_⟩|⟨_,_,_,_,_,_,_,h,_⟩|⟨_,_,_,_,h,_⟩|⟨cb,ab,rfl,h,hb⟩|⟨_,_,h⟩|⟨_,h⟩<;>first|(cases h;done)|skip
  cases h;simp only[aK.strip,ih cb hb]
 |ai l c ih=>
  rcases bR h with⟨_,h⟩|⟨_,_,_,_,_,_,h,_⟩|⟨_,_,_,_,_,h,_⟩|⟨_,_,_,_,_,_,_,h,_⟩|⟨_,_,_,_,h,_⟩|⟨_,_,_,h,_⟩|⟨_,_,h⟩|⟨_,h⟩<;>cases h
 |mb c ih=>
  rcases bR h with⟨_,h⟩|⟨_,_,_,_,_,_,h,_⟩|⟨_,_,_,_,_,h,_⟩|⟨_,_,_,_,_,_,_,h,_⟩|⟨_,_,_,_,h,_⟩|⟨_,_,_,h,_⟩|⟨_,_,h⟩|⟨_,h⟩<;>cases h
 |gK ops=>
  rcases bR h with⟨_,h⟩|⟨_,_,_,_,_,_,h,_⟩|⟨_,_,_,_,_,h,_⟩|⟨_,_,_,_,_,_,_,h,_⟩|⟨_,_,_,_,h,_⟩|⟨_,_,_,h,_⟩|⟨_,_,h⟩|⟨_,h⟩<;>cases h
end
def aqP:dg->Nat
 | .tmp t=>t
 | .cell t _=>t
def ahP(P:Program)(gen:Cfg)(fn:Func):Option lZ:=
 match fn.body with
 |none=>none
 |some code=>match fE P fn.ntmps code,fn.results.toList.mapM (amq P)with
  |some c,some rs=>some ⟨fn.params.size+fn.nfree,fn.ntmps,(live (akQ (rs.map aqP) []) (sM gen c) [] []).1,rs⟩
  |_,_=>none
theorem yl{P:Program}{f:FuncId}{fn:Func}{gen:Cfg}{A:lZ}(hf:P.funcs[f]? =some fn)(hA:ahP P gen fn=some A)(h1:A.cg<=A.nt)(h2:(fn.name== "runtime.NumGoroutine")=false):rK P f A:=by
 unfold ahP at hA
 split at hA
 ·cases hA
 ·rename_i code ao8
  split at hA
  ·rename_i c rs hc hrs;cases hA;refine⟨fn,code,hf,ao8,h2,rfl,h1,?_,hrs⟩;rw[hc];simp only[fZ,fY,ahJ code hc]
  ·cases hA
def ct(P:Program)(gen:Cfg)(fn:Func):Option (Nat×T):=
 match ahP P gen fn with
 |some A=>if A.cg<=A.nt/\(fn.name== "runtime.NumGoroutine")=false then
   match A.left gen.fl with
   |some t=>some (A.cg,t)
   |none=>none
  else none
 |none=>none
def wC(P:Program)(gen:Cfg)(nl:Bool)(e m:Nat)(fn:Func):Option (Nat×T):=
 match ahP P gen fn with
 |some A=>if A.cg<=A.nt/\(fn.name== "runtime.NumGoroutine")=false then
   match A.wC gen.fl nl e m with
   |some t=>some (A.cg,t)
   |none=>none
  else none
 |none=>none
theorem aY{P:Program}{f:FuncId}{fn:Func}{gen:Cfg}{n:Nat}{t:T}(hf:P.funcs[f]? =some fn)(h:ct P gen fn=some (n,t)){args:List AV}(hl:args.length=n)(hn:AV.ae args=true){res:AV}
  (hw:bW P (λ _ _ _=>False) (λ a=>a=res) t args []):a7 P f args res:=by
 unfold ct at h
 split at h
 ·rename_i A hA
  split at h
  ·rename_i hc
   split at h
   ·rename_i t' ht;cases h;exact apK (yl hf hA hc.1 hc.2) ht hl hn hw
   ·cases h
  ·cases h
 ·cases h
theorem yc{P:Program}{f:FuncId}{fn:Func}{gen:Cfg}{nl:Bool}{e m:Nat}{n:Nat}{t:T}(hf:P.funcs[f]? =some fn)(h:wC P gen nl e m fn=some (n,t)){args:List AV}(hl:args.length=n)(hn:AV.ae args=true){xs:List AV}
  (hw:bW P (λ _ _ _=>False) (λ a=>a= .sl xs) t args []):xh P f args nl e m xs:=by
 unfold wC at h
 split at h
 ·rename_i A hA
  split at h
  ·rename_i hc
   split at h
   ·rename_i t' ht;cases h;exact amh (yl hf hA hc.1 hc.2) ht hl hn hw
   ·cases h
  ·cases h
 ·cases h
def wB(P:Program)(gen:Cfg)(g:iW)(fn:Func):Option T:=
 match ahP P gen fn with
 |some A=>if A.cg<=A.nt/\(fn.name== "runtime.NumGoroutine")=false then A.wB gen.fl g else none
 |none=>none
theorem xA{P:Program}{f:FuncId}{fn:Func}{gen:Cfg}{g:iW}{t:T}(hf:P.funcs[f]? =some fn)(h:wB P gen g fn=some t){ins outs:List AV}(hl:ins.length=g.n)(hn:AV.ae ins=true)(ho:outs.length=g.m)
  (hw:bW P (λ _ _ _=>False) (λ a=>a=bn outs) t ins []):zE P f g ins outs:=by
 unfold wB at h
 split at h
 ·rename_i A hA
  split at h
  ·rename_i hc;exact ak0 (yl hf hA hc.1 hc.2) h hl hn ho hw
  ·cases h
 ·cases h
end Go.Ab
namespace Go.Ab
section
variable (P:Program) (L:AX->SS->List AV->Prop) (R:AV->Prop)
def kT(t:T)(r:List AV)(S:List (List AV->Prop)):AV->Prop:=λ v=>bW P L R t (r++ [v]) S
def gP(K:AV->Prop)(v:AV):Prop:=K v
def ae6(c:AV)(t f:T)(r:List AV)(S:List (List AV->Prop)):Prop:=match c with
 | .v (.bool b)=>(b=true->bW P L R t r S)/\(b=false->bW P L R f r S)
 |_=>False
def ahM(k:Nat)(a b:T)(r:List AV)(S:List (List AV->Prop)):Prop:=bW P L R (.bind k a b) r S
def aa8(init:List AV)(b:T)(r:List AV)(S:List (List AV->Prop)):Prop:=
 ∃(J:Nat->List AV->Prop) (n:Nat),J n init/\∀n vs,J n vs->vs.length=init.length->bW P L R b (r++vs) ((λ vs'=>∃m,m<n/\J m vs')::S)
def atX(vs:List AV):Prop:=R (bn vs)
def aov(S:List (List AV->Prop))(vs:List AV):Prop:=match S with
 |J::_=>J vs
 | []=>False
variable (t f:T) (r:List AV) (S:List (List AV->Prop))
theorem awL(o:PO):bW P L R (.op o t) r S=o.wp P r (kT P L R t r S):=nr rfl
theorem awN(v:AV):gP (kT P L R t r S) v=bW P L R t (r++ [v]) S:=nr rfl
theorem asC(c:rQ):bW P L R (.bI c t) r S=c.wp r (bW P L R t r S):=nr rfl
theorem awM(c:D):bW P L R (.ite c t f) r S=ae6 P L R (c.ev r) t f r S:=nr rfl
theorem am3(k:Nat):bW P L R (.bind k t f) r S=ahM P L R k t f r S:=nr rfl
theorem atD(init:List D):bW P L R (.loop init t) r S=aa8 P L R (D.aX r init) t r S:=by
 simp only[bW,aa8,D.aJ,List.length_map]
theorem awK(ds:List D):bW P L R (.ret ds) r S=atX R (D.aX r ds):=nr rfl
theorem atE(vs:List D):bW P L R (.jump vs) r S=aov S (D.aX r vs):=nr rfl
theorem awO(J:List AV->Prop):bW P L R (.eB t) r (J::S)=bW P L R t r S:=nr rfl
theorem aqs(J:List AV->Prop)(vs:List AV):aov (J::S) vs=J vs:=nr rfl
theorem atC:ae6 P L R (.v (.bool true)) t f r S=bW P L R t r S:=by simp[ae6]
theorem aqt:ae6 P L R (.v (.bool false)) t f r S=bW P L R f r S:=by simp[ae6]
end
section
variable {P:Program} {L:AX->SS->List AV->Prop} {R:AV->Prop} {t f:T} {r:List AV} {S:List (List AV->Prop)}
theorem aS{b:Bool}(h:b=true->bW P L R t r S)(h':b=false->bW P L R f r S):ae6 P L R (.v (.bool b)) t f r S:=⟨h,h'⟩
theorem ba{p:Prop}[Decidable p](h:p->bW P L R t r S)(h':¬p->bW P L R f r S):ae6 P L R (.v (.bool (decide p))) t f r S:=⟨λ q=>h (of_decide_eq_true q),λ q=>h' (of_decide_eq_false q)⟩
theorem bC{p:Prop}[Decidable p](h:¬p->bW P L R t r S)(h':p->bW P L R f r S):ae6 P L R (.v (.bool (!decide p))) t f r S:=
 ⟨λ q=>h (by simpa using q),λ q=>h' (by simpa using q)⟩
theorem aei{k:Nat}(J:List AV->Prop)(h:bW P L R t r (J::S))(h':∀vs,J vs->vs.length=k->bW P L R f (r++vs) S):ahM P L R k t f r S:=
 ez (λ _ _ _ h=>h) (λ _ h=>h) t (.cons (λ vs hv hk=>h' vs hv hk) (.refl _)) h
theorem fe{k:Nat}(vs:List AV)(hk:vs.length=k)(h:bW P L R t r ((λ ws=>ws=vs)::S))(h':bW P L R f (r++vs) S):ahM P L R k t f r S:=
 aei (λ ws=>ws=vs) h λ ws hw _=>by rw[hw];exact h'
theorem aN{k:Nat}(h:bW P L R t r ((λ vs=>bW P L R f (r++vs) S)::S)):ahM P L R k t f r S:=aei _ h λ _ hv _=>hv
theorem nV{ι:Type}{init:List AV}(D:ι->Prop)(σ:ι->List AV)(μ:ι->Nat)(i0:ι)(hd:D i0)(h0:init=σ i0)
  (hr:∀i,D i->bW P L R t (r++σ i) ((λ vs=>∃j,D j/\μ j<μ i/\vs=σ j)::S)):aa8 P L R init t r S:=by
 refine⟨λ n vs=>∃i,D i/\μ i=n/\vs=σ i,μ i0,⟨i0,hd,rfl,h0⟩,?_⟩;rintro n vs ⟨i,hi,rfl,rfl⟩ _;refine ez (λ _ _ _ h=>h) (λ _ h=>h) t (.cons (λ vs hv=> ?_) (.refl _)) (hr i hi);obtain⟨j,hj,aw,rfl⟩:=hv;exact⟨μ j,aw,j,hj,rfl,rfl⟩
theorem bo{g:FuncId}{args:List AV}{flat:Bool}{K:AV->Prop}{x:Value}(h:a7 P g args (.v x))(k:gP K (.v x)):aef P g args flat K:=⟨_,h,rfl,λ _=>rfl,k⟩
theorem afC{nl:Bool}{e s:Nat}{g:FuncId}{args:List AV}{K:AV->Prop}{xs:List AV}(h:xh P g args nl e s xs)(hn:AV.ae xs=true)(k:gP K (.sl xs)):ajm P nl e s g args K:=⟨_,h,hn,k⟩
theorem zK{g:iW}{f:FuncId}{args:List AV}{K:AV->Prop}{outs:List AV}(h:zE P f g args outs)(hl:outs.length=g.m)(hn:AV.ae outs=true)(k:gP K (.a9 outs)):aip P f g args K:=⟨_,h,hl,hn,k⟩
theorem apP{g:FuncId}{args:List AV}{K:AV->Prop}{res:AV}(h:a7 P g args res)(hn:res.ag=true)(k:gP K res):aef P g args false K:=⟨_,h,hn,λ h=>(by cases h),k⟩
theorem ajo{s:Nat}{xs:List AV}{k:IntKind}{n:Nat}{K:AV->Prop}(x:AV)(h:xs[n]? =some x)(hs:x.cells.length=s)(hk:gP K x):wX s (.sl xs) (.v (.int k (n:Int))) K:=by
 have aw:=(List.getElem?_eq_some_iff.1 h).1;have hx:xs.getD (Int.toNat (n:Int)) .top=x:=by rw[Int.toNat_natCast];exact apo h
 refine⟨Int.natCast_nonneg n,by exact_mod_cast aw,by rw[hx];exact hs,by rw[hx];exact hk⟩
where apo {l:List AV} {i:Nat} {x:AV} (h:l[i]? =some x):l.getD i .top=x:=by simp[List.getD,h]
end
theorem aCH(r:List AV)(d:D)(f:Nat):(D.ip d f).ev r= .bV (d.ev r) f:=nr rfl
section
variable (r:List AV)
theorem e_x(i:Nat):(D.x i).ev r=r.getD i .top:=nr rfl
theorem e_c(a:AV):(D.c a).ev r=a:=nr rfl
theorem avU(i j:Nat):(D.cell i j).ev r=(r.getD i .top).cells.getD j .top:=nr rfl
theorem azo(i j:Nat):(D.ext i j).ev r=am9 (r.getD i .top) j:=nr rfl
theorem aCG(l:D):(D.sl l).ev r= .sl (aR (l.ev r)):=nr rfl
theorem azp(l:List D):(D.agg l).ev r= .agg (D.aX r l):=nr rfl
theorem aCI(f:FuncId)(l:List D):(D.fn f l).ev r= .fn f (D.aX r l):=nr rfl
theorem azn:D.aX r []= []:=nr rfl
theorem avT(d:D)(l:List D):D.aX r (d::l)=d.ev r::D.aX r l:=nr rfl
end
theorem alH(xs:List AV):aR (.sl xs)=xs:=nr rfl
theorem alV(k:IntKind)(n:Nat):idxOf (.v (.int k (n:Int)))=n:=nr (by simp[idxOf])
theorem alW(k:IntKind)(n:Int):idxOf (.v (.int k n))=n.toNat:=nr rfl
theorem aqz(vs:List AV)(j:Nat):am9 (.a9 vs) j=vs.getD j .top:=nr rfl
theorem apC(r:List AV):D.evo r none=none:=nr rfl
theorem apB(r:List AV)(d:D):D.evo r (some d)=some (d.ev r):=nr rfl
section
variable (P:Program) (r:List AV) (K:AV->Prop)
def ft(op:BinOp)(a b:AV)(K:AV->Prop):Prop:=eM op a b [] λ x _=>K x
def unT(op:UnOp)(a:AV)(K:AV->Prop):Prop:=unK op a [] λ x _=>K x
def akC(k:IntKind)(a:AV)(K:AV->Prop):Prop:=aca k a [] λ x _=>K x
def yu(c a b:AV)(K:AV->Prop):Prop:=sP c a b [] λ x _=>K x
def ar6(off:Nat)(n:Option Nat)(a:AV)(K:AV->Prop):Prop:=amc off n a [] λ x _=>K x
def aoC(a i:AV)(K:AV->Prop):Prop:=abC a i [] λ x _=>K x
def aqE(a:AV)(lo hi:Option AV)(K:AV->Prop):Prop:=o9 a lo hi [] λ x _=>K x
def aqF(s:Nat)(a:AV)(lo hi:Option AV)(K:AV->Prop):Prop:=pa s a lo hi [] λ x _=>K x
def akf(a:AV)(K:AV->Prop):Prop:=abc a [] λ x _=>K x
def adO(a:AV)(K:AV->Prop):Prop:=po a [] λ x _=>K x
def auE(n:Option Nat)(a:AV)(K:AV->Prop):Prop:=aoi n a K
def avQ(off:Nat)(a:AV)(K:AV->Prop):Prop:=apz off a K
theorem axc(x:D):PO.wp P r (.val x) K=gP K (x.ev r):=nr rfl
def puT(o:PU)(xs:List AV)(K:AV->Prop):Prop:=puK o xs K
def ap7(s bytes:Nat)(xs:List AV)(y:AV)(K:AV->Prop):Prop:=aej s bytes xs y K
theorem aAN(o:PU)(ds:List D):PO.wp P r (.pu o ds) K=puT o (D.aX r ds) K:=nr rfl
theorem aud(s bytes:Nat)(l y:D):PO.wp P r (.mz s bytes l y) K=ap7 s bytes (aR (l.ev r)) (y.ev r) K:=nr rfl
theorem at6(c a b:D):PO.wp P r (.pick c a b) K=yu (c.ev r) (a.ev r) (b.ev r) K:=nr rfl
theorem axj(op:BinOp)(a b:D):PO.wp P r (.bin op a b) K=ft op (a.ev r) (b.ev r) K:=nr rfl
def amD(neg:Bool)(a b:AV)(K:AV->Prop):Prop:=ajz neg a b K
theorem axk(neg:Bool)(a b:D):PO.wp P r (.beq neg a b) K=amD neg (a.ev r) (b.ev r) K:=nr rfl
theorem aAM(op:UnOp)(a:D):PO.wp P r (.un op a) K=unT op (a.ev r) K:=nr rfl
theorem aub(k:IntKind)(a:D):PO.wp P r (.conv k a) K=akC k (a.ev r) K:=nr rfl
theorem aua(s:Nat)(l i:D):PO.wp P r (.elem s l i) K=wX s (l.ev r) (i.ev r) K:=nr rfl
theorem axh(off:Nat)(n:Option Nat)(a:D):PO.wp P r (.yK off n a) K=ar6 off n (a.ev r) K:=nr rfl
theorem aq7(f m:Nat)(a:D):PO.wp P r (.aa9 f m a) K=(f+m<=(a.ev r).cells.length/\gP K (dt (some m) (a.ev r) f)):=nr rfl
theorem at9(a i:D):PO.wp P r (.m6 a i) K=aoC (a.ev r) (i.ev r) K:=nr rfl
theorem anW(a:D)(lo hi:Option D):PO.wp P r (.fW a lo hi) K=aqE (a.ev r) (D.evo r lo) (D.evo r hi) K:=nr rfl
theorem anX(s:Nat)(a:D)(lo hi:Option D):PO.wp P r (.cO s a lo hi) K=aqF s (a.ev r) (D.evo r lo) (D.evo r hi) K:=nr rfl
theorem at7(a:D):PO.wp P r (.mn a) K=akf (a.ev r) K:=nr rfl
theorem at8(a:D):PO.wp P r (.bl a) K=adO (a.ev r) K:=nr rfl
theorem asN(z:AV)(n:Nat)(ps:List (Nat×D)):PO.wp P r (.mkl z n ps) K=gP K (.sl (eJ (List.replicate n z) (ps.map λ p=>(p.1,p.2.ev r)))):=nr rfl
theorem axe(bytes:Nat)(z:AV)(n c:D):PO.wp P r (.rep bytes z n c) K=aiq bytes z (n.ev r) (c.ev r) K:=nr rfl
theorem axl(s bytes:Nat)(l y:D):PO.wp P r (.app s bytes l y) K=amI s bytes (aR (l.ev r)) (y.ev r) K:=nr rfl
theorem axg(l i:D)(f:Nat)(n:Option Nat):PO.wp P r (.get l i f n) K=avG (aR (l.ev r)) (idxOf (i.ev r)) f n K:=nr rfl
theorem axd(l i:D)(f m:Nat)(y:D):PO.wp P r (.set l i f m y) K=aqH (aR (l.ev r)) (idxOf (i.ev r)) f m (y.ev r) K:=nr rfl
theorem auc(f:FuncId)(args:List D)(b:Bool):PO.wp P r (.call f args b) K=aef P f (D.aX r args) b K:=nr rfl
theorem aq8(nl:Bool)(e s:Nat)(f:FuncId)(args:List D):PO.wp P r (.fc nl e s f args) K=ajm P nl e s f (D.aX r args) K:=nr rfl
theorem aq6(f:FuncId)(g:iW)(args:List D):PO.wp P r (.gy f g args) K=aip P f g (D.aX r args) K:=nr rfl
theorem aq9(g:D)(args:List D)(b:Bool):PO.wp P r (.eI g args b) K=vM P (g.ev r) (D.aX r args) b K:=nr rfl
theorem axf(n:Option Nat)(a:D):PO.wp P r (.ldp n a) K=auE n (a.ev r) K:=nr rfl
theorem axi(off:Nat)(a:D):PO.wp P r (.fap off a) K=avQ off (a.ev r) K:=nr rfl
theorem apN(f:FuncId)(aV args:List AV)(b:Bool):vM P (.fn f aV) args b K=aef P f (args++aV) b K:=nr rfl
variable (k k':IntKind) (a b:Int) (s u:ByteArray)
theorem axR(n:Option Nat)(y:AV)(f:Nat):auE n (.bV y f) K=(f+n.getD 1<=y.cells.length/\gP K (dt n y f)):=nr rfl
theorem axT(off:Nat)(y:AV)(f:Nat):avQ off (.bV y f) K=gP K (.bV y (f+off)):=nr rfl
theorem atI(neg:Bool):puT (.xP neg) [.aA] K=gP K (.v (.bool (neg !=true))):=nr rfl
theorem aqy(neg:Bool)(x:AV)(xs:List AV):puT (.xP neg) [.sl (x::xs)] K=gP K (.v (.bool (neg !=false))):=nr rfl
theorem atJ(neg:Bool):puT (.re neg) [.v (.pointer none)] K=gP K (.v (.bool (neg !=true))):=nr rfl
theorem atH(neg:Bool)(x:AV)(f:Nat):puT (.re neg) [.bV x f] K=gP K (.v (.bool (neg !=false))):=nr rfl
theorem atK(neg:Bool):puT (.xQ neg) [.v .nilIface] K=gP K (.v (.bool (neg !=true))):=nr rfl
theorem atL(neg:Bool):puT (.xQ neg) [.wO] K=gP K (.v (.bool (neg !=false))):=nr rfl
theorem awW:puT .min [.v (.int k a),.v (.int k b)] K=gP K (.v (.int k (if b<a then b else a))):=by simp[puT,puK,puF,gP]
theorem awX:puT .max [.v (.int k a),.v (.int k b)] K=gP K (.v (.int k (if a<b then b else a))):=by simp[puT,puK,puF,gP]
theorem asF(s:ByteArray):puT .b2s [.sl (cM s)] K=gP K (.v (.string s)):=by
 have h:∀l:List UInt8,u8s (l.map λ c=>AV.v (.int .u8 c.toNat))=some l:=by
  intro l
  induction l with
  |nil=>rfl
  |cons c l ih=>simp[u8s,ih]
 simp only[puT,puK,puF,cM,h,Option.map_some,gP]
theorem atM:puT .b2s [.aA] K=gP K (.v (.string ⟨#[]⟩)):=nr rfl
theorem awi(m bytes:Nat)(xs:List AV)(s:ByteArray):ap7 m bytes xs (.v (.string s)) K=(m=1/\(xs.length+s.size)*bytes<=140737488355328/\xs.length+s.size<=9223372036854775807/\gP K (.sl (xs++cM s))):=nr rfl
theorem axH:(true !=true)=false:=nr rfl
theorem axI:(true !=false)=true:=nr rfl
theorem aw9:(false !=true)=true:=nr rfl
theorem axa:(false !=false)=false:=nr rfl
theorem azI:ft .add (.v (.int k a)) (.v (.int k b)) K=gP K (.v (.int k (k.wrap (a+b)))):=by rw[ft,oQ];rfl
theorem azu:ft .sub (.v (.int k a)) (.v (.int k b)) K=gP K (.v (.int k (k.wrap (a- b)))):=by rw[ft,oD];rfl
theorem azA:ft .mul (.v (.int k a)) (.v (.int k b)) K=gP K (.v (.int k (k.wrap (a*b)))):=by rw[ft,oJ];rfl
theorem azH:ft .and (.v (.int k a)) (.v (.int k b)) K=gP K (.v (.int k (k.wrap (BitVec.ofInt k.bits a&&&BitVec.ofInt k.bits b).toNat))):=by rw[ft,oP];rfl
theorem aCM:ft .or (.v (.int k a)) (.v (.int k b)) K=gP K (.v (.int k (k.wrap (BitVec.ofInt k.bits a|||BitVec.ofInt k.bits b).toNat))):=by rw[ft,rM];rfl
theorem azt:ft .xor (.v (.int k a)) (.v (.int k b)) K=gP K (.v (.int k (k.wrap (BitVec.ofInt k.bits a^^^BitVec.ofInt k.bits b).toNat))):=by rw[ft,oC];rfl
theorem azy:ft .quo (.v (.int k a)) (.v (.int k b)) K=(b≠0/\gP K (.v (.int k (k.wrap (a.tdiv b))))):=by rw[ft,oH];rfl
theorem azx:ft .rem (.v (.int k a)) (.v (.int k b)) K=(b≠0/\gP K (.v (.int k (a.tmod b)))):=by rw[ft,oG];rfl
theorem atq:ft .eql (.v (.int k a)) (.v (.int k b)) K=gP K (.v (.bool (decide (a=b)))):=by rw[ft,oO];rfl
theorem azz:ft .neq (.v (.int k a)) (.v (.int k b)) K=gP K (.v (.bool (!decide (a=b)))):=by rw[ft,oI];rfl
theorem azB:ft .lss (.v (.int k a)) (.v (.int k b)) K=gP K (.v (.bool (decide (a<b)))):=by rw[ft,oK];rfl
theorem azC:ft .leq (.v (.int k a)) (.v (.int k b)) K=gP K (.v (.bool (decide (a<=b)))):=by rw[ft,oL];rfl
theorem azD:ft .gtr (.v (.int k a)) (.v (.int k b)) K=gP K (.v (.bool (decide (b<a)))):=by rw[ft,oM];rfl
theorem azE:ft .geq (.v (.int k a)) (.v (.int k b)) K=gP K (.v (.bool (decide (b<=a)))):=by rw[ft,oN];rfl
theorem azw:ft .shl (.v (.int k a)) (.v (.int k' b)) K=(0<=b/\gP K (.v (.int k (k.wrap (a*2^(min b.toNat k.bits)))))):=by rw[ft,oF];rfl
theorem azv:ft .shr (.v (.int k a)) (.v (.int k' b)) K=(0<=b/\gP K (.v (.int k (a.fdiv (2^(min b.toNat k.bits)))))):=by rw[ft,oE];rfl
theorem awa:ft .add (.v (.string s)) (.v (.string u)) K=(((s.size+u.size:Nat):Int)<=9223372036854775807/\gP K (.v (.string (s++u)))):=by rw[ft,lQ];rfl
theorem ap0:ft .eql (.v (.string s)) (.v (.string u)) K=gP K (.v (.bool (decide (s=u)))):=by rw[ft,lP];rfl
theorem av9:ft .neq (.v (.string s)) (.v (.string u)) K=gP K (.v (.bool (!decide (s=u)))):=by rw[ft,lO];rfl
theorem azG(x y:Bool):amD false (.v (.bool x)) (.v (.bool y)) K=gP K (.v (.bool (x==y))):=by simp[amD,ajz,gP]
theorem azF(x y:Bool):amD true (.v (.bool x)) (.v (.bool y)) K=gP K (.v (.bool (!(x==y)))):=by simp[amD,ajz,gP]
theorem awU(x:Bool):unT .not (.v (.bool x)) K=gP K (.v (.bool (!x))):=by rw[unT,qJ];rfl
theorem awV:unT .neg (.v (.int k a)) K=gP K (.v (.int k (k.wrap (-a)))):=by rw[unT,qK];rfl
theorem atF:akC k (.v (.int k' a)) K=gP K (.v (.int k (k.wrap a))):=by rw[akC,om];rfl
theorem apQ(x y:AV):yu (.v (.bool true)) x y K=gP K x:=by rw[yu,jC];rfl
theorem apR(x y:AV):yu (.v (.bool false)) x y K=gP K y:=by rw[yu,hD];rfl
theorem apS(c x y:Bool):yu (.v (.bool c)) (.v (.bool x)) (.v (.bool y)) K=gP K (.v (.bool (if c=true then x else y))):=by rw[yu,jD];rfl
theorem axS(off:Nat)(n:Option Nat)(x:AV):ar6 off n x K=(x.isAgg=true/\off+n.getD 1<=x.cells.length/\gP K (dt n x off)):=by rw[ar6,rB];rfl
theorem ax5:aoC (.v (.string s)) (.v (.int k a)) K=(0<=a/\a<s.size/\gP K (.v (.int .u8 (s.data.toList.getD a.toNat 0).toNat))):=by rw[aoC,od];rfl
theorem aw0(lo hi:Option AV):aqE (.v (.string s)) lo hi K=bnd 0 lo λ l=>bnd s.size hi λ h=>0<=l/\l<=h/\h<=s.size/\gP K (.v (.string (s.extract l.toNat h.toNat))):=by rw[aqE,jA];rfl
theorem aw1(m:Nat)(xs:List AV)(lo hi:Option AV):aqF m (.sl xs) lo hi K=bnd 0 lo λ l=>bnd xs.length hi λ h=>0<=l/\l<=h/\h<=xs.length/\(∀y∈xs,y.cells.length=m)/\gP K (.sl ((xs.take h.toNat).drop l.toNat)):=by rw[aqF,jB];rfl
theorem aus:akf (.v (.string s)) K=gP K (.v (.int .i64 s.size)):=by rw[akf,nW];rfl
theorem aur:adO .aA K=gP K (.v (.int .i64 0)):=by rw[adO,ij];rfl
theorem axK(xs:List AV):adO (.sl xs) K=gP K (.v (.int .i64 xs.length)):=by rw[adO,mo];rfl
theorem aCQ(m bytes:Nat)(xs ys:List AV):amI m bytes xs (.sl ys) K=((∀y∈ys,y.cells.length=m)/\(xs.length+ys.length)*bytes<=140737488355328/\xs.length+ys.length<=9223372036854775807/\gP K (.sl (xs++ys))):=nr rfl
theorem awh(m bytes:Nat)(xs:List AV):amI m bytes xs .aA K=((∀y∈([]:List AV),y.cells.length=m)/\(xs.length+([]:List AV).length)*bytes<=140737488355328/\xs.length+([]:List AV).length<=9223372036854775807/\gP K (.sl (xs++ []))):=nr rfl
theorem azh(xs:List AV)(i f:Nat)(n:Option Nat):avG xs i f n K=(i<xs.length/\f+n.getD 1<=(xs.getD i .top).cells.length/\gP K (dt n (xs.getD i .top) f)):=nr rfl
theorem azg(xs:List AV)(i f m:Nat)(y:AV):aqH xs i f m y K=(i<xs.length/\y.cells.length=m/\y.storable=true/\f+m<=(xs.getD i .top).cells.length/\gP K (.sl (xs.set i (u6 (xs.getD i .top) f y)))):=nr rfl
theorem aw6(bytes:Nat)(z:AV):aiq bytes z (.v (.int .i64 a)) (.v (.int .i64 b)) K=(0<=a/\a<=b/\bytes*b<=281474976710656/\b<=9223372036854775807/\gP K (.sl (List.replicate a.toNat z))):=nr rfl
theorem aio(z:List AV):eJ z []=z:=nr rfl
theorem agq(z:List AV)(i:Nat)(y:AV)(ps:List (Nat×AV)):eJ z ((i,y)::ps)=eJ (z.set i y) ps:=nr rfl
end
section
variable (r:List AV) (K:Prop)
theorem ar3(a:D)(m:Nat):rQ.wp r (.cells a m) K=((a.ev r).isAgg=true/\(a.ev r).cells.length=m/\(a.ev r).storable=true/\K):=nr rfl
theorem ath(a:D):rQ.wp r (.one a) K=((a.ev r).cells.length=1/\(a.ev r).bO=true/\K):=nr rfl
theorem aCl(a:D)(j:Nat):rQ.wp r (.lt a j) K=(j<(a.ev r).cells.length/\K):=nr rfl
theorem ay5(a:D)(j:Nat):rQ.wp r (.a9 a j) K=am8 (a.ev r) j K:=nr rfl
theorem ay6(l i:D):rQ.wp r (.idx l i) K=alU (aR (l.ev r)) (i.ev r) K:=nr rfl
theorem avo(a:D):rQ.wp r (.arC a) K=adX (a.ev r) K:=nr rfl
theorem avn(vs:List AV)(j:Nat):am8 (.a9 vs) j K=(j<vs.length/\K):=nr rfl
theorem avp(xs:List AV)(k:IntKind)(i:Int):alU xs (.v (.int k i)) K=(0<=i/\i<xs.length/\K):=nr rfl
theorem ay7(a b:D):rQ.wp r (.eql a b) K=((aR (a.ev r)).length=(aR (b.ev r)).length/\K):=nr rfl
theorem aCj:rQ.wp r .no K=False:=nr rfl
theorem aCk(l:D):rQ.wp r (.ne l) K=(aR (l.ev r)≠[]/\K):=nr rfl
theorem ape(x:AV)(f:Nat):adX (.bV x f) K=K:=nr rfl
theorem ar2(f:FuncId)(cs:List AV):adX (.fn f cs) K=K:=nr rfl
end
theorem aqO(x:AV)(vs:List AV):atX (λ a=>a=x) vs=(bn vs=x):=nr rfl
theorem aq5(x:AV):bn [x]=x:=nr rfl
theorem aq4(x y:AV)(l:List AV):bn (x::y::l)= .a9 (x::y::l):=nr rfl
def W00:=And.intro @awL (And.intro @awN (And.intro @asC (And.intro @awM (And.intro @am3 (And.intro @atD (And.intro @awK (And.intro @atE (And.intro @awO (And.intro @aqs (And.intro @atC (And.intro @aqt (And.intro @e_x (And.intro @e_c (And.intro @avU (And.intro @azo (And.intro @aCG (And.intro @azp (And.intro @aCI (@aCH)))))))))))))))))))
def W01:=And.intro @azn (And.intro @avT (And.intro @alH (And.intro @alV (And.intro @alW (And.intro @aqz (And.intro @apC (And.intro @apB (And.intro @axc (And.intro @at6 (And.intro @axj (And.intro @axk (And.intro @aAM (And.intro @aub (And.intro @aua (And.intro @axh (And.intro @aq7 (And.intro @at9 (And.intro @anW (@anX)))))))))))))))))))
def W02:=And.intro @at7 (And.intro @at8 (And.intro @asN (And.intro @axe (And.intro @axl (And.intro @axg (And.intro @axd (And.intro @auc (And.intro @aq9 (And.intro @axf (And.intro @axi (And.intro @axR (And.intro @axT (And.intro @apN (And.intro @azI (And.intro @azu (And.intro @azA (And.intro @azH (And.intro @aCM (@azt)))))))))))))))))))
def W03:=And.intro @azy (And.intro @azx (And.intro @atq (And.intro @azz (And.intro @azB (And.intro @azC (And.intro @azD (And.intro @azE (And.intro @azw (And.intro @azv (And.intro @awa (And.intro @ap0 (And.intro @av9 (And.intro @azG (And.intro @azF (And.intro @awU (And.intro @awV (And.intro @atF (And.intro @apQ (@apR)))))))))))))))))))
def W04:=And.intro @apS (And.intro @axS (And.intro @axK (And.intro @aw0 (And.intro @aw1 (And.intro @aus (And.intro @aur (And.intro @axK (And.intro @aCQ (And.intro @awh (And.intro @azh (And.intro @azg (And.intro @aw6 (And.intro @aio (And.intro @agq (And.intro @ar3 (And.intro @ath (And.intro @aCl (And.intro @ay5 (@ay6)))))))))))))))))))
def W05:=And.intro @avo (And.intro @avn (And.intro @avp (And.intro @ar2 (And.intro @ape (And.intro @aCk (And.intro @aqO (And.intro @aq5 (And.intro @aq4 (And.intro @oB (And.intro @oA (And.intro @cR (And.intro @lN (And.intro @aF (And.intro @jN (And.intro @oo (And.intro @oq (And.intro @lF (And.intro @n8 (@im)))))))))))))))))))
def W06:=And.intro @lB (And.intro @lE (And.intro @fR (And.intro @js (And.intro @fh (And.intro @gT (And.intro @gU (And.intro @List.map_cons.{0,0} (And.intro @List.map_nil.{0,0} (And.intro @Option.map_some.{0,0} (And.intro @Option.map_none.{0,0} (And.intro @List.getD_cons_zero.{0} (And.intro @List.getD_cons_succ.{0} (And.intro @List.length_nil.{0} (And.intro @List.length_cons.{0} (And.intro @List.length_append.{0} (And.intro @List.length_set.{0} (And.intro @List.length_map.{0,0} (And.intro @List.length_replicate.{0} (@List.nil_append.{0})))))))))))))))))))
def W07:=And.intro @List.cons_append.{0} (And.intro @List.append_nil.{0} (And.intro @List.set_cons_zero.{0} (And.intro @List.set_cons_succ.{0} (And.intro @List.replicate_succ.{0} (And.intro @List.replicate_zero.{0} (And.intro @List.mem_cons.{0} (And.intro @List.not_mem_nil.{0} (And.intro @or_false (And.intro @forall_eq.{0} (And.intro @false_implies (And.intro @implies_true.{0} (And.intro @List.all_cons.{0} (And.intro @List.all_nil.{0} (And.intro @Bool.and_true (And.intro @Bool.true_and (And.intro @Bool.or_true (And.intro @Bool.true_or (And.intro @Bool.not_true (@Bool.not_false)))))))))))))))))))
def W08:=And.intro @Bool.not_not (And.intro @decide_true (And.intro @decide_false (And.intro @Option.getD_none.{0} (And.intro @Option.getD_some.{0} (And.intro @true_and (And.intro @and_true (And.intro @Nat.zero_add (And.intro @Nat.add_zero (And.intro @Nat.lt_add_one (And.intro @Nat.zero_lt_succ (And.intro @Nat.le_refl (And.intro @if_true.{1} (And.intro @if_false.{1} (And.intro @ne_eq.{1} (And.intro @not_false_eq_true (And.intro @Int.toNat_natCast (And.intro @Int.natCast_nonneg (And.intro @eq_self.{1} (@beq_self_eq_true.{0})))))))))))))))))))
def W09:=And.intro @aAN (And.intro @aud (And.intro @atI (And.intro @aqy (And.intro @atJ (And.intro @atK (And.intro @atL (And.intro @atH (And.intro @awW (And.intro @awX (And.intro @asF (And.intro @atM (And.intro @awi (And.intro @axH (And.intro @axI (And.intro @aw9 (And.intro @axa (And.intro @aCj (And.intro @aq8 (And.intro @aq6 @ay7)))))))))))))))))))
attribute [irreducible] puT ap7 gP kT ae6 ahM aa8 atX aov ft unT akC yu ar6 aoC aqE aqF akf adO auE avQ amD
def WA:=And.intro W00 (And.intro W01 (And.intro W02 (And.intro W03 (And.intro W04 (And.intro W05 (And.intro W06 (And.intro W07 (And.intro W08 W09))))))))
end Go.Ab
namespace Go.Ab
section
variable {P:Program}
def ex(m:Nat)(Q:List AV->Prop):AV->Prop:=λ a=>∃outs,outs.length=m/\Q outs/\a=bn outs
end
end Go.Ab
namespace Go.Ab
variable {P:Program}
theorem sy:∀(ops:List aH) {e:Env} {O:List aa} {K:Env->List aa->Prop},wpOps P ops e O K->∃e' O',K e' O'/\∀K':Env->List aa->Prop,K' e' O'->wpOps P ops e O K'
 | [],e,O,K,h=>⟨e,O,h,λ _ h=>h⟩
 |o::r,e,O,K,h=>by
  simp only[wpOps]at h;cases hg:o.guard with
  |none=>
   simp only[hg]at h;obtain⟨x,O1,h1,h2⟩:=yO h;obtain⟨e',O',h3,h4⟩:=sy r h1;exact⟨e',O',h3,λ K' hk=>by simp only[wpOps,hg];exact h2 _ (h4 K' hk)⟩
  |some g=>
   obtain⟨t,want⟩:=g;simp only[hg]at h
   split at h
   ·rename_i b hb;by_cases m8:b=want
    ·obtain⟨x,O1,h1,h2⟩:=yO (h.1 m8);obtain⟨e',O',h3,h4⟩:=sy r h1
     exact⟨e',O',h3,λ K' hk=>by
      simp only[wpOps,hg,hb];exact⟨λ _=>h2 _ (h4 K' hk),λ hn=>by subst m8;cases b<;>simp at hn⟩⟩
    ·have mI:b= !want:=by cases b<;>cases want<;>simp_all
     obtain⟨e',O',h3,h4⟩:=sy r (h.2 mI)
     exact⟨e',O',h3,λ K' hk=>by
      simp only[wpOps,hg,hb];exact⟨λ hn=>(m8 hn).elim,λ _=>h4 K' hk⟩⟩
   ·rename_i hb;obtain⟨e',O',h3,h4⟩:=sy r h;exact⟨e',O',h3,λ K' hk=>by simp only[wpOps,hg,hb];exact h4 K' hk⟩
   ·exact h.elim
theorem pO:∀(ops:List aH) {acc:List iD} {e:Env} {O:List aa} {K:List iD->Env->List aa->Prop},cd P ops acc e O K->∃iM e' O',K iM e' O'/\∀K':List iD->Env->List aa->Prop,K' iM e' O'->cd P ops acc e O K'
 | [],acc,e,O,K,h=>⟨acc,e,O,h,λ _ h=>h⟩
 |o::r,acc,e,O,K,h=>by
  simp only[cd]at h;cases hg:o.guard with
  |none=>
   simp only[hg]at h;obtain⟨x,O1,h1,h2⟩:=yO h;obtain⟨l,e',O',h3,h4⟩:=pO r h1;exact⟨l,e',O',h3,λ K' hk=>by simp only[cd,hg];exact h2 _ (h4 K' hk)⟩
  |some g=>
   obtain⟨t,want⟩:=g;simp only[hg]at h
   split at h
   ·rename_i b hb;by_cases m8:b=want
    ·obtain⟨x,O1,h1,h2⟩:=yO (h.1 m8);obtain⟨l,e',O',h3,h4⟩:=pO r h1
     exact⟨l,e',O',h3,λ K' hk=>by
      simp only[cd,hg,hb];exact⟨λ _=>h2 _ (h4 K' hk),λ hn=>by subst m8;cases b<;>simp at hn⟩⟩
    ·have mI:b= !want:=by cases b<;>cases want<;>simp_all
     obtain⟨l,e',O',h3,h4⟩:=pO r (h.2 mI)
     exact⟨l,e',O',h3,λ K' hk=>by
      simp only[cd,hg,hb];exact⟨λ hn=>(m8 hn).elim,λ _=>h4 K' hk⟩⟩
   ·rename_i hb;obtain⟨l,e',O',h3,h4⟩:=pO r h;exact⟨l,e',O',h3,λ K' hk=>by simp only[cd,hg,hb];exact h4 K' hk⟩
   ·exact h.elim
theorem pN{n0:Nat}:∀(ops:List aH) {e:Env} {O:List aa} {K:Env->List aa->Prop},gF P n0 ops e O K->∃e' O',K e' O'/\∀K':Env->List aa->Prop,K' e' O'->gF P n0 ops e O K'
 | [],e,O,K,⟨e',O',h1,h2⟩=>⟨e',O',h2,λ _ h=>⟨e',O',h1,h⟩⟩
 |o::r,e0,O0,K,h=>by
  obtain⟨e,O,hw,h⟩:=h;cases hg:o.guard with
  |none=>
   simp only[hg]at h;obtain⟨x,O1,h1,h2⟩:=yO h;obtain⟨e',O',h3,h4⟩:=pN r h1;exact⟨e',O',h3,λ K' hk=>⟨e,O,hw,by simp only[hg];exact h2 _ (h4 K' hk)⟩⟩
  |some g=>
   obtain⟨t,want⟩:=g;simp only[hg]at h
   split at h
   ·rename_i b hb;by_cases m8:b=want
    ·obtain⟨x,O1,h1,h2⟩:=yO (h.1 m8);obtain⟨e',O',h3,h4⟩:=pN r h1
     exact⟨e',O',h3,λ K' hk=>⟨e,O,hw,by
      simp only[hg,hb];exact⟨λ _=>h2 _ (h4 K' hk),λ hn=>by subst m8;cases b<;>simp at hn⟩⟩⟩
    ·have mI:b= !want:=by cases b<;>cases want<;>simp_all
     obtain⟨e',O',h3,h4⟩:=pN r (h.2 mI)
     exact⟨e',O',h3,λ K' hk=>⟨e,O,hw,by
      simp only[hg,hb];exact⟨λ hn=>(m8 hn).elim,λ _=>h4 K' hk⟩⟩⟩
   ·rename_i hb;obtain⟨e',O',h3,h4⟩:=pN r h;exact⟨e',O',h3,λ K' hk=>⟨e,O,hw,by simp only[hg,hb];exact h4 K' hk⟩⟩
   ·exact h.elim
theorem qG{n0:Nat}:∀(c:aK) {Q:AX->Env->List aa->Prop} {e:Env} {O:List aa},kZ P n0 c Q e O->∃x e' O',Q x e' O'/\∀Q':AX->Env->List aa->Prop,Q' x e' O'->kZ P n0 c Q' e O
 | .skip,Q,e,O,h=>⟨_,e,O,h,λ _ h=>h⟩
 | .region none ops,Q,e,O,h=>by
   obtain⟨e',O',h1,h2⟩:=sy ops h;exact⟨_,e',O',h1,λ Q' hq=>h2 _ hq⟩
 | .region (some rows) ops,Q,e,O,h=>by
   obtain⟨al,hs,h⟩:=h;obtain⟨l,e',O',⟨h0,h1⟩,h2⟩:=pO al h;exact⟨_,e',O',h1,λ Q' hq=>⟨al,hs,h2 _ ⟨h0,hq⟩⟩⟩
 | .gK ops,Q,e,O,h=>by
   obtain⟨e',O',h1,h2⟩:=pN ops h;exact⟨_,e',O',h1,λ Q' hq=>h2 _ hq⟩
 | .seq a b,Q,e,O,h=>by
   obtain⟨x,e1,O1,h1,h2⟩:=qG a h;cases x with
   |normal=>
    obtain⟨x,e',O',h3,h4⟩:=qG b h1;exact⟨x,e',O',h3,λ Q' hq=>h2 _ (h4 Q' hq)⟩
   |exit i=>exact⟨_,e1,O1,h1,λ Q' hq=>h2 _ hq⟩
   |ret=>exact⟨_,e1,O1,h1,λ Q' hq=>h2 _ hq⟩
 | .cond c t f,Q,e,O,h=>by
   simp only[kZ]at h
   split at h
   ·rename_i b hb;cases b with
    |true=>
     obtain⟨x,e',O',h1,h2⟩:=qG t (h.1 rfl);exact⟨x,e',O',h1,λ Q' hq=>by simp only[kZ,hb];exact⟨λ _=>h2 _ hq,λ hn=>(by cases hn)⟩⟩
    |false=>
     obtain⟨x,e',O',h1,h2⟩:=qG f (h.2 rfl);exact⟨x,e',O',h1,λ Q' hq=>by simp only[kZ,hb];exact⟨λ hn=>(by cases hn),λ _=>h2 _ hq⟩⟩
   ·exact h.elim
 | .block id b,Q,e,O,h=>by
   obtain⟨x,e',O',h1,h2⟩:=qG b h;cases x with
   |normal=>exact⟨_,e',O',h1,λ Q' hq=>h2 _ hq⟩
   |ret=>exact⟨_,e',O',h1,λ Q' hq=>h2 _ hq⟩
   |exit i=>
    by_cases hi:i=id
    ·simp only[hi,if_true]at h1;exact⟨_,e',O',h1,λ Q' hq=>h2 _ (by simp only[hi,if_true];exact hq)⟩
    ·simp only[if_neg hi]at h1;exact⟨_,e',O',h1,λ Q' hq=>h2 _ (by simp only[if_neg hi];exact hq)⟩
 | .loop b,Q,e,O,h=>by
   obtain⟨J,n,⟨e0,O0,hw0,hj0⟩,hb⟩:=h
   have key:∀n e O,J n e O->∃x e' O',Q x e' O'/\∀Q':AX->Env->List aa->Prop,Q' x e' O'->kZ P n0 (.loop b) Q' e O:=by
    intro n
    induction n using Nat.strongRecOn with
    |_ n ih=>
     intro e O hj;obtain⟨x,e1,O1,h1,h2⟩:=qG b (hb n e O hj)
     have out:∀x,x≠ .normal->Q x e1 O1->(∀Q1:AX->Env->List aa->Prop,Q1 x e1 O1->kZ P n0 b Q1 e O)->∃x e' O',Q x e' O'/\∀Q':AX->Env->List aa->Prop,Q' x e' O'->kZ P n0 (.loop b) Q' e O:=by
      intro x hx hq h2;refine⟨x,e1,O1,hq,λ Q' hq'=>⟨λ k e' O'=>k=0/\e'=e/\O'=O,0,⟨e,O,.refl _ _ _,rfl,rfl,rfl⟩,?_⟩⟩;rintro k e' O' ⟨rfl,rfl,rfl⟩;refine h2 _ ?_;cases x with
      |normal=>exact(hx rfl).elim
      |exit i=>exact hq'
      |ret=>exact hq'
     cases x with
     |exit i=>exact out (.exit i) (by simp) h1 h2
     |ret=>exact out .ret (by simp) h1 h2
     |normal=>
      obtain⟨m,e2,O2,hm,hw,hj2⟩:=h1;obtain⟨x,e',O',h3,h4⟩:=ih m hm e2 O2 hj2;refine⟨x,e',O',h3,λ Q' hq=> ?_⟩;obtain⟨J2,n2,⟨e3,O3,hw3,hj3⟩,hb2⟩:=h4 Q' hq;refine⟨λ k a b=>J2 k a b∨(k=n2+1/\a=e/\b=O),n2+1,⟨e,O,.refl _ _ _,.inr ⟨rfl,rfl,rfl⟩⟩,?_⟩;rintro k a c (hk|⟨rfl,rfl,rfl⟩)
      ·refine af6 b (λ x e O h=> ?_) (hb2 k a c hk);cases x with
       |normal=>
        obtain⟨m,e',O',q1,q2,q3⟩:=h;exact⟨m,e',O',q1,q2,.inl q3⟩
       |exit i=>exact h
       |ret=>exact h
      ·exact h2 _ ⟨n2,e3,O3,Nat.lt_succ_self _,hw.trans hw3,.inl hj3⟩
   obtain⟨x,e',O',h1,h2⟩:=key n e0 O0 hj0;refine⟨x,e',O',h1,λ Q' hq=> ?_⟩;obtain⟨J2,n2,⟨e3,O3,hw3,hj3⟩,hb2⟩:=h2 Q' hq;exact⟨J2,n2,⟨e3,O3,hw0.trans hw3,hj3⟩,hb2⟩
 | .exit id,Q,e,O,h=>⟨_,e,O,h,λ _ h=>h⟩
 | .ret,Q,e,O,h=>⟨_,e,O,h,λ _ h=>h⟩
 | .ai live c,Q,e,O,h=>by
   obtain⟨x,e',O',h1,h2⟩:=qG c h;cases x with
   |normal=>exact⟨_,_,O',h1,λ Q' hq=>h2 _ hq⟩
   |exit i=>exact⟨_,e',O',h1,λ Q' hq=>h2 _ hq⟩
   |ret=>exact⟨_,e',O',h1,λ Q' hq=>h2 _ hq⟩
 | .mb c,Q,e,O,h=>by
   obtain⟨e1,O1,hw,h⟩:=h;obtain⟨x,e',O',h1,h2⟩:=qG c h;exact⟨x,e',O',h1,λ Q' hq=>⟨e1,O1,hw,h2 _ hq⟩⟩
def agt(n0:Nat)(rs:List dg)(Q:AV->List aa->Prop)(x:AX)(e:Env)(O:List aa):Prop:=
 match x with
 | .exit _=>False
 |_=>cK e O rs [] λ xs=>∃e' O',WK n0 (λ t=>if t=0 then bn xs else .top) O e' O'/\Q (e' 0) O'
theorem avF{e:Env}{O:List aa}(r:dg){K:AV->Prop}(h:r.get e O K):∃x,K x/\∀K':AV->Prop,K' x->r.get e O K':=by
 cases r with
 |tmp t=>exact⟨_,h,λ _ h=>h⟩
 |cell t n=>
  simp only[dg.get]at h
  split at h
  ·rename_i k hk
   split at h
   ·rename_i a b x hx;exact⟨_,h.2,λ K' h'=>by simp only[dg.get,hk,hx];exact⟨h.1,h'⟩⟩
   ·exact h.elim
  ·exact h.elim
theorem aj3{e:Env}{O:List aa}:∀(rs:List dg) (acc:List AV) {K:List AV->Prop},cK e O rs acc K->∃xs,K xs/\∀K':List AV->Prop,K' xs->cK e O rs acc K'
 | [],acc,K,h=>⟨_,h,λ _ h=>h⟩
 |r::rs,acc,K,h=>by
  obtain⟨x,h1,h2⟩:=avF r h;obtain⟨xs,h3,h4⟩:=aj3 rs (x::acc) h1;exact⟨xs,h3,λ K' hk=>h2 _ (h4 K' hk)⟩
theorem jM{f:FuncId}{A:lZ}(hf:rK P f A){args:List AV}{O:List aa}{Q:AV->List aa->Prop}(hl:args.length=A.cg)
  (h:kZ P O.length A.code (agt O.length A.res Q) (oj args) O):∃res O',Q res O'/\cF P f args O res O':=by
 obtain⟨x,e',O',h1,h2⟩:=qG _ h
 have fin:∀x,(cK e' O' A.res [] λ xs=>∃e1 O1,WK O.length (λ t=>if t=0 then bn xs else .top) O' e1 O1/\Q (e1 0) O1)->(∀Q':AX->Env->List aa->Prop,Q' x e' O'->kZ P O.length A.code Q' (oj args) O)->x≠ .exit 0->(∀i,x≠ .exit i)->∃res O',Q res O'/\cF P f args O res O':=by
  intro x hr h2 _ hx;obtain⟨xs,⟨e1,O1,hw,hq⟩,h3⟩:=aj3 _ _ hr;refine⟨e1 0,O1,hq,cY hf hl (h2 _ ?_)⟩;cases x with
  |exit i=>exact(hx i rfl).elim
  |normal=>exact h3 _ ⟨e1,hw,rfl⟩
  |ret=>exact h3 _ ⟨e1,hw,rfl⟩
 cases x with
 |exit i=>exact h1.elim
 |normal=>exact fin .normal h1 h2 (by simp) (by simp)
 |ret=>exact fin .ret h1 h2 (by simp) (by simp)
theorem aU{n0 t:Nat}{Q:AV->List aa->Prop}{x:AX}(hx:x= .ret∨x= .normal){e:Env}{O:List aa}(h:Q (e t) O):agt n0 [.tmp t] Q x e O:=by
 have:cK e O [.tmp t] [] λ xs=>∃e' O',WK n0 (λ t=>if t=0 then bn xs else .top) O e' O'/\Q (e' 0) O':=
  ⟨λ s=>if s=0 then e t else .top,O,.refl _ _ _,h⟩
 rcases hx with rfl|rfl<;>exact this
end Go.Ab
