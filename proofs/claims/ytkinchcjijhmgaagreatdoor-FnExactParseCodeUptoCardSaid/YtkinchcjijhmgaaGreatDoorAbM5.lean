/- Part of a proof: the functions that the law reaches, walked by the abstract logic of the texts Ab. -/
import Derived.Test.YtkinchcjijhmgaaGreatDoorAbM4
import Derived.Test.YtkinchcjijhmgaaGreatDoorAbM3
open Option(bind_eq_some_iff)
set_option linter.unusedVariables false
set_option linter.unusedSimpArgs false
set_option linter.defProp false
namespace Go.Ab
def auN(x:Nat):List Nat->List Nat
 | []=>[x]
 |y::l=>if x<y then x::y::l else if x=y then y::l else y::auN x l
def ahe(a b:List Nat):List Nat:=a.foldr auN b
def abd:List aN->List Nat->List Nat
 | [],out=>out
 |o::r,out=>ahe o.reads (match o.dst with|some t=>(abd r out).filter (· !=t)|none=>abd r out)
def aE.slot:aE->List Nat
 | .t n=>[n]
 | .c _=>[]
def live(ret:List Nat):aO->List Nat->List (Nat×List Nat)->aO×List Nat
 | .skip,out,_=>(.skip,out)
 | .region rows ops,out,_=>(.aU out (.region rows ops),abd ops out)
 | .seq a b,out,ex=>
   let qb:=live ret b out ex
   let qa:=live ret a qb.2 ex
   (.seq qa.1 qb.1,qa.2)
 | .cond c t f,out,ex=>
   let qt:=live ret t out ex
   let qf:=live ret f out ex
   (.aU out (.cond c qt.1 qf.1),ahe c.slot (ahe qt.2 qf.2))
 | .block id b,out,ex=>
   let qb:=live ret b out ((id,out)::ex)
   (.aU out (.block id qb.1),qb.2)
 | .loop b,_,ex=>
   let l1:=(live ret b [] ex).2
   let l2:=ahe l1 (live ret b l1 ex).2
   let l3:=ahe l2 (live ret b l2 ex).2
   (.loop (live ret b l3 ex).1,l3)
 | .exit id,_,ex=>(.exit id,match ex.find? (λ p=>p.1==id)with|some p=>p.2|none=>[])
 | .ret,_,_=>(.ret,ret)
 | .aU l c,out,ex=>let q:=live ret c out ex;(.aU l q.1,q.2)
 | .j6 c,out,ex=>let q:=live ret c out ex;(.j6 q.1,q.2)
 | .hD ops,out,_=>(.hD ops,out)
structure Cfg where
 fl:List Nat
 fr:List (Nat×Bool×Nat×Nat)
 sg:List (Nat×List jw)
 cut:Bool
def avS:List (Nat×Bool×Nat×Nat)->Nat->Option (Bool×Nat×Nat)
 | [],_=>none
 |(g,q)::l,f=>if g=f then some q else avS l f
def atJ:List (Nat×List jw)->Nat->Option (List jw)
 | [],_=>none
 |(g,q)::l,f=>if g=f then some q else atJ l f
def apx(ops:List aN):List Nat:=ops.foldr (λ o l=>match o.op with
 | .app _ _ _ (.t k) _=>k::l
 | .jN _ _ _ (.t k) _=>k::l
 | .bt (.t k)=>(match o.dst with|some d=>if l.contains d=true then k::l else l|none=>l)
 |_=>l) []
def zq(c:Cfg)(drawn base:Bool):dZ->dZ
 | .call f as=>match atJ c.sg f with
   |some gs=>if drawn=true/\gs.any jw.one=true then .jd gs f as else .ia gs f as
   |none=>match avS c.fr f with
    |some (nl,e,s)=>if drawn=true/\base=false then(if c.fl.contains f=true then .kS f as else .jX f as)else .fK nl e s f as
    |none=>if drawn=true then(if c.fl.contains f=true then .kS f as else .jX f as)else .lA f as
 | .eJ x as=>if drawn=true then .ik x as else .jf x as
 | .cw s x l h=>if c.cut=true then .cut s x l h else .cw s x l h
 | .buildSlice t s l z ps=>if(drawn=true∨(c.cut=true/\ps.all (λ p=>match p.2 with| .c _=>true| .t _=>false)=true))/\base=false then .ir t s l z ps else .buildSlice t s l z ps
 |o=>o
def apM(c:Cfg)(rows:Bool)(bs:List Nat)(o:aN):aN:={o with op:=zq c rows (match o.dst with|some t=>bs.contains t|none=>false) o.op}
def oh(gen:Cfg):aO->aO
 | .region rows ops=> .region rows (ops.map (apM gen rows.isSome (apx ops)))
 | .seq a b=> .seq (oh gen a) (oh gen b)
 | .cond c t f=> .cond c (oh gen t) (oh gen f)
 | .block id b=> .block id (oh gen b)
 | .loop b=> .loop (oh gen b)
 | .aU l c=> .aU l (oh gen c)
 | .j6 c=> .j6 (oh gen c)
 |c=>c
theorem ga(ret:List Nat):∀(c:aO) (out:List Nat) (ex:List (Nat×List Nat)),(live ret c out ex).1.strip=c.strip
 | .skip,_,_=>rfl
 | .region rows ops,_,_=>rfl
 | .seq a b,out,ex=>by simp only[live,aO.strip,ga ret a,ga ret b]
 | .cond c t f,out,ex=>by simp only[live,aO.strip,ga ret t,ga ret f]
 | .block id b,out,ex=>by simp only[live,aO.strip,ga ret b]
 | .loop b,out,ex=>by simp only[live,aO.strip,ga ret b]
 | .exit id,_,_=>rfl
 | .ret,_,_=>rfl
 | .aU l c,out,ex=>by simp only[live,aO.strip,ga ret c]
 | .j6 c,out,ex=>by simp only[live,aO.strip,ga ret c]
 | .hD ops,_,_=>rfl
theorem ack(gen:Cfg)(d b:Bool)(o:dZ):(zq gen d b o).strip=o.strip:=by
 cases o<;>try rfl
 case buildSlice=>simp only[zq];split<;>rfl
 case cw=>simp only[zq];split<;>rfl
 case eJ=>simp only[zq];split<;>rfl
 case call=>
  simp only[zq]
  split
  ·split<;>rfl
  ·split
   ·split
    ·split<;>rfl
    ·rfl
   ·split
    ·split<;>rfl
    ·rfl
theorem fY(gen:Cfg):∀(c:aO),(oh gen c).strip=c.strip
 | .skip=>rfl
 | .region rows ops=>by
   simp only[oh,aO.strip,List.map_map];congr 1;apply List.map_congr_left;intro o _;simp only[Function.comp,aN.strip,apM,ack]
 | .seq a b=>by simp only[oh,aO.strip,fY gen a,fY gen b]
 | .cond c t f=>by simp only[oh,aO.strip,fY gen t,fY gen f]
 | .block id b=>by simp only[oh,aO.strip,fY gen b]
 | .loop b=>by simp only[oh,aO.strip,fY gen b]
 | .exit id=>rfl
 | .ret=>rfl
 | .aU l c=>by simp only[oh,aO.strip,fY gen c]
 | .j6 c=>by simp only[oh,aO.strip,fY gen c]
 | .hD ops=>rfl
section
variable {P:Program} {nt:Nat}
theorem adQ{c:Call}{a:dZ}(h:u6 P c=some a):a.strip=a:=by
 unfold u6 at h
 split at h
 ·split at h
  ·cases h;rfl
  ·cases h;rfl
  ·cases h
 ·split at h
  ·split at h
   ·simp only[Option.map_eq_some_iff]at h;obtain⟨_,_,rfl⟩:=h;rfl
   ·simp only[Option.map_eq_some_iff]at h;obtain⟨_,_,rfl⟩:=h;rfl
   ·cases h
  ·cases h
 ·split at h
  ·split at h
   ·simp only[Option.bind_eq_bind,bind_eq_some_iff,Option.some.injEq]at h;obtain⟨e,_,⟨s,b,z⟩,_,x,_,y,_,rfl⟩:=h
    rfl
   ·cases h
  ·cases h
 ·cases h
theorem amA{ty:TypeId}{op:Op}{t s l:Nat}{z:AV}{ps:List (Nat×aE)}(h:bR P ty op=some (.ir t s l z ps)):False:=by
 cases op<;>simp only[bR]at h
 all_goals (repeat' split at h)
 all_goals first
  |(simp[bind_eq_some_iff]at h;done)
  |(exfalso;simp_all;done)
theorem ai3{ty:TypeId}{op:Op}{k t s:Nat}{z:AV}(h:bR P ty op=some (.gu k t s z)):False:=by
 cases op<;>simp only[bR]at h
 all_goals (repeat' split at h)
 all_goals first
  |(simp[bind_eq_some_iff]at h;done)
  |(exfalso;simp_all;done)
theorem ai2{ty:TypeId}{op:Op}{k t s:Nat}{z:aE}(h:bR P ty op=some (.lg k t s z)):False:=by
 cases op<;>simp only[bR]at h
 all_goals (repeat' split at h)
 all_goals first
  |(simp[bind_eq_some_iff]at h;done)
  |(exfalso;simp_all;done)
theorem ai1{ty:TypeId}{op:Op}{k t s l:Nat}{z:AV}{ps:List (Nat×aE)}(h:bR P ty op=some (.gr k t s l z ps)):False:=by
 cases op<;>simp only[bR]at h
 all_goals (repeat' split at h)
 all_goals first
  |(simp[bind_eq_some_iff]at h;done)
  |(exfalso;simp_all;done)
theorem ai0{ty:TypeId}{op:Op}{s:Nat}{x:aE}{l h':Option aE}(h:bR P ty op=some (.cut s x l h')):False:=by
 cases op<;>simp only[bR]at h
 all_goals (repeat' split at h)
 all_goals first
  |(simp[bind_eq_some_iff]at h;done)
  |(exfalso;simp_all;done)
theorem aiZ{ty:TypeId}{op:Op}{neg:Bool}{x:aE}(h:bR P ty op=some (.yU neg x)):False:=by
 cases op<;>simp only[bR]at h
 all_goals (repeat' split at h)
 all_goals first
  |(simp[bind_eq_some_iff]at h;done)
  |(exfalso;simp_all;done)
theorem aiY{ty:TypeId}{op:Op}{e s b:Nat}{z:AV}{x y:aE}(h:bR P ty op=some (.mkF e s b z x y)):False:=by
 cases op<;>simp only[bR]at h
 all_goals (repeat' split at h)
 all_goals first
  |(simp[bind_eq_some_iff]at h;done)
  |(exfalso;simp_all;done)
theorem aiX{ty:TypeId}{op:Op}{k e s b:Nat}{z:AV}{x y:aE}(h:bR P ty op=some (.xr k e s b z x y)):False:=by
 cases op<;>simp only[bR]at h
 all_goals (repeat' split at h)
 all_goals first
  |(simp[bind_eq_some_iff]at h;done)
  |(exfalso;simp_all;done)
theorem acf{a:dZ}(hA:a.y4=false)(h:a.xM=false)(hf:∀t s l z ps,a≠ .ir t s l z ps):a.strip=a:=by
 cases a<;>first|rfl|(simp[dZ.xM]at h;done)|(simp[dZ.y4]at hA;done)|(exact(hf _ _ _ _ _ rfl).elim)
theorem aiU{t:TypeId}{o:Op}{a:dZ}(h:cOp P t o=some a):a.strip=a:=by
 unfold cOp aiW at h;simp only[Option.some.injEq]at h
 split at h
 ·rename_i b hb;subst h;rcases np hb with⟨_,_,rfl⟩|⟨_,_,_,_,_,rfl⟩|⟨_,_,_,_,_,_,rfl⟩<;>rfl
 ·cases h0:vK P t o with
  |none=>rw[h0]at h;subst h;rfl
  |some b=>
   rw[h0]at h;simp only[Option.getD_some]at h;subst h;unfold vK at h0
   split at h0
   ·exact adQ h0
   ·rw[bind_eq_some_iff]at h0;obtain⟨b',hb,jr⟩:=h0
    split at jr
    ·cases jr
    ·rename_i hc;cases jr;exact acf (by cases b<;>first|rfl|exact(ai3 hb).elim|exact(ai2 hb).elim|exact(ai1 hb).elim|exact(ai0 hb).elim|exact(aiZ hb).elim|exact(aiY hb).elim|exact(aiX hb).elim) (by simpa using hc) (λ t s l z ps he=>amA (by rw[hb,he]))
theorem adN{ops:Array Oper}{o:Oper}{a:aN}(h:nK P nt ops o=some a):a.strip=a:=by
 unfold nK at h
 split at h
 ·rename_i op g hop hg
  split at h
  ·cases h;simp only[aN.strip,aiU hop]
  ·cases h
 ·cases h
theorem xv{f:Oper->Option aN}(hf:∀o a,f o=some a->a.strip=a):∀(l:List Oper) {r:List aN},l.mapM f=some r->r.map aN.strip=r
 | [],r,h=>by simp at h;subst h;rfl
 |o::l,r,h=>by
  simp only[List.mapM_cons,Option.bind_eq_bind,Option.pure_def,bind_eq_some_iff,Option.some.injEq]at h;obtain⟨b,hb,bs,hbs,rfl⟩:=h;simp only[List.map_cons,hf o b hb,xv hf l hbs]
theorem adP:∀(code:Code) {c:aO},fO P nt code=some c->c.strip=c:=by
 intro code c h
 induction c generalizing code with
 |skip=>rfl
 |exit=>rfl
 |ret=>rfl
 |region rows ops=>
  rcases b6 h with⟨_,h⟩|⟨id,akF,draw,ay9,abT,rfl,h,hm,uO⟩|⟨_,_,_,_,_,h,_⟩|⟨_,_,_,_,_,_,_,h,_⟩|⟨_,_,_,_,h,_⟩|⟨_,_,_,h,_⟩|⟨_,_,h⟩|⟨_,h⟩<;>first|(cases h;done)|skip
  cases h;simp only[aO.strip];rw[xv (λ o a h=>adN h) _ hm]
 |seq a b iha ihb=>
  rcases b6 h with⟨_,h⟩|⟨_,_,_,_,_,_,h,_⟩|⟨cx,cy,ax,ay,rfl,h,hx,hy⟩|⟨_,_,_,_,_,_,_,h,_⟩|⟨_,_,_,_,h,_⟩|⟨_,_,_,h,_⟩|⟨_,_,h⟩|⟨_,h⟩<;>first|(cases h;done)|skip
  cases h;simp only[aO.strip,iha cx hx,ihb cy hy]
 |cond o t f iht ihf=>
  rcases b6 h with⟨_,h⟩|⟨_,_,_,_,_,_,h,_⟩|⟨_,_,_,_,_,h,_⟩|⟨o',x,y,ao,ax,ay,rfl,h,h0,h1,h2⟩|⟨_,_,_,_,h,_⟩|⟨_,_,_,h,_⟩|⟨_,_,h⟩|⟨_,h⟩<;>first|(cases h;done)|skip
  cases h;simp only[aO.strip,iht x h1,ihf y h2]
 |block id b ih=>
  rcases b6 h with⟨_,h⟩|⟨_,_,_,_,_,_,h,_⟩|⟨_,_,_,_,_,h,_⟩|⟨_,_,_,_,_,_,_,h,_⟩|⟨id',cb,ab,rfl,h,hb⟩|⟨_,_,_,h,_⟩|⟨_,_,h⟩|⟨_,h⟩<;>first|(cases h;done)|skip
  cases h;simp only[aO.strip,ih cb hb]
 |loop b ih=>
  rcases b6 h with⟨_,h⟩|⟨_,_,_,_,_,_,h,_⟩|⟨_,_,_,_,_,h,_⟩|⟨_,_,_,_,_,_,_,h,_⟩|⟨_,_,_,_,h,_⟩|⟨cb,ab,rfl,h,hb⟩|⟨_,_,h⟩|⟨_,h⟩<;>first|(cases h;done)|skip
  cases h;simp only[aO.strip,ih cb hb]
 |aU l c ih=>
  rcases b6 h with⟨_,h⟩|⟨_,_,_,_,_,_,h,_⟩|⟨_,_,_,_,_,h,_⟩|⟨_,_,_,_,_,_,_,h,_⟩|⟨_,_,_,_,h,_⟩|⟨_,_,_,h,_⟩|⟨_,_,h⟩|⟨_,h⟩<;>cases h
 |j6 c ih=>
  rcases b6 h with⟨_,h⟩|⟨_,_,_,_,_,_,h,_⟩|⟨_,_,_,_,_,h,_⟩|⟨_,_,_,_,_,_,_,h,_⟩|⟨_,_,_,_,h,_⟩|⟨_,_,_,h,_⟩|⟨_,_,h⟩|⟨_,h⟩<;>cases h
 |hD ops=>
  rcases b6 h with⟨_,h⟩|⟨_,_,_,_,_,_,h,_⟩|⟨_,_,_,_,_,h,_⟩|⟨_,_,_,_,_,_,_,h,_⟩|⟨_,_,_,_,h,_⟩|⟨_,_,_,h,_⟩|⟨_,_,h⟩|⟨_,h⟩<;>cases h
end
def anD:ff->Nat
 | .tmp t=>t
 | .cell t _=>t
def ag7(P:Program)(gen:Cfg)(fn:Func):Option sG:=
 match fn.body with
 |none=>none
 |some code=>match fO P fn.ntmps code,fn.results.toList.mapM (aiT P)with
  |some c,some rs=>some ⟨fn.params.size+fn.nfree,fn.ntmps,(live (ahe (rs.map anD) []) (oh gen c) [] []).1,rs⟩
  |_,_=>none
theorem aaz{P:Program}{f:FuncId}{fn:Func}{gen:Cfg}{A:sG}(hf:P.funcs[f]? =some fn)(hA:ag7 P gen fn=some A)(h1:A.iw<=A.nt)(h2:(fn.name== "runtime.NumGoroutine")=false):cFn P f A:=by
 unfold ag7 at hA
 split at hA
 ·cases hA
 ·rename_i code alK
  split at hA
  ·rename_i c rs hc hrs;cases hA;refine⟨fn,code,hf,alK,h2,rfl,h1,?_,hrs⟩;rw[hc];simp only[ga,fY,adP code hc]
  ·cases hA
def bU(P:Program)(gen:Cfg)(fn:Func):Option (Nat×T):=
 match ag7 P gen fn with
 |some A=>if A.iw<=A.nt/\(fn.name== "runtime.NumGoroutine")=false then
   match A.left gen.fl with
   |some t=>some (A.iw,t)
   |none=>none
  else none
 |none=>none
theorem aH{P:Program}{f:FuncId}{fn:Func}{gen:Cfg}{n:Nat}{t:T}(hf:P.funcs[f]? =some fn)(h:bU P gen fn=some (n,t)){args:List AV}(hl:args.length=n)(hn:AV.ad args=true){res:AV}
  (hw:bD P (λ _ _ _=>False) (λ a=>a=res) t args []):aI P f args res:=by
 unfold bU at h
 split at h
 ·rename_i A hA
  split at h
  ·rename_i hc
   split at h
   ·rename_i t' ht;cases h;exact amo (aaz hf hA hc.1 hc.2) ht hl hn hw
   ·cases h
  ·cases h
 ·cases h
def rR(P:Program)(gen:Cfg)(g:jw)(fn:Func):Option T:=
 match ag7 P gen fn with
 |some A=>if A.iw<=A.nt/\(fn.name== "runtime.NumGoroutine")=false then A.rR gen.fl g else none
 |none=>none
theorem sX{P:Program}{f:FuncId}{fn:Func}{gen:Cfg}{g:jw}{t:T}(hf:P.funcs[f]? =some fn)(h:rR P gen g fn=some t){ins outs:List AV}(hl:ins.length=g.n)(hn:AV.ad ins=true)(ho:outs.length=g.m)
  (hw:bD P (λ _ _ _=>False) (λ a=>a=b4 outs) t ins []):sF P f g ins outs:=by
 unfold rR at h
 split at h
 ·rename_i A hA
  split at h
  ·rename_i hc;exact ahr (aaz hf hA hc.1 hc.2) h hl hn ho hw
  ·cases h
 ·cases h
end Go.Ab
namespace Go.Ab
section
variable (P:Program) (L:AX->SS->List AV->Prop) (R:AV->Prop)
def kT(t:T)(r:List AV)(S:List (List AV->Prop)):AV->Prop:=λ v=>bD P L R t (r++ [v]) S
def dU(K:AV->Prop)(v:AV):Prop:=K v
def abi(c:AV)(t f:T)(r:List AV)(S:List (List AV->Prop)):Prop:=match c with
 | .v (.bool b)=>(b=true->bD P L R t r S)/\(b=false->bD P L R f r S)
 |_=>False
def adU(k:Nat)(a b:T)(r:List AV)(S:List (List AV->Prop)):Prop:=bD P L R (.bind k a b) r S
def rM(init:List AV)(b:T)(r:List AV)(S:List (List AV->Prop)):Prop:=
 ∃(J:Nat->List AV->Prop) (n:Nat),J n init/\∀n vs,J n vs->vs.length=init.length->bD P L R b (r++vs) ((λ l5=>∃m,m<n/\J m l5)::S)
def aeM(vs:List AV):Prop:=R (b4 vs)
def ak7(S:List (List AV->Prop))(vs:List AV):Prop:=match S with
 |J::_=>J vs
 | []=>False
variable (t f:T) (r:List AV) (S:List (List AV->Prop))
theorem axa(o:PO):bD P L R (.op o t) r S=o.wp P r (kT P L R t r S):=nr rfl
theorem w_go(v:AV):dU (kT P L R t r S) v=bD P L R t (r++ [v]) S:=nr rfl
theorem aty(c:l4):bD P L R (.aP c t) r S=c.wp r (bD P L R t r S):=nr rfl
theorem atw(c:D):bD P L R (.ite c t f) r S=abi P L R (c.ev r) t f r S:=nr rfl
theorem aqD(k:Nat):bD P L R (.bind k t f) r S=adU P L R k t f r S:=nr rfl
theorem aqB(init:List D):bD P L R (.loop init t) r S=rM P L R (D.aY r init) t r S:=by
 simp only[bD,rM,D.aJ,List.length_map]
theorem atv(ds:List D):bD P L R (.ret ds) r S=aeM R (D.aY r ds):=nr rfl
theorem aqC(vs:List D):bD P L R (.jump vs) r S=ak7 S (D.aY r vs):=nr rfl
theorem atx(J:List AV->Prop):bD P L R (.bn t) r (J::S)=bD P L R t r S:=nr rfl
theorem ank(J:List AV->Prop)(vs:List AV):ak7 (J::S) vs=J vs:=nr rfl
theorem aqA:abi P L R (.v (.bool true)) t f r S=bD P L R t r S:=by simp[abi]
theorem anl:abi P L R (.v (.bool false)) t f r S=bD P L R f r S:=by simp[abi]
end
section
variable {P:Program} {L:AX->SS->List AV->Prop} {R:AV->Prop} {t f:T} {r:List AV} {S:List (List AV->Prop)}
theorem bH{b:Bool}(h:b=true->bD P L R t r S)(h':b=false->bD P L R f r S):abi P L R (.v (.bool b)) t f r S:=⟨h,h'⟩
theorem aq{p:Prop}[Decidable p](h:p->bD P L R t r S)(h':¬p->bD P L R f r S):abi P L R (.v (.bool (decide p))) t f r S:=⟨λ q=>h (of_decide_eq_true q),λ q=>h' (of_decide_eq_false q)⟩
theorem cn{p:Prop}[Decidable p](h:¬p->bD P L R t r S)(h':p->bD P L R f r S):abi P L R (.v (.bool (!decide p))) t f r S:=
 ⟨λ q=>h (by simpa using q),λ q=>h' (by simpa using q)⟩
theorem dx{k:Nat}(J:List AV->Prop)(h:bD P L R t r (J::S))(h':∀vs,J vs->vs.length=k->bD P L R f (r++vs) S):adU P L R k t f r S:=
 eE (λ _ _ _ h=>h) (λ _ h=>h) t (.cons (λ vs hv hk=>h' vs hv hk) (.refl _)) h
theorem bw{k:Nat}(vs:List AV)(hk:vs.length=k)(h:bD P L R t r ((λ ws=>ws=vs)::S))(h':bD P L R f (r++vs) S):adU P L R k t f r S:=
 dx (λ ws=>ws=vs) h λ ws hw _=>by rw[hw];exact h'
theorem aB{k:Nat}(h:bD P L R t r ((λ vs=>bD P L R f (r++vs) S)::S)):adU P L R k t f r S:=dx _ h λ _ hv _=>hv
theorem cM{ι:Type}{init:List AV}(D:ι->Prop)(σ:ι->List AV)(μ:ι->Nat)(i0:ι)(hd:D i0)(h0:init=σ i0)
  (hr:∀i,D i->bD P L R t (r++σ i) ((λ vs=>∃j,D j/\μ j<μ i/\vs=σ j)::S)):rM P L R init t r S:=by
 refine⟨λ n vs=>∃i,D i/\μ i=n/\vs=σ i,μ i0,⟨i0,hd,rfl,h0⟩,?_⟩;rintro n vs ⟨i,hi,rfl,rfl⟩ _;refine eE (λ _ _ _ h=>h) (λ _ h=>h) t (.cons (λ vs hv=> ?_) (.refl _)) (hr i hi);obtain⟨j,hj,au,rfl⟩:=hv;exact⟨μ j,au,j,hj,rfl,rfl⟩
theorem bj{g:FuncId}{args:List AV}{flat:Bool}{K:AV->Prop}{x:Value}(h:aI P g args (.v x))(k:dU K (.v x)):aau P g args flat K:=⟨_,h,rfl,λ _=>rfl,k⟩
theorem eo{g:FuncId}{args:List AV}{K:AV->Prop}{res:AV}(h:aI P g args res)(hn:res.ag=true)(k:dU K res):aau P g args false K:=⟨_,h,hn,λ h=>(by cases h),k⟩
theorem qQ{s:Nat}{xs:List AV}{k:IntKind}{n:Nat}{K:AV->Prop}(x:AV)(h:xs[n]? =some x)(hs:x.cells.length=s)(hk:dU K x):lL s (.sl xs) (.v (.int k (n:Int))) K:=by
 have au:=(List.getElem?_eq_some_iff.1 h).1;have hx:xs.getD (Int.toNat (n:Int)) .top=x:=by rw[Int.toNat_natCast];exact alX h
 refine⟨Int.natCast_nonneg n,by exact_mod_cast au,by rw[hx];exact hs,by rw[hx];exact hk⟩
where alX {l:List AV} {i:Nat} {x:AV} (h:l[i]? =some x):l.getD i .top=x:=by simp[List.getD,h]
end
theorem ayR(r:List AV)(d:D)(f:Nat):(D.ip d f).ev r= .bW (d.ev r) f:=nr rfl
section
variable (r:List AV)
theorem e_x(i:Nat):(D.x i).ev r=r.getD i .top:=nr rfl
theorem e_c(a:AV):(D.c a).ev r=a:=nr rfl
theorem asu(i j:Nat):(D.cell i j).ev r=(r.getD i .top).cells.getD j .top:=nr rfl
theorem avZ(i j:Nat):(D.ext i j).ev r=ajG (r.getD i .top) j:=nr rfl
theorem ayQ(l:D):(D.sl l).ev r= .sl (aS (l.ev r)):=nr rfl
theorem av0(l:List D):(D.agg l).ev r= .agg (D.aY r l):=nr rfl
theorem ayS(f:FuncId)(l:List D):(D.fn f l).ev r= .fn f (D.aY r l):=nr rfl
theorem avY:D.aY r []= []:=nr rfl
theorem ast(d:D)(l:List D):D.aY r (d::l)=d.ev r::D.aY r l:=nr rfl
end
theorem ah6(xs:List AV):aS (.sl xs)=xs:=nr rfl
theorem tK(k:IntKind)(n:Nat):idxOf (.v (.int k (n:Int)))=n:=nr (by simp[idxOf])
theorem aij(k:IntKind)(n:Int):idxOf (.v (.int k n))=n.toNat:=nr rfl
theorem ans(vs:List AV)(j:Nat):ajG (.aK vs) j=vs.getD j .top:=nr rfl
theorem amc(r:List AV):D.evo r none=none:=nr rfl
theorem amb(r:List AV)(d:D):D.evo r (some d)=some (d.ev r):=nr rfl
section
variable (P:Program) (r:List AV) (K:AV->Prop)
def ft(op:BinOp)(a b:AV)(K:AV->Prop):Prop:=eN op a b [] λ x _=>K x
def unT(op:UnOp)(a:AV)(K:AV->Prop):Prop:=unK op a [] λ x _=>K x
def ag4(k:IntKind)(a:AV)(K:AV->Prop):Prop:=uV k a [] λ x _=>K x
def uv(c a b:AV)(K:AV->Prop):Prop:=nB c a b [] λ x _=>K x
def apd(off:Nat)(n:Option Nat)(a:AV)(K:AV->Prop):Prop:=aiE off n a [] λ x _=>K x
def y9(a i:AV)(K:AV->Prop):Prop:=uK a i [] λ x _=>K x
def anw(a:AV)(lo hi:Option AV)(K:AV->Prop):Prop:=km a lo hi [] λ x _=>K x
def anx(s:Nat)(a:AV)(lo hi:Option AV)(K:AV->Prop):Prop:=ko s a lo hi [] λ x _=>K x
def agH(a:AV)(K:AV->Prop):Prop:=uF a [] λ x _=>K x
def zR(a:AV)(K:AV->Prop):Prop:=lH a [] λ x _=>K x
def arE(n:Option Nat)(a:AV)(K:AV->Prop):Prop:=ah9 n a K
def asq(off:Nat)(a:AV)(K:AV->Prop):Prop:=aiH off a K
theorem at2(x:D):PO.wp P r (.val x) K=dU K (x.ev r):=nr rfl
def puT(o:PU)(xs:List AV)(K:AV->Prop):Prop:=puK o xs K
def amR(s bytes:Nat)(xs:List AV)(y:AV)(K:AV->Prop):Prop:=yD s bytes xs y K
theorem axe(o:PU)(ds:List D):PO.wp P r (.pu o ds) K=puT o (D.aY r ds) K:=nr rfl
theorem arf(s bytes:Nat)(l y:D):PO.wp P r (.jN s bytes l y) K=amR s bytes (aS (l.ev r)) (y.ev r) K:=nr rfl
theorem aq8(c a b:D):PO.wp P r (.pick c a b) K=uv (c.ev r) (a.ev r) (b.ev r) K:=nr rfl
theorem auc(op:BinOp)(a b:D):PO.wp P r (.bin op a b) K=ft op (a.ev r) (b.ev r) K:=nr rfl
def ai8(neg:Bool)(a b:AV)(K:AV->Prop):Prop:=aeb neg a b K
theorem aud(neg:Bool)(a b:D):PO.wp P r (.beq neg a b) K=ai8 neg (a.ev r) (b.ev r) K:=nr rfl
theorem axd(op:UnOp)(a:D):PO.wp P r (.un op a) K=unT op (a.ev r) K:=nr rfl
theorem ard(k:IntKind)(a:D):PO.wp P r (.conv k a) K=ag4 k (a.ev r) K:=nr rfl
theorem arc(s:Nat)(l i:D):PO.wp P r (.elem s l i) K=lL s (l.ev r) (i.ev r) K:=nr rfl
theorem aua(off:Nat)(n:Option Nat)(a:D):PO.wp P r (.yg off n a) K=apd off n (a.ev r) K:=nr rfl
theorem anZ(f m:Nat)(a:D):PO.wp P r (.uE f m a) K=(f+m<=(a.ev r).cells.length/\dU K (dH (some m) (a.ev r) f)):=nr rfl
theorem arb(a i:D):PO.wp P r (.eB a i) K=y9 (a.ev r) (i.ev r) K:=nr rfl
theorem akl(a:D)(lo hi:Option D):PO.wp P r (.cL a lo hi) K=anw (a.ev r) (D.evo r lo) (D.evo r hi) K:=nr rfl
theorem akm(s:Nat)(a:D)(lo hi:Option D):PO.wp P r (.cw s a lo hi) K=anx s (a.ev r) (D.evo r lo) (D.evo r hi) K:=nr rfl
theorem aq9(a:D):PO.wp P r (.dI a) K=agH (a.ev r) K:=nr rfl
theorem ara(a:D):PO.wp P r (.cz a) K=zR (a.ev r) K:=nr rfl
theorem at5(z:AV)(n:Nat)(ps:List (Nat×D)):PO.wp P r (.pH z n ps) K=dU K (.sl (eQ (List.replicate n z) (ps.map λ p=>(p.1,p.2.ev r)))):=nr rfl
theorem at4(bytes:Nat)(z:AV)(n c:D):PO.wp P r (.rep bytes z n c) K=acu bytes z (n.ev r) (c.ev r) K:=nr rfl
theorem aue(s bytes:Nat)(l y:D):PO.wp P r (.app s bytes l y) K=agc s bytes (aS (l.ev r)) (y.ev r) K:=nr rfl
theorem at7(l i:D)(f:Nat)(n:Option Nat):PO.wp P r (.get l i f n) K=vI (aS (l.ev r)) (idxOf (i.ev r)) f n K:=nr rfl
theorem at3(l i:D)(f m:Nat)(y:D):PO.wp P r (.set l i f m y) K=jt (aS (l.ev r)) (idxOf (i.ev r)) f m (y.ev r) K:=nr rfl
theorem are(f:FuncId)(args:List D)(b:Bool):PO.wp P r (.call f args b) K=aau P f (D.aY r args) b K:=nr rfl
theorem an0(nl:Bool)(e s:Nat)(f:FuncId)(args:List D):PO.wp P r (.fK nl e s f args) K=al8 P nl e s f (D.aY r args) K:=nr rfl
theorem anY(f:FuncId)(g:jw)(args:List D):PO.wp P r (.ia f g args) K=ajQ P f g (D.aY r args) K:=nr rfl
theorem an1(g:D)(args:List D)(b:Bool):PO.wp P r (.eJ g args b) K=oR P (g.ev r) (D.aY r args) b K:=nr rfl
theorem at6(n:Option Nat)(a:D):PO.wp P r (.ldp n a) K=arE n (a.ev r) K:=nr rfl
theorem aub(off:Nat)(a:D):PO.wp P r (.fap off a) K=asq off (a.ev r) K:=nr rfl
theorem amu(f:FuncId)(aX args:List AV)(b:Bool):oR P (.fn f aX) args b K=aau P f (args++aX) b K:=nr rfl
variable (k k':IntKind) (a b:Int) (s u:ByteArray)
theorem auG(n:Option Nat)(y:AV)(f:Nat):arE n (.bW y f) K=(f+n.getD 1<=y.cells.length/\dU K (dH n y f)):=nr rfl
theorem auI(off:Nat)(y:AV)(f:Nat):asq off (.bW y f) K=dU K (.bW y (f+off)):=nr rfl
theorem aqJ(neg:Bool):puT (.tt neg) [.aQ] K=dU K (.v (.bool (neg !=true))):=nr rfl
theorem anq(neg:Bool)(x:AV)(xs:List AV):puT (.tt neg) [.sl (x::xs)] K=dU K (.v (.bool (neg !=false))):=nr rfl
theorem aqK(neg:Bool):puT (.mT neg) [.v (.pointer none)] K=dU K (.v (.bool (neg !=true))):=nr rfl
theorem aqI(neg:Bool)(x:AV)(f:Nat):puT (.mT neg) [.bW x f] K=dU K (.v (.bool (neg !=false))):=nr rfl
theorem aqL(neg:Bool):puT (.qG neg) [.v .nilIface] K=dU K (.v (.bool (neg !=true))):=nr rfl
theorem aqM(neg:Bool):puT (.qG neg) [.oF] K=dU K (.v (.bool (neg !=false))):=nr rfl
theorem atE:puT .min [.v (.int k a),.v (.int k b)] K=dU K (.v (.int k (if b<a then b else a))):=by simp[puT,puK,w8,dU]
theorem atF:puT .max [.v (.int k a),.v (.int k b)] K=dU K (.v (.int k (if a<b then b else a))):=by simp[puT,puK,w8,dU]
theorem apI(s:ByteArray):puT .b2s [.sl (cf s)] K=dU K (.v (.string s)):=by
 have h:∀l:List UInt8,u8s (l.map λ c=>AV.v (.int .u8 c.toNat))=some l:=by
  intro l
  induction l with
  |nil=>rfl
  |cons c l ih=>simp[u8s,ih]
 simp only[puT,puK,w8,cf,h,Option.map_some,dU]
theorem aqN:puT .b2s [.aQ] K=dU K (.v (.string ⟨#[]⟩)):=nr rfl
theorem asU(m bytes:Nat)(xs:List AV)(s:ByteArray):amR m bytes xs (.v (.string s)) K=(m=1/\(xs.length+s.size)*bytes<=140737488355328/\xs.length+s.size<=9223372036854775807/\dU K (.sl (xs++cf s))):=nr rfl
theorem auy:(true !=true)=false:=nr rfl
theorem auz:(true !=false)=true:=nr rfl
theorem atW:(false !=true)=true:=nr rfl
theorem atX:(false !=false)=false:=nr rfl
theorem awj:ft .add (.v (.int k a)) (.v (.int k b)) K=dU K (.v (.int k (k.wrap (a+b)))):=by rw[ft,ad9];rfl
theorem av5:ft .sub (.v (.int k a)) (.v (.int k b)) K=dU K (.v (.int k (k.wrap (a- b)))):=by rw[ft,adW];rfl
theorem awa:ft .mul (.v (.int k a)) (.v (.int k b)) K=dU K (.v (.int k (k.wrap (a*b)))):=by rw[ft,ad2];rfl
theorem awi:ft .and (.v (.int k a)) (.v (.int k b)) K=dU K (.v (.int k (k.wrap (BitVec.ofInt k.bits a&&&BitVec.ofInt k.bits b).toNat))):=by rw[ft,ad8];rfl
theorem ayW:ft .or (.v (.int k a)) (.v (.int k b)) K=dU K (.v (.int k (k.wrap (BitVec.ofInt k.bits a|||BitVec.ofInt k.bits b).toNat))):=by rw[ft,ag6];rfl
theorem av4:ft .xor (.v (.int k a)) (.v (.int k b)) K=dU K (.v (.int k (k.wrap (BitVec.ofInt k.bits a^^^BitVec.ofInt k.bits b).toNat))):=by rw[ft,adV];rfl
theorem av9:ft .quo (.v (.int k a)) (.v (.int k b)) K=(b≠0/\dU K (.v (.int k (k.wrap (a.tdiv b))))):=by rw[ft,ad0];rfl
theorem av8:ft .rem (.v (.int k a)) (.v (.int k b)) K=(b≠0/\dU K (.v (.int k (a.tmod b)))):=by rw[ft,adZ];rfl
theorem awf:ft .eql (.v (.int k a)) (.v (.int k b)) K=dU K (.v (.bool (decide (a=b)))):=by rw[ft,ad7];rfl
theorem aqi:ft .neq (.v (.int k a)) (.v (.int k b)) K=dU K (.v (.bool (!decide (a=b)))):=by rw[ft,ad1];rfl
theorem awb:ft .lss (.v (.int k a)) (.v (.int k b)) K=dU K (.v (.bool (decide (a<b)))):=by rw[ft,ad3];rfl
theorem awc:ft .leq (.v (.int k a)) (.v (.int k b)) K=dU K (.v (.bool (decide (a<=b)))):=by rw[ft,ad4];rfl
theorem awd:ft .gtr (.v (.int k a)) (.v (.int k b)) K=dU K (.v (.bool (decide (b<a)))):=by rw[ft,ad5];rfl
theorem awe:ft .geq (.v (.int k a)) (.v (.int k b)) K=dU K (.v (.bool (decide (b<=a)))):=by rw[ft,ad6];rfl
theorem av7:ft .shl (.v (.int k a)) (.v (.int k' b)) K=(0<=b/\dU K (.v (.int k (k.wrap (a*2^(min b.toNat k.bits)))))):=by rw[ft,adY];rfl
theorem av6:ft .shr (.v (.int k a)) (.v (.int k' b)) K=(0<=b/\dU K (.v (.int k (a.fdiv (2^(min b.toNat k.bits)))))):=by rw[ft,adX];rfl
theorem asN:ft .add (.v (.string s)) (.v (.string u)) K=(((s.size+u.size:Nat):Int)<=9223372036854775807/\dU K (.v (.string (s++u)))):=by rw[ft,aay];rfl
theorem asM:ft .eql (.v (.string s)) (.v (.string u)) K=dU K (.v (.bool (decide (s=u)))):=by rw[ft,aax];rfl
theorem asL:ft .neq (.v (.string s)) (.v (.string u)) K=dU K (.v (.bool (!decide (s=u)))):=by rw[ft,aaw];rfl
theorem awh(x y:Bool):ai8 false (.v (.bool x)) (.v (.bool y)) K=dU K (.v (.bool (x==y))):=by simp[ai8,aeb,dU]
theorem awg(x y:Bool):ai8 true (.v (.bool x)) (.v (.bool y)) K=dU K (.v (.bool (!(x==y)))):=by simp[ai8,aeb,dU]
theorem atC(x:Bool):unT .not (.v (.bool x)) K=dU K (.v (.bool (!x))):=by rw[unT,agl];rfl
theorem atD:unT .neg (.v (.int k a)) K=dU K (.v (.int k (k.wrap (-a)))):=by rw[unT,agm];rfl
theorem aqE:ag4 k (.v (.int k' a)) K=dU K (.v (.int k (k.wrap a))):=by rw[ag4,adD];rfl
theorem amw(x y:AV):uv (.v (.bool true)) x y K=dU K x:=by rw[uv,xc];rfl
theorem amx(x y:AV):uv (.v (.bool false)) x y K=dU K y:=by rw[uv,uw];rfl
theorem amy(c x y:Bool):uv (.v (.bool c)) (.v (.bool x)) (.v (.bool y)) K=dU K (.v (.bool (if c=true then x else y))):=by rw[uv,xd];rfl
theorem auH(off:Nat)(n:Option Nat)(x:AV):apd off n x K=(x.isAgg=true/\off+n.getD 1<=x.cells.length/\dU K (dH n x off)):=by rw[apd,agZ];rfl
theorem apY:y9 (.v (.string s)) (.v (.int k a)) K=(0<=a/\a<s.size/\dU K (.v (.int .u8 (s.data.toList.getD a.toNat 0).toNat))):=by rw[y9,ade];rfl
theorem atK(lo hi:Option AV):anw (.v (.string s)) lo hi K=yJ 0 lo λ l=>yJ s.size hi λ h=>0<=l/\l<=h/\h<=s.size/\dU K (.v (.string (s.extract l.toNat h.toNat))):=by rw[anw,wN];rfl
theorem atL(m:Nat)(xs:List AV)(lo hi:Option AV):anx m (.sl xs) lo hi K=yJ 0 lo λ l=>yJ xs.length hi λ h=>0<=l/\l<=h/\h<=xs.length/\(∀y∈xs,y.cells.length=m)/\dU K (.sl ((xs.take h.toNat).drop l.toNat)):=by rw[anx,wO];rfl
theorem aru:agH (.v (.string s)) K=dU K (.v (.int .i64 s.size)):=by rw[agH,ac3];rfl
theorem art:zR .aQ K=dU K (.v (.int .i64 0)):=by rw[zR,xA];rfl
theorem auA(xs:List AV):zR (.sl xs) K=dU K (.v (.int .i64 xs.length)):=by rw[zR,xz];rfl
theorem ay0(m bytes:Nat)(xs ys:List AV):agc m bytes xs (.sl ys) K=((∀y∈ys,y.cells.length=m)/\(xs.length+ys.length)*bytes<=140737488355328/\xs.length+ys.length<=9223372036854775807/\dU K (.sl (xs++ys))):=nr rfl
theorem asT(m bytes:Nat)(xs:List AV):agc m bytes xs .aQ K=((∀y∈([]:List AV),y.cells.length=m)/\(xs.length+([]:List AV).length)*bytes<=140737488355328/\xs.length+([]:List AV).length<=9223372036854775807/\dU K (.sl (xs++ []))):=nr rfl
theorem avP(xs:List AV)(i f:Nat)(n:Option Nat):vI xs i f n K=(i<xs.length/\f+n.getD 1<=(xs.getD i .top).cells.length/\dU K (dH n (xs.getD i .top) f)):=nr rfl
theorem avO(xs:List AV)(i f m:Nat)(y:AV):jt xs i f m y K=(i<xs.length/\y.cells.length=m/\y.storable=true/\f+m<=(xs.getD i .top).cells.length/\dU K (.sl (xs.set i (lN (xs.getD i .top) f y)))):=nr rfl
theorem atT(bytes:Nat)(z:AV):acu bytes z (.v (.int .i64 a)) (.v (.int .i64 b)) K=(0<=a/\a<=b/\bytes*b<=281474976710656/\b<=9223372036854775807/\dU K (.sl (List.replicate a.toNat z))):=nr rfl
theorem aeK(z:List AV):eQ z []=z:=nr rfl
theorem acm(z:List AV)(i:Nat)(y:AV)(ps:List (Nat×AV)):eQ z ((i,y)::ps)=eQ (z.set i y) ps:=nr rfl
end
section
variable (r:List AV) (K:Prop)
theorem aoZ(a:D)(m:Nat):l4.wp r (.cells a m) K=((a.ev r).isAgg=true/\(a.ev r).cells.length=m/\(a.ev r).storable=true/\K):=nr rfl
theorem aqb(a:D):l4.wp r (.one a) K=((a.ev r).cells.length=1/\(a.ev r).cI=true/\K):=nr rfl
theorem ayz(a:D)(j:Nat):l4.wp r (.lt a j) K=(j<(a.ev r).cells.length/\K):=nr rfl
theorem avH(a:D)(j:Nat):l4.wp r (.aK a j) K=ahf (a.ev r) j K:=nr rfl
theorem avJ(l i:D):l4.wp r (.idx l i) K=afD (aS (l.ev r)) (i.ev r) K:=nr rfl
theorem ar8(a:D):l4.wp r (.alb a) K=xK (a.ev r) K:=nr rfl
theorem ar7(vs:List AV)(j:Nat):ahf (.aK vs) j K=(j<vs.length/\K):=nr rfl
theorem alQ(xs:List AV)(k:IntKind)(i:Int):afD xs (.v (.int k i)) K=(0<=i/\i<xs.length/\K):=nr rfl
theorem avK(a b:D):l4.wp r (.eql a b) K=((aS (a.ev r)).length=(aS (b.ev r)).length/\K):=nr rfl
theorem ayx:l4.wp r .no K=False:=nr rfl
theorem ayy(l:D):l4.wp r (.ne l) K=(aS (l.ev r)≠[]/\K):=nr rfl
theorem alP(x:AV)(f:Nat):xK (.bW x f) K=K:=nr rfl
theorem aoY(f:FuncId)(cs:List AV):xK (.fn f cs) K=K:=nr rfl
end
theorem anC(x:AV)(vs:List AV):aeM (λ a=>a=x) vs=(b4 vs=x):=nr rfl
theorem anX(x:AV):b4 [x]=x:=nr rfl
theorem anW(x y:AV)(l:List AV):b4 (x::y::l)= .aK (x::y::l):=nr rfl
def W00:=And.intro @axa (And.intro @w_go (And.intro @aty (And.intro @atw (And.intro @aqD (And.intro @aqB (And.intro @atv (And.intro @aqC (And.intro @atx (And.intro @ank (And.intro @aqA (And.intro @anl (And.intro @e_x (And.intro @e_c (And.intro @asu (And.intro @avZ (And.intro @ayQ (And.intro @av0 (And.intro @ayS (@ayR)))))))))))))))))))
def W01:=And.intro @avY (And.intro @ast (And.intro @ah6 (And.intro @tK (And.intro @aij (And.intro @ans (And.intro @amc (And.intro @amb (And.intro @at2 (And.intro @aq8 (And.intro @auc (And.intro @aud (And.intro @axd (And.intro @ard (And.intro @arc (And.intro @aua (And.intro @anZ (And.intro @arb (And.intro @akl (@akm)))))))))))))))))))
def W02:=And.intro @aq9 (And.intro @ara (And.intro @at5 (And.intro @at4 (And.intro @aue (And.intro @at7 (And.intro @at3 (And.intro @are (And.intro @an1 (And.intro @at6 (And.intro @aub (And.intro @auG (And.intro @auI (And.intro @amu (And.intro @awj (And.intro @av5 (And.intro @awa (And.intro @awi (And.intro @ayW (@av4)))))))))))))))))))
def W03:=And.intro @av9 (And.intro @av8 (And.intro @awf (And.intro @aqi (And.intro @awb (And.intro @awc (And.intro @awd (And.intro @awe (And.intro @av7 (And.intro @av6 (And.intro @asN (And.intro @asM (And.intro @asL (And.intro @awh (And.intro @awg (And.intro @atC (And.intro @atD (And.intro @aqE (And.intro @amw (@amx)))))))))))))))))))
def W04:=And.intro @amy (And.intro @auH (And.intro @auA (And.intro @atK (And.intro @atL (And.intro @aru (And.intro @art (And.intro @auA (And.intro @ay0 (And.intro @asT (And.intro @avP (And.intro @avO (And.intro @atT (And.intro @aeK (And.intro @acm (And.intro @aoZ (And.intro @aqb (And.intro @ayz (And.intro @avH (@avJ)))))))))))))))))))
def W05:=And.intro @ar8 (And.intro @ar7 (And.intro @alQ (And.intro @aoY (And.intro @alP (And.intro @ayy (And.intro @anC (And.intro @anX (And.intro @anW (And.intro @adT (And.intro @adS (And.intro @fZ (And.intro @aat (And.intro @bp (And.intro @yy (And.intro @adJ (And.intro @adK (And.intro @z7 (And.intro @xL (@uI)))))))))))))))))))
def W06:=And.intro @zZ (And.intro @z6 (And.intro @rh (And.intro @wx (And.intro @pE (And.intro @uk (And.intro @um (And.intro @List.map_cons.{0,0} (And.intro @List.map_nil.{0,0} (And.intro @Option.map_some.{0,0} (And.intro @Option.map_none.{0,0} (And.intro @List.getD_cons_zero.{0} (And.intro @List.getD_cons_succ.{0} (And.intro @List.length_nil.{0} (And.intro @List.length_cons.{0} (And.intro @List.length_append.{0} (And.intro @List.length_set.{0} (And.intro @List.length_map.{0,0} (And.intro @List.length_replicate.{0} (@List.nil_append.{0})))))))))))))))))))
def W07:=And.intro @List.cons_append.{0} (And.intro @List.append_nil.{0} (And.intro @List.set_cons_zero.{0} (And.intro @List.set_cons_succ.{0} (And.intro @List.replicate_succ.{0} (And.intro @List.replicate_zero.{0} (And.intro @List.mem_cons.{0} (And.intro @List.not_mem_nil.{0} (And.intro @or_false (And.intro @forall_eq.{0} (And.intro @false_implies (And.intro @implies_true.{0} (And.intro @List.all_cons.{0} (And.intro @List.all_nil.{0} (And.intro @Bool.and_true (And.intro @Bool.true_and (And.intro @Bool.or_true (And.intro @Bool.true_or (And.intro @Bool.not_true (@Bool.not_false)))))))))))))))))))
def W08:=And.intro @Bool.not_not (And.intro @decide_true (And.intro @decide_false (And.intro @Option.getD_none.{0} (And.intro @Option.getD_some.{0} (And.intro @true_and (And.intro @and_true (And.intro @Nat.zero_add (And.intro @Nat.add_zero (And.intro @Nat.lt_add_one (And.intro @Nat.zero_lt_succ (And.intro @Nat.le_refl (And.intro @if_true.{1} (And.intro @if_false.{1} (And.intro @ne_eq.{1} (And.intro @not_false_eq_true (And.intro @Int.toNat_natCast (And.intro @Int.natCast_nonneg (And.intro @eq_self.{1} (@beq_self_eq_true.{0})))))))))))))))))))
def W09:=And.intro @axe (And.intro @arf (And.intro @aqJ (And.intro @anq (And.intro @aqK (And.intro @aqL (And.intro @aqM (And.intro @aqI (And.intro @atE (And.intro @atF (And.intro @apI (And.intro @aqN (And.intro @asU (And.intro @auy (And.intro @auz (And.intro @atW (And.intro @atX (And.intro @ayx (And.intro @an0 (And.intro @anY @avK)))))))))))))))))))
attribute [irreducible] puT amR dU kT abi adU rM aeM ak7 ft unT ag4 uv apd y9 anw anx agH zR arE asq ai8
def WA:=And.intro W00 (And.intro W01 (And.intro W02 (And.intro W03 (And.intro W04 (And.intro W05 (And.intro W06 (And.intro W07 (And.intro W08 W09))))))))
end Go.Ab
namespace Go.Ab
section
variable {P:Program}
theorem abQ{d:Int}{x:Option AV}{M:Int->Prop}(h:yJ d x M):∃i,M i/\∀M':Int->Prop,M' i->yJ d x M':=by
 unfold yJ at h⊢
 split at h
 ·exact⟨_,h,λ _ h=>h⟩
 ·exact⟨_,h,λ _ h=>h⟩
 ·exact h.elim
theorem PO.ajx{r:List AV}{o:PO}{K:AV->Prop}(h:o.wp P r K):∃v,K v/\∀K':AV->Prop,K' v->o.wp P r K':=by
 cases o<;>simp only[PO.wp]at h⊢
 case val=>exact⟨_,h,λ _ h=>h⟩
 case pick c a b=>
  generalize c.ev r=A at h⊢;unfold nB at h⊢
  split at h
  ·exact⟨_,h,λ _ h=>h⟩
  ·exact h.elim
 case bin op a b=>
  generalize a.ev r=A at h⊢;generalize b.ev r=B at h⊢;unfold eN at h⊢
  split at h
  ·split at h
   ·rename_i hz;simp only[hz];exact⟨_,h,λ _ h=>h⟩
   ·exact h.elim
  ·exact h.elim
 case beq neg a b=>
  generalize a.ev r=A at h⊢;generalize b.ev r=B at h⊢;unfold aeb at h⊢
  split at h
  ·exact⟨_,h,λ _ h=>h⟩
  ·exact h.elim
 case un op a=>
  generalize a.ev r=A at h⊢;unfold unK at h⊢
  split at h
  ·split at h
   ·rename_i hz;simp only[hz];exact⟨_,h,λ _ h=>h⟩
   ·exact h.elim
  ·exact h.elim
 case conv k a=>
  generalize a.ev r=A at h⊢;unfold uV at h⊢
  split at h
  ·exact⟨_,h,λ _ h=>h⟩
  ·exact h.elim
 case elem s l i=>
  generalize l.ev r=A at h⊢;generalize i.ev r=B at h⊢;unfold lL at h⊢
  split at h
  ·exact⟨_,h.2.2.2,λ _ h'=>⟨h.1,h.2.1,h.2.2.1,h'⟩⟩
  ·exact h.elim
 case yg=>exact⟨_,h.2.2,λ _ h'=>⟨h.1,h.2.1,h'⟩⟩
 case uE=>exact⟨_,h.2,λ _ h'=>⟨h.1,h'⟩⟩
 case eB a i=>
  generalize a.ev r=A at h⊢;generalize i.ev r=B at h⊢;unfold uK at h⊢
  split at h
  ·exact⟨_,h.2.2,λ _ h'=>⟨h.1,h.2.1,h'⟩⟩
  ·exact h.elim
 case cL a lo hi=>
  generalize a.ev r=A at h⊢;unfold km at h⊢
  split at h
  ·obtain⟨l,h1,h2⟩:=abQ h;obtain⟨u,h3,h4⟩:=abQ h1;exact⟨_,h3.2.2.2,λ _ h'=>h2 _ (h4 _ ⟨h3.1,h3.2.1,h3.2.2.1,h'⟩)⟩
  ·exact h.elim
 case cw s a lo hi=>
  generalize a.ev r=A at h⊢;unfold ko at h⊢
  split at h
  ·obtain⟨l,h1,h2⟩:=abQ h;obtain⟨u,h3,h4⟩:=abQ h1;exact⟨_,h3.2.2.2.2,λ _ h'=>h2 _ (h4 _ ⟨h3.1,h3.2.1,h3.2.2.1,h3.2.2.2.1,h'⟩)⟩
  ·exact h.elim
 case dI a=>
  generalize a.ev r=A at h⊢;unfold uF at h⊢
  split at h
  ·exact⟨_,h,λ _ h=>h⟩
  ·exact h.elim
 case cz a=>
  generalize a.ev r=A at h⊢;unfold lH at h⊢
  split at h
  ·exact⟨_,h,λ _ h=>h⟩
  ·exact⟨_,h,λ _ h=>h⟩
  ·simp[tb]at h
  ·exact h.elim
 case pH=>exact⟨_,h,λ _ h=>h⟩
 case rep bytes z n c=>
  generalize n.ev r=A at h⊢;generalize c.ev r=B at h⊢;unfold acu at h⊢
  split at h
  ·exact⟨_,h.2.2.2.2,λ _ h'=>⟨h.1,h.2.1,h.2.2.1,h.2.2.2.1,h'⟩⟩
  ·exact h.elim
 case app s bytes l y=>
  generalize y.ev r=A at h⊢;unfold agc jV at h⊢
  split at h
  ·exact⟨_,h.2.2.2,λ _ h'=>⟨h.1,h.2.1,h.2.2.1,h'⟩⟩
  ·exact⟨_,h.2.2.2,λ _ h'=>⟨h.1,h.2.1,h.2.2.1,h'⟩⟩
  ·simp[tb]at h
  ·exact h.elim
 case get=>exact⟨_,h.2.2,λ _ h'=>⟨h.1,h.2.1,h'⟩⟩
 case set=>exact⟨_,h.2.2.2.2,λ _ h'=>⟨h.1,h.2.1,h.2.2.1,h.2.2.2.1,h'⟩⟩
 case call=>obtain⟨res,h1,h2,h3,h4⟩:=h;exact⟨res,h4,λ _ h'=>⟨res,h1,h2,h3,h'⟩⟩
 case fK=>obtain⟨xs,h1,h2,h3⟩:=h;exact⟨_,h3,λ _ h'=>⟨xs,h1,h2,h'⟩⟩
 case ia=>obtain⟨os,h1,h2,h3,h4⟩:=h;exact⟨_,h4,λ _ h'=>⟨os,h1,h2,h3,h'⟩⟩
 case eJ g args flat=>
  generalize g.ev r=A at h⊢;unfold oR at h⊢
  split at h
  ·obtain⟨res,h1,h2,h3,h4⟩:=h;exact⟨res,h4,λ _ h'=>⟨res,h1,h2,h3,h'⟩⟩
  ·exact h.elim
 case ldp n a=>
  generalize a.ev r=A at h⊢;unfold ah9 at h⊢
  split at h
  ·exact⟨_,h.2,λ _ h'=>⟨h.1,h'⟩⟩
  ·exact h.elim
 case fap off a=>
  generalize a.ev r=A at h⊢;unfold aiH at h⊢
  split at h
  ·exact⟨_,h,λ _ h=>h⟩
  ·exact h.elim
 case pu o ds=>
  cases hz:w8 o (D.aY r ds)with
  |some v=>simp only[puK,hz]at h⊢;exact⟨_,h,λ _ h=>h⟩
  |none=>simp only[puK,hz]at h
 case jN s bytes l y=>
  generalize y.ev r=A at h⊢;unfold yD at h⊢
  split at h
  ·exact⟨_,h.2.2.2,λ _ h'=>⟨h.1,h.2.1,h.2.2.1,h'⟩⟩
  ·exact h.elim
theorem l4.ajx{r:List AV}{c:l4}{K:Prop}(h:c.wp r K):K/\∀K':Prop,K'->c.wp r K':=by
 cases c<;>simp only[l4.wp]at h⊢
 case cells=>exact⟨h.2.2.2,λ _ h'=>⟨h.1,h.2.1,h.2.2.1,h'⟩⟩
 case one=>exact⟨h.2.2,λ _ h'=>⟨h.1,h.2.1,h'⟩⟩
 case lt=>exact⟨h.2,λ _ h'=>⟨h.1,h'⟩⟩
 case aK a j=>
  generalize a.ev r=A at h⊢;unfold ahf at h⊢
  split at h
  ·exact⟨h.2,λ _ h'=>⟨h.1,h'⟩⟩
  ·exact h.elim
 case idx l i=>
  generalize i.ev r=A at h⊢;unfold afD at h⊢
  split at h
  ·exact⟨h.2.2,λ _ h'=>⟨h.1,h.2.1,h'⟩⟩
  ·exact h.elim
 case alb a=>
  generalize a.ev r=A at h⊢;unfold xK at h⊢
  split at h
  ·exact⟨h,λ _ h'=>h'⟩
  ·exact⟨h,λ _ h'=>h'⟩
  ·exact h.elim
 case ne=>exact⟨h.2,λ _ h'=>⟨h.1,h'⟩⟩
 case eql=>exact⟨h.2,λ _ h'=>⟨h.1,h'⟩⟩
abbrev LF:AX->SS->List AV->Prop:=λ _ _ _=>False
def Out(P:Program)(R:AV->Prop)(t:T)(r:List AV)(S:List (List AV->Prop)):Prop:=
 (∃a,R a/\∀(R':AV->Prop) (S':List (List AV->Prop)),S'.length=S.length->R' a->bD P LF R' t r S')∨
 (∃(j:Nat) (vs:List AV) (J:List AV->Prop),S[j]? =some J/\J vs/\∀(R':AV->Prop) (S':List (List AV->Prop)) (J':List AV->Prop),S'.length=S.length->S'[j]? =some J'->J' vs->bD P LF R' t r S')∨
 (∀(R':AV->Prop) (S':List (List AV->Prop)),S'.length=S.length->bD P LF R' t r S')
theorem akP{R:AV->Prop}{r:List AV}{b:T}{k:Nat}{S:List (List AV->Prop)}{J:Nat->List AV->Prop}
  (hb:∀n vs,J n vs->vs.length=k->Out P R b (r++vs) ((λ l5=>∃m,m<n/\J m l5)::S)):
  ∀(n:Nat) (vs:List AV),J n vs->(vs.length=k->
   ((∃a,R a/\∀(R':AV->Prop) (S':List (List AV->Prop)),S'.length=S.length->R' a->∃(J':Nat->List AV->Prop) (n':Nat),J' n' vs/\∀n vs,J' n vs->vs.length=k->bD P LF R' b (r++vs) ((λ l5=>∃m,m<n/\J' m l5)::S'))∨
    (∃(j:Nat) (ws:List AV) (M:List AV->Prop),S[j]? =some M/\M ws/\∀(R':AV->Prop) (S':List (List AV->Prop)) (M':List AV->Prop),S'.length=S.length->S'[j]? =some M'->M' ws->∃(J':Nat->List AV->Prop) (n':Nat),J' n' vs/\∀n vs,J' n vs->vs.length=k->bD P LF R' b (r++vs) ((λ l5=>∃m,m<n/\J' m l5)::S'))∨
    (∀(R':AV->Prop) (S':List (List AV->Prop)),S'.length=S.length->∃(J':Nat->List AV->Prop) (n':Nat),J' n' vs/\∀n vs,J' n vs->vs.length=k->bD P LF R' b (r++vs) ((λ l5=>∃m,m<n/\J' m l5)::S')))):=by
 intro n
 induction n using Nat.strongRecOn with
 |_ n ih=>
  intro vs hJ hvk
  have more:∀{l5:List AV} {R':AV->Prop} {S':List (List AV->Prop)},(∃(J':Nat->List AV->Prop) (n':Nat),J' n' l5/\∀n vs,J' n vs->vs.length=k->bD P LF R' b (r++vs) ((λ l5=>∃m,m<n/\J' m l5)::S'))->
    (∀J2:List AV->Prop,J2 l5->bD P LF R' b (r++vs) (J2::S'))->
    ∃(J':Nat->List AV->Prop) (n':Nat),J' n' vs/\∀n vs,J' n vs->vs.length=k->bD P LF R' b (r++vs) ((λ l5=>∃m,m<n/\J' m l5)::S'):=by
   rintro l5 R' S' ⟨J',n',h1,h2⟩ h3;refine⟨λ m w=>(m<=n'/\J' m w)∨(m=n'+1/\w=vs),n'+1,.inr ⟨rfl,rfl⟩,λ m w hm hw=> ?_⟩;rcases hm with⟨hm1,hm2⟩|⟨rfl,rfl⟩
   ·have:=h2 m w hm2 hw
    have e:(λ l5=>∃m1,m1<m/\((m1<=n'/\J' m1 l5)∨(m1=n'+1/\l5=vs)))=λ l5=>∃m1,m1<m/\J' m1 l5:=by
     funext l5
     apply propext;constructor
     ·rintro⟨m1,h,h'|h'⟩
      ·exact⟨m1,h,h'.2⟩
      ·omega
     ·rintro⟨m1,h,h'⟩;exact⟨m1,h,.inl ⟨by omega,h'⟩⟩
    rw[e];exact this
   ·exact h3 _ ⟨n',by omega,.inl ⟨Nat.le_refl _,h1⟩⟩
  have here:∀{R':AV->Prop} {S':List (List AV->Prop)},(∀J2:List AV->Prop,bD P LF R' b (r++vs) (J2::S'))->
    ∃(J':Nat->List AV->Prop) (n':Nat),J' n' vs/\∀n vs,J' n vs->vs.length=k->bD P LF R' b (r++vs) ((λ l5=>∃m,m<n/\J' m l5)::S'):=by
   intro R' S' h;refine⟨λ m w=>m=0/\w=vs,0,⟨rfl,rfl⟩,λ m w hm hw=> ?_⟩;obtain⟨rfl,rfl⟩:=hm;exact h _
  rcases hb n vs hJ hvk with⟨a,ha,hw⟩|⟨j,ws,M,hM,hws,hw⟩|hw
  ·exact .inl ⟨a,ha,λ R' S' hl hr=>here λ J2=>hw R' (J2::S') (by simp[hl]) hr⟩
  ·cases j with
   |zero=>
    simp only[List.getElem?_cons_zero,Option.some.injEq]at hM;subst hM;obtain⟨m,hm,hJm⟩:=hws;by_cases tL:ws.length=k
    ·rcases ih m hm ws hJm tL with⟨a,ha,h1⟩|⟨j,us,M,hM,hus,h1⟩|h1
     ·exact .inl ⟨a,ha,λ R' S' hl hr=>more (h1 R' S' hl hr) λ J2 h2=>hw R' (J2::S') J2 (by simp[hl]) rfl h2⟩
     ·exact .inr (.inl ⟨j,us,M,hM,hus,λ R' S' M' hl hm hr=>more (h1 R' S' M' hl hm hr) λ J2 h2=>hw R' (J2::S') J2 (by simp[hl]) rfl h2⟩)
     ·exact .inr (.inr λ R' S' hl=>more (h1 R' S' hl) λ J2 h2=>hw R' (J2::S') J2 (by simp[hl]) rfl h2)
    ·refine .inr (.inr λ R' S' hl=>more (l5:=ws) ⟨λ m w=>m=0/\w=ws,0,⟨rfl,rfl⟩,λ m w hm hw'=> ?_⟩ λ J2 h2=>hw R' (J2::S') J2 (by simp[hl]) rfl h2);rw[hm.2]at hw';exact(tL hw').elim
   |succ j=>
    simp only[List.getElem?_cons_succ]at hM;exact .inr (.inl ⟨j,ws,M,hM,hws,λ R' S' M' hl hm hr=>here λ J2=>hw R' (J2::S') M' (by simp[hl]) (by simpa using hm) hr⟩)
  ·exact .inr (.inr λ R' S' hl=>here λ J2=>hw R' (J2::S') (by simp[hl]))
theorem kh{R:AV->Prop}:∀(t:T) (r:List AV) (S:List (List AV->Prop)),bD P LF R t r S->Out P R t r S
 | .leaf x s,r,S,h=>h.elim
 | .ret ds,r,S,h=> .inl ⟨_,h,λ R' S' _ hr=>hr⟩
 | .jump vs,r,S,h=>by
   cases S with
   |nil=>exact h.elim
   |cons J S=>
    refine .inr (.inl ⟨0,_,J,rfl,h,λ R' S' J' hl hj hv=> ?_⟩);cases S' with
    |nil=>simp at hj
    |cons J2 S'=>simp only[List.getElem?_cons_zero,Option.some.injEq]at hj;subst hj;exact hv
 | .bn t,r,S,h=>by
   cases S with
   |nil=>exact h.elim
   |cons J S=>
    have key:∀{S':List (List AV->Prop)},S'.length=(J::S).length->∃J2 S2,S'=J2::S2/\S2.length=S.length:=by
     intro S' hl;cases S' with
     |nil=>simp at hl
     |cons J2 S2=>exact⟨J2,S2,rfl,by simpa using hl⟩
    rcases kh t r S h with⟨a,ha,hw⟩|⟨j,vs,M,hM,tM,hw⟩|hw
    ·refine .inl ⟨a,ha,λ R' S' hl hr=> ?_⟩;obtain⟨J2,S2,rfl,h2⟩:=key hl;exact hw R' S2 h2 hr
    ·refine .inr (.inl ⟨j+1,vs,M,by simpa using hM,tM,λ R' S' J' hl hj hv=> ?_⟩);obtain⟨J2,S2,rfl,h2⟩:=key hl;exact hw R' S2 J' h2 (by simpa using hj) hv
    ·refine .inr (.inr λ R' S' hl=> ?_);obtain⟨J2,S2,rfl,h2⟩:=key hl;exact hw R' S2 h2
 | .op o t,r,S,h=>by
   obtain⟨v,h1,h2⟩:=PO.ajx h;rcases kh t (r++ [v]) S h1 with⟨a,ha,hw⟩|⟨j,vs,M,hM,tM,hw⟩|hw
   ·exact .inl ⟨a,ha,λ R' S' hl hr=>h2 _ (hw R' S' hl hr)⟩
   ·exact .inr (.inl ⟨j,vs,M,hM,tM,λ R' S' J' hl hj hv=>h2 _ (hw R' S' J' hl hj hv)⟩)
   ·exact .inr (.inr λ R' S' hl=>h2 _ (hw R' S' hl))
 | .aP c t,r,S,h=>by
   obtain⟨h1,h2⟩:=l4.ajx h;rcases kh t r S h1 with⟨a,ha,hw⟩|⟨j,vs,M,hM,tM,hw⟩|hw
   ·exact .inl ⟨a,ha,λ R' S' hl hr=>h2 _ (hw R' S' hl hr)⟩
   ·exact .inr (.inl ⟨j,vs,M,hM,tM,λ R' S' J' hl hj hv=>h2 _ (hw R' S' J' hl hj hv)⟩)
   ·exact .inr (.inr λ R' S' hl=>h2 _ (hw R' S' hl))
 | .ite c t f,r,S,h=>by
   simp only[bD]at h
   split at h
   ·rename_i b hb;cases b with
    |true=>
     have go:∀{R' S'},bD P LF R' t r S'->bD P LF R' (.ite c t f) r S':=λ hx=>by simp only[bD,hb];exact⟨λ _=>hx,λ h=>(nomatch h)⟩
     rcases kh t r S (h.1 rfl)with⟨a,ha,hw⟩|⟨j,vs,M,hM,tM,hw⟩|hw
     ·exact .inl ⟨a,ha,λ R' S' hl hr=>go (hw R' S' hl hr)⟩
     ·exact .inr (.inl ⟨j,vs,M,hM,tM,λ R' S' J' hl hj hv=>go (hw R' S' J' hl hj hv)⟩)
     ·exact .inr (.inr λ R' S' hl=>go (hw R' S' hl))
    |false=>
     have go:∀{R' S'},bD P LF R' f r S'->bD P LF R' (.ite c t f) r S':=λ hx=>by simp only[bD,hb];exact⟨λ h=>(nomatch h),λ _=>hx⟩
     rcases kh f r S (h.2 rfl)with⟨a,ha,hw⟩|⟨j,vs,M,hM,tM,hw⟩|hw
     ·exact .inl ⟨a,ha,λ R' S' hl hr=>go (hw R' S' hl hr)⟩
     ·exact .inr (.inl ⟨j,vs,M,hM,tM,λ R' S' J' hl hj hv=>go (hw R' S' J' hl hj hv)⟩)
     ·exact .inr (.inr λ R' S' hl=>go (hw R' S' hl))
   ·exact h.elim
 | .bind k a b,r,S,h=>by
   rcases kh a r _ h with⟨x,hx,hw⟩|⟨j,vs,M,hM,tM,hw⟩|hw
   ·exact .inl ⟨x,hx,λ R' S' hl hr=>hw R' (_::S') (by simp[hl]) hr⟩
   ·cases j with
    |zero=>
     simp only[List.getElem?_cons_zero,Option.some.injEq]at hM;subst hM;by_cases hk:vs.length=k
     ·rcases kh b (r++vs) S (tM hk)with⟨x,hx,h1⟩|⟨j,us,M,hM,hus,h1⟩|h1
      ·exact .inl ⟨x,hx,λ R' S' hl hr=>hw R' (_::S') _ (by simp[hl]) rfl λ _=>h1 R' S' hl hr⟩
      ·exact .inr (.inl ⟨j,us,M,hM,hus,λ R' S' J' hl hj hv=>hw R' (_::S') _ (by simp[hl]) rfl λ _=>h1 R' S' J' hl hj hv⟩)
      ·exact .inr (.inr λ R' S' hl=>hw R' (_::S') _ (by simp[hl]) rfl λ _=>h1 R' S' hl)
     ·exact .inr (.inr λ R' S' hl=>hw R' (_::S') _ (by simp[hl]) rfl λ h=>(hk h).elim)
    |succ j=>
     simp only[List.getElem?_cons_succ]at hM;exact .inr (.inl ⟨j,vs,M,hM,tM,λ R' S' J' hl hj hv=>hw R' (_::S') J' (by simp[hl]) (by simpa using hj) hv⟩)
   ·exact .inr (.inr λ R' S' hl=>hw R' (_::S') (by simp[hl]))
 | .loop init b,r,S,h=>by
   obtain⟨J,n,h1,h2⟩:=h;have hb:∀n vs,J n vs->vs.length=init.length->Out P R b (r++vs) ((λ l5=>∃m,m<n/\J m l5)::S):=λ n vs hj hl=>kh b _ _ (h2 n vs hj hl)
   rcases akP hb n _ h1 (by rw[D.aJ,List.length_map])with⟨a,ha,hw⟩|⟨j,vs,M,hM,tM,hw⟩|hw
   ·exact .inl ⟨a,ha,λ R' S' hl hr=>hw R' S' hl hr⟩
   ·exact .inr (.inl ⟨j,vs,M,hM,tM,λ R' S' J' hl hj hv=>hw R' S' J' hl hj hv⟩)
   ·exact .inr (.inr λ R' S' hl=>hw R' S' hl)
theorem aqz{R:AV->Prop}{t:T}{r:List AV}(cr:∃a,R a)(h:bD P LF R t r []):∃a,R a/\bD P LF (λ x=>x=a) t r []:=by
 rcases kh t r [] h with⟨a,ha,hw⟩|⟨j,vs,M,hM,tM,hw⟩|hw
 ·exact⟨a,ha,hw _ [] rfl rfl⟩
 ·simp at hM
 ·obtain⟨a,ha⟩:=cr;exact⟨a,ha,hw _ [] rfl⟩
def ex(m:Nat)(Q:List AV->Prop):AV->Prop:=λ a=>∃outs,outs.length=m/\Q outs/\a=b4 outs
theorem adw{m:Nat}{Q:List AV->Prop}{t:T}{r:List AV}(cr:∃outs,outs.length=m/\Q outs)(h:bD P LF (ex m Q) t r []):∃outs,outs.length=m/\Q outs/\bD P LF (λ a=>a=b4 outs) t r []:=by
 obtain⟨outs,h1,h2⟩:=cr;obtain⟨a,⟨os,h3,h4,rfl⟩,h5⟩:=aqz ⟨_,outs,h1,h2,rfl⟩ h;exact⟨os,h3,h4,h5⟩
end
end Go.Ab
namespace Go.Ab
variable {P:Program}
end Go.Ab
