/-
  TEXTS OF CODE: words, forms, lines (printed by wip/tool/mkasm.py).
-/
import Derived.Test.YtkinchcjijhmgaaGreatDoorCCode
import Derived.Test.YtkinchcjijhmgaaGreatDoorCSpell
open List(length_map getD_cons_zero)
open Nat(reduceEqDiff reduceLeDiff reduceAdd reduceLT reduceMul)
set_option linter.unusedVariables false
set_option linter.unusedSimpArgs false
namespace Go.Ab
set_option maxRecDepth 100000
set_option maxHeartbeats 4000000
def gN:List (ByteArray×ByteArray):=[(⟨#[43]⟩,⟨#[97,100,100]⟩),(⟨#[45]⟩,⟨#[115,117,98]⟩),(⟨#[42]⟩,⟨#[109,117,108]⟩),(⟨#[61]⟩,⟨#[101,113]⟩),(⟨#[60]⟩,⟨#[108,116]⟩),(⟨#[94]⟩,⟨#[99,97,116]⟩)]
def opN(t:ByteArray):ByteArray:=if⟨#[43]⟩=t then⟨#[97,100,100]⟩else if⟨#[45]⟩=t then⟨#[115,117,98]⟩else if⟨#[42]⟩=t then⟨#[109,117,108]⟩else if⟨#[61]⟩=t then⟨#[101,113]⟩else if⟨#[60]⟩=t then⟨#[108,116]⟩else if⟨#[94]⟩=t then⟨#[99,97,116]⟩else t
def aa3(t:ByteArray):List (ByteArray×ByteArray)->ByteArray
 | []=>t
 |p::r=>if p.1=t then p.2 else aa3 t r
def mL:List ByteArray:=[⟨#[]⟩,⟨#[105,110,116]⟩,⟨#[115,116,114]⟩,⟨#[108,97,98]⟩,⟨#[109,111,118,101]⟩,⟨#[108,111,97,100]⟩,⟨#[115,116,111,114,101]⟩,⟨#[]⟩,⟨#[110,101,119]⟩,⟨#[112,117,116]⟩,⟨#[103,101,116]⟩,⟨#[122,101,114,111]⟩,⟨#[106,117,109,112]⟩,⟨#[103,111]⟩,⟨#[101,120,105,116]⟩,⟨#[102,97,105,108]⟩]
def aa.bl(x:aa):ByteArray:=if x.Op=7 then opN x.Text else mL.getD x.Op.toNat ⟨#[]⟩
def jm(w:ByteArray):List (ByteArray×ByteArray)->Option ByteArray
 | []=>none
 |(s,_)::r=>if opN s=w then some s else jm w r
def nI(w:ByteArray):Int×ByteArray×ByteArray:=match jm w gN with
 |some s=>(7,s,⟨#[97,98,99]⟩)
 |none=>if w=⟨#[115,105,122,101]⟩then(7,w,⟨#[97,98]⟩)else if w=⟨#[114,101,97,100]⟩then(7,w,⟨#[97]⟩)else if w=⟨#[112,114,105,110,116]⟩then(7,w,⟨#[98]⟩)else if w=⟨#[110,101,119]⟩then(8,⟨#[]⟩,⟨#[97,110]⟩)else if w=⟨#[112,117,116]⟩then(9,⟨#[]⟩,⟨#[97,110,98]⟩)else if w=⟨#[103,101,116]⟩then(10,⟨#[]⟩,⟨#[97,98,110]⟩)else if w=⟨#[122,101,114,111]⟩then(11,⟨#[]⟩,⟨#[97,110]⟩)else if w=⟨#[106,117,109,112]⟩then(12,⟨#[]⟩,⟨#[110]⟩)else if w=⟨#[103,111]⟩then(13,⟨#[]⟩,⟨#[97]⟩)else if w=⟨#[101,120,105,116]⟩then(14,⟨#[]⟩,⟨#[97]⟩)else if w=⟨#[102,97,105,108]⟩then(15,⟨#[]⟩,⟨#[110]⟩)else(0,⟨#[]⟩,⟨#[32]⟩)
def fu(w:ByteArray):Int×ByteArray×ByteArray:=if w=⟨#[105,110,116]⟩then(1,⟨#[]⟩,⟨#[97,110]⟩)else if w=⟨#[115,116,114]⟩then(2,⟨#[]⟩,⟨#[97,116]⟩)else if w=⟨#[108,97,98]⟩then(3,⟨#[]⟩,⟨#[97,110]⟩)else if w=⟨#[109,111,118,101]⟩then(4,⟨#[]⟩,⟨#[97,98]⟩)else if w=⟨#[108,111,97,100]⟩then(5,⟨#[]⟩,⟨#[97,110]⟩)else if w=⟨#[115,116,111,114,101]⟩then(6,⟨#[]⟩,⟨#[97,110]⟩)else nI w
def aa.kU(x:aa)(c:Int):ByteArray:=
 if c=97 then iq++(cP 114++im x.A)else if c=98 then iq++(cP 114++im x.B)else if c=99 then iq++(cP 114++im x.C)else if c=110 then iq++im x.N else if c=116 then iq++iD x.Text else⟨#[]⟩
def aa.kx(x:aa):List Int->ByteArray->ByteArray
 | [],acc=>acc
 |c::r,acc=>aa.kx x r (acc++x.kU c)
def aa.ac1(x:aa):ByteArray:=x.kx (bs (fu x.bl).2.2) x.bl
theorem acJ(u:Nat)(h:1<=u):im (-(u:Int))=cP 45++abF u:=by
 unfold im abF Lib.itoa;rw[if_pos (by omega)];have:(-(u:Int)).natAbs=u:=by omega
 rw[this];exact fP (by rw[gX];rfl)
theorem lC(n:Int)(h0: -9223372036854775808<=n)(h1:n<=9223372036854775807):(im n).size<=21:=by
 by_cases h:0<=n
 ·have:=ahX n h h1;omega
 ·obtain⟨u,rfl⟩:∃u:Nat,n= -(u:Int):=⟨n.natAbs,by omega⟩;rw[acJ u (by omega),aL,bo];have:=sw 19 u (by omega);omega
def aa.inM(x:aa):Prop:=(-9223372036854775808<=x.A/\x.A<=9223372036854775807)/\(-9223372036854775808<=x.B/\x.B<=9223372036854775807)/\(-9223372036854775808<=x.C/\x.C<=9223372036854775807)/\(-9223372036854775808<=x.N/\x.N<=9223372036854775807)
theorem de:iq.size=1:=rfl
theorem aa.ae0(x:aa)(hi:x.inM)(c:Int):(x.kU c).size<=24+(2*x.Text.size+3):=by
 obtain⟨⟨a0,a1⟩,⟨b0,b1⟩,⟨c0,c1⟩,n0,n1⟩:=hi;have ha:=lC x.A a0 a1;have hb:=lC x.B b0 b1;have hc:=lC x.C c0 c1;have hn:=lC x.N n0 n1;have hq:=aaU x.Text;unfold aa.kU
 repeat' split
 all_goals (try simp only[aL,bo,de])
 all_goals first|omega|(show(0:Nat)<=_;omega)
theorem apL:(⟨#[32]⟩:ByteArray)=iq:=rfl
theorem akJ:(⟨#[45]⟩:ByteArray)=cP 45:=rfl
theorem akp(t:ByteArray):(opN t).size<=t.size+3:=by
 unfold opN
 repeat' split
 all_goals first|(show(3:Nat)<=_;omega)|(show(2:Nat)<=_;omega)|omega
theorem aa2:∀k:Nat,(mL.getD k ⟨#[]⟩).size<=5:=by
 intro k;rcases Nat.lt_or_ge k 16 with h|h
 ·have:∀k:Fin 16,(mL.getD k.val ⟨#[]⟩).size<=5:=by decide
  exact this ⟨k,h⟩
 ·have:mL.getD k ⟨#[]⟩=⟨#[]⟩:=by simp only[List.getD];rw[List.getElem?_eq_none (by simpa [mL]using h)];rfl
  rw[this];show 0<=5;omega
theorem aa.oX(x:aa):x.bl.size<=x.Text.size+8:=by
 unfold aa.bl
 split
 ·have:=akp x.Text;omega
 ·have:=aa2 x.Op.toNat;omega
theorem qN{w s:ByteArray}:∀l:List (ByteArray×ByteArray),jm w l=some s->opN s=w
 | [],h=>by simp[jm]at h
 |(t,_)::r,h=>by
  rw[jm]at h
  split at h
  ·cases h;assumption
  ·exact qN r h
theorem auK{p:Prop}[Decidable p]{a b:Int×ByteArray×ByteArray}(ha:a.2.2.size<=3)(hb:b.2.2.size<=3):(if p then a else b).2.2.size<=3:=by
 split
 ·exact ha
 ·exact hb
theorem afV(w:ByteArray):(nI w).2.2.size<=3:=by
 unfold nI;cases jm w gN with
 |some s=>exact Nat.le_of_ble_eq_true rfl
 |none=>
  simp only
  repeat (refine auK (Nat.le_of_ble_eq_true rfl) ?_)
  exact Nat.le_of_ble_eq_true rfl
theorem tS(w:ByteArray):(fu w).2.2.size<=3:=by
 unfold fu
 repeat (refine auK (Nat.le_of_ble_eq_true rfl) ?_)
 exact afV w
end Go.Ab
namespace Go.Proofs.Ab
open Go.Ab
set_option maxRecDepth 100000
set_option maxHeartbeats 4000000
theorem sN(n:Int)(h0: -9223372036854775808<=n)(h1:n<=9223372036854775807):aI Tryz.prog F.cV [br n] (bE (im n)):=by
 by_cases h:0<=n
 ·exact sM n h h1
 ·obtain⟨u,rfl⟩:∃u:Nat,n= -((u+1:Nat):Int):=⟨(n.natAbs- 1),by omega⟩;have e0:IntKind.i64.wrap (-((u+1:Nat):Int)+1)= -(u:Int):=gv (by omega) (by omega)|>.trans (by omega);have e1:IntKind.i64.wrap (- -(u:Int))=(u:Int):=gv (by omega) (by omega)|>.trans (by omega);have e2:IntKind.u64.wrap (u:Int)=u:=by simp[IntKind.wrap,IntKind.signed,IntKind.bits];omega
  have e3:IntKind.u64.wrap ((u:Int)+1)=((u+1:Nat):Int):=by simp[IntKind.wrap,IntKind.signed,IntKind.bits];omega
  have d0:decide (-((u+1:Nat):Int)<0)=true:=decide_eq_true (by omega);have hs:=sw 19 (u+1) (by omega);rw[acJ _ (by omega)];refine T.kQ rfl rfl ?_;simp only[T.cV,d0,e0,e1,e2,e3,WA,reduceEqDiff,reduceAdd,reduceLT,reduceLeDiff,reduceMul,reduceIte,reduceCtorEq,Int.reduceEq,Int.reduceLT,Int.reduceLE,Int.reduceNe];refine bj (jB (u+1) (by omega)) ?_;simp only[akJ,bo,WA,reduceEqDiff,reduceAdd,reduceLT,reduceLeDiff,reduceMul,reduceIte,reduceCtorEq,Int.reduceEq,Int.reduceLT,Int.reduceLE,Int.reduceNe];omega
theorem wG(t:ByteArray):aI Tryz.prog F.fW [bE t] (bE (opN t)):=by
 refine T.sS rfl rfl ?_;simp only[T.fW,WA,reduceEqDiff,reduceAdd,reduceLT,reduceLeDiff,reduceMul,reduceIte,reduceCtorEq,Int.reduceEq,Int.reduceLT,Int.reduceLE,Int.reduceNe];rw[show [AV.v (Value.string ⟨#[43]⟩),AV.v (Value.string ⟨#[45]⟩),AV.v (Value.string ⟨#[42]⟩),AV.v (Value.string ⟨#[61]⟩),AV.v (Value.string ⟨#[60]⟩),AV.v (Value.string ⟨#[94]⟩)]=gN.map (λ p=>bE p.1)from rfl,show [AV.v (Value.string ⟨#[97,100,100]⟩),AV.v (Value.string ⟨#[115,117,98]⟩),AV.v (Value.string ⟨#[109,117,108]⟩),AV.v (Value.string ⟨#[101,113]⟩),AV.v (Value.string ⟨#[108,116]⟩),AV.v (Value.string ⟨#[99,97,116]⟩)]=gN.map (λ p=>bE p.2)from rfl];refine aB ?_;simp only[WA,reduceEqDiff,reduceAdd,reduceLT,reduceLeDiff,reduceMul,reduceIte,reduceCtorEq,Int.reduceEq,Int.reduceLT,Int.reduceLE,Int.reduceNe];refine kH gN (λ i (_:Unit)=>[br i]) (λ i rest _=>opN t=aa3 t rest) () rfl rfl (λ i k rest b hi hx hm kJ hd hg=> ?_) (λ b hd hg=> ?_)
 ·have hd:decide ((i:Int)<6)=true:=hd;have hi:i<6:=hi;have hl:gN.length=6:=rfl;have g1:(gN.map (λ p=>bE p.1)).getD i .top=bE k.1:=by simp[List.getD,hx]
  have g2:(gN.map (λ p=>bE p.2)).getD i .top=bE k.2:=by simp[List.getD,hx]
  rw[aa3]at hg;simp only[hd,length_map,hl,WA,reduceEqDiff,reduceAdd,reduceLT,reduceLeDiff,reduceMul,reduceIte,reduceCtorEq,Int.reduceEq,Int.reduceLT,Int.reduceLE,Int.reduceNe];refine⟨by omega,by omega,?_⟩;simp only[g1,g2,length_map,hl,Int.toNat_natCast,bp,getD_cons_zero,WA,reduceEqDiff,reduceAdd,reduceLT,reduceLeDiff,reduceMul,reduceIte,reduceCtorEq,Int.reduceEq,Int.reduceLT,Int.reduceLE,Int.reduceNe];try refine⟨by omega,by decide,?_⟩
  refine aq (λ h=> ?_) (λ h=> ?_)
  ·rw[if_pos h]at hg;simp only[g1,g2,length_map,hl,Int.toNat_natCast,bp,getD_cons_zero,WA,reduceEqDiff,reduceAdd,reduceLT,reduceLeDiff,reduceMul,reduceIte,reduceCtorEq,Int.reduceEq,Int.reduceLT,Int.reduceLE,Int.reduceNe];rw[hg];exact⟨by omega,hi,rfl⟩
  ·rw[if_neg h]at hg;simp(disch:=omega) only[aD,WA,reduceEqDiff,reduceAdd,reduceLT,reduceLeDiff,reduceMul,reduceIte,reduceCtorEq,Int.reduceEq,Int.reduceLT,Int.reduceLE,Int.reduceNe];exact⟨hi,(),hg⟩
 ·have hd:decide (((6:Nat):Int)<6)=false:=hd;rw[aa3]at hg;have hl:gN.length=6:=rfl;simp only[hl,hd,hg,WA,reduceEqDiff,reduceAdd,reduceLT,reduceLeDiff,reduceMul,reduceIte,reduceCtorEq,Int.reduceEq,Int.reduceLT,Int.reduceLE,Int.reduceNe]
theorem al1(w:ByteArray):jm w gN=if⟨#[97,100,100]⟩=w then some ⟨#[43]⟩else if⟨#[115,117,98]⟩=w then some ⟨#[45]⟩else if⟨#[109,117,108]⟩=w then some ⟨#[42]⟩else if⟨#[101,113]⟩=w then some ⟨#[61]⟩else if⟨#[108,116]⟩=w then some ⟨#[60]⟩else if⟨#[99,97,116]⟩=w then some ⟨#[94]⟩else none:=by rfl
theorem aho(w:ByteArray):(jm w gN).isSome=(decide (w=⟨#[97,100,100]⟩)||decide (w=⟨#[115,117,98]⟩)||decide (w=⟨#[109,117,108]⟩)||decide (w=⟨#[101,113]⟩)||decide (w=⟨#[108,116]⟩)||decide (w=⟨#[99,97,116]⟩)):=by
 rw[al1];simp only[eq_comm (b:=w)];by_cases h0:w=⟨#[97,100,100]⟩
 ·simp[h0]
 by_cases h1:w=⟨#[115,117,98]⟩
 ·simp[h1]
 by_cases h2:w=⟨#[109,117,108]⟩
 ·simp[h2]
 by_cases h3:w=⟨#[101,113]⟩
 ·simp[h3]
 by_cases h4:w=⟨#[108,116]⟩
 ·simp[h4]
 by_cases h5:w=⟨#[99,97,116]⟩
 ·simp[h5]
 simp[h0,h1,h2,h3,h4,h5]
theorem wI(w:ByteArray):aI Tryz.prog F.fX [bE w] (.aK [br (fu w).1,bE (fu w).2.1,bE (fu w).2.2]):=by
 have hv:fu w=fu w:=rfl
 conv at hv=>rhs;unfold fu
 refine T.sT rfl rfl ?_;simp only[T.fX,WA,reduceEqDiff,reduceAdd,reduceLT,reduceLeDiff,reduceMul,reduceIte,reduceCtorEq,Int.reduceEq,Int.reduceLT,Int.reduceLE,Int.reduceNe];refine aB ?_;simp only[WA,reduceEqDiff,reduceAdd,reduceLT,reduceLeDiff,reduceMul,reduceIte,reduceCtorEq,Int.reduceEq,Int.reduceLT,Int.reduceLE,Int.reduceNe];refine aq (λ h=> ?_) (λ h=> ?_)
 ·rw[if_pos h]at hv;simp only[hv,WA,reduceEqDiff,reduceAdd,reduceLT,reduceLeDiff,reduceMul,reduceIte,reduceCtorEq,Int.reduceEq,Int.reduceLT,Int.reduceLE,Int.reduceNe]
 rw[if_neg h]at hv;simp only[WA,reduceEqDiff,reduceAdd,reduceLT,reduceLeDiff,reduceMul,reduceIte,reduceCtorEq,Int.reduceEq,Int.reduceLT,Int.reduceLE,Int.reduceNe];refine aq (λ h=> ?_) (λ h=> ?_)
 ·rw[if_pos h]at hv;simp only[hv,WA,reduceEqDiff,reduceAdd,reduceLT,reduceLeDiff,reduceMul,reduceIte,reduceCtorEq,Int.reduceEq,Int.reduceLT,Int.reduceLE,Int.reduceNe]
 rw[if_neg h]at hv;simp only[WA,reduceEqDiff,reduceAdd,reduceLT,reduceLeDiff,reduceMul,reduceIte,reduceCtorEq,Int.reduceEq,Int.reduceLT,Int.reduceLE,Int.reduceNe];refine aq (λ h=> ?_) (λ h=> ?_)
 ·rw[if_pos h]at hv;simp only[hv,WA,reduceEqDiff,reduceAdd,reduceLT,reduceLeDiff,reduceMul,reduceIte,reduceCtorEq,Int.reduceEq,Int.reduceLT,Int.reduceLE,Int.reduceNe]
 rw[if_neg h]at hv;simp only[WA,reduceEqDiff,reduceAdd,reduceLT,reduceLeDiff,reduceMul,reduceIte,reduceCtorEq,Int.reduceEq,Int.reduceLT,Int.reduceLE,Int.reduceNe];refine aq (λ h=> ?_) (λ h=> ?_)
 ·rw[if_pos h]at hv;simp only[hv,WA,reduceEqDiff,reduceAdd,reduceLT,reduceLeDiff,reduceMul,reduceIte,reduceCtorEq,Int.reduceEq,Int.reduceLT,Int.reduceLE,Int.reduceNe]
 rw[if_neg h]at hv;simp only[WA,reduceEqDiff,reduceAdd,reduceLT,reduceLeDiff,reduceMul,reduceIte,reduceCtorEq,Int.reduceEq,Int.reduceLT,Int.reduceLE,Int.reduceNe];refine aq (λ h=> ?_) (λ h=> ?_)
 ·rw[if_pos h]at hv;simp only[hv,WA,reduceEqDiff,reduceAdd,reduceLT,reduceLeDiff,reduceMul,reduceIte,reduceCtorEq,Int.reduceEq,Int.reduceLT,Int.reduceLE,Int.reduceNe]
 rw[if_neg h]at hv;simp only[WA,reduceEqDiff,reduceAdd,reduceLT,reduceLeDiff,reduceMul,reduceIte,reduceCtorEq,Int.reduceEq,Int.reduceLT,Int.reduceLE,Int.reduceNe];refine aq (λ h=> ?_) (λ h=> ?_)
 ·rw[if_pos h]at hv;simp only[hv,WA,reduceEqDiff,reduceAdd,reduceLT,reduceLeDiff,reduceMul,reduceIte,reduceCtorEq,Int.reduceEq,Int.reduceLT,Int.reduceLE,Int.reduceNe]
 rw[if_neg h]at hv;simp only[WA,reduceEqDiff,reduceAdd,reduceLT,reduceLeDiff,reduceMul,reduceIte,reduceCtorEq,Int.reduceEq,Int.reduceLT,Int.reduceLE,Int.reduceNe];have nD:nI w=nI w:=rfl
 conv at nD=>rhs;unfold nI
 refine bw [.v (.bool (jm w gN).isSome)] rfl ?_ ?_
 ·rw[aho];simp only[WA,reduceEqDiff,reduceAdd,reduceLT,reduceLeDiff,reduceMul,reduceIte,reduceCtorEq,Int.reduceEq,Int.reduceLT,Int.reduceLE,Int.reduceNe];refine aq (λ h=> ?_) (λ h=> ?_)
  ·simp[h,WA,reduceEqDiff,reduceAdd,reduceLT,reduceLeDiff,reduceMul,reduceIte,reduceCtorEq,Int.reduceEq,Int.reduceLT,Int.reduceLE,Int.reduceNe]
  have h0:=decide_eq_false h;simp only[WA,reduceEqDiff,reduceAdd,reduceLT,reduceLeDiff,reduceMul,reduceIte,reduceCtorEq,Int.reduceEq,Int.reduceLT,Int.reduceLE,Int.reduceNe];refine aq (λ h=> ?_) (λ h=> ?_)
  ·simp[h,WA,reduceEqDiff,reduceAdd,reduceLT,reduceLeDiff,reduceMul,reduceIte,reduceCtorEq,Int.reduceEq,Int.reduceLT,Int.reduceLE,Int.reduceNe]
  have h1:=decide_eq_false h;simp only[WA,reduceEqDiff,reduceAdd,reduceLT,reduceLeDiff,reduceMul,reduceIte,reduceCtorEq,Int.reduceEq,Int.reduceLT,Int.reduceLE,Int.reduceNe];refine aq (λ h=> ?_) (λ h=> ?_)
  ·simp[h,WA,reduceEqDiff,reduceAdd,reduceLT,reduceLeDiff,reduceMul,reduceIte,reduceCtorEq,Int.reduceEq,Int.reduceLT,Int.reduceLE,Int.reduceNe]
  have h2:=decide_eq_false h;simp only[WA,reduceEqDiff,reduceAdd,reduceLT,reduceLeDiff,reduceMul,reduceIte,reduceCtorEq,Int.reduceEq,Int.reduceLT,Int.reduceLE,Int.reduceNe];refine aq (λ h=> ?_) (λ h=> ?_)
  ·simp[h,WA,reduceEqDiff,reduceAdd,reduceLT,reduceLeDiff,reduceMul,reduceIte,reduceCtorEq,Int.reduceEq,Int.reduceLT,Int.reduceLE,Int.reduceNe]
  have h3:=decide_eq_false h;simp only[WA,reduceEqDiff,reduceAdd,reduceLT,reduceLeDiff,reduceMul,reduceIte,reduceCtorEq,Int.reduceEq,Int.reduceLT,Int.reduceLE,Int.reduceNe];refine aq (λ h=> ?_) (λ h=> ?_)
  ·simp[h,WA,reduceEqDiff,reduceAdd,reduceLT,reduceLeDiff,reduceMul,reduceIte,reduceCtorEq,Int.reduceEq,Int.reduceLT,Int.reduceLE,Int.reduceNe]
  have h4:=decide_eq_false h;simp only[WA,reduceEqDiff,reduceAdd,reduceLT,reduceLeDiff,reduceMul,reduceIte,reduceCtorEq,Int.reduceEq,Int.reduceLT,Int.reduceLE,Int.reduceNe];simp only[h0,h1,h2,h3,h4,Bool.false_or]
 ·cases hs:jm w gN with
  |some q=>
   rw[hs]at nD;simp only[Option.isSome_some,hv,nD,WA,reduceEqDiff,reduceAdd,reduceLT,reduceLeDiff,reduceMul,reduceIte,reduceCtorEq,Int.reduceEq,Int.reduceLT,Int.reduceLE,Int.reduceNe];rw[show [AV.v (Value.string ⟨#[43]⟩),AV.v (Value.string ⟨#[45]⟩),AV.v (Value.string ⟨#[42]⟩),AV.v (Value.string ⟨#[61]⟩),AV.v (Value.string ⟨#[60]⟩),AV.v (Value.string ⟨#[94]⟩)]=gN.map (λ p=>bE p.1)from rfl];refine kH gN (λ i (_:Unit)=>[br i]) (λ i rest _=>jm w rest=some q) () rfl hs (λ i k rest b hi hx hm kJ hd hg=> ?_) (λ b hd hg=> ?_)
   ·have hd:decide ((i:Int)<6)=true:=hd;have hi:i<6:=hi;have hl:gN.length=6:=rfl;have g1:(gN.map (λ p=>bE p.1)).getD i .top=bE k.1:=by simp[List.getD,hx]
    rw[jm]at hg;simp only[hd,length_map,hl,WA,reduceEqDiff,reduceAdd,reduceLT,reduceLeDiff,reduceMul,reduceIte,reduceCtorEq,Int.reduceEq,Int.reduceLT,Int.reduceLE,Int.reduceNe];refine⟨by omega,by omega,?_⟩;simp only[g1,length_map,hl,Int.toNat_natCast,bp,getD_cons_zero,WA,reduceEqDiff,reduceAdd,reduceLT,reduceLeDiff,reduceMul,reduceIte,reduceCtorEq,Int.reduceEq,Int.reduceLT,Int.reduceLE,Int.reduceNe];try refine⟨by omega,by decide,?_⟩
    refine bj (wG k.1) ?_;simp only[WA,reduceEqDiff,reduceAdd,reduceLT,reduceLeDiff,reduceMul,reduceIte,reduceCtorEq,Int.reduceEq,Int.reduceLT,Int.reduceLE,Int.reduceNe];refine aq (λ h=> ?_) (λ h=> ?_)
    ·rw[if_pos h]at hg;cases hg;simp only[g1,length_map,hl,Int.toNat_natCast,bp,getD_cons_zero,WA,reduceEqDiff,reduceAdd,reduceLT,reduceLeDiff,reduceMul,reduceIte,reduceCtorEq,Int.reduceEq,Int.reduceLT,Int.reduceLE,Int.reduceNe];exact⟨by omega,hi⟩
    ·rw[if_neg h]at hg;simp(disch:=omega) only[aD,WA,reduceEqDiff,reduceAdd,reduceLT,reduceLeDiff,reduceMul,reduceIte,reduceCtorEq,Int.reduceEq,Int.reduceLT,Int.reduceLE,Int.reduceNe]
     first|exact⟨hi,(),hg⟩|exact hi
   ·rw[jm]at hg;cases hg
  |none=>
   rw[hs]at nD;simp only[Option.isSome_none,hv,WA,reduceEqDiff,reduceAdd,reduceLT,reduceLeDiff,reduceMul,reduceIte,reduceCtorEq,Int.reduceEq,Int.reduceLT,Int.reduceLE,Int.reduceNe];refine aq (λ h=> ?_) (λ h=> ?_)
   ·rw[if_pos h]at nD;simp only[nD,WA,reduceEqDiff,reduceAdd,reduceLT,reduceLeDiff,reduceMul,reduceIte,reduceCtorEq,Int.reduceEq,Int.reduceLT,Int.reduceLE,Int.reduceNe]
   rw[if_neg h]at nD;simp only[WA,reduceEqDiff,reduceAdd,reduceLT,reduceLeDiff,reduceMul,reduceIte,reduceCtorEq,Int.reduceEq,Int.reduceLT,Int.reduceLE,Int.reduceNe];refine aq (λ h=> ?_) (λ h=> ?_)
   ·rw[if_pos h]at nD;simp only[nD,WA,reduceEqDiff,reduceAdd,reduceLT,reduceLeDiff,reduceMul,reduceIte,reduceCtorEq,Int.reduceEq,Int.reduceLT,Int.reduceLE,Int.reduceNe]
   rw[if_neg h]at nD;simp only[WA,reduceEqDiff,reduceAdd,reduceLT,reduceLeDiff,reduceMul,reduceIte,reduceCtorEq,Int.reduceEq,Int.reduceLT,Int.reduceLE,Int.reduceNe];refine aq (λ h=> ?_) (λ h=> ?_)
   ·rw[if_pos h]at nD;simp only[nD,WA,reduceEqDiff,reduceAdd,reduceLT,reduceLeDiff,reduceMul,reduceIte,reduceCtorEq,Int.reduceEq,Int.reduceLT,Int.reduceLE,Int.reduceNe]
   rw[if_neg h]at nD;simp only[WA,reduceEqDiff,reduceAdd,reduceLT,reduceLeDiff,reduceMul,reduceIte,reduceCtorEq,Int.reduceEq,Int.reduceLT,Int.reduceLE,Int.reduceNe];refine aq (λ h=> ?_) (λ h=> ?_)
   ·rw[if_pos h]at nD;simp only[nD,WA,reduceEqDiff,reduceAdd,reduceLT,reduceLeDiff,reduceMul,reduceIte,reduceCtorEq,Int.reduceEq,Int.reduceLT,Int.reduceLE,Int.reduceNe]
   rw[if_neg h]at nD;simp only[WA,reduceEqDiff,reduceAdd,reduceLT,reduceLeDiff,reduceMul,reduceIte,reduceCtorEq,Int.reduceEq,Int.reduceLT,Int.reduceLE,Int.reduceNe];refine aq (λ h=> ?_) (λ h=> ?_)
   ·rw[if_pos h]at nD;simp only[nD,WA,reduceEqDiff,reduceAdd,reduceLT,reduceLeDiff,reduceMul,reduceIte,reduceCtorEq,Int.reduceEq,Int.reduceLT,Int.reduceLE,Int.reduceNe]
   rw[if_neg h]at nD;simp only[WA,reduceEqDiff,reduceAdd,reduceLT,reduceLeDiff,reduceMul,reduceIte,reduceCtorEq,Int.reduceEq,Int.reduceLT,Int.reduceLE,Int.reduceNe];refine aq (λ h=> ?_) (λ h=> ?_)
   ·rw[if_pos h]at nD;simp only[nD,WA,reduceEqDiff,reduceAdd,reduceLT,reduceLeDiff,reduceMul,reduceIte,reduceCtorEq,Int.reduceEq,Int.reduceLT,Int.reduceLE,Int.reduceNe]
   rw[if_neg h]at nD;simp only[WA,reduceEqDiff,reduceAdd,reduceLT,reduceLeDiff,reduceMul,reduceIte,reduceCtorEq,Int.reduceEq,Int.reduceLT,Int.reduceLE,Int.reduceNe];refine aq (λ h=> ?_) (λ h=> ?_)
   ·rw[if_pos h]at nD;simp only[nD,WA,reduceEqDiff,reduceAdd,reduceLT,reduceLeDiff,reduceMul,reduceIte,reduceCtorEq,Int.reduceEq,Int.reduceLT,Int.reduceLE,Int.reduceNe]
   rw[if_neg h]at nD;simp only[WA,reduceEqDiff,reduceAdd,reduceLT,reduceLeDiff,reduceMul,reduceIte,reduceCtorEq,Int.reduceEq,Int.reduceLT,Int.reduceLE,Int.reduceNe];refine aq (λ h=> ?_) (λ h=> ?_)
   ·rw[if_pos h]at nD;simp only[nD,WA,reduceEqDiff,reduceAdd,reduceLT,reduceLeDiff,reduceMul,reduceIte,reduceCtorEq,Int.reduceEq,Int.reduceLT,Int.reduceLE,Int.reduceNe]
   rw[if_neg h]at nD;simp only[WA,reduceEqDiff,reduceAdd,reduceLT,reduceLeDiff,reduceMul,reduceIte,reduceCtorEq,Int.reduceEq,Int.reduceLT,Int.reduceLE,Int.reduceNe];refine aq (λ h=> ?_) (λ h=> ?_)
   ·rw[if_pos h]at nD;simp only[nD,WA,reduceEqDiff,reduceAdd,reduceLT,reduceLeDiff,reduceMul,reduceIte,reduceCtorEq,Int.reduceEq,Int.reduceLT,Int.reduceLE,Int.reduceNe]
   rw[if_neg h]at nD;simp only[WA,reduceEqDiff,reduceAdd,reduceLT,reduceLeDiff,reduceMul,reduceIte,reduceCtorEq,Int.reduceEq,Int.reduceLT,Int.reduceLE,Int.reduceNe];refine aq (λ h=> ?_) (λ h=> ?_)
   ·rw[if_pos h]at nD;simp only[nD,WA,reduceEqDiff,reduceAdd,reduceLT,reduceLeDiff,reduceMul,reduceIte,reduceCtorEq,Int.reduceEq,Int.reduceLT,Int.reduceLE,Int.reduceNe]
   rw[if_neg h]at nD;simp only[WA,reduceEqDiff,reduceAdd,reduceLT,reduceLeDiff,reduceMul,reduceIte,reduceCtorEq,Int.reduceEq,Int.reduceLT,Int.reduceLE,Int.reduceNe];refine aq (λ h=> ?_) (λ h=> ?_)
   ·rw[if_pos h]at nD;simp only[nD,WA,reduceEqDiff,reduceAdd,reduceLT,reduceLeDiff,reduceMul,reduceIte,reduceCtorEq,Int.reduceEq,Int.reduceLT,Int.reduceLE,Int.reduceNe]
   rw[if_neg h]at nD;simp only[WA,reduceEqDiff,reduceAdd,reduceLT,reduceLeDiff,reduceMul,reduceIte,reduceCtorEq,Int.reduceEq,Int.reduceLT,Int.reduceLE,Int.reduceNe];simp only[nD]
end Go.Proofs.Ab
