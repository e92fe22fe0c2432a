/-
  THE CURSOR OVER A DRAW's BYTES.
-/
import Derived.Test.YtfebhekplhjigaaST
import Derived.Test.YtfebhekplhjigaaGM
open Option(getD_some)
open List(getElem_mem length_map)
set_option linter.unusedSimpArgs false
set_option linter.unusedVariables false
namespace Go.Ab
set_option maxRecDepth 100000
set_option maxHeartbeats 4000000
def abq(a b:Int):Int:=IntKind.i64.wrap ((BitVec.ofInt IntKind.i64.bits a&&&BitVec.ofInt IntKind.i64.bits b).toNat:Int)
def ats(a b:Int):Int:=IntKind.i64.wrap ((BitVec.ofInt IntKind.i64.bits a^^^BitVec.ofInt IntKind.i64.bits b).toNat:Int)
theorem agD(a:Int):0<=abq a 255/\abq a 255<=255:=by
 unfold abq;have e3:IntKind.i64.bits=64:=rfl;rw[e3]
 have h:(BitVec.ofInt 64 a&&&BitVec.ofInt 64 255).toNat<=255:=by
  rw[BitVec.toNat_and];exact Nat.le_trans Nat.and_le_right (by decide)
 rw[bh (by omega) (by omega)];omega
structure cB where
 l:List Int
 i:Nat
 h:Int
structure cB.ok(c:cB):Prop where
 le:c.i<=c.l.length
 len:c.l.length<=1048576
 by_:∀x∈c.l,0<=x/\x<256
def cB.eS(c:cB):List AV:=[.sl (j8 c.l),au c.i,au c.h]
theorem cB.ag(c:cB):AV.ae c.eS=true:=by simp[cB.eS,AV.ae,AV.ag,bj]
def aby(h:Int):Int:=IntKind.i64.wrap (IntKind.i64.wrap (h*6364136223846793005)+1442695040888963407)
def aiW(h:Int):Int:=abq (ats ((aby h).fdiv (2^min (Int.toNat 33) IntKind.i64.bits)) ((aby h).fdiv (2^min (Int.toNat 47) IntKind.i64.bits))) 255
def cB.byte(c:cB):Int×cB:=match c.l[c.i]? with
 |some b=>(abq (IntKind.i64.wrap (aiW c.h+b)) 255,⟨c.l,c.i+1,aby c.h⟩)
 |none=>(aiW c.h,⟨c.l,c.i,aby c.h⟩)
theorem cB.rl{c:cB}(h:c.ok):c.byte.2.ok/\0<=c.byte.1/\c.byte.1<=255:=by
 unfold cB.byte
 split
 ·rename_i b hb;have:=(List.getElem?_eq_some_iff.1 hb).1;exact⟨⟨by simp only;omega,h.len,h.by_⟩,agD _⟩
 ·exact⟨⟨h.le,h.len,h.by_⟩,agD _⟩
def cB.below(c:cB)(n:Int):Int×cB:=
 if n<=0 then(0,c)
 else if n<=256 then(c.byte.1.tmod n,c.byte.2)
 else(((c.byte.1*65536+c.byte.2.byte.1*256)+c.byte.2.byte.2.byte.1).tmod n,c.byte.2.byte.2.byte.2)
theorem xX{a n:Int}(ha:0<=a)(hn:0<n):0<=a.tmod n/\a.tmod n<n:=⟨Int.tmod_nonneg n ha,Int.tmod_lt_of_pos a hn⟩
theorem cB.qK{c:cB}(h:c.ok)(n:Int):(c.below n).2.ok/\0<=(c.below n).1/\(0<n->(c.below n).1<n):=by
 obtain⟨a1,a2,a3⟩:=cB.rl h;obtain⟨b1,b2,b3⟩:=cB.rl a1;obtain⟨c1,c2,c3⟩:=cB.rl b1;unfold cB.below
 split
 ·exact⟨h,Int.le_refl _,λ h=>by omega⟩
 ·split
  ·obtain⟨q1,q2⟩:=xX (a:=c.byte.1) (n:=n) a2 (by omega);exact⟨a1,q1,λ _=>q2⟩
  ·have ha:0<=(c.byte.1*65536+c.byte.2.byte.1*256)+c.byte.2.byte.2.byte.1:=by omega
   obtain⟨q1,q2⟩:=xX (n:=n) ha (by omega);exact⟨c1,q1,λ _=>q2⟩
def cB.pick(c:cB)(l:List Int):Int×cB:=(l.getD (c.below l.length).1.toNat 0,(c.below l.length).2)
theorem cB.ada{c:cB}(h:c.ok){l:List Int}(hl:l≠[]):(c.pick l).2.ok/\(c.pick l).1∈l:=by
 have hp:=List.length_pos_iff.2 hl;obtain⟨h1,h2,h3⟩:=cB.qK h l.length;have h3:=h3 (by omega);refine⟨h1,?_⟩;have aF:(c.below l.length).1.toNat<l.length:=by omega
 simp only[cB.pick,List.getD,List.getElem?_eq_getElem aF,getD_some];exact getElem_mem aF
end Go.Ab
namespace Go.Proofs.Ab
open Go.Ab
set_option maxRecDepth 100000
set_option maxHeartbeats 4000000
theorem kQ{c:cB}(hc:c.ok):gQ Try.prog F.bM G.bM c.eS (au c.byte.1::c.byte.2.eS):=by
 have hle:=hc.le;have hlen:=hc.len;have hby:=hc.by_;refine T.uH rfl rfl c.ag ?_;obtain⟨l,i,h⟩:=c;simp only at hle hlen hby;simp only[cB.eS,T.bM,WA,Int.reduceLE];refine aB ?_;simp only[length_map,WA];refine aG (λ aF=> ?_) (λ aF=> ?_)
 ·have aF:i<l.length:=by omega
  have hb:=hby _ (getElem_mem aF);simp only[WA];refine lR by1 aF rfl ?_;have hg:l[i]? =some l[i]:=List.getElem?_eq_getElem aF;have w8:IntKind.i64.wrap l[i]=l[i]:=bh (by omega) (by omega);simp(disch:=omega) only[w8,aH,WA];simp only[cB.byte,hg,abq,aiW,ats,aby]
 ·have hg:l[i]? =none:=List.getElem?_eq_none (by omega);simp only[WA];simp only[cB.byte,hg,abq,aiW,ats,aby]
theorem jR{c:cB}(hc:c.ok)(n:Int):gQ Try.prog F.aj G.aj (c.eS++ [au n]) (au (c.below n).1::(c.below n).2.eS):=by
 have cA:=c.ag;obtain⟨a1,a2,a3⟩:=cB.rl hc;obtain⟨b1,b2,b3⟩:=cB.rl a1;obtain⟨c1,c2,c3⟩:=cB.rl b1;refine T.ti rfl rfl (by simp[cB.eS,AV.ae,AV.ag,bj]) ?_;simp only[T.aj,cB.eS,WA];refine aG (λ h0=> ?_) (λ h0=> ?_)
 ·simp only[WA];simp only[cB.below,if_pos h0]
 ·simp only[WA];refine aG (λ h1=> ?_) (λ h1=> ?_)
  ·simp only[WA];refine dU (kQ hc) rfl (by simp[cB.eS,AV.ae,AV.ag,bj]) ?_;simp only[cB.eS,WA];refine⟨by omega,?_⟩;simp only[cB.below,if_neg h0,if_pos h1]
  ·simp only[WA];refine dU (kQ hc) rfl (by simp[cB.eS,AV.ae,AV.ag,bj]) ?_;simp only[cB.eS,WA];refine dU (kQ a1) rfl (by simp[cB.eS,AV.ae,AV.ag,bj]) ?_;simp only[cB.eS,WA];refine dU (kQ b1) rfl (by simp[cB.eS,AV.ae,AV.ag,bj]) ?_;have w1:IntKind.i64.wrap (c.byte.1*65536)=c.byte.1*65536:=bh (by omega) (by omega);have w2:IntKind.i64.wrap (c.byte.2.byte.1*256)=c.byte.2.byte.1*256:=bh (by omega) (by omega);have w3:IntKind.i64.wrap (c.byte.1*65536+c.byte.2.byte.1*256)=c.byte.1*65536+c.byte.2.byte.1*256:=bh (by omega) (by omega);have w4:IntKind.i64.wrap (c.byte.1*65536+c.byte.2.byte.1*256+c.byte.2.byte.2.byte.1)=c.byte.1*65536+c.byte.2.byte.1*256+c.byte.2.byte.2.byte.1:=bh (by omega) (by omega);simp only[cB.eS,w1,w2,w3,w4,WA];refine⟨by omega,?_⟩;simp only[cB.below,if_neg h0,if_neg h1]
theorem aaR{c:cB}(hc:c.ok)(n:Int):gQ Try.prog F.bL G.bL (c.eS++ [au n]) (.v (.bool (decide ((c.below n).1=0)))::(c.below n).2.eS):=by
 refine T.uF rfl rfl (by simp[cB.eS,AV.ae,AV.ag,bj]) ?_;simp only[T.bL,cB.eS,WA];refine dU (jR hc n) rfl (by simp[cB.eS,AV.ae,AV.ag,bj]) ?_;simp only[cB.eS,WA]
theorem acW{c:cB}(hc:c.ok)(l:List Int)(hl:l≠[])(hlen:l.length<=1048576):gQ Try.prog F.b8 G.b8 (c.eS++ [.sl (l.map au)]) (au (c.pick l).1::(c.pick l).2.eS):=by
 have hp:=List.length_pos_iff.2 hl;obtain⟨h1,h2,h3⟩:=cB.qK hc l.length;have h3:=h3 (by omega);refine T.wG rfl rfl (by simp[cB.eS,AV.ae,AV.ag,bj,bA (f:=au) (l:=l) λ _=>rfl]) ?_;simp only[T.b8,cB.eS,length_map,WA];refine dU (jR hc l.length) rfl (by simp[cB.eS,AV.ae,AV.ag,bj]) ?_;simp only[cB.eS,WA];have aF:(c.below l.length).1.toNat<l.length:=by omega
 have he:(c.below l.length).1=(((c.below l.length).1.toNat:Nat):Int):=by omega
 rw[he];refine lR au aF rfl ?_;simp only[WA];simp only[cB.pick,List.getD,List.getElem?_eq_getElem aF,getD_some]
theorem acQ(l:List Int)(hl:l.length<=1048576)(hb:∀x∈l,0<=x/\x<256):∃c:cB,c.ok/\c.l=l/\gQ Try.prog F.da G.da [.sl (j8 l)] c.eS:=by
 let H:Nat->Int:=λ n=>Nat.rec (80080+l.length:Int) (λ k h=>abq (IntKind.i64.wrap (IntKind.i64.wrap (IntKind.i64.wrap (h*137)+(l.getD k 0))+11)) 1073741823) n
 refine⟨⟨l,0,H (min l.length 4000)⟩,⟨Nat.zero_le _,hl,hb⟩,rfl,?_⟩;have w0:IntKind.i64.wrap (80080+(l.length:Int))=80080+l.length:=bh (by omega) (by omega);refine T.wE rfl rfl (by simp[AV.ae,AV.ag,bj]) ?_;simp only[T.da,cB.eS,length_map,w0,WA];refine cu [au (H (min l.length 4000))] rfl ?_ ?_
 ·simp only[WA];refine adl (min l.length 4000) (λ i=>[au (H i),au i]) rfl λ i hi=> ?_
  simp only[WA];refine aB ?_;simp only[WA];refine aB ?_;simp only[length_map,WA];refine aG (λ h1=> ?_) (λ h1=> ?_)
  ·have aF:i<l.length:=by omega
   simp only[WA];refine aG (λ h2=> ?_) (λ h2=> ?_)
   ·simp only[WA];refine lR by1 aF rfl ?_;have vo:=hb _ (getElem_mem aF);have w8:IntKind.i64.wrap l[i]=l[i]:=bh (by omega) (by omega)
    have hH:H (i+1)=abq (IntKind.i64.wrap (IntKind.i64.wrap (IntKind.i64.wrap (H i*137)+l[i])+11)) 1073741823:=by
     show abq (IntKind.i64.wrap (IntKind.i64.wrap (IntKind.i64.wrap (H i*137)+(l.getD i 0))+11)) 1073741823=_;simp[List.getD,aF]
    simp(disch:=omega) only[w8,aH,WA];exact⟨by omega,by rw[hH];rfl⟩
   ·simp only[WA];rw[show i=min l.length 4000 by omega]
  ·simp only[WA];rw[show i=min l.length 4000 by omega]
 ·simp only[WA,Nat.reduceAdd]
  rfl
end Go.Proofs.Ab
