/-
  THE CURSOR OVER A DRAW's BYTES.
-/
import Derived.Test.YtdbbmffachgajaaGreatST
import Derived.Test.YtdbbmffachgajaaGreatGM
set_option maxHeartbeats 4000000
set_option maxRecDepth 100000
open List(length_map)
set_option linter.unusedVariables false
set_option linter.unusedSimpArgs false
namespace Go.Ab
def ahJ(a b:Int):Int:=IntKind.i64.wrap ((BitVec.ofInt IntKind.i64.bits a&&&BitVec.ofInt IntKind.i64.bits b).toNat:Int)
def aF1(a b:Int):Int:=IntKind.i64.wrap ((BitVec.ofInt IntKind.i64.bits a^^^BitVec.ofInt IntKind.i64.bits b).toNat:Int)
theorem aoy(a:Int):0<=ahJ a 255/\ahJ a 255<=255:=by
 unfold ahJ;have e3:IntKind.i64.bits=64:=rfl;rw[e3]
 have h:(BitVec.ofInt 64 a&&&BitVec.ofInt 64 255).toNat<=255:=by
  rw[BitVec.toNat_and];exact Nat.le_trans Nat.and_le_right (by decide)
 rw[cE (by omega) (by omega)];omega
structure et where
 l:List Int
 i:Nat
 h:Int
structure et.ok(c:et):Prop where
 le:c.i<=c.l.length
 len:c.l.length<=1048576
 by_:∀x∈c.l,0<=x/\x<256
def et.gL(c:et):List AV:=[.sl (rk c.l),aD c.i,aD c.h]
theorem et.ag(c:et):AV.ae c.gL=true:=by simp[et.gL,AV.ae,AV.ag,cH]
def ais(h:Int):Int:=IntKind.i64.wrap (IntKind.i64.wrap (h*6364136223846793005)+1442695040888963407)
def arS(h:Int):Int:=ahJ (aF1 ((ais h).fdiv (2^min (Int.toNat 33) IntKind.i64.bits)) ((ais h).fdiv (2^min (Int.toNat 47) IntKind.i64.bits))) 255
def et.byte(c:et):Int×et:=match c.l[c.i]? with
 |some b=>(ahJ (IntKind.i64.wrap (arS c.h+b)) 255,⟨c.l,c.i+1,ais c.h⟩)
 |none=>(arS c.h,⟨c.l,c.i,ais c.h⟩)
theorem et.vS{c:et}(h:c.ok):c.byte.2.ok/\0<=c.byte.1/\c.byte.1<=255:=by
 unfold et.byte
 split
 ·rename_i b hb;have:=(List.getElem?_eq_some_iff.1 hb).1;exact⟨⟨by simp only;omega,h.len,h.by_⟩,aoy _⟩
 ·exact⟨⟨h.le,h.len,h.by_⟩,aoy _⟩
def et.below(c:et)(n:Int):Int×et:=
 if n<=0 then(0,c)
 else if n<=256 then(c.byte.1.tmod n,c.byte.2)
 else(((c.byte.1*65536+c.byte.2.byte.1*256)+c.byte.2.byte.2.byte.1).tmod n,c.byte.2.byte.2.byte.2)
theorem adY{a n:Int}(ha:0<=a)(hn:0<n):0<=a.tmod n/\a.tmod n<n:=⟨Int.tmod_nonneg n ha,Int.tmod_lt_of_pos a hn⟩
theorem et.vp{c:et}(h:c.ok)(n:Int):(c.below n).2.ok/\0<=(c.below n).1/\(0<n->(c.below n).1<n):=by
 obtain⟨a1,a2,a3⟩:=et.vS h;obtain⟨b1,b2,b3⟩:=et.vS a1;obtain⟨c1,c2,c3⟩:=et.vS b1;unfold et.below
 split
 ·exact⟨h,Int.le_refl _,λ h=>by omega⟩
 ·split
  ·obtain⟨q1,q2⟩:=adY (a:=c.byte.1) (n:=n) a2 (by omega);exact⟨a1,q1,λ _=>q2⟩
  ·have ha:0<=(c.byte.1*65536+c.byte.2.byte.1*256)+c.byte.2.byte.2.byte.1:=by omega
   obtain⟨q1,q2⟩:=adY (n:=n) ha (by omega);exact⟨c1,q1,λ _=>q2⟩
end Go.Ab
namespace Go.Proofs.Ab
open Go.Ab
theorem nK{c:et}(hc:c.ok):jY Tryz.prog F.cZ G.cZ c.gL (aD c.byte.1::c.byte.2.gL):=by
 have hle:=hc.le;have hlen:=hc.len;have hby:=hc.by_;refine T.aaj rfl rfl c.ag ?_;obtain⟨l,i,h⟩:=c;simp only at hle hlen hby;simp only[et.gL,T.cZ,WA,Int.reduceLE];refine aw ?_;simp only[length_map,WA];refine aC (λ aK=> ?_) (λ aK=> ?_)
 ·have aK:i<l.length:=by omega
  have hb:=hby _ (List.getElem_mem aK);simp only[WA];refine fS by1 aK rfl ?_;have hg:l[i]? =some l[i]:=List.getElem?_eq_getElem aK;have w8:IntKind.i64.wrap l[i]=l[i]:=cE (by omega) (by omega);simp(disch:=omega) only[w8,aI,WA];simp only[et.byte,hg,ahJ,arS,aF1,ais]
 ·have hg:l[i]? =none:=List.getElem?_eq_none (by omega);simp only[WA];simp only[et.byte,hg,ahJ,arS,aF1,ais]
theorem mI{c:et}(hc:c.ok)(n:Int):jY Tryz.prog F.aH G.aH (c.gL++ [aD n]) (aD (c.below n).1::(c.below n).2.gL):=by
 have cJ:=c.ag;obtain⟨a1,a2,a3⟩:=et.vS hc;obtain⟨b1,b2,b3⟩:=et.vS a1;obtain⟨c1,c2,c3⟩:=et.vS b1;refine T.yw rfl rfl (by simp[et.gL,AV.ae,AV.ag,cH]) ?_;simp only[T.aH,et.gL,WA,seval];refine aC (λ h0=> ?_) (λ h0=> ?_)
 ·simp only[WA,seval];simp only[et.below,if_pos h0]
 ·simp only[WA,seval];refine aC (λ h1=> ?_) (λ h1=> ?_)
  ·simp only[WA,seval];refine fj (nK hc) rfl (by simp[et.gL,AV.ae,AV.ag,cH]) ?_;simp only[et.gL,WA,seval];refine⟨by omega,?_⟩;simp only[et.below,if_neg h0,if_pos h1]
  ·simp only[WA,seval];refine fj (nK hc) rfl (by simp[et.gL,AV.ae,AV.ag,cH]) ?_;simp only[et.gL,WA,seval];refine fj (nK a1) rfl (by simp[et.gL,AV.ae,AV.ag,cH]) ?_;simp only[et.gL,WA,seval];refine fj (nK b1) rfl (by simp[et.gL,AV.ae,AV.ag,cH]) ?_;have w1:IntKind.i64.wrap (c.byte.1*65536)=c.byte.1*65536:=cE (by omega) (by omega);have w2:IntKind.i64.wrap (c.byte.2.byte.1*256)=c.byte.2.byte.1*256:=cE (by omega) (by omega);have w3:IntKind.i64.wrap (c.byte.1*65536+c.byte.2.byte.1*256)=c.byte.1*65536+c.byte.2.byte.1*256:=cE (by omega) (by omega);have w4:IntKind.i64.wrap (c.byte.1*65536+c.byte.2.byte.1*256+c.byte.2.byte.2.byte.1)=c.byte.1*65536+c.byte.2.byte.1*256+c.byte.2.byte.2.byte.1:=cE (by omega) (by omega);simp only[et.gL,w1,w2,w3,w4,WA,seval];refine⟨by omega,?_⟩;simp only[et.below,if_neg h0,if_neg h1]
theorem wJ{c:et}(hc:c.ok)(n:Int):jY Tryz.prog F.cY G.cY (c.gL++ [aD n]) (.v (.bool (decide ((c.below n).1=0)))::(c.below n).2.gL):=by
 refine T.aah rfl rfl (by simp[et.gL,AV.ae,AV.ag,cH]) ?_;simp only[T.cY,et.gL,WA,seval];refine fj (mI hc n) rfl (by simp[et.gL,AV.ae,AV.ag,cH]) ?_;simp only[et.gL,WA,seval]
theorem ajS(l:List Int)(hl:l.length<=1048576)(hb:∀x∈l,0<=x/\x<256):∃c:et,c.ok/\c.l=l/\jY Tryz.prog F.fI G.fI [.sl (rk l)] c.gL:=by
 let H:Nat->Int:=λ n=>Nat.rec (80080+l.length:Int) (λ k h=>ahJ (IntKind.i64.wrap (IntKind.i64.wrap (IntKind.i64.wrap (h*137)+(l.getD k 0))+11)) 1073741823) n
 refine⟨⟨l,0,H (min l.length 4000)⟩,⟨Nat.zero_le _,hl,hb⟩,rfl,?_⟩;have w0:IntKind.i64.wrap (80080+(l.length:Int))=80080+l.length:=cE (by omega) (by omega);refine T.acj rfl rfl (by simp[AV.ae,AV.ag,cH]) ?_;simp only[T.fI,et.gL,length_map,w0,WA];refine aG [aD (H (min l.length 4000))] rfl ?_ ?_
 ·simp only[WA];refine sV (min l.length 4000) (λ i=>[aD (H i),aD i]) rfl λ i hi=> ?_
  simp only[WA];refine aw ?_;simp only[WA];refine aw ?_;simp only[length_map,WA];refine aC (λ h1=> ?_) (λ h1=> ?_)
  ·have aK:i<l.length:=by omega
   simp only[WA];refine aC (λ h2=> ?_) (λ h2=> ?_)
   ·simp only[WA];refine fS by1 aK rfl ?_;have hbx:=hb _ (List.getElem_mem aK);have w8:IntKind.i64.wrap l[i]=l[i]:=cE (by omega) (by omega)
    have hH:H (i+1)=ahJ (IntKind.i64.wrap (IntKind.i64.wrap (IntKind.i64.wrap (H i*137)+l[i])+11)) 1073741823:=by
     show ahJ (IntKind.i64.wrap (IntKind.i64.wrap (IntKind.i64.wrap (H i*137)+(l.getD i 0))+11)) 1073741823=_;simp[List.getD,aK]
    simp(disch:=omega) only[w8,aI,WA];exact⟨by omega,by rw[hH];rfl⟩
   ·simp only[WA];rw[show i=min l.length 4000 by omega]
  ·simp only[WA];rw[show i=min l.length 4000 by omega]
 ·simp only[WA,Nat.reduceAdd]
  rfl
end Go.Proofs.Ab
