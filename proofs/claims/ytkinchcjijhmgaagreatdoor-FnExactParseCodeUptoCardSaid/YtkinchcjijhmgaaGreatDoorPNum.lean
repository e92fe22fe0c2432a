/-
  NUMBERS AS WORDS: a word is a number where it is the numeral of an int; what Atoi says, and what the loop over the digits comes to.
-/
import Derived.Test.YtkinchcjijhmgaaGreatDoorGM
import Derived.Lib.AtoiAllCases
open Option(bind_some)
set_option linter.unusedVariables false
set_option linter.unusedSimpArgs false
namespace Go.Ab
set_option maxRecDepth 100000
def vw(v:Int):Prop:= -9223372036854775808<=v/\v<=9223372036854775807
theorem rH(d:Nat)(h:d<10):(UInt8.ofNat (48+d)).toNat=48+d:=by simp;omega
theorem nj(u:Nat):∀c∈Lib.decDigits u,48<=c.toNat/\c.toNat<=57:=by
 induction u using Nat.strongRecOn with
 |ind u ih=>
  intro c hc;rw[Lib.decDigits]at hc
  split at hc
  ·rename_i h;rw[List.mem_singleton.1 hc,rH _ h];omega
  ·rename_i h;rcases List.mem_append.1 hc with hc|hc
   ·exact ih (u/10) (by omega) c hc
   ·rw[List.mem_singleton.1 hc,rH _ (by omega)];omega
theorem abI(u:Nat):Lib.decDigits u≠[]:=by
 rw[Lib.decDigits];split<;>simp
theorem abJ:∀(k u:Nat),u<10^(k+1)->(Lib.decDigits u).length<=k+1
 |0,u,h=>by rw[Lib.decDigits,dif_pos (by omega)];simp
 |k+1,u,h=>by
  rw[Lib.decDigits]
  split
  ·simp
  ·have:=abJ k (u/10) (by rw[Nat.pow_succ]at h;omega);simp only[List.length_append,List.length_cons,List.length_nil];omega
theorem aeS:∀(a:List UInt8) (acc v d:Nat),d<10->Lib.parseUint10 acc a= .ok v->v*10+d<18446744073709551616->Lib.parseUint10 acc (a++ [UInt8.ofNat (48+d)])= .ok (v*10+d)
 | [],acc,v,d,hd,h,hv=>by
   simp only[Lib.parseUint10]at h;injection h with h;subst h;simp only[List.nil_append,Lib.parseUint10,rH d hd];rw[if_pos (by omega),if_neg (by omega),if_neg (by omega)];congr 1;omega
 |c::r,acc,v,d,hd,h,hv=>by
  rw[List.cons_append];simp only[Lib.parseUint10]at h⊢
  split at h
  ·rename_i h1;rw[if_pos h1]
   split at h
   ·cases h
   ·rename_i h2;rw[if_neg h2]
    split at h
    ·cases h
    ·rename_i h3;rw[if_neg h3];exact aeS r _ v d hd h hv
  ·cases h
theorem aq1(u:Nat):u<18446744073709551616->Lib.parseUint10 0 (Lib.decDigits u)= .ok u:=by
 induction u using Nat.strongRecOn with
 |ind u ih=>
  intro hu;rw[Lib.decDigits]
  split
  ·rename_i h;have:=aeS [] 0 0 u h rfl (by omega);simpa using this
  ·rename_i h;have:=aeS _ 0 (u/10) (u%10) (by omega) (ih (u/10) (by omega) (by omega)) (by omega);rw[this];congr 1;omega
theorem agF(u:Nat)(h:u<18446744073709551616):Lib.parseMag (Lib.decDigits u)= .ok u:=by
 rw[Lib.parseMag,if_neg (abI u),aq1 u h]
theorem aja(v:Int)(h:vw v):Lib.atoiAll (Lib.itoa v)= .ok v:=by
 obtain⟨h0,h1⟩:=h;unfold Lib.itoa
 split
 ·rename_i hn;rw[Lib.atoiAll_minus,agF _ (by omega)];simp only[Lib.signed];rw[if_neg (by omega)];congr 1;omega
 ·rename_i hn;obtain⟨c,r,hc⟩:=List.exists_cons_of_ne_nil (abI v.toNat);have hd:=nj v.toNat c (by rw[hc];simp);have hm:=agF v.toNat (by omega);rw[hc]at hm⊢;rw[Lib.atoiAll_plain c r (by omega) (by omega),hm];simp only[Lib.signless];rw[if_neg (by omega)];congr 1;omega
def fS(s:ByteArray):Option Int:=match Lib.atoiAll s.data.toList with
 | .ok v=>if im v=s then some v else none
 |_=>none
theorem o7(v:Int):(im v).data.toList=Lib.itoa v:=by simp[im]
theorem ahW{v:Int}(h:vw v):fS (im v)=some v:=by
 unfold fS;rw[o7,aja v h];simp
theorem jF{s:ByteArray}{v:Int}(h:fS s=some v):vw v/\s=im v:=by
 unfold fS at h
 split at h
 ·rename_i x hx
  split at h
  ·rename_i he;injection h with h;subst h;exact⟨Lib.atoiAll_bounds hx,he.symm⟩
  ·cases h
 ·cases h
theorem afs(v:Int):∀c∈Lib.itoa v,c.toNat=45∨48<=c.toNat/\c.toNat<=57:=by
 intro c hc;unfold Lib.itoa at hc
 split at hc
 ·rcases List.mem_cons.1 hc with rfl|hc
  ·exact .inl rfl
  ·exact .inr (nj _ c hc)
 ·exact .inr (nj _ c hc)
def ni(neg:Bool)(n:Int)(c:UInt8):Int:=IntKind.i64.wrap (IntKind.i64.wrap (n*10)+(if neg then-((c.toNat:Int)- 48)else(c.toNat:Int)- 48))
def zY(c:UInt8):Bool:=decide (48<=c.toNat)&&decide (c.toNat<=57)
def dA(neg:Bool):List UInt8->Int->Option Int
 | [],n=>some n
 |c::r,n=>if zY c=true then dA neg r (ni neg n c)else none
theorem uf(neg:Bool):∀(a b:List UInt8) (n:Int),dA neg (a++b) n=(dA neg a n).bind (dA neg b)
 | [],b,n=>rfl
 |c::r,b,n=>by
  rw[List.cons_append,dA,dA]
  split
  ·exact uf neg r b _
  ·rfl
def sgn(neg:Bool)(u:Nat):Int:=if neg then-(u:Int)else(u:Int)
theorem ue(neg:Bool)(u:Nat):u<=(if neg then 9223372036854775808 else 9223372036854775807)->dA neg (Lib.decDigits u) 0=some (sgn neg u):=by
 have one:∀(m d:Nat),d<10->m*10+d<=(if neg then 9223372036854775808 else 9223372036854775807)->dA neg [UInt8.ofNat (48+d)] (sgn neg m)=some (sgn neg (m*10+d)):=by
  intro m d hd hm;have e:zY (UInt8.ofNat (48+d))=true:=by simp only[zY,rH d hd,Bool.and_eq_true,decide_eq_true_eq];omega
  rw[dA,if_pos e,dA];simp only[ni,rH d hd,sgn];cases neg
  ·simp only[Bool.false_eq_true,if_false]at hm⊢;rw[gv (n:=(m:Int)*10) (by omega) (by omega),gv (by omega) (by omega)];congr 1;omega
  ·simp only[if_true]at hm⊢;rw[gv (n:= -(m:Int)*10) (by omega) (by omega),gv (by omega) (by omega)];congr 1;omega
 induction u using Nat.strongRecOn with
 |ind u ih=>
  intro hu;rw[Lib.decDigits]
  split
  ·rename_i h;have:=one 0 u h (by omega);have z:sgn neg 0=0:=by cases neg<;>rfl
   rw[z]at this;rw[this];congr 2;omega
  ·rename_i h;rw[uf,ih (u/10) (by omega) (by omega),bind_some,one (u/10) (u%10) (by omega) (by omega)];congr 2;omega
def lR(s:ByteArray):Option Int:=
 if s.size=0∨20<s.size then none
 else if s.data.toList.head?=some 45 then dA true s.data.toList.tail 0 else dA false s.data.toList 0
theorem tc{v:Int}(h:vw v):lR (im v)=some v:=by
 obtain⟨h0,h1⟩:=h;have hl:(im v).size=(Lib.itoa v).length:=by rw[←o7];rfl
 have hlen:1<=(Lib.itoa v).length/\(Lib.itoa v).length<=20:=by
  unfold Lib.itoa
  split
  ·have:=abJ 18 v.natAbs (by omega);simp only[List.length_cons];omega
  ·have:=abJ 18 v.toNat (by omega);have:=List.length_pos_iff.2 (abI v.toNat);omega
 unfold lR;rw[if_neg (by omega),o7];unfold Lib.itoa
 split
 ·simp only[List.head?_cons,List.tail_cons,if_true];rw[ue true _ (by simp only[if_true];omega)];simp only[sgn,if_true];congr 1;omega
 ·have hh:¬(Lib.decDigits v.toNat).head?=some 45:=by
    intro hh;obtain⟨c,r,hc⟩:=List.exists_cons_of_ne_nil (abI v.toNat);have hd:=nj v.toNat c (by rw[hc];simp);rw[hc]at hh;simp only[List.head?_cons,Option.some.injEq]at hh;subst hh
    revert hd;decide
  rw[if_neg hh,ue false _ (by simp only[Bool.false_eq_true,if_false];omega)];simp only[sgn,Bool.false_eq_true,if_false];congr 1;omega
theorem yr(neg:Bool)(n:Int)(c:UInt8):vw (ni neg n c):=by
 unfold ni vw;generalize IntKind.i64.wrap (n*10)+_=m;simp only[IntKind.wrap,IntKind.signed,IntKind.bits];simp only[Bool.true_and];constructor<;>split<;>rename_i h<;>first|omega|(have:=of_decide_eq_true h;omega)|(have:¬_:=λ hc=>h (decide_eq_true hc);omega)
theorem pX(neg:Bool):∀(l:List UInt8) (n m:Int),vw n->dA neg l n=some m->vw m
 | [],n,m,h,e=>by rw[dA]at e;injection e with e;exact e▸h
 |c::r,n,m,h,e=>by
  rw[dA]at e
  split at e
  ·exact pX neg r _ m (yr neg n c) e
  ·cases e
theorem aoi{s:ByteArray}{v:Int}(h:lR s=some v):vw v:=by
 unfold lR at h
 split at h
 ·cases h
 ·split at h
  ·exact pX _ _ _ _ ⟨by omega,by omega⟩ h
  ·exact pX _ _ _ _ ⟨by omega,by omega⟩ h
theorem ot(s:ByteArray):fS s=(lR s).bind λ v=>if im v=s then some v else none:=by
 cases hp:fS s with
 |some v=>
  obtain⟨h,rfl⟩:=jF hp;rw[tc h];simp
 |none=>
  cases hs:lR s with
  |none=>rfl
  |some v=>
   simp only[bind_some]
   split
   ·rename_i he;rw[←he,ahW (aoi hs)]at hp;cases hp
   ·rfl
end Go.Ab
