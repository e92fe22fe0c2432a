/-
  TEXTS OF CODE: the program's forms and lines (printed by wip/tool/mkwasm.py).
-/
import Derived.Test.YtkinchcjijhmgaaGreatDoorCAsm
import Derived.Test.YtkinchcjijhmgaaGreatDoorGM
import Derived.Test.YtkinchcjijhmgaaGreatDoorSA
open Nat(reduceEqDiff reduceLeDiff reduceAdd reduceLT reduceMul)
set_option linter.unusedVariables false
set_option linter.unusedSimpArgs false
namespace Go.Ab
set_option maxRecDepth 100000
theorem mh{rs:List ff}{res:AV}{x:AX}(hx:x= .ret∨x= .normal){e:Env}{O:List ae}(hn:res.ag=true)(h:fi e O rs [] λ xs=>b4 xs=res):lQ 0 rs res [] x e O:=
 ajY hx O.length h (cO _ hn).symm (by simp) (by simp) (bF _ hn)
theorem eI{res:AV}{O:List ae}(hn:res.ag=true):∃e',WK 0 (λ t=>if t=0 then res else .top) O e' []/\e' 0=res:=
 ⟨λ t=>if t=0 then res else .top,.forget (k:=0) (by simp) (Nat.le_refl _) (Nat.zero_le _) (λ ob ho=>by simp at ho) λ t=>by
  by_cases ht:t=0
  ·subst ht;exact .inr ⟨rfl,bF _ hn⟩
  ·exact .inl (by simp[ht]),rfl⟩
theorem yt{s:ByteArray}{i:Nat}{c:Int}(h:(bs s)[i]? =some c)(hc:c<128):Utf8.decode s i=(c.toNat,1):=by
 simp only[bs,List.getElem?_map,Option.map_eq_some_iff]at h;obtain⟨b,hb,rfl⟩:=h;have jr:s.data[i]? =some b:=by simpa using hb
 have au:=(Array.getElem?_eq_some_iff.1 jr).1
 have hg:s.get! (i+0)=b:=by
  show s.data[i]! =b;rw[getElem!_pos s.data i au];exact(Array.getElem?_eq_some_iff.1 jr).2
 have hn:b.toNat<128:=by omega
 unfold Utf8.decode;simp only[hg];rw[if_pos hn];simp
def aa.ye(x:aa):Prop:=(1<=x.Op/\x.Op<=15)/\(x.Op=7->x.Text=⟨#[43]⟩∨x.Text=⟨#[45]⟩∨x.Text=⟨#[42]⟩∨x.Text=⟨#[61]⟩∨x.Text=⟨#[60]⟩∨x.Text=⟨#[94]⟩∨x.Text=⟨#[115,105,122,101]⟩∨x.Text=⟨#[114,101,97,100]⟩∨x.Text=⟨#[112,114,105,110,116]⟩)
def aa.aZ(x:aa):ByteArray:=(fu x.bl).2.2
theorem pF{x:aa}(h:x.ye):∀c∈bs x.aZ,c=97∨c=98∨c=99∨c=110∨c=116:=by
 obtain⟨h1,h2⟩:=h;unfold aa.aZ aa.bl;by_cases h7:x.Op=7
 ·rw[if_pos h7];rcases h2 h7 with h|h|h|h|h|h|h|h|h<;>rw[h]<;>decide
 ·rw[if_neg h7];rcases(by omega:x.Op=1∨x.Op=2∨x.Op=3∨x.Op=4∨x.Op=5∨x.Op=6∨x.Op=8∨x.Op=9∨x.Op=10∨x.Op=11∨x.Op=12∨x.Op=13∨x.Op=14∨x.Op=15)with h|h|h|h|h|h|h|h|h|h|h|h|h|h<;>rw[h]<;>decide
end Go.Ab
namespace Go.Proofs.Ab
open Go.Ab
set_option maxRecDepth 100000
set_option maxHeartbeats 4000000
theorem pM(x:aa)(h:x.ye):aI Tryz.prog F.gT [x.av] (.agg [bE x.bl,bE x.aZ]):=by
 obtain⟨h1,h2⟩:=h;refine hH A.xT rfl ?_;simp only[A.gT,aa.width,aa.isAgg,aa.storable,↓OD,OA,reduceEqDiff,reduceCtorEq,reduceAdd,reduceLT,reduceLeDiff,reduceIte];refine jG rfl (by decide) (by decide) ?_;simp only[aa.width,aa.isAgg,aa.storable,aa.cells,↓OD,OA,reduceEqDiff,reduceCtorEq,reduceAdd,reduceLT,reduceLeDiff,reduceIte];refine jG rfl (by decide) (by decide) ?_;simp only[aa.width,aa.isAgg,aa.storable,aa.cells,↓OD,OA,reduceEqDiff,reduceCtorEq,reduceAdd,reduceLT,reduceLeDiff,reduceIte];refine jG rfl (by decide) (by decide) ?_;simp only[aa.width,aa.isAgg,aa.storable,aa.cells,↓OD,OA,reduceEqDiff,reduceCtorEq,reduceAdd,reduceLT,reduceLeDiff,reduceIte];refine jG rfl (by decide) (by decide) ?_;simp only[aa.width,aa.isAgg,aa.storable,aa.cells,↓OD,OA,reduceEqDiff,reduceCtorEq,reduceAdd,reduceLT,reduceLeDiff,reduceIte];refine jG rfl (by decide) (by decide) ?_;simp only[aa.width,aa.isAgg,aa.storable,aa.cells,↓OD,OA,reduceEqDiff,reduceCtorEq,reduceAdd,reduceLT,reduceLeDiff,reduceIte];refine jG rfl (by decide) (by decide) ?_;simp only[aa.width,aa.isAgg,aa.storable,aa.cells,↓OD,OA,reduceEqDiff,reduceCtorEq,reduceAdd,reduceLT,reduceLeDiff,reduceIte];refine j4 (λ hc=> ?_) (λ hc=> ?_)
 ·have h7:¬x.Op=7:=by simpa using hc
  rcases(by omega:x.Op=1∨x.Op=2∨x.Op=3∨x.Op=4∨x.Op=5∨x.Op=6∨x.Op=8∨x.Op=9∨x.Op=10∨x.Op=11∨x.Op=12∨x.Op=13∨x.Op=14∨x.Op=15)with h|h|h|h|h|h|h|h|h|h|h|h|h|h
  ·have hw:IntKind.i64.wrap (x.Op- 1)=0:=by rw[h];rfl
   have e1:x.bl=⟨#[105,110,116]⟩:=by unfold aa.bl;rw[h];rfl
   have e2:x.aZ=⟨#[97,110]⟩:=by unfold aa.aZ;rw[e1];rfl
   simp only[hw,aa.width,aa.isAgg,aa.storable,aa.cells,Int.reduceToNat,↓OD,OA,reduceEqDiff,reduceCtorEq,reduceAdd,reduceLT,reduceLeDiff,reduceIte]
   repeat (refine And.intro (by decide) ?_)
   try simp only[hw,aa.width,aa.isAgg,aa.storable,aa.cells,Int.reduceToNat,↓OD,OA,reduceEqDiff,reduceCtorEq,reduceAdd,reduceLT,reduceLeDiff,reduceIte]
   rw[e1,e2];exact eI rfl
  ·have hw:IntKind.i64.wrap (x.Op- 1)=1:=by rw[h];rfl
   have e1:x.bl=⟨#[115,116,114]⟩:=by unfold aa.bl;rw[h];rfl
   have e2:x.aZ=⟨#[97,116]⟩:=by unfold aa.aZ;rw[e1];rfl
   simp only[hw,aa.width,aa.isAgg,aa.storable,aa.cells,Int.reduceToNat,↓OD,OA,reduceEqDiff,reduceCtorEq,reduceAdd,reduceLT,reduceLeDiff,reduceIte]
   repeat (refine And.intro (by decide) ?_)
   try simp only[hw,aa.width,aa.isAgg,aa.storable,aa.cells,Int.reduceToNat,↓OD,OA,reduceEqDiff,reduceCtorEq,reduceAdd,reduceLT,reduceLeDiff,reduceIte]
   rw[e1,e2];exact eI rfl
  ·have hw:IntKind.i64.wrap (x.Op- 1)=2:=by rw[h];rfl
   have e1:x.bl=⟨#[108,97,98]⟩:=by unfold aa.bl;rw[h];rfl
   have e2:x.aZ=⟨#[97,110]⟩:=by unfold aa.aZ;rw[e1];rfl
   simp only[hw,aa.width,aa.isAgg,aa.storable,aa.cells,Int.reduceToNat,↓OD,OA,reduceEqDiff,reduceCtorEq,reduceAdd,reduceLT,reduceLeDiff,reduceIte]
   repeat (refine And.intro (by decide) ?_)
   try simp only[hw,aa.width,aa.isAgg,aa.storable,aa.cells,Int.reduceToNat,↓OD,OA,reduceEqDiff,reduceCtorEq,reduceAdd,reduceLT,reduceLeDiff,reduceIte]
   rw[e1,e2];exact eI rfl
  ·have hw:IntKind.i64.wrap (x.Op- 1)=3:=by rw[h];rfl
   have e1:x.bl=⟨#[109,111,118,101]⟩:=by unfold aa.bl;rw[h];rfl
   have e2:x.aZ=⟨#[97,98]⟩:=by unfold aa.aZ;rw[e1];rfl
   simp only[hw,aa.width,aa.isAgg,aa.storable,aa.cells,Int.reduceToNat,↓OD,OA,reduceEqDiff,reduceCtorEq,reduceAdd,reduceLT,reduceLeDiff,reduceIte]
   repeat (refine And.intro (by decide) ?_)
   try simp only[hw,aa.width,aa.isAgg,aa.storable,aa.cells,Int.reduceToNat,↓OD,OA,reduceEqDiff,reduceCtorEq,reduceAdd,reduceLT,reduceLeDiff,reduceIte]
   rw[e1,e2];exact eI rfl
  ·have hw:IntKind.i64.wrap (x.Op- 1)=4:=by rw[h];rfl
   have e1:x.bl=⟨#[108,111,97,100]⟩:=by unfold aa.bl;rw[h];rfl
   have e2:x.aZ=⟨#[97,110]⟩:=by unfold aa.aZ;rw[e1];rfl
   simp only[hw,aa.width,aa.isAgg,aa.storable,aa.cells,Int.reduceToNat,↓OD,OA,reduceEqDiff,reduceCtorEq,reduceAdd,reduceLT,reduceLeDiff,reduceIte]
   repeat (refine And.intro (by decide) ?_)
   try simp only[hw,aa.width,aa.isAgg,aa.storable,aa.cells,Int.reduceToNat,↓OD,OA,reduceEqDiff,reduceCtorEq,reduceAdd,reduceLT,reduceLeDiff,reduceIte]
   rw[e1,e2];exact eI rfl
  ·have hw:IntKind.i64.wrap (x.Op- 1)=5:=by rw[h];rfl
   have e1:x.bl=⟨#[115,116,111,114,101]⟩:=by unfold aa.bl;rw[h];rfl
   have e2:x.aZ=⟨#[97,110]⟩:=by unfold aa.aZ;rw[e1];rfl
   simp only[hw,aa.width,aa.isAgg,aa.storable,aa.cells,Int.reduceToNat,↓OD,OA,reduceEqDiff,reduceCtorEq,reduceAdd,reduceLT,reduceLeDiff,reduceIte]
   repeat (refine And.intro (by decide) ?_)
   try simp only[hw,aa.width,aa.isAgg,aa.storable,aa.cells,Int.reduceToNat,↓OD,OA,reduceEqDiff,reduceCtorEq,reduceAdd,reduceLT,reduceLeDiff,reduceIte]
   rw[e1,e2];exact eI rfl
  ·have hw:IntKind.i64.wrap (x.Op- 1)=7:=by rw[h];rfl
   have e1:x.bl=⟨#[110,101,119]⟩:=by unfold aa.bl;rw[h];rfl
   have e2:x.aZ=⟨#[97,110]⟩:=by unfold aa.aZ;rw[e1];rfl
   simp only[hw,aa.width,aa.isAgg,aa.storable,aa.cells,Int.reduceToNat,↓OD,OA,reduceEqDiff,reduceCtorEq,reduceAdd,reduceLT,reduceLeDiff,reduceIte]
   repeat (refine And.intro (by decide) ?_)
   try simp only[hw,aa.width,aa.isAgg,aa.storable,aa.cells,Int.reduceToNat,↓OD,OA,reduceEqDiff,reduceCtorEq,reduceAdd,reduceLT,reduceLeDiff,reduceIte]
   rw[e1,e2];exact eI rfl
  ·have hw:IntKind.i64.wrap (x.Op- 1)=8:=by rw[h];rfl
   have e1:x.bl=⟨#[112,117,116]⟩:=by unfold aa.bl;rw[h];rfl
   have e2:x.aZ=⟨#[97,110,98]⟩:=by unfold aa.aZ;rw[e1];rfl
   simp only[hw,aa.width,aa.isAgg,aa.storable,aa.cells,Int.reduceToNat,↓OD,OA,reduceEqDiff,reduceCtorEq,reduceAdd,reduceLT,reduceLeDiff,reduceIte]
   repeat (refine And.intro (by decide) ?_)
   try simp only[hw,aa.width,aa.isAgg,aa.storable,aa.cells,Int.reduceToNat,↓OD,OA,reduceEqDiff,reduceCtorEq,reduceAdd,reduceLT,reduceLeDiff,reduceIte]
   rw[e1,e2];exact eI rfl
  ·have hw:IntKind.i64.wrap (x.Op- 1)=9:=by rw[h];rfl
   have e1:x.bl=⟨#[103,101,116]⟩:=by unfold aa.bl;rw[h];rfl
   have e2:x.aZ=⟨#[97,98,110]⟩:=by unfold aa.aZ;rw[e1];rfl
   simp only[hw,aa.width,aa.isAgg,aa.storable,aa.cells,Int.reduceToNat,↓OD,OA,reduceEqDiff,reduceCtorEq,reduceAdd,reduceLT,reduceLeDiff,reduceIte]
   repeat (refine And.intro (by decide) ?_)
   try simp only[hw,aa.width,aa.isAgg,aa.storable,aa.cells,Int.reduceToNat,↓OD,OA,reduceEqDiff,reduceCtorEq,reduceAdd,reduceLT,reduceLeDiff,reduceIte]
   rw[e1,e2];exact eI rfl
  ·have hw:IntKind.i64.wrap (x.Op- 1)=10:=by rw[h];rfl
   have e1:x.bl=⟨#[122,101,114,111]⟩:=by unfold aa.bl;rw[h];rfl
   have e2:x.aZ=⟨#[97,110]⟩:=by unfold aa.aZ;rw[e1];rfl
   simp only[hw,aa.width,aa.isAgg,aa.storable,aa.cells,Int.reduceToNat,↓OD,OA,reduceEqDiff,reduceCtorEq,reduceAdd,reduceLT,reduceLeDiff,reduceIte]
   repeat (refine And.intro (by decide) ?_)
   try simp only[hw,aa.width,aa.isAgg,aa.storable,aa.cells,Int.reduceToNat,↓OD,OA,reduceEqDiff,reduceCtorEq,reduceAdd,reduceLT,reduceLeDiff,reduceIte]
   rw[e1,e2];exact eI rfl
  ·have hw:IntKind.i64.wrap (x.Op- 1)=11:=by rw[h];rfl
   have e1:x.bl=⟨#[106,117,109,112]⟩:=by unfold aa.bl;rw[h];rfl
   have e2:x.aZ=⟨#[110]⟩:=by unfold aa.aZ;rw[e1];rfl
   simp only[hw,aa.width,aa.isAgg,aa.storable,aa.cells,Int.reduceToNat,↓OD,OA,reduceEqDiff,reduceCtorEq,reduceAdd,reduceLT,reduceLeDiff,reduceIte]
   repeat (refine And.intro (by decide) ?_)
   try simp only[hw,aa.width,aa.isAgg,aa.storable,aa.cells,Int.reduceToNat,↓OD,OA,reduceEqDiff,reduceCtorEq,reduceAdd,reduceLT,reduceLeDiff,reduceIte]
   rw[e1,e2];exact eI rfl
  ·have hw:IntKind.i64.wrap (x.Op- 1)=12:=by rw[h];rfl
   have e1:x.bl=⟨#[103,111]⟩:=by unfold aa.bl;rw[h];rfl
   have e2:x.aZ=⟨#[97]⟩:=by unfold aa.aZ;rw[e1];rfl
   simp only[hw,aa.width,aa.isAgg,aa.storable,aa.cells,Int.reduceToNat,↓OD,OA,reduceEqDiff,reduceCtorEq,reduceAdd,reduceLT,reduceLeDiff,reduceIte]
   repeat (refine And.intro (by decide) ?_)
   try simp only[hw,aa.width,aa.isAgg,aa.storable,aa.cells,Int.reduceToNat,↓OD,OA,reduceEqDiff,reduceCtorEq,reduceAdd,reduceLT,reduceLeDiff,reduceIte]
   rw[e1,e2];exact eI rfl
  ·have hw:IntKind.i64.wrap (x.Op- 1)=13:=by rw[h];rfl
   have e1:x.bl=⟨#[101,120,105,116]⟩:=by unfold aa.bl;rw[h];rfl
   have e2:x.aZ=⟨#[97]⟩:=by unfold aa.aZ;rw[e1];rfl
   simp only[hw,aa.width,aa.isAgg,aa.storable,aa.cells,Int.reduceToNat,↓OD,OA,reduceEqDiff,reduceCtorEq,reduceAdd,reduceLT,reduceLeDiff,reduceIte]
   repeat (refine And.intro (by decide) ?_)
   try simp only[hw,aa.width,aa.isAgg,aa.storable,aa.cells,Int.reduceToNat,↓OD,OA,reduceEqDiff,reduceCtorEq,reduceAdd,reduceLT,reduceLeDiff,reduceIte]
   rw[e1,e2];exact eI rfl
  ·have hw:IntKind.i64.wrap (x.Op- 1)=14:=by rw[h];rfl
   have e1:x.bl=⟨#[102,97,105,108]⟩:=by unfold aa.bl;rw[h];rfl
   have e2:x.aZ=⟨#[110]⟩:=by unfold aa.aZ;rw[e1];rfl
   simp only[hw,aa.width,aa.isAgg,aa.storable,aa.cells,Int.reduceToNat,↓OD,OA,reduceEqDiff,reduceCtorEq,reduceAdd,reduceLT,reduceLeDiff,reduceIte]
   repeat (refine And.intro (by decide) ?_)
   try simp only[hw,aa.width,aa.isAgg,aa.storable,aa.cells,Int.reduceToNat,↓OD,OA,reduceEqDiff,reduceCtorEq,reduceAdd,reduceLT,reduceLeDiff,reduceIte]
   rw[e1,e2];exact eI rfl
 ·have h7:x.Op=7:=by simpa using hc
  have ht:=h2 h7;rcases ht with h|h|h|h|h|h|h|h|h
  ·have e1:x.bl=⟨#[97,100,100]⟩:=by unfold aa.bl;rw[if_pos h7,h];rfl
   have e2:x.aZ=⟨#[97,98,99]⟩:=by unfold aa.aZ;rw[e1];rfl
   have fM:decide (x.Text=⟨#[115,105,122,101]⟩)=false:=by rw[h];rfl
   have fN:decide (x.Text=⟨#[114,101,97,100]⟩)=false:=by rw[h];rfl
   have dQ:decide (x.Text=⟨#[112,114,105,110,116]⟩)=false:=by rw[h];rfl
   simp only[fM,fN,dQ,aa.width,aa.isAgg,aa.storable,aa.cells,br,bE,↓OD,OA,reduceEqDiff,reduceCtorEq,reduceAdd,reduceLT,reduceLeDiff,reduceIte];rw[h];refine mu rfl rfl rfl (i:=0) (v:= .v (.string ⟨#[97,100,100]⟩)) rfl ?_;simp only[aa.width,aa.isAgg,aa.storable,aa.cells,↓OD,OA,reduceEqDiff,reduceCtorEq,reduceAdd,reduceLT,reduceLeDiff,reduceIte]
   repeat (refine And.intro (by decide) ?_)
   try simp only[aa.width,aa.isAgg,aa.storable,aa.cells,↓OD,OA,reduceEqDiff,reduceCtorEq,reduceAdd,reduceLT,reduceLeDiff,reduceIte]
   rw[e1,e2];exact eI rfl
  ·have e1:x.bl=⟨#[115,117,98]⟩:=by unfold aa.bl;rw[if_pos h7,h];rfl
   have e2:x.aZ=⟨#[97,98,99]⟩:=by unfold aa.aZ;rw[e1];rfl
   have fM:decide (x.Text=⟨#[115,105,122,101]⟩)=false:=by rw[h];rfl
   have fN:decide (x.Text=⟨#[114,101,97,100]⟩)=false:=by rw[h];rfl
   have dQ:decide (x.Text=⟨#[112,114,105,110,116]⟩)=false:=by rw[h];rfl
   simp only[fM,fN,dQ,aa.width,aa.isAgg,aa.storable,aa.cells,br,bE,↓OD,OA,reduceEqDiff,reduceCtorEq,reduceAdd,reduceLT,reduceLeDiff,reduceIte];rw[h];refine mu rfl rfl rfl (i:=1) (v:= .v (.string ⟨#[115,117,98]⟩)) rfl ?_;simp only[aa.width,aa.isAgg,aa.storable,aa.cells,↓OD,OA,reduceEqDiff,reduceCtorEq,reduceAdd,reduceLT,reduceLeDiff,reduceIte]
   repeat (refine And.intro (by decide) ?_)
   try simp only[aa.width,aa.isAgg,aa.storable,aa.cells,↓OD,OA,reduceEqDiff,reduceCtorEq,reduceAdd,reduceLT,reduceLeDiff,reduceIte]
   rw[e1,e2];exact eI rfl
  ·have e1:x.bl=⟨#[109,117,108]⟩:=by unfold aa.bl;rw[if_pos h7,h];rfl
   have e2:x.aZ=⟨#[97,98,99]⟩:=by unfold aa.aZ;rw[e1];rfl
   have fM:decide (x.Text=⟨#[115,105,122,101]⟩)=false:=by rw[h];rfl
   have fN:decide (x.Text=⟨#[114,101,97,100]⟩)=false:=by rw[h];rfl
   have dQ:decide (x.Text=⟨#[112,114,105,110,116]⟩)=false:=by rw[h];rfl
   simp only[fM,fN,dQ,aa.width,aa.isAgg,aa.storable,aa.cells,br,bE,↓OD,OA,reduceEqDiff,reduceCtorEq,reduceAdd,reduceLT,reduceLeDiff,reduceIte];rw[h];refine mu rfl rfl rfl (i:=2) (v:= .v (.string ⟨#[109,117,108]⟩)) rfl ?_;simp only[aa.width,aa.isAgg,aa.storable,aa.cells,↓OD,OA,reduceEqDiff,reduceCtorEq,reduceAdd,reduceLT,reduceLeDiff,reduceIte]
   repeat (refine And.intro (by decide) ?_)
   try simp only[aa.width,aa.isAgg,aa.storable,aa.cells,↓OD,OA,reduceEqDiff,reduceCtorEq,reduceAdd,reduceLT,reduceLeDiff,reduceIte]
   rw[e1,e2];exact eI rfl
  ·have e1:x.bl=⟨#[101,113]⟩:=by unfold aa.bl;rw[if_pos h7,h];rfl
   have e2:x.aZ=⟨#[97,98,99]⟩:=by unfold aa.aZ;rw[e1];rfl
   have fM:decide (x.Text=⟨#[115,105,122,101]⟩)=false:=by rw[h];rfl
   have fN:decide (x.Text=⟨#[114,101,97,100]⟩)=false:=by rw[h];rfl
   have dQ:decide (x.Text=⟨#[112,114,105,110,116]⟩)=false:=by rw[h];rfl
   simp only[fM,fN,dQ,aa.width,aa.isAgg,aa.storable,aa.cells,br,bE,↓OD,OA,reduceEqDiff,reduceCtorEq,reduceAdd,reduceLT,reduceLeDiff,reduceIte];rw[h];refine mu rfl rfl rfl (i:=3) (v:= .v (.string ⟨#[101,113]⟩)) rfl ?_;simp only[aa.width,aa.isAgg,aa.storable,aa.cells,↓OD,OA,reduceEqDiff,reduceCtorEq,reduceAdd,reduceLT,reduceLeDiff,reduceIte]
   repeat (refine And.intro (by decide) ?_)
   try simp only[aa.width,aa.isAgg,aa.storable,aa.cells,↓OD,OA,reduceEqDiff,reduceCtorEq,reduceAdd,reduceLT,reduceLeDiff,reduceIte]
   rw[e1,e2];exact eI rfl
  ·have e1:x.bl=⟨#[108,116]⟩:=by unfold aa.bl;rw[if_pos h7,h];rfl
   have e2:x.aZ=⟨#[97,98,99]⟩:=by unfold aa.aZ;rw[e1];rfl
   have fM:decide (x.Text=⟨#[115,105,122,101]⟩)=false:=by rw[h];rfl
   have fN:decide (x.Text=⟨#[114,101,97,100]⟩)=false:=by rw[h];rfl
   have dQ:decide (x.Text=⟨#[112,114,105,110,116]⟩)=false:=by rw[h];rfl
   simp only[fM,fN,dQ,aa.width,aa.isAgg,aa.storable,aa.cells,br,bE,↓OD,OA,reduceEqDiff,reduceCtorEq,reduceAdd,reduceLT,reduceLeDiff,reduceIte];rw[h];refine mu rfl rfl rfl (i:=4) (v:= .v (.string ⟨#[108,116]⟩)) rfl ?_;simp only[aa.width,aa.isAgg,aa.storable,aa.cells,↓OD,OA,reduceEqDiff,reduceCtorEq,reduceAdd,reduceLT,reduceLeDiff,reduceIte]
   repeat (refine And.intro (by decide) ?_)
   try simp only[aa.width,aa.isAgg,aa.storable,aa.cells,↓OD,OA,reduceEqDiff,reduceCtorEq,reduceAdd,reduceLT,reduceLeDiff,reduceIte]
   rw[e1,e2];exact eI rfl
  ·have e1:x.bl=⟨#[99,97,116]⟩:=by unfold aa.bl;rw[if_pos h7,h];rfl
   have e2:x.aZ=⟨#[97,98,99]⟩:=by unfold aa.aZ;rw[e1];rfl
   have fM:decide (x.Text=⟨#[115,105,122,101]⟩)=false:=by rw[h];rfl
   have fN:decide (x.Text=⟨#[114,101,97,100]⟩)=false:=by rw[h];rfl
   have dQ:decide (x.Text=⟨#[112,114,105,110,116]⟩)=false:=by rw[h];rfl
   simp only[fM,fN,dQ,aa.width,aa.isAgg,aa.storable,aa.cells,br,bE,↓OD,OA,reduceEqDiff,reduceCtorEq,reduceAdd,reduceLT,reduceLeDiff,reduceIte];rw[h];refine mu rfl rfl rfl (i:=5) (v:= .v (.string ⟨#[99,97,116]⟩)) rfl ?_;simp only[aa.width,aa.isAgg,aa.storable,aa.cells,↓OD,OA,reduceEqDiff,reduceCtorEq,reduceAdd,reduceLT,reduceLeDiff,reduceIte]
   repeat (refine And.intro (by decide) ?_)
   try simp only[aa.width,aa.isAgg,aa.storable,aa.cells,↓OD,OA,reduceEqDiff,reduceCtorEq,reduceAdd,reduceLT,reduceLeDiff,reduceIte]
   rw[e1,e2];exact eI rfl
  ·have e1:x.bl=⟨#[115,105,122,101]⟩:=by unfold aa.bl;rw[if_pos h7,h];rfl
   have e2:x.aZ=⟨#[97,98]⟩:=by unfold aa.aZ;rw[e1];rfl
   have fM:decide (x.Text=⟨#[115,105,122,101]⟩)=true:=by rw[h];rfl
   have fN:decide (x.Text=⟨#[114,101,97,100]⟩)=false:=by rw[h];rfl
   have dQ:decide (x.Text=⟨#[112,114,105,110,116]⟩)=false:=by rw[h];rfl
   simp only[fM,fN,dQ,aa.width,aa.isAgg,aa.storable,aa.cells,br,bE,↓OD,OA,reduceEqDiff,reduceCtorEq,reduceAdd,reduceLT,reduceLeDiff,reduceIte]
   repeat (refine And.intro (by decide) ?_)
   try simp only[fM,fN,dQ,aa.width,aa.isAgg,aa.storable,aa.cells,br,bE,↓OD,OA,reduceEqDiff,reduceCtorEq,reduceAdd,reduceLT,reduceLeDiff,reduceIte]
   rw[e1,e2];exact eI rfl
  ·have e1:x.bl=⟨#[114,101,97,100]⟩:=by unfold aa.bl;rw[if_pos h7,h];rfl
   have e2:x.aZ=⟨#[97]⟩:=by unfold aa.aZ;rw[e1];rfl
   have fM:decide (x.Text=⟨#[115,105,122,101]⟩)=false:=by rw[h];rfl
   have fN:decide (x.Text=⟨#[114,101,97,100]⟩)=true:=by rw[h];rfl
   have dQ:decide (x.Text=⟨#[112,114,105,110,116]⟩)=false:=by rw[h];rfl
   simp only[fM,fN,dQ,aa.width,aa.isAgg,aa.storable,aa.cells,br,bE,↓OD,OA,reduceEqDiff,reduceCtorEq,reduceAdd,reduceLT,reduceLeDiff,reduceIte]
   repeat (refine And.intro (by decide) ?_)
   try simp only[fM,fN,dQ,aa.width,aa.isAgg,aa.storable,aa.cells,br,bE,↓OD,OA,reduceEqDiff,reduceCtorEq,reduceAdd,reduceLT,reduceLeDiff,reduceIte]
   rw[e1,e2];exact eI rfl
  ·have e1:x.bl=⟨#[112,114,105,110,116]⟩:=by unfold aa.bl;rw[if_pos h7,h];rfl
   have e2:x.aZ=⟨#[98]⟩:=by unfold aa.aZ;rw[e1];rfl
   have fM:decide (x.Text=⟨#[115,105,122,101]⟩)=false:=by rw[h];rfl
   have fN:decide (x.Text=⟨#[114,101,97,100]⟩)=false:=by rw[h];rfl
   have dQ:decide (x.Text=⟨#[112,114,105,110,116]⟩)=true:=by rw[h];rfl
   simp only[fM,fN,dQ,aa.width,aa.isAgg,aa.storable,aa.cells,br,bE,↓OD,OA,reduceEqDiff,reduceCtorEq,reduceAdd,reduceLT,reduceLeDiff,reduceIte]
   repeat (refine And.intro (by decide) ?_)
   try simp only[fM,fN,dQ,aa.width,aa.isAgg,aa.storable,aa.cells,br,bE,↓OD,OA,reduceEqDiff,reduceCtorEq,reduceAdd,reduceLT,reduceLeDiff,reduceIte]
   rw[e1,e2];exact eI rfl
end Go.Proofs.Ab
