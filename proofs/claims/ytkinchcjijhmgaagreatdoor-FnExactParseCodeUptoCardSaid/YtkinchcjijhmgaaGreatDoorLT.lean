/-
  THE TABLE OF THE POWERS OF TEN, out of the row's condition; a world for the witness.
-/
import Derived.Test.YtkinchcjijhmgaaGreatDoorRD
import Derived.Test.YtkinchcjijhmgaaGreatDoorGM
import Derived.Test.YtkinchcjijhmgaaGreatDoorCards
import Derived.Test.YtkinchcjijhmgaaGreatDoorTie
import Derived.Deep.DeepHandedRow
import Derived.Stop.LaidErr
import Derived.MakeChecks
open Option(bind_some)
set_option linter.unusedVariables false
set_option linter.unusedSimpArgs false
namespace Go.Proofs.YtkinchcjijhmgaaGreatDoor
open Go.Ab Go.ChangeShapes Go.WideShapes Go.ChangeAt Go.RowKit
set_option maxRecDepth 100000
def ajH:List (String×DataW Unit):=[("math/bits.deBruijn32tab",Rows.laid_math_bits_deBruijn32tab),("math/bits.deBruijn64tab",Rows.laid_math_bits_deBruijn64tab),("internal/strconv.uint64pow10",Rows.laid_internal_strconv_uint64pow10),("unicode/utf8.acceptRanges",Rows.laid_unicode_utf8_acceptRanges),("strconv.ErrRange",Rows.laid_strconv_ErrRange),("strconv.ErrSyntax",Rows.laid_strconv_ErrSyntax),("unicode/utf8.first",Rows.laid_unicode_utf8_first)]
theorem asd:Tryz.prog.globalNamed "internal/strconv.uint64pow10" =some ui:=by kernel_rfl
theorem atG:(Rows.laid_internal_strconv_uint64pow10:DataW Unit)=Lib.tabData .u64 Lib.pow10Tab:=by kernel_rfl
theorem table{W:World}(h:laidMetH Tryz.prog ajH W):Lib.TabIs Tryz.prog W "internal/strconv.uint64pow10" .u64 Lib.pow10Tab:=by
 rw[MakeChecks.laidMetH_plain _ _ _ (by kernel_rfl)]at h;have h2:=((h.tail).tail);rw[atG]at h2;exact Lib.tabIs_of_head asd (t:=133) (by kernel_rfl) Tryz.underlying133 Tryz.underlying93 (by kernel_rfl) (by kernel_rfl) h2
theorem star: "*" ++ "errors.errorString" = "*errors.errorString" :=by decide
theorem ajT(u:TypeId)(h:Tryz.prog.typeName? 3 u=some "*errors.errorString"):u=129:=
 typeName_ptr_named (nm:= "errors.errorString") (by rw[star];kernel_rfl) (by kernel_rfl) (by decide) u (by rw[star];exact h)
theorem zk{W:World}{n:String}{g:Nat}{x:Value}(hg:Tryz.prog.globalNamed n=some g)(h:W.var? Tryz.prog n=some #[x]):fA W g=some 1/\W.cell? ⟨g,0,none⟩=some x:=by
 refine⟨?_,by have h0:=World.var?_cell hg h 0;simpa using h0⟩;unfold World.var? at h;rw[hg]at h;simp only[bind_some]at h;unfold fA
 split at h
 ·rename_i hz;rw[hz];simp only[Option.some.injEq]at h;subst h
  rfl
 ·cases h
theorem x9:Tryz.prog.globalNamed "strconv.ErrSyntax" =some tV:=by kernel_rfl
theorem ab1{W:World}(h:laidMetH Tryz.prog ajH W):∃p,fA W tV=some 1/\W.cell? ⟨tV,0,none⟩=some (.iface 129 p):=by
 rw[MakeChecks.laidMetH_plain _ _ _ (by kernel_rfl)]at h;have h2:=(((((h.tail).tail).tail).tail).tail);obtain⟨a,s,hv,_⟩:=laid_sentinel h2 x9 (ti:=79) (by kernel_rfl) Tryz.underlying79 ajT Tryz.underlying129 Tryz.underlying131 rfl rfl Tryz.underlying9 (by kernel_rfl) (by kernel_rfl);exact⟨_,zk x9 hv⟩
theorem aag:Tryz.prog.globalNamed "strconv.ErrRange" =some tU:=by kernel_rfl
theorem aeg{W:World}(h:laidMetH Tryz.prog ajH W):∃p,fA W tU=some 1/\W.cell? ⟨tU,0,none⟩=some (.iface 129 p):=by
 rw[MakeChecks.laidMetH_plain _ _ _ (by kernel_rfl)]at h;have h2:=((((h.tail).tail).tail).tail);obtain⟨a,s,hv,_⟩:=laid_sentinel h2 aag (ti:=79) (by kernel_rfl) Tryz.underlying79 ajT Tryz.underlying129 Tryz.underlying131 rfl rfl Tryz.underlying9 (by kernel_rfl) (by kernel_rfl);exact⟨_,zk aag hv⟩
theorem ajI{W:World}(h:laidMetH Tryz.prog ajH W):(∀p∈k9,W.cell? ⟨p.1,p.2.1,none⟩=some p.2.2)/\∀q∈kK,fA W q.1=some q.2/\∃v,ah4 W q.1 0=some v/\adq q.1 v=true:=by
 have ht:=table h;have hc:∀i,i<20->W.cell? ⟨ui,i,none⟩=some (.int .u64 (Lib.pow10Tab.getD i 0)):=λ i hi=>ht.cell asd i (by rw[Lib.pow10Tab_length];exact hi)
 constructor
 ·intro p hp;have he:k9=(List.range 20).map λ i=>(ui,i,Value.int .u64 (Lib.pow10Tab.getD i 0)):=by kernel_rfl
  rw[he,List.mem_map]at hp;obtain⟨i,hi,rfl⟩:=hp;exact hc i (List.mem_range.1 hi)
 ·intro q hq;have he:kK= [(ui,20),(tV,1),(tU,1)]:=rfl;rw[he]at hq;simp only[List.mem_cons,List.not_mem_nil,or_false]at hq;rcases hq with rfl|rfl|rfl;rotate_left
  ·obtain⟨p,h1,h2⟩:=ab1 h;exact⟨h1,_,h2,rfl⟩
  ·obtain⟨p,h1,h2⟩:=aeg h;exact⟨h1,_,h2,rfl⟩
  refine⟨?_,_,hc 0 (by omega),rfl⟩;unfold Lib.TabIs World.var? at ht;rw[asd]at ht;simp only[bind_some]at ht;unfold fA
  split at ht
  ·rename_i hz;rw[hz];simp only[Option.some.injEq]at ht;subst ht;simp[Lib.pow10Tab]
  ·cases ht
noncomputable def low:Nat:=(World.holding Tryz.prog default ⟨#[],#[],[]⟩).heap.size
noncomputable def tr (os:Os):World:=
 {World.holding Tryz.prog os ⟨#[],#[],[]⟩with heap:=((((((((World.holding Tryz.prog os ⟨#[.cells #[.string ⟨#[118,97,108,117,101,32,111,117,116,32,111,102,32,114,97,110,103,101]⟩] 131,.cells #[.string ⟨#[105,110,118,97,108,105,100,32,115,121,110,116,97,120]⟩] 131],#[],[]⟩).heap.modify 6 λ
  | .cells _ t frozen=> .cells #[.int .u8 0,.int .u8 1,.int .u8 28,.int .u8 2,.int .u8 29,.int .u8 14,.int .u8 24,.int .u8 3,.int .u8 30,.int .u8 22,.int .u8 20,.int .u8 15,.int .u8 25,.int .u8 17,.int .u8 4,.int .u8 8,.int .u8 31,.int .u8 27,.int .u8 13,.int .u8 23,.int .u8 21,.int .u8 19,.int .u8 16,.int .u8 7,.int .u8 26,.int .u8 12,.int .u8 18,.int .u8 6,.int .u8 11,.int .u8 5,.int .u8 10,.int .u8 9] t frozen
  |o=>o).modify 7 λ
  | .cells _ t frozen=> .cells #[.int .u8 0,.int .u8 1,.int .u8 56,.int .u8 2,.int .u8 57,.int .u8 49,.int .u8 28,.int .u8 3,.int .u8 61,.int .u8 58,.int .u8 42,.int .u8 50,.int .u8 38,.int .u8 29,.int .u8 17,.int .u8 4,.int .u8 62,.int .u8 47,.int .u8 59,.int .u8 36,.int .u8 45,.int .u8 43,.int .u8 51,.int .u8 22,.int .u8 53,.int .u8 39,.int .u8 33,.int .u8 30,.int .u8 24,.int .u8 18,.int .u8 12,.int .u8 5,.int .u8 63,.int .u8 55,.int .u8 48,.int .u8 27,.int .u8 60,.int .u8 41,.int .u8 37,.int .u8 16,.int .u8 46,.int .u8 35,.int .u8 44,.int .u8 21,.int .u8 52,.int .u8 32,.int .u8 23,.int .u8 11,.int .u8 54,.int .u8 26,.int .u8 40,.int .u8 15,.int .u8 34,.int .u8 20,.int .u8 31,.int .u8 10,.int .u8 25,.int .u8 14,.int .u8 19,.int .u8 9,.int .u8 13,.int .u8 8,.int .u8 7,.int .u8 6] t frozen
  |o=>o).modify 5 λ
  | .cells _ t frozen=> .cells #[.int .u64 1,.int .u64 10,.int .u64 100,.int .u64 1000,.int .u64 10000,.int .u64 100000,.int .u64 1000000,.int .u64 10000000,.int .u64 100000000,.int .u64 1000000000,.int .u64 10000000000,.int .u64 100000000000,.int .u64 1000000000000,.int .u64 10000000000000,.int .u64 100000000000000,.int .u64 1000000000000000,.int .u64 10000000000000000,.int .u64 100000000000000000,.int .u64 1000000000000000000,.int .u64 10000000000000000000] t frozen
  |o=>o).modify 2 λ
  | .cells _ t frozen=> .cells #[.int .u8 128,.int .u8 191,.int .u8 160,.int .u8 191,.int .u8 128,.int .u8 159,.int .u8 144,.int .u8 191,.int .u8 128,.int .u8 143,.int .u8 0,.int .u8 0,.int .u8 0,.int .u8 0,.int .u8 0,.int .u8 0,.int .u8 0,.int .u8 0,.int .u8 0,.int .u8 0,.int .u8 0,.int .u8 0,.int .u8 0,.int .u8 0,.int .u8 0,.int .u8 0,.int .u8 0,.int .u8 0,.int .u8 0,.int .u8 0,.int .u8 0,.int .u8 0] t frozen
  |o=>o).modify 4 λ
  | .cells _ t frozen=> .cells #[.iface 129 (.pointer (some ⟨low+0,0,none⟩))] t frozen
  |o=>o).modify 3 λ
  | .cells _ t frozen=> .cells #[.iface 129 (.pointer (some ⟨low+1,0,none⟩))] t frozen
  |o=>o).modify 1 λ
  | .cells _ t frozen=> .cells (Go.Pinned.utf8FirstZ.map λ (n:Nat)=>Value.int .u8 (n:Int)).toArray t frozen
  |o=>o)}
end Go.Proofs.YtkinchcjijhmgaaGreatDoor
