/-
  NARROWER THAN 'FOR EVERY INPUT', by the rows' own cells (each row's printed sentence says how): FnExactExpOk: loops · FnExactSameProg: loops · FnExactAlpha: loops · FnExactProgOk: loops.
  DERIVED. THE GIVEN ROWS OF THIS SEAT. 5 by the template 'for every input the law returns true; each argument reads behind the call as it read before'; 0 by the template 'total and deterministic' (their statements: YtaaoifpijmbhoaaTotals.lean).
  GIVEN WITH THE SEED: the statements are not yours to turn. If you find one false, say at which input.
  Laid BY PROGRAM, IN A SANDBOX (cutbox-rows.mjs): the forced cells as the released guide's own fill.sh prints them over the translation 5b74a3d2e2a363b8… (all of the seat's roots in one cut). By AI agents, Wed Nov 11 2026. No macro, syntax, notation, axiom, sorry.
-/
import Derived.Test.YtaaoifpijmbhoaaChecked
import GoSem.Claim
import GoSem.ClaimJoined
import GoSem.ClaimMapViews
import Derived.JoinedTies
import Derived.KernelRfl
namespace Go.Proofs.Ytaaoifpijmbhoaa
/- THE CELL 'sum', in the pinned program and in every row, IS THE sha256 OF THE DUMP (.gsa) THAT YtaaoifpijmbhoaaProg.lean LOADS. Nothing in Lean hashes anything: it is a label: what it is worth is what the hold of that sum in a sandbox is worth. -/
noncomputable def Try.pinned : Pinned := { name := "ytaaoifpijmbhoaa", sum := "5b74a3d2e2a363b884110c46d31ec1d96243897c17d368ee8a8f12d24bc26975", checked := Try.checked }
namespace Rows
def none {H : Type} : Left H := { results := [], args := [] }

/-- 'laws.FnExactCodeOk': WHATEVER THE INPUT: true; the input reads as it did. -/
def fnExactCodeOkSpec : ChangeSpec := { name := "fnExactCodeOk", fn := fun _ => fun
  | [d] => { results := [.lit (.bool true)], args := [d] }
  | _ => none }
def fnExactCodeOkRow : OpenClaim := { program := "ytaaoifpijmbhoaa", sum := "5b74a3d2e2a363b884110c46d31ec1d96243897c17d368ee8a8f12d24bc26975", func := "loop.example/g00080/laws.FnExactCodeOk", spec := "fnExactCodeOk", inPlace := ["internal/bytealg.IndexByteString", "internal/bytealg.IndexString"], unfollowed := true, recurses := true, named := ["internal/bytealg.MaxLen"], apart := false }
def FnExactCodeOkSaid : Prop := fnExactCodeOkRow.holds Try.pinned (OpenSpec.ofChange fnExactCodeOkSpec)

/-- ITS FALSE NEIGHBOUR: 'it returns false'. Refute it at one input. -/
def fnExactCodeOkWrong : ChangeSpec := { name := "fnExactCodeOk", fn := fun _ => fun
  | [d] => { results := [.lit (.bool false)], args := [d] }
  | _ => none }
def FnExactCodeOkWrongFalsely : Prop := fnExactCodeOkRow.holds Try.pinned (OpenSpec.ofChange fnExactCodeOkWrong)

/-- 'laws.FnExactExpOk': WHATEVER THE INPUT: true; the input reads as it did. -/
def fnExactExpOkSpec : ChangeSpec := { name := "fnExactExpOk", fn := fun _ => fun
  | [d] => { results := [.lit (.bool true)], args := [d] }
  | _ => none }
def fnExactExpOkRow : OpenClaim := { program := "ytaaoifpijmbhoaa", sum := "5b74a3d2e2a363b884110c46d31ec1d96243897c17d368ee8a8f12d24bc26975", func := "loop.example/g00080/laws.FnExactExpOk", spec := "fnExactExpOk", unfollowed := true, recurses := true, loops := true, apart := false }
def FnExactExpOkSaid : Prop := fnExactExpOkRow.holds Try.pinned (OpenSpec.ofChange fnExactExpOkSpec)

/-- ITS FALSE NEIGHBOUR: 'it returns false'. Refute it at one input. -/
def fnExactExpOkWrong : ChangeSpec := { name := "fnExactExpOk", fn := fun _ => fun
  | [d] => { results := [.lit (.bool false)], args := [d] }
  | _ => none }
def FnExactExpOkWrongFalsely : Prop := fnExactExpOkRow.holds Try.pinned (OpenSpec.ofChange fnExactExpOkWrong)

/-- 'laws.FnExactSameProg': WHATEVER THE INPUT: true; the input reads as it did. -/
def fnExactSameProgSpec : ChangeSpec := { name := "fnExactSameProg", fn := fun _ => fun
  | [d1, d2] => { results := [.lit (.bool true)], args := [d1, d2] }
  | _ => none }
def fnExactSameProgRow : OpenClaim := { program := "ytaaoifpijmbhoaa", sum := "5b74a3d2e2a363b884110c46d31ec1d96243897c17d368ee8a8f12d24bc26975", func := "loop.example/g00080/laws.FnExactSameProg", spec := "fnExactSameProg", unfollowed := true, recurses := true, loops := true, apart := false }
def FnExactSameProgSaid : Prop := fnExactSameProgRow.holds Try.pinned (OpenSpec.ofChange fnExactSameProgSpec)

/-- ITS FALSE NEIGHBOUR: 'it returns false'. Refute it at one input. -/
def fnExactSameProgWrong : ChangeSpec := { name := "fnExactSameProg", fn := fun _ => fun
  | [d1, d2] => { results := [.lit (.bool false)], args := [d1, d2] }
  | _ => none }
def FnExactSameProgWrongFalsely : Prop := fnExactSameProgRow.holds Try.pinned (OpenSpec.ofChange fnExactSameProgWrong)

/-- 'laws.FnExactAlpha': WHATEVER THE INPUT: true; the input reads as it did. -/
def fnExactAlphaSpec : ChangeSpec := { name := "fnExactAlpha", fn := fun _ => fun
  | [d1, d2] => { results := [.lit (.bool true)], args := [d1, d2] }
  | _ => none }
def fnExactAlphaRow : OpenClaim := { program := "ytaaoifpijmbhoaa", sum := "5b74a3d2e2a363b884110c46d31ec1d96243897c17d368ee8a8f12d24bc26975", func := "loop.example/g00080/laws.FnExactAlpha", spec := "fnExactAlpha", unfollowed := true, recurses := true, loops := true, apart := false }
def FnExactAlphaSaid : Prop := fnExactAlphaRow.holds Try.pinned (OpenSpec.ofChange fnExactAlphaSpec)

/-- ITS FALSE NEIGHBOUR: 'it returns false'. Refute it at one input. -/
def fnExactAlphaWrong : ChangeSpec := { name := "fnExactAlpha", fn := fun _ => fun
  | [d1, d2] => { results := [.lit (.bool false)], args := [d1, d2] }
  | _ => none }
def FnExactAlphaWrongFalsely : Prop := fnExactAlphaRow.holds Try.pinned (OpenSpec.ofChange fnExactAlphaWrong)

/-- 'laws.FnExactProgOk': WHATEVER THE INPUT: true; the input reads as it did. -/
def fnExactProgOkSpec : ChangeSpec := { name := "fnExactProgOk", fn := fun _ => fun
  | [d] => { results := [.lit (.bool true)], args := [d] }
  | _ => none }
def fnExactProgOkRow : OpenClaim := { program := "ytaaoifpijmbhoaa", sum := "5b74a3d2e2a363b884110c46d31ec1d96243897c17d368ee8a8f12d24bc26975", func := "loop.example/g00080/laws.FnExactProgOk", spec := "fnExactProgOk", unfollowed := true, recurses := true, loops := true, apart := false }
def FnExactProgOkSaid : Prop := fnExactProgOkRow.holds Try.pinned (OpenSpec.ofChange fnExactProgOkSpec)

/-- ITS FALSE NEIGHBOUR: 'it returns false'. Refute it at one input. -/
def fnExactProgOkWrong : ChangeSpec := { name := "fnExactProgOk", fn := fun _ => fun
  | [d] => { results := [.lit (.bool false)], args := [d] }
  | _ => none }
def FnExactProgOkWrongFalsely : Prop := fnExactProgOkRow.holds Try.pinned (OpenSpec.ofChange fnExactProgOkWrong)

/- THE SECOND FORM. 'bulk': how many values and letters a reading holds, each counted each time it is reached (what is shared counts as often as it is met; a slice's spare places count too). A statement '..UptoSaid' is the law's where the arguments, and the package variables that the reading takes, are together of bulk at most 1048576: NARROWER than '..Said'. Prove '..Said' where nothing that the law and all that it calls make is longer than what came in: it says more and counts as full. Else prove '..UptoSaid'. A law counts once. -/
mutual
def uptoBulk {H : Type} : DataW H → Nat
  | .lit (.string bytes) => bytes.length + 1
  | .lit _ => 1
  | .nil => 1
  | .ptr d => uptoBulk d + 1
  | .slice elems spare => uptoBulkAll elems + uptoBulkAll spare + 1
  | .agg parts => uptoBulkAll parts + 1
  | .iface _ d => uptoBulk d + 1
  | .map entries => uptoBulkEntries entries + 1
  | .held _ => 1
def uptoBulkAll {H : Type} : List (DataW H) → Nat
  | [] => 0
  | d :: r => uptoBulk d + uptoBulkAll r
def uptoBulkEntries {H : Type} : List (Lit × DataW H) → Nat
  | [] => 0
  | x :: r => uptoBulkEntry x + uptoBulkEntries r
def uptoBulkEntry {H : Type} : Lit × DataW H → Nat
  | (.string bytes, d) => bytes.length + uptoBulk d + 1
  | (_, d) => uptoBulk d + 1
 end
def uptoSmall : (H : Type) → List (DataW H) → Bool := fun _ ds => decide (uptoBulkAll ds ≤ 1048576)
def OpenSpec.upto (s : _root_.Go.ChangeSpec) : _root_.Go.OpenSpec := { _root_.Go.OpenSpec.ofChange s with cond := some uptoSmall }

/-- 'laws.FnExactCodeOk', WHERE WHAT IT READS IS OF BULK AT MOST 1048576: true; the input reads as it did. -/
def fnExactCodeOkUptoRow : OpenClaim := { program := "ytaaoifpijmbhoaa", sum := "5b74a3d2e2a363b884110c46d31ec1d96243897c17d368ee8a8f12d24bc26975", func := "loop.example/g00080/laws.FnExactCodeOk", spec := "fnExactCodeOk", inPlace := ["internal/bytealg.IndexByteString", "internal/bytealg.IndexString"], unfollowed := true, recurses := true, named := ["internal/bytealg.MaxLen"], apart := false, narrowed := true }
def FnExactCodeOkUptoSaid : Prop := fnExactCodeOkUptoRow.holds Try.pinned (OpenSpec.upto fnExactCodeOkSpec)

/-- 'laws.FnExactExpOk', WHERE WHAT IT READS IS OF BULK AT MOST 1048576: true; the input reads as it did. -/
def fnExactExpOkUptoRow : OpenClaim := { program := "ytaaoifpijmbhoaa", sum := "5b74a3d2e2a363b884110c46d31ec1d96243897c17d368ee8a8f12d24bc26975", func := "loop.example/g00080/laws.FnExactExpOk", spec := "fnExactExpOk", unfollowed := true, recurses := true, loops := true, apart := false, narrowed := true }
def FnExactExpOkUptoSaid : Prop := fnExactExpOkUptoRow.holds Try.pinned (OpenSpec.upto fnExactExpOkSpec)

/-- 'laws.FnExactSameProg', WHERE WHAT IT READS IS OF BULK AT MOST 1048576: true; the input reads as it did. -/
def fnExactSameProgUptoRow : OpenClaim := { program := "ytaaoifpijmbhoaa", sum := "5b74a3d2e2a363b884110c46d31ec1d96243897c17d368ee8a8f12d24bc26975", func := "loop.example/g00080/laws.FnExactSameProg", spec := "fnExactSameProg", unfollowed := true, recurses := true, loops := true, apart := false, narrowed := true }
def FnExactSameProgUptoSaid : Prop := fnExactSameProgUptoRow.holds Try.pinned (OpenSpec.upto fnExactSameProgSpec)

/-- 'laws.FnExactAlpha', WHERE WHAT IT READS IS OF BULK AT MOST 1048576: true; the input reads as it did. -/
def fnExactAlphaUptoRow : OpenClaim := { program := "ytaaoifpijmbhoaa", sum := "5b74a3d2e2a363b884110c46d31ec1d96243897c17d368ee8a8f12d24bc26975", func := "loop.example/g00080/laws.FnExactAlpha", spec := "fnExactAlpha", unfollowed := true, recurses := true, loops := true, apart := false, narrowed := true }
def FnExactAlphaUptoSaid : Prop := fnExactAlphaUptoRow.holds Try.pinned (OpenSpec.upto fnExactAlphaSpec)

/-- 'laws.FnExactProgOk', WHERE WHAT IT READS IS OF BULK AT MOST 1048576: true; the input reads as it did. -/
def fnExactProgOkUptoRow : OpenClaim := { program := "ytaaoifpijmbhoaa", sum := "5b74a3d2e2a363b884110c46d31ec1d96243897c17d368ee8a8f12d24bc26975", func := "loop.example/g00080/laws.FnExactProgOk", spec := "fnExactProgOk", unfollowed := true, recurses := true, loops := true, apart := false, narrowed := true }
def FnExactProgOkUptoSaid : Prop := fnExactProgOkUptoRow.holds Try.pinned (OpenSpec.upto fnExactProgOkSpec)

end Rows
end Go.Proofs.Ytaaoifpijmbhoaa
