/-
  NARROWER THAN 'FOR EVERY INPUT', by the rows' own cells (each row's printed sentence says how): FnExactTySize: loops · FnExactSameTy: loops.
  DERIVED. THE GIVEN ROWS OF THIS SEAT. 6 by the template 'for every input the law returns true; each argument reads behind the call as it read before'; 0 by the template 'total and deterministic' (their statements: YtnkpfblgkonpoaaTotals.lean).
  GIVEN WITH THE SEED: the statements are not yours to turn. If you find one false, say at which input.
  Laid BY PROGRAM, IN A SANDBOX (cutbox-rows.mjs): the forced cells as the released guide's own fill.sh prints them over the translation c92c043d1fbd102b… (all of the seat's roots in one cut). By AI agents, Wed Nov 11 2026. No macro, syntax, notation, axiom, sorry.
-/
import Derived.Test.YtnkpfblgkonpoaaChecked
import GoSem.Claim
import GoSem.ClaimJoined
import GoSem.ClaimMapViews
import Derived.JoinedTies
import Derived.KernelRfl
namespace Go.Proofs.Ytnkpfblgkonpoaa
/- THE CELL 'sum', in the pinned program and in every row, IS THE sha256 OF THE DUMP (.gsa) THAT YtnkpfblgkonpoaaProg.lean LOADS. Nothing in Lean hashes anything: it is a label: what it is worth is what the hold of that sum in a sandbox is worth. -/
noncomputable def Try.pinned : Pinned := { name := "ytnkpfblgkonpoaa", sum := "c92c043d1fbd102bd5be2f10872942d51c2ad38017079603a1f0dfbfd46a962d", checked := Try.checked }
namespace Rows
def none {H : Type} : Left H := { results := [], args := [] }

/-- 'laws.FnExactConstants': WHATEVER THE INPUT: true; the input reads as it did. -/
def fnExactConstantsSpec : ChangeSpec := { name := "fnExactConstants", fn := fun _ => fun
  | [] => { results := [.lit (.bool true)], args := [] }
  | _ => none }
def fnExactConstantsRow : OpenClaim := { program := "ytnkpfblgkonpoaa", sum := "c92c043d1fbd102bd5be2f10872942d51c2ad38017079603a1f0dfbfd46a962d", func := "loop.example/g00080/laws.FnExactConstants", spec := "fnExactConstants", apart := false }
def FnExactConstantsSaid : Prop := fnExactConstantsRow.holds Try.pinned (OpenSpec.ofChange fnExactConstantsSpec)

/-- ITS FALSE NEIGHBOUR: 'it returns false'. Refute it at one input. -/
def fnExactConstantsWrong : ChangeSpec := { name := "fnExactConstants", fn := fun _ => fun
  | [] => { results := [.lit (.bool false)], args := [] }
  | _ => none }
def FnExactConstantsWrongFalsely : Prop := fnExactConstantsRow.holds Try.pinned (OpenSpec.ofChange fnExactConstantsWrong)

/-- 'laws.FnExactPutShort': WHATEVER THE INPUT: true; the input reads as it did. -/
def fnExactPutShortSpec : ChangeSpec := { name := "fnExactPutShort", fn := fun _ => fun
  | [d] => { results := [.lit (.bool true)], args := [d] }
  | _ => none }
def fnExactPutShortRow : OpenClaim := { program := "ytnkpfblgkonpoaa", sum := "c92c043d1fbd102bd5be2f10872942d51c2ad38017079603a1f0dfbfd46a962d", func := "loop.example/g00080/laws.FnExactPutShort", spec := "fnExactPutShort", apart := false }
def FnExactPutShortSaid : Prop := fnExactPutShortRow.holds Try.pinned (OpenSpec.ofChange fnExactPutShortSpec)

/-- ITS FALSE NEIGHBOUR: 'it returns false'. Refute it at one input. -/
def fnExactPutShortWrong : ChangeSpec := { name := "fnExactPutShort", fn := fun _ => fun
  | [d] => { results := [.lit (.bool false)], args := [d] }
  | _ => none }
def FnExactPutShortWrongFalsely : Prop := fnExactPutShortRow.holds Try.pinned (OpenSpec.ofChange fnExactPutShortWrong)

/-- 'laws.FnShort': WHATEVER THE INPUT: true; the input reads as it did. -/
def fnShortSpec : ChangeSpec := { name := "fnShort", fn := fun _ => fun
  | [d] => { results := [.lit (.bool true)], args := [d] }
  | _ => none }
def fnShortRow : OpenClaim := { program := "ytnkpfblgkonpoaa", sum := "c92c043d1fbd102bd5be2f10872942d51c2ad38017079603a1f0dfbfd46a962d", func := "loop.example/g00080/laws.FnShort", spec := "fnShort", apart := false }
def FnShortSaid : Prop := fnShortRow.holds Try.pinned (OpenSpec.ofChange fnShortSpec)

/-- ITS FALSE NEIGHBOUR: 'it returns false'. Refute it at one input. -/
def fnShortWrong : ChangeSpec := { name := "fnShort", fn := fun _ => fun
  | [d] => { results := [.lit (.bool false)], args := [d] }
  | _ => none }
def FnShortWrongFalsely : Prop := fnShortRow.holds Try.pinned (OpenSpec.ofChange fnShortWrong)

/-- 'laws.FnExactTySize': WHATEVER THE INPUT: true; the input reads as it did. -/
def fnExactTySizeSpec : ChangeSpec := { name := "fnExactTySize", fn := fun _ => fun
  | [d] => { results := [.lit (.bool true)], args := [d] }
  | _ => none }
def fnExactTySizeRow : OpenClaim := { program := "ytnkpfblgkonpoaa", sum := "c92c043d1fbd102bd5be2f10872942d51c2ad38017079603a1f0dfbfd46a962d", func := "loop.example/g00080/laws.FnExactTySize", spec := "fnExactTySize", recurses := true, loops := true, apart := false }
def FnExactTySizeSaid : Prop := fnExactTySizeRow.holds Try.pinned (OpenSpec.ofChange fnExactTySizeSpec)

/-- ITS FALSE NEIGHBOUR: 'it returns false'. Refute it at one input. -/
def fnExactTySizeWrong : ChangeSpec := { name := "fnExactTySize", fn := fun _ => fun
  | [d] => { results := [.lit (.bool false)], args := [d] }
  | _ => none }
def FnExactTySizeWrongFalsely : Prop := fnExactTySizeRow.holds Try.pinned (OpenSpec.ofChange fnExactTySizeWrong)

/-- 'laws.FnExactGetShort': WHATEVER THE INPUT: true; the input reads as it did. -/
def fnExactGetShortSpec : ChangeSpec := { name := "fnExactGetShort", fn := fun _ => fun
  | [d1, d2] => { results := [.lit (.bool true)], args := [d1, d2] }
  | _ => none }
def fnExactGetShortRow : OpenClaim := { program := "ytnkpfblgkonpoaa", sum := "c92c043d1fbd102bd5be2f10872942d51c2ad38017079603a1f0dfbfd46a962d", func := "loop.example/g00080/laws.FnExactGetShort", spec := "fnExactGetShort", apart := false }
def FnExactGetShortSaid : Prop := fnExactGetShortRow.holds Try.pinned (OpenSpec.ofChange fnExactGetShortSpec)

/-- ITS FALSE NEIGHBOUR: 'it returns false'. Refute it at one input. -/
def fnExactGetShortWrong : ChangeSpec := { name := "fnExactGetShort", fn := fun _ => fun
  | [d1, d2] => { results := [.lit (.bool false)], args := [d1, d2] }
  | _ => none }
def FnExactGetShortWrongFalsely : Prop := fnExactGetShortRow.holds Try.pinned (OpenSpec.ofChange fnExactGetShortWrong)

/-- 'laws.FnExactSameTy': WHATEVER THE INPUT: true; the input reads as it did. -/
def fnExactSameTySpec : ChangeSpec := { name := "fnExactSameTy", fn := fun _ => fun
  | [d1, d2] => { results := [.lit (.bool true)], args := [d1, d2] }
  | _ => none }
def fnExactSameTyRow : OpenClaim := { program := "ytnkpfblgkonpoaa", sum := "c92c043d1fbd102bd5be2f10872942d51c2ad38017079603a1f0dfbfd46a962d", func := "loop.example/g00080/laws.FnExactSameTy", spec := "fnExactSameTy", unfollowed := true, recurses := true, loops := true, apart := false }
def FnExactSameTySaid : Prop := fnExactSameTyRow.holds Try.pinned (OpenSpec.ofChange fnExactSameTySpec)

/-- ITS FALSE NEIGHBOUR: 'it returns false'. Refute it at one input. -/
def fnExactSameTyWrong : ChangeSpec := { name := "fnExactSameTy", fn := fun _ => fun
  | [d1, d2] => { results := [.lit (.bool false)], args := [d1, d2] }
  | _ => none }
def FnExactSameTyWrongFalsely : Prop := fnExactSameTyRow.holds Try.pinned (OpenSpec.ofChange fnExactSameTyWrong)

/- THE SECOND FORM. 'bulk': how many values and letters a reading holds, each counted each time it is reached (what is shared counts as often as it is met; a slice's spare places count too). A statement '..UptoSaid' is the law's where the arguments, and the package variables that the reading takes, are together of bulk at most 1048576: NARROWER than '..Said'. Prove '..Said' where nothing that the law and all that it calls make is longer than what came in: it says more and counts as full. Else prove '..UptoSaid'. A law counts once. -/
mutual
def uptoBulk {H : Type} : DataW H → Nat
  | .lit (.string bytes) => bytes.length + 1
  | .lit _ => 1
  | .nil => 1
  | .ptr d => uptoBulk d + 1
  | .slice elems spare => uptoBulkAll elems + uptoBulkAll spare + 1
  | .agg parts => uptoBulkAll parts + 1
  | .iface _ d => uptoBulk d + 1
  | .map entries => uptoBulkEntries entries + 1
  | .held _ => 1
def uptoBulkAll {H : Type} : List (DataW H) → Nat
  | [] => 0
  | d :: r => uptoBulk d + uptoBulkAll r
def uptoBulkEntries {H : Type} : List (Lit × DataW H) → Nat
  | [] => 0
  | x :: r => uptoBulkEntry x + uptoBulkEntries r
def uptoBulkEntry {H : Type} : Lit × DataW H → Nat
  | (.string bytes, d) => bytes.length + uptoBulk d + 1
  | (_, d) => uptoBulk d + 1
 end
def uptoSmall : (H : Type) → List (DataW H) → Bool := fun _ ds => decide (uptoBulkAll ds ≤ 1048576)
def OpenSpec.upto (s : _root_.Go.ChangeSpec) : _root_.Go.OpenSpec := { _root_.Go.OpenSpec.ofChange s with cond := some uptoSmall }

/-- 'laws.FnExactConstants', WHERE WHAT IT READS IS OF BULK AT MOST 1048576: true; the input reads as it did. -/
def fnExactConstantsUptoRow : OpenClaim := { program := "ytnkpfblgkonpoaa", sum := "c92c043d1fbd102bd5be2f10872942d51c2ad38017079603a1f0dfbfd46a962d", func := "loop.example/g00080/laws.FnExactConstants", spec := "fnExactConstants", apart := false, narrowed := true }
def FnExactConstantsUptoSaid : Prop := fnExactConstantsUptoRow.holds Try.pinned (OpenSpec.upto fnExactConstantsSpec)

/-- 'laws.FnExactPutShort', WHERE WHAT IT READS IS OF BULK AT MOST 1048576: true; the input reads as it did. -/
def fnExactPutShortUptoRow : OpenClaim := { program := "ytnkpfblgkonpoaa", sum := "c92c043d1fbd102bd5be2f10872942d51c2ad38017079603a1f0dfbfd46a962d", func := "loop.example/g00080/laws.FnExactPutShort", spec := "fnExactPutShort", apart := false, narrowed := true }
def FnExactPutShortUptoSaid : Prop := fnExactPutShortUptoRow.holds Try.pinned (OpenSpec.upto fnExactPutShortSpec)

/-- 'laws.FnShort', WHERE WHAT IT READS IS OF BULK AT MOST 1048576: true; the input reads as it did. -/
def fnShortUptoRow : OpenClaim := { program := "ytnkpfblgkonpoaa", sum := "c92c043d1fbd102bd5be2f10872942d51c2ad38017079603a1f0dfbfd46a962d", func := "loop.example/g00080/laws.FnShort", spec := "fnShort", apart := false, narrowed := true }
def FnShortUptoSaid : Prop := fnShortUptoRow.holds Try.pinned (OpenSpec.upto fnShortSpec)

/-- 'laws.FnExactTySize', WHERE WHAT IT READS IS OF BULK AT MOST 1048576: true; the input reads as it did. -/
def fnExactTySizeUptoRow : OpenClaim := { program := "ytnkpfblgkonpoaa", sum := "c92c043d1fbd102bd5be2f10872942d51c2ad38017079603a1f0dfbfd46a962d", func := "loop.example/g00080/laws.FnExactTySize", spec := "fnExactTySize", recurses := true, loops := true, apart := false, narrowed := true }
def FnExactTySizeUptoSaid : Prop := fnExactTySizeUptoRow.holds Try.pinned (OpenSpec.upto fnExactTySizeSpec)

/-- 'laws.FnExactGetShort', WHERE WHAT IT READS IS OF BULK AT MOST 1048576: true; the input reads as it did. -/
def fnExactGetShortUptoRow : OpenClaim := { program := "ytnkpfblgkonpoaa", sum := "c92c043d1fbd102bd5be2f10872942d51c2ad38017079603a1f0dfbfd46a962d", func := "loop.example/g00080/laws.FnExactGetShort", spec := "fnExactGetShort", apart := false, narrowed := true }
def FnExactGetShortUptoSaid : Prop := fnExactGetShortUptoRow.holds Try.pinned (OpenSpec.upto fnExactGetShortSpec)

/-- 'laws.FnExactSameTy', WHERE WHAT IT READS IS OF BULK AT MOST 1048576: true; the input reads as it did. -/
def fnExactSameTyUptoRow : OpenClaim := { program := "ytnkpfblgkonpoaa", sum := "c92c043d1fbd102bd5be2f10872942d51c2ad38017079603a1f0dfbfd46a962d", func := "loop.example/g00080/laws.FnExactSameTy", spec := "fnExactSameTy", unfollowed := true, recurses := true, loops := true, apart := false, narrowed := true }
def FnExactSameTyUptoSaid : Prop := fnExactSameTyUptoRow.holds Try.pinned (OpenSpec.upto fnExactSameTySpec)

end Rows
end Go.Proofs.Ytnkpfblgkonpoaa
