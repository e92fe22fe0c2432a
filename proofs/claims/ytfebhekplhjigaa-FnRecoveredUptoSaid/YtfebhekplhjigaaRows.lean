/-
  NARROWER THAN 'FOR EVERY INPUT', by the rows' own cells (each row's printed sentence says how): FnExactPrincipal: loops · FnExactUnify: loops.
  DERIVED. THE GIVEN ROWS OF THIS SEAT. 4 by the template 'for every input the law returns true; each argument reads behind the call as it read before'; 0 by the template 'total and deterministic' (their statements: YtfebhekplhjigaaTotals.lean).
  GIVEN WITH THE SEED: the statements are not yours to turn. If you find one false, say at which input.
  Laid BY PROGRAM, IN A SANDBOX (cutbox-rows.mjs): the forced cells as the released guide's own fill.sh prints them over the translation 5ad5186f50c5cc7f… (all of the seat's roots in one cut). By AI agents, Wed Nov 11 2026. No macro, syntax, notation, axiom, sorry.
-/
import Derived.Test.YtfebhekplhjigaaChecked
import GoSem.Claim
import GoSem.ClaimJoined
import GoSem.ClaimMapViews
import Derived.JoinedTies
import Derived.KernelRfl
namespace Go.Proofs.Ytfebhekplhjigaa
/- THE CELL 'sum', in the pinned program and in every row, IS THE sha256 OF THE DUMP (.gsa) THAT YtfebhekplhjigaaProg.lean LOADS. Nothing in Lean hashes anything: it is a label: what it is worth is what the hold of that sum in a sandbox is worth. -/
noncomputable def Try.pinned : Pinned := { name := "ytfebhekplhjigaa", sum := "5ad5186f50c5cc7f510733880c0e7b4c0c51b812d5263ad5ce79ec018cfaf52b", checked := Try.checked }
namespace Rows
def none {H : Type} : Left H := { results := [], args := [] }

/-- 'laws.FnExactPrincipal': WHATEVER THE INPUT: true; the input reads as it did. -/
def fnExactPrincipalSpec : ChangeSpec := { name := "fnExactPrincipal", fn := fun _ => fun
  | [d1, d2] => { results := [.lit (.bool true)], args := [d1, d2] }
  | _ => none }
def fnExactPrincipalRow : OpenClaim := { program := "ytfebhekplhjigaa", sum := "5ad5186f50c5cc7f510733880c0e7b4c0c51b812d5263ad5ce79ec018cfaf52b", func := "loop.example/g00080/laws.FnExactPrincipal", spec := "fnExactPrincipal", unfollowed := true, recurses := true, loops := true, apart := false }
def FnExactPrincipalSaid : Prop := fnExactPrincipalRow.holds Try.pinned (OpenSpec.ofChange fnExactPrincipalSpec)

/-- ITS FALSE NEIGHBOUR: 'it returns false'. Refute it at one input. -/
def fnExactPrincipalWrong : ChangeSpec := { name := "fnExactPrincipal", fn := fun _ => fun
  | [d1, d2] => { results := [.lit (.bool false)], args := [d1, d2] }
  | _ => none }
def FnExactPrincipalWrongFalsely : Prop := fnExactPrincipalRow.holds Try.pinned (OpenSpec.ofChange fnExactPrincipalWrong)

/-- 'laws.FnRecovered': WHATEVER THE INPUT: true; the input reads as it did. -/
def fnRecoveredSpec : ChangeSpec := { name := "fnRecovered", fn := fun _ => fun
  | [d] => { results := [.lit (.bool true)], args := [d] }
  | _ => none }
def fnRecoveredRow : OpenClaim := { program := "ytfebhekplhjigaa", sum := "5ad5186f50c5cc7f510733880c0e7b4c0c51b812d5263ad5ce79ec018cfaf52b", func := "loop.example/g00080/laws.FnRecovered", spec := "fnRecovered", unfollowed := true, recurses := true, apart := false }
def FnRecoveredSaid : Prop := fnRecoveredRow.holds Try.pinned (OpenSpec.ofChange fnRecoveredSpec)

/-- ITS FALSE NEIGHBOUR: 'it returns false'. Refute it at one input. -/
def fnRecoveredWrong : ChangeSpec := { name := "fnRecovered", fn := fun _ => fun
  | [d] => { results := [.lit (.bool false)], args := [d] }
  | _ => none }
def FnRecoveredWrongFalsely : Prop := fnRecoveredRow.holds Try.pinned (OpenSpec.ofChange fnRecoveredWrong)

/-- 'laws.FnExactUnify': WHATEVER THE INPUT: true; the input reads as it did. -/
def fnExactUnifySpec : ChangeSpec := { name := "fnExactUnify", fn := fun _ => fun
  | [d1, d2, d3] => { results := [.lit (.bool true)], args := [d1, d2, d3] }
  | _ => none }
def fnExactUnifyRow : OpenClaim := { program := "ytfebhekplhjigaa", sum := "5ad5186f50c5cc7f510733880c0e7b4c0c51b812d5263ad5ce79ec018cfaf52b", func := "loop.example/g00080/laws.FnExactUnify", spec := "fnExactUnify", unfollowed := true, recurses := true, loops := true, apart := false }
def FnExactUnifySaid : Prop := fnExactUnifyRow.holds Try.pinned (OpenSpec.ofChange fnExactUnifySpec)

/-- ITS FALSE NEIGHBOUR: 'it returns false'. Refute it at one input. -/
def fnExactUnifyWrong : ChangeSpec := { name := "fnExactUnify", fn := fun _ => fun
  | [d1, d2, d3] => { results := [.lit (.bool false)], args := [d1, d2, d3] }
  | _ => none }
def FnExactUnifyWrongFalsely : Prop := fnExactUnifyRow.holds Try.pinned (OpenSpec.ofChange fnExactUnifyWrong)

/-- 'laws.FnUnified': WHATEVER THE INPUT: true; the input reads as it did. -/
def fnUnifiedSpec : ChangeSpec := { name := "fnUnified", fn := fun _ => fun
  | [d] => { results := [.lit (.bool true)], args := [d] }
  | _ => none }
def fnUnifiedRow : OpenClaim := { program := "ytfebhekplhjigaa", sum := "5ad5186f50c5cc7f510733880c0e7b4c0c51b812d5263ad5ce79ec018cfaf52b", func := "loop.example/g00080/laws.FnUnified", spec := "fnUnified", unfollowed := true, recurses := true, apart := false }
def FnUnifiedSaid : Prop := fnUnifiedRow.holds Try.pinned (OpenSpec.ofChange fnUnifiedSpec)

/-- ITS FALSE NEIGHBOUR: 'it returns false'. Refute it at one input. -/
def fnUnifiedWrong : ChangeSpec := { name := "fnUnified", fn := fun _ => fun
  | [d] => { results := [.lit (.bool false)], args := [d] }
  | _ => none }
def FnUnifiedWrongFalsely : Prop := fnUnifiedRow.holds Try.pinned (OpenSpec.ofChange fnUnifiedWrong)

/- THE SECOND FORM. 'bulk': how many values and letters a reading holds, each counted each time it is reached (what is shared counts as often as it is met; a slice's spare places count too). A statement '..UptoSaid' is the law's where the arguments, and the package variables that the reading takes, are together of bulk at most 1048576: NARROWER than '..Said'. Prove '..Said' where nothing that the law and all that it calls make is longer than what came in: it says more and counts as full. Else prove '..UptoSaid'. A law counts once. -/
mutual
def uptoBulk {H : Type} : DataW H → Nat
  | .lit (.string bytes) => bytes.length + 1
  | .lit _ => 1
  | .nil => 1
  | .ptr d => uptoBulk d + 1
  | .slice elems spare => uptoBulkAll elems + uptoBulkAll spare + 1
  | .agg parts => uptoBulkAll parts + 1
  | .iface _ d => uptoBulk d + 1
  | .map entries => uptoBulkEntries entries + 1
  | .held _ => 1
def uptoBulkAll {H : Type} : List (DataW H) → Nat
  | [] => 0
  | d :: r => uptoBulk d + uptoBulkAll r
def uptoBulkEntries {H : Type} : List (Lit × DataW H) → Nat
  | [] => 0
  | x :: r => uptoBulkEntry x + uptoBulkEntries r
def uptoBulkEntry {H : Type} : Lit × DataW H → Nat
  | (.string bytes, d) => bytes.length + uptoBulk d + 1
  | (_, d) => uptoBulk d + 1
 end
def uptoSmall : (H : Type) → List (DataW H) → Bool := fun _ ds => decide (uptoBulkAll ds ≤ 1048576)
def OpenSpec.upto (s : _root_.Go.ChangeSpec) : _root_.Go.OpenSpec := { _root_.Go.OpenSpec.ofChange s with cond := some uptoSmall }

/-- 'laws.FnExactPrincipal', WHERE WHAT IT READS IS OF BULK AT MOST 1048576: true; the input reads as it did. -/
def fnExactPrincipalUptoRow : OpenClaim := { program := "ytfebhekplhjigaa", sum := "5ad5186f50c5cc7f510733880c0e7b4c0c51b812d5263ad5ce79ec018cfaf52b", func := "loop.example/g00080/laws.FnExactPrincipal", spec := "fnExactPrincipal", unfollowed := true, recurses := true, loops := true, apart := false, narrowed := true }
def FnExactPrincipalUptoSaid : Prop := fnExactPrincipalUptoRow.holds Try.pinned (OpenSpec.upto fnExactPrincipalSpec)

/-- 'laws.FnRecovered', WHERE WHAT IT READS IS OF BULK AT MOST 1048576: true; the input reads as it did. -/
def fnRecoveredUptoRow : OpenClaim := { program := "ytfebhekplhjigaa", sum := "5ad5186f50c5cc7f510733880c0e7b4c0c51b812d5263ad5ce79ec018cfaf52b", func := "loop.example/g00080/laws.FnRecovered", spec := "fnRecovered", unfollowed := true, recurses := true, apart := false, narrowed := true }
def FnRecoveredUptoSaid : Prop := fnRecoveredUptoRow.holds Try.pinned (OpenSpec.upto fnRecoveredSpec)

/-- 'laws.FnExactUnify', WHERE WHAT IT READS IS OF BULK AT MOST 1048576: true; the input reads as it did. -/
def fnExactUnifyUptoRow : OpenClaim := { program := "ytfebhekplhjigaa", sum := "5ad5186f50c5cc7f510733880c0e7b4c0c51b812d5263ad5ce79ec018cfaf52b", func := "loop.example/g00080/laws.FnExactUnify", spec := "fnExactUnify", unfollowed := true, recurses := true, loops := true, apart := false, narrowed := true }
def FnExactUnifyUptoSaid : Prop := fnExactUnifyUptoRow.holds Try.pinned (OpenSpec.upto fnExactUnifySpec)

/-- 'laws.FnUnified', WHERE WHAT IT READS IS OF BULK AT MOST 1048576: true; the input reads as it did. -/
def fnUnifiedUptoRow : OpenClaim := { program := "ytfebhekplhjigaa", sum := "5ad5186f50c5cc7f510733880c0e7b4c0c51b812d5263ad5ce79ec018cfaf52b", func := "loop.example/g00080/laws.FnUnified", spec := "fnUnified", unfollowed := true, recurses := true, apart := false, narrowed := true }
def FnUnifiedUptoSaid : Prop := fnUnifiedUptoRow.holds Try.pinned (OpenSpec.upto fnUnifiedSpec)

end Rows
end Go.Proofs.Ytfebhekplhjigaa
