/-
  NARROWER THAN 'FOR EVERY INPUT', by the rows' own cells (each row's printed sentence says how): FnExactFree: loops · FnExactPut: loops · FnExactAlpha: loops · FnExactUnify: loops.
  DERIVED. THE GIVEN ROWS OF THIS SEAT. 6 by the template 'for every input the law returns true; each argument reads behind the call as it read before'; 0 by the template 'total and deterministic' (their statements: YtbejmmfalfjinaaTotals.lean).
  GIVEN WITH THE SEED: the statements are not yours to turn. If you find one false, say at which input.
  Laid BY PROGRAM, IN A SANDBOX (cutbox-rows.mjs): the forced cells as the released guide's own fill.sh prints them over the translation 8bae58e727cf3483… (all of the seat's roots in one cut). By AI agents, Wed Nov 11 2026. No macro, syntax, notation, axiom, sorry.
-/
import Derived.Test.YtbejmmfalfjinaaChecked
import GoSem.Claim
import GoSem.ClaimJoined
import GoSem.ClaimMapViews
import Derived.JoinedTies
import Derived.KernelRfl
namespace Go.Proofs.Ytbejmmfalfjinaa
/- THE CELL 'sum', in the pinned program and in every row, IS THE sha256 OF THE DUMP (.gsa) THAT YtbejmmfalfjinaaProg.lean LOADS. Nothing in Lean hashes anything: it is a label: what it is worth is what the hold of that sum in a sandbox is worth. -/
noncomputable def Try.pinned : Pinned := { name := "ytbejmmfalfjinaa", sum := "8bae58e727cf34832e813543cc52f3db3f7e4ceecb4dc170659de51a0df58bed", checked := Try.checked }
namespace Rows
def none {H : Type} : Left H := { results := [], args := [] }

/-- 'laws.FnExactStats': WHATEVER THE INPUT: true; the input reads as it did. -/
def fnExactStatsSpec : ChangeSpec := { name := "fnExactStats", fn := fun _ => fun
  | [d] => { results := [.lit (.bool true)], args := [d] }
  | _ => none }
def fnExactStatsRow : OpenClaim := { program := "ytbejmmfalfjinaa", sum := "8bae58e727cf34832e813543cc52f3db3f7e4ceecb4dc170659de51a0df58bed", func := "loop.example/g00080/laws.FnExactStats", spec := "fnExactStats", apart := false }
def FnExactStatsSaid : Prop := fnExactStatsRow.holds Try.pinned (OpenSpec.ofChange fnExactStatsSpec)

/-- ITS FALSE NEIGHBOUR: 'it returns false'. Refute it at one input. -/
def fnExactStatsWrong : ChangeSpec := { name := "fnExactStats", fn := fun _ => fun
  | [d] => { results := [.lit (.bool false)], args := [d] }
  | _ => none }
def FnExactStatsWrongFalsely : Prop := fnExactStatsRow.holds Try.pinned (OpenSpec.ofChange fnExactStatsWrong)

/-- 'laws.FnRenamed': WHATEVER THE INPUT: true; the input reads as it did. -/
def fnRenamedSpec : ChangeSpec := { name := "fnRenamed", fn := fun _ => fun
  | [d] => { results := [.lit (.bool true)], args := [d] }
  | _ => none }
def fnRenamedRow : OpenClaim := { program := "ytbejmmfalfjinaa", sum := "8bae58e727cf34832e813543cc52f3db3f7e4ceecb4dc170659de51a0df58bed", func := "loop.example/g00080/laws.FnRenamed", spec := "fnRenamed", unfollowed := true, recurses := true, apart := false }
def FnRenamedSaid : Prop := fnRenamedRow.holds Try.pinned (OpenSpec.ofChange fnRenamedSpec)

/-- ITS FALSE NEIGHBOUR: 'it returns false'. Refute it at one input. -/
def fnRenamedWrong : ChangeSpec := { name := "fnRenamed", fn := fun _ => fun
  | [d] => { results := [.lit (.bool false)], args := [d] }
  | _ => none }
def FnRenamedWrongFalsely : Prop := fnRenamedRow.holds Try.pinned (OpenSpec.ofChange fnRenamedWrong)

/-- 'laws.FnExactFree': WHATEVER THE INPUT: true; the input reads as it did. -/
def fnExactFreeSpec : ChangeSpec := { name := "fnExactFree", fn := fun _ => fun
  | [d1, d2] => { results := [.lit (.bool true)], args := [d1, d2] }
  | _ => none }
def fnExactFreeRow : OpenClaim := { program := "ytbejmmfalfjinaa", sum := "8bae58e727cf34832e813543cc52f3db3f7e4ceecb4dc170659de51a0df58bed", func := "loop.example/g00080/laws.FnExactFree", spec := "fnExactFree", unfollowed := true, recurses := true, loops := true, apart := false }
def FnExactFreeSaid : Prop := fnExactFreeRow.holds Try.pinned (OpenSpec.ofChange fnExactFreeSpec)

/-- ITS FALSE NEIGHBOUR: 'it returns false'. Refute it at one input. -/
def fnExactFreeWrong : ChangeSpec := { name := "fnExactFree", fn := fun _ => fun
  | [d1, d2] => { results := [.lit (.bool false)], args := [d1, d2] }
  | _ => none }
def FnExactFreeWrongFalsely : Prop := fnExactFreeRow.holds Try.pinned (OpenSpec.ofChange fnExactFreeWrong)

/-- 'laws.FnExactPut': WHATEVER THE INPUT: true; the input reads as it did. -/
def fnExactPutSpec : ChangeSpec := { name := "fnExactPut", fn := fun _ => fun
  | [d1, d2, d3] => { results := [.lit (.bool true)], args := [d1, d2, d3] }
  | _ => none }
def fnExactPutRow : OpenClaim := { program := "ytbejmmfalfjinaa", sum := "8bae58e727cf34832e813543cc52f3db3f7e4ceecb4dc170659de51a0df58bed", func := "loop.example/g00080/laws.FnExactPut", spec := "fnExactPut", unfollowed := true, recurses := true, loops := true, apart := false }
def FnExactPutSaid : Prop := fnExactPutRow.holds Try.pinned (OpenSpec.ofChange fnExactPutSpec)

/-- ITS FALSE NEIGHBOUR: 'it returns false'. Refute it at one input. -/
def fnExactPutWrong : ChangeSpec := { name := "fnExactPut", fn := fun _ => fun
  | [d1, d2, d3] => { results := [.lit (.bool false)], args := [d1, d2, d3] }
  | _ => none }
def FnExactPutWrongFalsely : Prop := fnExactPutRow.holds Try.pinned (OpenSpec.ofChange fnExactPutWrong)

/-- 'laws.FnExactAlpha': WHATEVER THE INPUT: true; the input reads as it did. -/
def fnExactAlphaSpec : ChangeSpec := { name := "fnExactAlpha", fn := fun _ => fun
  | [d1, d2] => { results := [.lit (.bool true)], args := [d1, d2] }
  | _ => none }
def fnExactAlphaRow : OpenClaim := { program := "ytbejmmfalfjinaa", sum := "8bae58e727cf34832e813543cc52f3db3f7e4ceecb4dc170659de51a0df58bed", func := "loop.example/g00080/laws.FnExactAlpha", spec := "fnExactAlpha", unfollowed := true, recurses := true, loops := true, apart := false }
def FnExactAlphaSaid : Prop := fnExactAlphaRow.holds Try.pinned (OpenSpec.ofChange fnExactAlphaSpec)

/-- ITS FALSE NEIGHBOUR: 'it returns false'. Refute it at one input. -/
def fnExactAlphaWrong : ChangeSpec := { name := "fnExactAlpha", fn := fun _ => fun
  | [d1, d2] => { results := [.lit (.bool false)], args := [d1, d2] }
  | _ => none }
def FnExactAlphaWrongFalsely : Prop := fnExactAlphaRow.holds Try.pinned (OpenSpec.ofChange fnExactAlphaWrong)

/-- 'laws.FnExactUnify': WHATEVER THE INPUT: true; the input reads as it did. -/
def fnExactUnifySpec : ChangeSpec := { name := "fnExactUnify", fn := fun _ => fun
  | [d1, d2, d3] => { results := [.lit (.bool true)], args := [d1, d2, d3] }
  | _ => none }
def fnExactUnifyRow : OpenClaim := { program := "ytbejmmfalfjinaa", sum := "8bae58e727cf34832e813543cc52f3db3f7e4ceecb4dc170659de51a0df58bed", func := "loop.example/g00080/laws.FnExactUnify", spec := "fnExactUnify", unfollowed := true, recurses := true, loops := true, apart := false }
def FnExactUnifySaid : Prop := fnExactUnifyRow.holds Try.pinned (OpenSpec.ofChange fnExactUnifySpec)

/-- ITS FALSE NEIGHBOUR: 'it returns false'. Refute it at one input. -/
def fnExactUnifyWrong : ChangeSpec := { name := "fnExactUnify", fn := fun _ => fun
  | [d1, d2, d3] => { results := [.lit (.bool false)], args := [d1, d2, d3] }
  | _ => none }
def FnExactUnifyWrongFalsely : Prop := fnExactUnifyRow.holds Try.pinned (OpenSpec.ofChange fnExactUnifyWrong)

/- THE SECOND FORM. 'bulk': how many values and letters a reading holds, each counted each time it is reached (what is shared counts as often as it is met; a slice's spare places count too). A statement '..UptoSaid' is the law's where the arguments, and the package variables that the reading takes, are together of bulk at most 1048576: NARROWER than '..Said'. Prove '..Said' where nothing that the law and all that it calls make is longer than what came in: it says more and counts as full. Else prove '..UptoSaid'. A law counts once. -/
mutual
def uptoBulk {H : Type} : DataW H → Nat
  | .lit (.string bytes) => bytes.length + 1
  | .lit _ => 1
  | .nil => 1
  | .ptr d => uptoBulk d + 1
  | .slice elems spare => uptoBulkAll elems + uptoBulkAll spare + 1
  | .agg parts => uptoBulkAll parts + 1
  | .iface _ d => uptoBulk d + 1
  | .map entries => uptoBulkEntries entries + 1
  | .held _ => 1
def uptoBulkAll {H : Type} : List (DataW H) → Nat
  | [] => 0
  | d :: r => uptoBulk d + uptoBulkAll r
def uptoBulkEntries {H : Type} : List (Lit × DataW H) → Nat
  | [] => 0
  | x :: r => uptoBulkEntry x + uptoBulkEntries r
def uptoBulkEntry {H : Type} : Lit × DataW H → Nat
  | (.string bytes, d) => bytes.length + uptoBulk d + 1
  | (_, d) => uptoBulk d + 1
 end
def uptoSmall : (H : Type) → List (DataW H) → Bool := fun _ ds => decide (uptoBulkAll ds ≤ 1048576)
def OpenSpec.upto (s : _root_.Go.ChangeSpec) : _root_.Go.OpenSpec := { _root_.Go.OpenSpec.ofChange s with cond := some uptoSmall }

/-- 'laws.FnExactStats', WHERE WHAT IT READS IS OF BULK AT MOST 1048576: true; the input reads as it did. -/
def fnExactStatsUptoRow : OpenClaim := { program := "ytbejmmfalfjinaa", sum := "8bae58e727cf34832e813543cc52f3db3f7e4ceecb4dc170659de51a0df58bed", func := "loop.example/g00080/laws.FnExactStats", spec := "fnExactStats", apart := false, narrowed := true }
def FnExactStatsUptoSaid : Prop := fnExactStatsUptoRow.holds Try.pinned (OpenSpec.upto fnExactStatsSpec)

/-- 'laws.FnRenamed', WHERE WHAT IT READS IS OF BULK AT MOST 1048576: true; the input reads as it did. -/
def fnRenamedUptoRow : OpenClaim := { program := "ytbejmmfalfjinaa", sum := "8bae58e727cf34832e813543cc52f3db3f7e4ceecb4dc170659de51a0df58bed", func := "loop.example/g00080/laws.FnRenamed", spec := "fnRenamed", unfollowed := true, recurses := true, apart := false, narrowed := true }
def FnRenamedUptoSaid : Prop := fnRenamedUptoRow.holds Try.pinned (OpenSpec.upto fnRenamedSpec)

/-- 'laws.FnExactFree', WHERE WHAT IT READS IS OF BULK AT MOST 1048576: true; the input reads as it did. -/
def fnExactFreeUptoRow : OpenClaim := { program := "ytbejmmfalfjinaa", sum := "8bae58e727cf34832e813543cc52f3db3f7e4ceecb4dc170659de51a0df58bed", func := "loop.example/g00080/laws.FnExactFree", spec := "fnExactFree", unfollowed := true, recurses := true, loops := true, apart := false, narrowed := true }
def FnExactFreeUptoSaid : Prop := fnExactFreeUptoRow.holds Try.pinned (OpenSpec.upto fnExactFreeSpec)

/-- 'laws.FnExactPut', WHERE WHAT IT READS IS OF BULK AT MOST 1048576: true; the input reads as it did. -/
def fnExactPutUptoRow : OpenClaim := { program := "ytbejmmfalfjinaa", sum := "8bae58e727cf34832e813543cc52f3db3f7e4ceecb4dc170659de51a0df58bed", func := "loop.example/g00080/laws.FnExactPut", spec := "fnExactPut", unfollowed := true, recurses := true, loops := true, apart := false, narrowed := true }
def FnExactPutUptoSaid : Prop := fnExactPutUptoRow.holds Try.pinned (OpenSpec.upto fnExactPutSpec)

/-- 'laws.FnExactAlpha', WHERE WHAT IT READS IS OF BULK AT MOST 1048576: true; the input reads as it did. -/
def fnExactAlphaUptoRow : OpenClaim := { program := "ytbejmmfalfjinaa", sum := "8bae58e727cf34832e813543cc52f3db3f7e4ceecb4dc170659de51a0df58bed", func := "loop.example/g00080/laws.FnExactAlpha", spec := "fnExactAlpha", unfollowed := true, recurses := true, loops := true, apart := false, narrowed := true }
def FnExactAlphaUptoSaid : Prop := fnExactAlphaUptoRow.holds Try.pinned (OpenSpec.upto fnExactAlphaSpec)

/-- 'laws.FnExactUnify', WHERE WHAT IT READS IS OF BULK AT MOST 1048576: true; the input reads as it did. -/
def fnExactUnifyUptoRow : OpenClaim := { program := "ytbejmmfalfjinaa", sum := "8bae58e727cf34832e813543cc52f3db3f7e4ceecb4dc170659de51a0df58bed", func := "loop.example/g00080/laws.FnExactUnify", spec := "fnExactUnify", unfollowed := true, recurses := true, loops := true, apart := false, narrowed := true }
def FnExactUnifyUptoSaid : Prop := fnExactUnifyUptoRow.holds Try.pinned (OpenSpec.upto fnExactUnifySpec)

end Rows
end Go.Proofs.Ytbejmmfalfjinaa
