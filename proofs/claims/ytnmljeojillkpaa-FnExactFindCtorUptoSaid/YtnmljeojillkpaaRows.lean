/-
  NARROWER THAN 'FOR EVERY INPUT', by the rows' own cells (each row's printed sentence says how): FnExactTyOk: loops · FnExactFindCtor: loops · FnExactKSize: loops · FnExactExpSize: loops · FnExactFree: loops · FnExactPut: loops · FnExactPrincipal: loops · FnExactCoreSize: loops · FnExactCoreValue: loops.
  DERIVED. THE GIVEN ROWS OF THIS SEAT. 12 by the template 'for every input the law returns true; each argument reads behind the call as it read before'; 0 by the template 'total and deterministic' (their statements: YtnmljeojillkpaaTotals.lean).
  GIVEN WITH THE SEED: the statements are not yours to turn. If you find one false, say at which input.
  Laid BY PROGRAM, IN A SANDBOX (cutbox-rows.mjs): the forced cells as the released guide's own fill.sh prints them over the translation abab78aacb3e9906… (all of the seat's roots in one cut). By AI agents, Wed Nov 11 2026. No macro, syntax, notation, axiom, sorry.
-/
import Derived.Test.YtnmljeojillkpaaChecked
import GoSem.Claim
import GoSem.ClaimJoined
import GoSem.ClaimMapViews
import Derived.JoinedTies
import Derived.KernelRfl
namespace Go.Proofs.Ytnmljeojillkpaa
/- THE CELL 'sum', in the pinned program and in every row, IS THE sha256 OF THE DUMP (.gsa) THAT YtnmljeojillkpaaProg.lean LOADS. Nothing in Lean hashes anything: it is a label: what it is worth is what the hold of that sum in a sandbox is worth. -/
noncomputable def Try.pinned : Pinned := { name := "ytnmljeojillkpaa", sum := "abab78aacb3e990695199bb50b7ee60bb5eb1e8cee698ba0a13a1b05802e880b", checked := Try.checked }
namespace Rows
def none {H : Type} : Left H := { results := [], args := [] }

/-- 'laws.FnExactTokenOk': WHATEVER THE INPUT: true; the input reads as it did. -/
def fnExactTokenOkSpec : ChangeSpec := { name := "fnExactTokenOk", fn := fun _ => fun
  | [d] => { results := [.lit (.bool true)], args := [d] }
  | _ => none }
def fnExactTokenOkRow : OpenClaim := { program := "ytnmljeojillkpaa", sum := "abab78aacb3e990695199bb50b7ee60bb5eb1e8cee698ba0a13a1b05802e880b", func := "loop.example/g00080/laws.FnExactTokenOk", spec := "fnExactTokenOk", unfollowed := true, recurses := true, apart := false }
def FnExactTokenOkSaid : Prop := fnExactTokenOkRow.holds Try.pinned (OpenSpec.ofChange fnExactTokenOkSpec)

/-- ITS FALSE NEIGHBOUR: 'it returns false'. Refute it at one input. -/
def fnExactTokenOkWrong : ChangeSpec := { name := "fnExactTokenOk", fn := fun _ => fun
  | [d] => { results := [.lit (.bool false)], args := [d] }
  | _ => none }
def FnExactTokenOkWrongFalsely : Prop := fnExactTokenOkRow.holds Try.pinned (OpenSpec.ofChange fnExactTokenOkWrong)

/-- 'laws.FnExactStats': WHATEVER THE INPUT: true; the input reads as it did. -/
def fnExactStatsSpec : ChangeSpec := { name := "fnExactStats", fn := fun _ => fun
  | [d] => { results := [.lit (.bool true)], args := [d] }
  | _ => none }
def fnExactStatsRow : OpenClaim := { program := "ytnmljeojillkpaa", sum := "abab78aacb3e990695199bb50b7ee60bb5eb1e8cee698ba0a13a1b05802e880b", func := "loop.example/g00080/laws.FnExactStats", spec := "fnExactStats", apart := false }
def FnExactStatsSaid : Prop := fnExactStatsRow.holds Try.pinned (OpenSpec.ofChange fnExactStatsSpec)

/-- ITS FALSE NEIGHBOUR: 'it returns false'. Refute it at one input. -/
def fnExactStatsWrong : ChangeSpec := { name := "fnExactStats", fn := fun _ => fun
  | [d] => { results := [.lit (.bool false)], args := [d] }
  | _ => none }
def FnExactStatsWrongFalsely : Prop := fnExactStatsRow.holds Try.pinned (OpenSpec.ofChange fnExactStatsWrong)

/-- 'laws.FnExactTyOk': WHATEVER THE INPUT: true; the input reads as it did. -/
def fnExactTyOkSpec : ChangeSpec := { name := "fnExactTyOk", fn := fun _ => fun
  | [d] => { results := [.lit (.bool true)], args := [d] }
  | _ => none }
def fnExactTyOkRow : OpenClaim := { program := "ytnmljeojillkpaa", sum := "abab78aacb3e990695199bb50b7ee60bb5eb1e8cee698ba0a13a1b05802e880b", func := "loop.example/g00080/laws.FnExactTyOk", spec := "fnExactTyOk", unfollowed := true, recurses := true, loops := true, apart := false }
def FnExactTyOkSaid : Prop := fnExactTyOkRow.holds Try.pinned (OpenSpec.ofChange fnExactTyOkSpec)

/-- ITS FALSE NEIGHBOUR: 'it returns false'. Refute it at one input. -/
def fnExactTyOkWrong : ChangeSpec := { name := "fnExactTyOk", fn := fun _ => fun
  | [d] => { results := [.lit (.bool false)], args := [d] }
  | _ => none }
def FnExactTyOkWrongFalsely : Prop := fnExactTyOkRow.holds Try.pinned (OpenSpec.ofChange fnExactTyOkWrong)

/-- 'laws.FnExactFindCtor': WHATEVER THE INPUT: true; the input reads as it did. -/
def fnExactFindCtorSpec : ChangeSpec := { name := "fnExactFindCtor", fn := fun _ => fun
  | [d1, d2] => { results := [.lit (.bool true)], args := [d1, d2] }
  | _ => none }
def fnExactFindCtorRow : OpenClaim := { program := "ytnmljeojillkpaa", sum := "abab78aacb3e990695199bb50b7ee60bb5eb1e8cee698ba0a13a1b05802e880b", func := "loop.example/g00080/laws.FnExactFindCtor", spec := "fnExactFindCtor", unfollowed := true, recurses := true, loops := true, apart := false }
def FnExactFindCtorSaid : Prop := fnExactFindCtorRow.holds Try.pinned (OpenSpec.ofChange fnExactFindCtorSpec)

/-- ITS FALSE NEIGHBOUR: 'it returns false'. Refute it at one input. -/
def fnExactFindCtorWrong : ChangeSpec := { name := "fnExactFindCtor", fn := fun _ => fun
  | [d1, d2] => { results := [.lit (.bool false)], args := [d1, d2] }
  | _ => none }
def FnExactFindCtorWrongFalsely : Prop := fnExactFindCtorRow.holds Try.pinned (OpenSpec.ofChange fnExactFindCtorWrong)

/-- 'laws.FnExactKSize': WHATEVER THE INPUT: true; the input reads as it did. -/
def fnExactKSizeSpec : ChangeSpec := { name := "fnExactKSize", fn := fun _ => fun
  | [d] => { results := [.lit (.bool true)], args := [d] }
  | _ => none }
def fnExactKSizeRow : OpenClaim := { program := "ytnmljeojillkpaa", sum := "abab78aacb3e990695199bb50b7ee60bb5eb1e8cee698ba0a13a1b05802e880b", func := "loop.example/g00080/laws.FnExactKSize", spec := "fnExactKSize", recurses := true, loops := true, apart := false }
def FnExactKSizeSaid : Prop := fnExactKSizeRow.holds Try.pinned (OpenSpec.ofChange fnExactKSizeSpec)

/-- ITS FALSE NEIGHBOUR: 'it returns false'. Refute it at one input. -/
def fnExactKSizeWrong : ChangeSpec := { name := "fnExactKSize", fn := fun _ => fun
  | [d] => { results := [.lit (.bool false)], args := [d] }
  | _ => none }
def FnExactKSizeWrongFalsely : Prop := fnExactKSizeRow.holds Try.pinned (OpenSpec.ofChange fnExactKSizeWrong)

/-- 'laws.FnRenamed': WHATEVER THE INPUT: true; the input reads as it did. -/
def fnRenamedSpec : ChangeSpec := { name := "fnRenamed", fn := fun _ => fun
  | [d] => { results := [.lit (.bool true)], args := [d] }
  | _ => none }
def fnRenamedRow : OpenClaim := { program := "ytnmljeojillkpaa", sum := "abab78aacb3e990695199bb50b7ee60bb5eb1e8cee698ba0a13a1b05802e880b", func := "loop.example/g00080/laws.FnRenamed", spec := "fnRenamed", unfollowed := true, recurses := true, apart := false }
def FnRenamedSaid : Prop := fnRenamedRow.holds Try.pinned (OpenSpec.ofChange fnRenamedSpec)

/-- ITS FALSE NEIGHBOUR: 'it returns false'. Refute it at one input. -/
def fnRenamedWrong : ChangeSpec := { name := "fnRenamed", fn := fun _ => fun
  | [d] => { results := [.lit (.bool false)], args := [d] }
  | _ => none }
def FnRenamedWrongFalsely : Prop := fnRenamedRow.holds Try.pinned (OpenSpec.ofChange fnRenamedWrong)

/-- 'laws.FnExactExpSize': WHATEVER THE INPUT: true; the input reads as it did. -/
def fnExactExpSizeSpec : ChangeSpec := { name := "fnExactExpSize", fn := fun _ => fun
  | [d] => { results := [.lit (.bool true)], args := [d] }
  | _ => none }
def fnExactExpSizeRow : OpenClaim := { program := "ytnmljeojillkpaa", sum := "abab78aacb3e990695199bb50b7ee60bb5eb1e8cee698ba0a13a1b05802e880b", func := "loop.example/g00080/laws.FnExactExpSize", spec := "fnExactExpSize", recurses := true, loops := true, apart := false }
def FnExactExpSizeSaid : Prop := fnExactExpSizeRow.holds Try.pinned (OpenSpec.ofChange fnExactExpSizeSpec)

/-- ITS FALSE NEIGHBOUR: 'it returns false'. Refute it at one input. -/
def fnExactExpSizeWrong : ChangeSpec := { name := "fnExactExpSize", fn := fun _ => fun
  | [d] => { results := [.lit (.bool false)], args := [d] }
  | _ => none }
def FnExactExpSizeWrongFalsely : Prop := fnExactExpSizeRow.holds Try.pinned (OpenSpec.ofChange fnExactExpSizeWrong)

/-- 'laws.FnExactFree': WHATEVER THE INPUT: true; the input reads as it did. -/
def fnExactFreeSpec : ChangeSpec := { name := "fnExactFree", fn := fun _ => fun
  | [d1, d2] => { results := [.lit (.bool true)], args := [d1, d2] }
  | _ => none }
def fnExactFreeRow : OpenClaim := { program := "ytnmljeojillkpaa", sum := "abab78aacb3e990695199bb50b7ee60bb5eb1e8cee698ba0a13a1b05802e880b", func := "loop.example/g00080/laws.FnExactFree", spec := "fnExactFree", unfollowed := true, recurses := true, loops := true, apart := false }
def FnExactFreeSaid : Prop := fnExactFreeRow.holds Try.pinned (OpenSpec.ofChange fnExactFreeSpec)

/-- ITS FALSE NEIGHBOUR: 'it returns false'. Refute it at one input. -/
def fnExactFreeWrong : ChangeSpec := { name := "fnExactFree", fn := fun _ => fun
  | [d1, d2] => { results := [.lit (.bool false)], args := [d1, d2] }
  | _ => none }
def FnExactFreeWrongFalsely : Prop := fnExactFreeRow.holds Try.pinned (OpenSpec.ofChange fnExactFreeWrong)

/-- 'laws.FnExactPut': WHATEVER THE INPUT: true; the input reads as it did. -/
def fnExactPutSpec : ChangeSpec := { name := "fnExactPut", fn := fun _ => fun
  | [d1, d2, d3] => { results := [.lit (.bool true)], args := [d1, d2, d3] }
  | _ => none }
def fnExactPutRow : OpenClaim := { program := "ytnmljeojillkpaa", sum := "abab78aacb3e990695199bb50b7ee60bb5eb1e8cee698ba0a13a1b05802e880b", func := "loop.example/g00080/laws.FnExactPut", spec := "fnExactPut", unfollowed := true, recurses := true, loops := true, apart := false }
def FnExactPutSaid : Prop := fnExactPutRow.holds Try.pinned (OpenSpec.ofChange fnExactPutSpec)

/-- ITS FALSE NEIGHBOUR: 'it returns false'. Refute it at one input. -/
def fnExactPutWrong : ChangeSpec := { name := "fnExactPut", fn := fun _ => fun
  | [d1, d2, d3] => { results := [.lit (.bool false)], args := [d1, d2, d3] }
  | _ => none }
def FnExactPutWrongFalsely : Prop := fnExactPutRow.holds Try.pinned (OpenSpec.ofChange fnExactPutWrong)

/-- 'laws.FnExactPrincipal': WHATEVER THE INPUT: true; the input reads as it did. -/
def fnExactPrincipalSpec : ChangeSpec := { name := "fnExactPrincipal", fn := fun _ => fun
  | [d1, d2] => { results := [.lit (.bool true)], args := [d1, d2] }
  | _ => none }
def fnExactPrincipalRow : OpenClaim := { program := "ytnmljeojillkpaa", sum := "abab78aacb3e990695199bb50b7ee60bb5eb1e8cee698ba0a13a1b05802e880b", func := "loop.example/g00080/laws.FnExactPrincipal", spec := "fnExactPrincipal", unfollowed := true, recurses := true, loops := true, apart := false }
def FnExactPrincipalSaid : Prop := fnExactPrincipalRow.holds Try.pinned (OpenSpec.ofChange fnExactPrincipalSpec)

/-- ITS FALSE NEIGHBOUR: 'it returns false'. Refute it at one input. -/
def fnExactPrincipalWrong : ChangeSpec := { name := "fnExactPrincipal", fn := fun _ => fun
  | [d1, d2] => { results := [.lit (.bool false)], args := [d1, d2] }
  | _ => none }
def FnExactPrincipalWrongFalsely : Prop := fnExactPrincipalRow.holds Try.pinned (OpenSpec.ofChange fnExactPrincipalWrong)

/-- 'laws.FnExactCoreSize': WHATEVER THE INPUT: true; the input reads as it did. -/
def fnExactCoreSizeSpec : ChangeSpec := { name := "fnExactCoreSize", fn := fun _ => fun
  | [d] => { results := [.lit (.bool true)], args := [d] }
  | _ => none }
def fnExactCoreSizeRow : OpenClaim := { program := "ytnmljeojillkpaa", sum := "abab78aacb3e990695199bb50b7ee60bb5eb1e8cee698ba0a13a1b05802e880b", func := "loop.example/g00080/laws.FnExactCoreSize", spec := "fnExactCoreSize", recurses := true, loops := true, apart := false }
def FnExactCoreSizeSaid : Prop := fnExactCoreSizeRow.holds Try.pinned (OpenSpec.ofChange fnExactCoreSizeSpec)

/-- ITS FALSE NEIGHBOUR: 'it returns false'. Refute it at one input. -/
def fnExactCoreSizeWrong : ChangeSpec := { name := "fnExactCoreSize", fn := fun _ => fun
  | [d] => { results := [.lit (.bool false)], args := [d] }
  | _ => none }
def FnExactCoreSizeWrongFalsely : Prop := fnExactCoreSizeRow.holds Try.pinned (OpenSpec.ofChange fnExactCoreSizeWrong)

/-- 'laws.FnExactCoreValue': WHATEVER THE INPUT: true; the input reads as it did. -/
def fnExactCoreValueSpec : ChangeSpec := { name := "fnExactCoreValue", fn := fun _ => fun
  | [d] => { results := [.lit (.bool true)], args := [d] }
  | _ => none }
def fnExactCoreValueRow : OpenClaim := { program := "ytnmljeojillkpaa", sum := "abab78aacb3e990695199bb50b7ee60bb5eb1e8cee698ba0a13a1b05802e880b", func := "loop.example/g00080/laws.FnExactCoreValue", spec := "fnExactCoreValue", unfollowed := true, recurses := true, loops := true, apart := false }
def FnExactCoreValueSaid : Prop := fnExactCoreValueRow.holds Try.pinned (OpenSpec.ofChange fnExactCoreValueSpec)

/-- ITS FALSE NEIGHBOUR: 'it returns false'. Refute it at one input. -/
def fnExactCoreValueWrong : ChangeSpec := { name := "fnExactCoreValue", fn := fun _ => fun
  | [d] => { results := [.lit (.bool false)], args := [d] }
  | _ => none }
def FnExactCoreValueWrongFalsely : Prop := fnExactCoreValueRow.holds Try.pinned (OpenSpec.ofChange fnExactCoreValueWrong)

/- THE SECOND FORM. 'bulk': how many values and letters a reading holds, each counted each time it is reached (what is shared counts as often as it is met; a slice's spare places count too). A statement '..UptoSaid' is the law's where the arguments, and the package variables that the reading takes, are together of bulk at most 1048576: NARROWER than '..Said'. Prove '..Said' where nothing that the law and all that it calls make is longer than what came in: it says more and counts as full. Else prove '..UptoSaid'. A law counts once. -/
mutual
def uptoBulk {H : Type} : DataW H → Nat
  | .lit (.string bytes) => bytes.length + 1
  | .lit _ => 1
  | .nil => 1
  | .ptr d => uptoBulk d + 1
  | .slice elems spare => uptoBulkAll elems + uptoBulkAll spare + 1
  | .agg parts => uptoBulkAll parts + 1
  | .iface _ d => uptoBulk d + 1
  | .map entries => uptoBulkEntries entries + 1
  | .held _ => 1
def uptoBulkAll {H : Type} : List (DataW H) → Nat
  | [] => 0
  | d :: r => uptoBulk d + uptoBulkAll r
def uptoBulkEntries {H : Type} : List (Lit × DataW H) → Nat
  | [] => 0
  | x :: r => uptoBulkEntry x + uptoBulkEntries r
def uptoBulkEntry {H : Type} : Lit × DataW H → Nat
  | (.string bytes, d) => bytes.length + uptoBulk d + 1
  | (_, d) => uptoBulk d + 1
 end
def uptoSmall : (H : Type) → List (DataW H) → Bool := fun _ ds => decide (uptoBulkAll ds ≤ 1048576)
def OpenSpec.upto (s : _root_.Go.ChangeSpec) : _root_.Go.OpenSpec := { _root_.Go.OpenSpec.ofChange s with cond := some uptoSmall }

/-- 'laws.FnExactTokenOk', WHERE WHAT IT READS IS OF BULK AT MOST 1048576: true; the input reads as it did. -/
def fnExactTokenOkUptoRow : OpenClaim := { program := "ytnmljeojillkpaa", sum := "abab78aacb3e990695199bb50b7ee60bb5eb1e8cee698ba0a13a1b05802e880b", func := "loop.example/g00080/laws.FnExactTokenOk", spec := "fnExactTokenOk", unfollowed := true, recurses := true, apart := false, narrowed := true }
def FnExactTokenOkUptoSaid : Prop := fnExactTokenOkUptoRow.holds Try.pinned (OpenSpec.upto fnExactTokenOkSpec)

/-- 'laws.FnExactStats', WHERE WHAT IT READS IS OF BULK AT MOST 1048576: true; the input reads as it did. -/
def fnExactStatsUptoRow : OpenClaim := { program := "ytnmljeojillkpaa", sum := "abab78aacb3e990695199bb50b7ee60bb5eb1e8cee698ba0a13a1b05802e880b", func := "loop.example/g00080/laws.FnExactStats", spec := "fnExactStats", apart := false, narrowed := true }
def FnExactStatsUptoSaid : Prop := fnExactStatsUptoRow.holds Try.pinned (OpenSpec.upto fnExactStatsSpec)

/-- 'laws.FnExactTyOk', WHERE WHAT IT READS IS OF BULK AT MOST 1048576: true; the input reads as it did. -/
def fnExactTyOkUptoRow : OpenClaim := { program := "ytnmljeojillkpaa", sum := "abab78aacb3e990695199bb50b7ee60bb5eb1e8cee698ba0a13a1b05802e880b", func := "loop.example/g00080/laws.FnExactTyOk", spec := "fnExactTyOk", unfollowed := true, recurses := true, loops := true, apart := false, narrowed := true }
def FnExactTyOkUptoSaid : Prop := fnExactTyOkUptoRow.holds Try.pinned (OpenSpec.upto fnExactTyOkSpec)

/-- 'laws.FnExactFindCtor', WHERE WHAT IT READS IS OF BULK AT MOST 1048576: true; the input reads as it did. -/
def fnExactFindCtorUptoRow : OpenClaim := { program := "ytnmljeojillkpaa", sum := "abab78aacb3e990695199bb50b7ee60bb5eb1e8cee698ba0a13a1b05802e880b", func := "loop.example/g00080/laws.FnExactFindCtor", spec := "fnExactFindCtor", unfollowed := true, recurses := true, loops := true, apart := false, narrowed := true }
def FnExactFindCtorUptoSaid : Prop := fnExactFindCtorUptoRow.holds Try.pinned (OpenSpec.upto fnExactFindCtorSpec)

/-- 'laws.FnExactKSize', WHERE WHAT IT READS IS OF BULK AT MOST 1048576: true; the input reads as it did. -/
def fnExactKSizeUptoRow : OpenClaim := { program := "ytnmljeojillkpaa", sum := "abab78aacb3e990695199bb50b7ee60bb5eb1e8cee698ba0a13a1b05802e880b", func := "loop.example/g00080/laws.FnExactKSize", spec := "fnExactKSize", recurses := true, loops := true, apart := false, narrowed := true }
def FnExactKSizeUptoSaid : Prop := fnExactKSizeUptoRow.holds Try.pinned (OpenSpec.upto fnExactKSizeSpec)

/-- 'laws.FnRenamed', WHERE WHAT IT READS IS OF BULK AT MOST 1048576: true; the input reads as it did. -/
def fnRenamedUptoRow : OpenClaim := { program := "ytnmljeojillkpaa", sum := "abab78aacb3e990695199bb50b7ee60bb5eb1e8cee698ba0a13a1b05802e880b", func := "loop.example/g00080/laws.FnRenamed", spec := "fnRenamed", unfollowed := true, recurses := true, apart := false, narrowed := true }
def FnRenamedUptoSaid : Prop := fnRenamedUptoRow.holds Try.pinned (OpenSpec.upto fnRenamedSpec)

/-- 'laws.FnExactExpSize', WHERE WHAT IT READS IS OF BULK AT MOST 1048576: true; the input reads as it did. -/
def fnExactExpSizeUptoRow : OpenClaim := { program := "ytnmljeojillkpaa", sum := "abab78aacb3e990695199bb50b7ee60bb5eb1e8cee698ba0a13a1b05802e880b", func := "loop.example/g00080/laws.FnExactExpSize", spec := "fnExactExpSize", recurses := true, loops := true, apart := false, narrowed := true }
def FnExactExpSizeUptoSaid : Prop := fnExactExpSizeUptoRow.holds Try.pinned (OpenSpec.upto fnExactExpSizeSpec)

/-- 'laws.FnExactFree', WHERE WHAT IT READS IS OF BULK AT MOST 1048576: true; the input reads as it did. -/
def fnExactFreeUptoRow : OpenClaim := { program := "ytnmljeojillkpaa", sum := "abab78aacb3e990695199bb50b7ee60bb5eb1e8cee698ba0a13a1b05802e880b", func := "loop.example/g00080/laws.FnExactFree", spec := "fnExactFree", unfollowed := true, recurses := true, loops := true, apart := false, narrowed := true }
def FnExactFreeUptoSaid : Prop := fnExactFreeUptoRow.holds Try.pinned (OpenSpec.upto fnExactFreeSpec)

/-- 'laws.FnExactPut', WHERE WHAT IT READS IS OF BULK AT MOST 1048576: true; the input reads as it did. -/
def fnExactPutUptoRow : OpenClaim := { program := "ytnmljeojillkpaa", sum := "abab78aacb3e990695199bb50b7ee60bb5eb1e8cee698ba0a13a1b05802e880b", func := "loop.example/g00080/laws.FnExactPut", spec := "fnExactPut", unfollowed := true, recurses := true, loops := true, apart := false, narrowed := true }
def FnExactPutUptoSaid : Prop := fnExactPutUptoRow.holds Try.pinned (OpenSpec.upto fnExactPutSpec)

/-- 'laws.FnExactPrincipal', WHERE WHAT IT READS IS OF BULK AT MOST 1048576: true; the input reads as it did. -/
def fnExactPrincipalUptoRow : OpenClaim := { program := "ytnmljeojillkpaa", sum := "abab78aacb3e990695199bb50b7ee60bb5eb1e8cee698ba0a13a1b05802e880b", func := "loop.example/g00080/laws.FnExactPrincipal", spec := "fnExactPrincipal", unfollowed := true, recurses := true, loops := true, apart := false, narrowed := true }
def FnExactPrincipalUptoSaid : Prop := fnExactPrincipalUptoRow.holds Try.pinned (OpenSpec.upto fnExactPrincipalSpec)

/-- 'laws.FnExactCoreSize', WHERE WHAT IT READS IS OF BULK AT MOST 1048576: true; the input reads as it did. -/
def fnExactCoreSizeUptoRow : OpenClaim := { program := "ytnmljeojillkpaa", sum := "abab78aacb3e990695199bb50b7ee60bb5eb1e8cee698ba0a13a1b05802e880b", func := "loop.example/g00080/laws.FnExactCoreSize", spec := "fnExactCoreSize", recurses := true, loops := true, apart := false, narrowed := true }
def FnExactCoreSizeUptoSaid : Prop := fnExactCoreSizeUptoRow.holds Try.pinned (OpenSpec.upto fnExactCoreSizeSpec)

/-- 'laws.FnExactCoreValue', WHERE WHAT IT READS IS OF BULK AT MOST 1048576: true; the input reads as it did. -/
def fnExactCoreValueUptoRow : OpenClaim := { program := "ytnmljeojillkpaa", sum := "abab78aacb3e990695199bb50b7ee60bb5eb1e8cee698ba0a13a1b05802e880b", func := "loop.example/g00080/laws.FnExactCoreValue", spec := "fnExactCoreValue", unfollowed := true, recurses := true, loops := true, apart := false, narrowed := true }
def FnExactCoreValueUptoSaid : Prop := fnExactCoreValueUptoRow.holds Try.pinned (OpenSpec.upto fnExactCoreValueSpec)

end Rows
end Go.Proofs.Ytnmljeojillkpaa
