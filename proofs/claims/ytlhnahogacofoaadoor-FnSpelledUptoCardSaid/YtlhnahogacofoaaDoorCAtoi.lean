/-
  strconv.Atoi: a number, or an error that is not nil; numbers at a place of a text.
-/
import Derived.Test.YtlhnahogacofoaaDoorGM
import Derived.Test.YtlhnahogacofoaaDoorPShelf
import Derived.Test.YtlhnahogacofoaaDoorCLexM
import Derived.Shelf.Strconv.AtoiAll
import Derived.WalkKit
import Derived.BigCall
set_option linter.unusedVariables false
set_option linter.unusedSimpArgs false
set_option linter.defProp false
namespace Go.Ab
set_option maxRecDepth 100000
set_option maxHeartbeats 4000000
theorem parseUint10_digits : ∀ (l : List UInt8) (acc : Nat), (∀ c ∈ l, digB (c.toNat : Int) = true) → acc < 18446744073709551616 →
    Lib.parseUint10 acc l = if valD acc (l.map fun c => (c.toNat : Int)) < 18446744073709551616 then .ok (valD acc (l.map fun c => (c.toNat : Int))).toNat else .range
  | [], acc, _, ha => by
    simp only [Lib.parseUint10, List.map_nil, valD, List.foldl_nil]
    rw [if_pos (by omega)]; simp
  | c :: r, acc, hd, ha => by
    have hc := hd c (by simp)
    simp only [digB, inB, Bool.and_eq_true, decide_eq_true_eq] at hc
    have hr : ∀ x ∈ r, digB (x.toNat : Int) = true := fun x hx => hd x (by simp [hx])
    have hge : ∀ m : Int, 0 ≤ m → m ≤ valD m (r.map fun c => (c.toNat : Int)) := fun m hm => valD_ge _ m hm fun x hx => by
      obtain ⟨y, hy, rfl⟩ := List.mem_map.1 hx
      exact hr y hy
    have e : valD acc ((c :: r).map fun c => (c.toNat : Int)) = valD ((acc * 10 + (c.toNat - 48) : Nat) : Int) (r.map fun c => (c.toNat : Int)) := by
      rw [List.map_cons]
      show valD ((acc : Int) * 10 + ((c.toNat : Int) - 48)) _ = _
      congr 1; omega
    rw [Lib.parseUint10, if_pos (by omega), e]
    have h0 := hge ((acc * 10 + (c.toNat - 48) : Nat) : Int) (by omega)
    split
    · rw [if_neg (by omega)]
    · split
      · rw [if_neg (by omega)]
      · exact parseUint10_digits r _ hr (by omega)
/-- digits alone -/
theorem atoi_digits (l : List UInt8) (hne : l ≠ []) (hd : ∀ c ∈ l, digB (c.toNat : Int) = true) :
    Lib.atoiAll l = if valD 0 (l.map fun c => (c.toNat : Int)) ≤ maxI then .ok (valD 0 (l.map fun c => (c.toNat : Int))) else .range := by
  cases l with
  | nil => exact (hne rfl).elim
  | cons c r =>
    have hc := hd c (by simp)
    simp only [digB, inB, Bool.and_eq_true, decide_eq_true_eq] at hc
    have h43 : ¬ (c.toNat = 43 ∨ c.toNat = 45) := by omega
    have h45 : ¬ c.toNat = 45 := by omega
    have hge : 0 ≤ valD 0 ((c :: r).map fun c => (c.toNat : Int)) := valD_ge _ 0 (by omega) fun x hx => by
      obtain ⟨y, hy, rfl⟩ := List.mem_map.1 hx
      exact hd y hy
    have hp := parseUint10_digits (c :: r) 0 hd (by omega)
    simp only [Lib.atoiAll]
    rw [if_neg h43]
    simp only [Lib.parseMag, reduceCtorEq, if_false, h45, not_false_eq_true, true_and, false_and]
    simp only [Int.natCast_zero] at hp
    rw [hp]
    generalize valD 0 ((c :: r).map fun c => (c.toNat : Int)) = v at hge
    have hM : maxI = 9223372036854775807 := rfl
    by_cases h1 : v < 18446744073709551616
    · rw [if_pos h1]
      simp only
      by_cases h2 : v ≤ maxI
      · rw [if_pos h2, if_neg (by omega)]
        congr 1; omega
      · rw [if_neg h2, if_pos (by omega)]
    · rw [if_neg h1, if_neg (by omega)]
end Go.Ab
namespace Go.Proofs.Ab
open Go.Ab
set_option maxRecDepth 100000
set_option maxHeartbeats 4000000
theorem err_cell {I : Imm} {L : Nat → Go.Ab.Loc} {w : World} (hi : Go.Ab.Inv I L [] w) : (∃ te pe, w.cell? ⟨errNo1, 0, none⟩ = some (.iface te pe)) ∧ ∃ te pe, w.cell? ⟨errNo2, 0, none⟩ = some (.iface te pe) := by
  constructor
  · obtain ⟨_, v, h2, h3⟩ := hi.blk (errNo1, 1) (List.mem_of_getElem? (i := 1) rfl)
    cases v with
    | iface t x => exact ⟨t, x, hi.imm _ _ _ h2⟩
    | _ => cases h3
  · obtain ⟨_, v, h2, h3⟩ := hi.blk (errNo2, 1) (List.mem_of_getElem? (i := 2) rfl)
    cases v with
    | iface t x => exact ⟨t, x, hi.imm _ _ _ h2⟩
    | _ => cases h3
/-- how Atoi ends -/
def atoiEnd (s : ByteArray) (e : Ending) : Prop :=
  match Lib.atoiAll s.data.toList with
  | .ok v => e = .returned (.tuple #[.int .i64 v, .nilIface])
  | _ => ∃ n t v, e = .returned (.tuple #[.int .i64 n, .iface t v])
theorem atoi_calls (s : ByteArray) (hs : s.size ≤ 1048576) {I : Imm} {L : Nat → Go.Ab.Loc} {w : World} (hi : Go.Ab.Inv I L [] w) :
    Calls Tryd.prog F.strconv_Atoi #[.string s] w fun e w' => atoiEnd s e ∧ RowKit.Below w.heap.size w w' := by
  unfold atoiEnd
  obtain ⟨⟨t1, p1, h1⟩, t2, p2, h2⟩ := err_cell hi
  rcases h : Lib.atoiAll s.data.toList with v | _ | _
  · refine (Any.strconv_Atoi_ok Tryd.lays172 s (by omega) v h w).mono ?_
    rintro e w' ⟨rfl, rfl | ⟨t, rfl⟩⟩
    · exact ⟨rfl, .refl _ _⟩
    · exact ⟨rfl, Lib.bytesWorld_below _ _ _⟩
  · refine (Any.strconv_Atoi_syntax Tryd.lays172 s (by omega) h _ w h1 (.inr ⟨t1, p1, rfl⟩)).mono ?_
    rintro e w' ⟨N, rfl, _, _, hb⟩
    exact ⟨⟨_, _, _, rfl⟩, hb⟩
  · refine (Any.strconv_Atoi_range Tryd.lays172 s (by omega) h _ w h2 (.inr ⟨t2, p2, rfl⟩)).mono ?_
    rintro e w' ⟨N, rfl, _, _, hb⟩
    exact ⟨⟨_, _, _, rfl⟩, hb⟩
end Go.Proofs.Ab
