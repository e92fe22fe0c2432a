/-
  TOKENS SPELLED: numerals, quoted texts, tokens, lists of tokens.
-/
import Derived.Test.YtaefihlbielllaaDoorCDoor
import Derived.Test.YtaefihlbielllaaDoorCTok
set_option linter.unusedVariables false
set_option linter.unusedSimpArgs false
set_option linter.defProp false
namespace Go.Ab
set_option maxRecDepth 100000
set_option maxHeartbeats 4000000
/-- one byte -/
def byteB (c : Int) : ByteArray := ⟨#[UInt8.ofNat c.toNat]⟩
theorem ysS_app (a b : ByteArray) : ysS a ++ ysS b = ysS (a ++ b) := by
  simp only [ysS, app_list, List.map_append]
theorem ysS_byte (c : Int) (h0 : 0 ≤ c) (h1 : c < 256) : [AV.v (.int .u8 c)] = ysS (byteB c) := by
  have : (UInt8.ofNat c.toNat).toNat = c.toNat := by
    simp [UInt8.toNat_ofNat]; omega
  simp only [ysS, byteB, List.map_cons, List.map_nil, this, Int.toNat_of_nonneg h0]
theorem y1 (acc : ByteArray) (c : Int) (h0 : 0 ≤ c) (h1 : c < 256) : ysS acc ++ [AV.v (.int .u8 c)] = ysS (acc ++ byteB c) := by
  rw [ysS_byte c h0 h1, ysS_app]
theorem y2 (acc : ByteArray) (a c : Int) (h0 : 0 ≤ a) (h1 : a < 256) (h2 : 0 ≤ c) (h3 : c < 256) : ysS acc ++ [AV.v (.int .u8 a), AV.v (.int .u8 c)] = ysS (acc ++ (byteB a ++ byteB c)) := by
  have : [AV.v (.int .u8 a), AV.v (.int .u8 c)] = [AV.v (.int .u8 a)] ++ [AV.v (.int .u8 c)] := rfl
  rw [this, ysS_byte a h0 h1, ysS_byte c h2 h3, ysS_app, ysS_app]
theorem byteB_size (c : Int) : (byteB c).size = 1 := rfl
/-- what stands for a byte between quotes -/
def quo1 (c : Int) : ByteArray := if c = 10 then byteB 92 ++ byteB 110 else if c = 34 ∨ c = 92 then byteB 92 ++ byteB c else byteB c
def quoB : List Int → ByteArray
  | [] => ⟨#[]⟩
  | c :: r => quo1 c ++ quoB r
def quotedB (s : ByteArray) : ByteArray := byteB 34 ++ quoB (bs s) ++ byteB 34
/-- a numeral -/
def figB (u : Nat) : ByteArray := ⟨(Lib.decDigits u).toArray⟩
theorem numB_nat (u : Nat) : numB u = figB u := by
  unfold numB figB Lib.itoa
  rw [if_neg (by omega)]
  simp
theorem figB_eq (u : Nat) : figB u = if u < 10 then byteB (48 + u) else figB (u / 10) ++ byteB (48 + (u % 10 : Nat)) := by
  have e : ∀ k : Nat, ((48 : Int) + (k : Int)).toNat = 48 + k := fun k => by omega
  unfold figB byteB
  rw [Lib.decDigits]
  split
  · rw [e]
  · rw [e]
    exact bytes_ext (by rw [app_list])
theorem figB_20 : ∀ (k u : Nat), u < 10 ^ (k + 1) → (figB u).size ≤ k + 1
  | 0, u, h => by rw [figB_eq, if_pos (by omega), byteB_size]; omega
  | k + 1, u, h => by
    rw [figB_eq]
    split
    · rw [byteB_size]; omega
    · have := figB_20 k (u / 10) (by rw [Nat.pow_succ] at h; omega)
      rw [app_size, byteB_size]; omega
theorem sum_lin {α : Type} (f w : α → Nat) (K M : Nat) (l : List α) (h : ∀ x ∈ l, f x ≤ K * w x + M) : (l.map f).sum ≤ K * (l.map w).sum + M * l.length := by
  induction l with
  | nil => simp
  | cons x l ih =>
    have h1 := h x (by simp)
    have h2 := ih fun y hy => h y (by simp [hy])
    simp only [List.map_cons, List.sum_cons, List.length_cons, Nat.mul_add, Nat.mul_one]
    omega
theorem numB_size (n : Int) (h0 : 0 ≤ n) (h1 : n ≤ 9223372036854775807) : (numB n).size ≤ 20 := by
  obtain ⟨u, rfl⟩ : ∃ u : Nat, n = u := ⟨n.toNat, by omega⟩
  rw [numB_nat]
  exact figB_20 19 u (by omega)
end Go.Ab
namespace Go.Proofs.Ab
open Go.Ab
set_option maxRecDepth 100000
set_option maxHeartbeats 4000000
/- tokens -/
theorem b39 : (⟨#[39]⟩ : ByteArray) = byteB 39 := rfl
/- lists of tokens -/
end Go.Proofs.Ab
