/-
  TOKENS SPELLED: numerals, quoted texts, tokens, lists of tokens.
-/
import Derived.Test.YtlhnahogacofoaaDoorCDoor
import Derived.Test.YtlhnahogacofoaaDoorCTok
set_option linter.unusedVariables false
set_option linter.unusedSimpArgs false
set_option linter.defProp false
namespace Go.Ab
set_option maxRecDepth 100000
set_option maxHeartbeats 4000000
/-- one byte -/
def byteB (c : Int) : ByteArray := ⟨#[UInt8.ofNat c.toNat]⟩
theorem ysS_app (a b : ByteArray) : ysS a ++ ysS b = ysS (a ++ b) := by
  simp only [ysS, app_list, List.map_append]
theorem ysS_byte (c : Int) (h0 : 0 ≤ c) (h1 : c < 256) : [AV.v (.int .u8 c)] = ysS (byteB c) := by
  have : (UInt8.ofNat c.toNat).toNat = c.toNat := by
    simp [UInt8.toNat_ofNat]; omega
  simp only [ysS, byteB, List.map_cons, List.map_nil, this, Int.toNat_of_nonneg h0]
theorem y1 (acc : ByteArray) (c : Int) (h0 : 0 ≤ c) (h1 : c < 256) : ysS acc ++ [AV.v (.int .u8 c)] = ysS (acc ++ byteB c) := by
  rw [ysS_byte c h0 h1, ysS_app]
theorem y2 (acc : ByteArray) (a c : Int) (h0 : 0 ≤ a) (h1 : a < 256) (h2 : 0 ≤ c) (h3 : c < 256) : ysS acc ++ [AV.v (.int .u8 a), AV.v (.int .u8 c)] = ysS (acc ++ (byteB a ++ byteB c)) := by
  have : [AV.v (.int .u8 a), AV.v (.int .u8 c)] = [AV.v (.int .u8 a)] ++ [AV.v (.int .u8 c)] := rfl
  rw [this, ysS_byte a h0 h1, ysS_byte c h2 h3, ysS_app, ysS_app]
end Go.Ab
namespace Go.Proofs.Ab
open Go.Ab
set_option maxRecDepth 100000
set_option maxHeartbeats 4000000
/- tokens -/
/- lists of tokens -/
end Go.Proofs.Ab
