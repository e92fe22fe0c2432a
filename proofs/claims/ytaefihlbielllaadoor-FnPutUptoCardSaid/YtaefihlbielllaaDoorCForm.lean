/-
  TEXTS OF TREES: what the printers compute, in plain words, and how long it is.
-/
import Derived.Test.YtaefihlbielllaaDoorCSpell
import Derived.Test.YtaefihlbielllaaDoorCExp
set_option linter.unusedVariables false
set_option linter.unusedSimpArgs false
set_option linter.defProp false
namespace Go.Ab
set_option maxRecDepth 100000
set_option maxHeartbeats 4000000
def roundB (s : ByteArray) (level asked : Int) : ByteArray := if level < asked then byteB 40 ++ (s ++ byteB 41) else s
theorem roundB_size (s : ByteArray) (l a : Int) : (roundB s l a).size ≤ s.size + 2 := by
  unfold roundB; split
  · simp only [app_size, byteB_size]; omega
  · omega
def kidB (l : List ByteArray) (i : Nat) : ByteArray := l.getD i ⟨#[]⟩
theorem kidB_le (l : List ByteArray) (i : Nat) : (kidB l i).size ≤ (l.map ByteArray.size).sum := by
  unfold kidB
  induction l generalizing i with
  | nil => exact Nat.zero_le _
  | cons x l ih =>
    cases i with
    | zero => simp
    | succ i => have := ih i; simp only [List.getD_cons_succ, List.map_cons, List.sum_cons]; omega
def sArrow : ByteArray := ⟨#[32, 45, 62, 32]⟩
def sSp : ByteArray := ⟨#[32]⟩
def sStar : ByteArray := ⟨#[32, 42, 32]⟩
def sRef : ByteArray := ⟨#[114, 101, 102, 32]⟩
/- types -/
def VTypeExp.level (x : VTypeExp) : Int := if x.Kind = 3 then 0 else if x.Kind = 4 then 1 else if x.Kind = 5 then 2 else if x.Kind = 2 then 3 else if x.Kids.length = 0 then 3 else 2
mutual
def VTypeExp.form : VTypeExp → ByteArray
  | .mk k name pos kids =>
    if k = 3 then kidB (VTypeExp.txts kids 1) 0 ++ (sArrow ++ kidB (VTypeExp.txts kids 0) 1)
    else if k = 4 then joinB sStar (VTypeExp.txts kids 2)
    else if k = 5 then sRef ++ kidB (VTypeExp.txts kids 3) 0
    else if k = 2 then byteB 39 ++ name
    else if kids.length = 0 then name else name ++ (sSp ++ joinB sSp (VTypeExp.txts kids 3))
def VTypeExp.txts : List VTypeExp → Int → List ByteArray
  | [], _ => []
  | x :: l, a => roundB x.form x.level a :: VTypeExp.txts l a
end
def VTypeExp.txt (x : VTypeExp) (a : Int) : ByteArray := roundB x.form x.level a
theorem VTypeExp.txts_eq (l : List VTypeExp) (a : Int) : VTypeExp.txts l a = l.map fun x => x.txt a := by
  induction l with
  | nil => simp only [VTypeExp.txts, List.map_nil]
  | cons x l ih => simp only [VTypeExp.txts, ih, List.map_cons, VTypeExp.txt]
theorem VTypeExp.form_eq (x : VTypeExp) : x.form = if x.Kind = 3 then kidB (x.Kids.map fun x => x.txt 1) 0 ++ (sArrow ++ kidB (x.Kids.map fun x => x.txt 0) 1)
    else if x.Kind = 4 then joinB sStar (x.Kids.map fun x => x.txt 2)
    else if x.Kind = 5 then sRef ++ kidB (x.Kids.map fun x => x.txt 3) 0
    else if x.Kind = 2 then byteB 39 ++ x.Name
    else if x.Kids.length = 0 then x.Name else x.Name ++ (sSp ++ joinB sSp (x.Kids.map fun x => x.txt 3)) := by
  cases x; simp only [VTypeExp.form, VTypeExp.txts_eq]; rfl
theorem VTypeExp.sizes (x : VTypeExp) : x.form.size ≤ 20 * x.wt + 6 := by
  have hw := x.wt_eq
  have h : ∀ a, ((x.Kids.map fun x => x.txt a).map ByteArray.size).sum ≤ 20 * (x.Kids.map VTypeExp.wt).sum + 8 * x.Kids.length := fun a => by
    rw [List.map_map]
    refine sum_lin _ VTypeExp.wt 20 8 x.Kids fun y hy => ?_
    have := VTypeExp.sizes y
    have := roundB_size y.form y.level a
    simp only [Function.comp, VTypeExp.txt]; omega
  have h0 := h 0; have h1 := h 1; have h2 := h 2; have h3 := h 3
  have k0 := kidB_le (x.Kids.map fun x => x.txt 0) 1
  have k1 := kidB_le (x.Kids.map fun x => x.txt 1) 0
  have k3 := kidB_le (x.Kids.map fun x => x.txt 3) 0
  have k01 : (kidB (x.Kids.map fun x => x.txt 1) 0).size + (kidB (x.Kids.map fun x => x.txt 0) 1).size ≤ 20 * (x.Kids.map VTypeExp.wt).sum + 8 * x.Kids.length := by
    match hk : x.Kids with
    | [] => exact Nat.zero_le _
    | [y] =>
      have hy : y ∈ x.Kids := by simp [hk]
      have := VTypeExp.sizes y
      have := roundB_size y.form y.level 1
      simp only [List.map_cons, List.map_nil, kidB, List.getD_cons_zero, List.getD_cons_succ, List.getD_nil, VTypeExp.txt, List.sum_cons, List.sum_nil, List.length_cons, List.length_nil]
      show (roundB y.form y.level 1).size + 0 ≤ _
      omega
    | y :: z :: l =>
      have hy : y ∈ x.Kids := by simp [hk]
      have hz : z ∈ x.Kids := by simp [hk]
      have := VTypeExp.sizes y
      have := VTypeExp.sizes z
      have := roundB_size y.form y.level 1
      have := roundB_size z.form z.level 0
      simp only [List.map_cons, kidB, List.getD_cons_zero, List.getD_cons_succ, VTypeExp.txt, List.sum_cons, List.length_cons]
      omega
  have j2 := joinB_size sStar (x.Kids.map fun x => x.txt 2)
  have j3 := joinB_size sSp (x.Kids.map fun x => x.txt 3)
  have c1 : sStar.size = 3 := rfl
  have c2 : sSp.size = 1 := rfl
  have c3 : sArrow.size = 4 := rfl
  have c4 : sRef.size = 4 := rfl
  rw [List.length_map, c1] at j2
  rw [List.length_map, c2] at j3
  rw [x.form_eq]
  split
  · simp only [app_size, c3]; omega
  · split
    · omega
    · split
      · simp only [app_size, c4]; omega
      · split
        · simp only [app_size, byteB_size]; omega
        · split
          · omega
          · simp only [app_size, c2]; omega
termination_by SizeOf.sizeOf x
decreasing_by all_goals first | exact VTypeExp.Kids_lt hy | exact VTypeExp.Kids_lt hz
/- patterns -/
def boolB (n : Int) : ByteArray := if n = 1 then ⟨#[116, 114, 117, 101]⟩ else ⟨#[102, 97, 108, 115, 101]⟩
def sUnit : ByteArray := ⟨#[40, 41]⟩
def sComma : ByteArray := ⟨#[44, 32]⟩
def VPat.level (x : VPat) : Int := if x.Kind = 7 ∧ x.Kids.length ≠ 0 then 0 else 1
mutual
def VPat.form : VPat → ByteArray
  | .mk k name num pos kids =>
    if k = 2 then name else if k = 3 then numB num else if k = 4 then boolB num else if k = 5 then sUnit
    else if k = 6 then byteB 40 ++ (joinB sComma (VPat.txts kids 0) ++ byteB 41)
    else if k = 7 then (if kids.length = 0 then name else name ++ (sSp ++ kidB (VPat.txts kids 1) 0))
    else byteB 95
def VPat.txts : List VPat → Int → List ByteArray
  | [], _ => []
  | x :: l, a => roundB x.form x.level a :: VPat.txts l a
end
def VPat.txt (x : VPat) (a : Int) : ByteArray := roundB x.form x.level a
/- Exps -/
def opLev (s : ByteArray) : Int := if s = ⟨#[58, 61]⟩ then 1 else if s = ⟨#[61]⟩ ∨ s = ⟨#[60]⟩ then 2 else if s = ⟨#[42]⟩ then 4 else 3
def opLeft (s : ByteArray) : Int := if opLev s ≤ 2 then opLev s + 1 else opLev s
def appAsk : List VExp → Int
  | [] => 5
  | x :: _ => if x.Kind = 6 ∧ x.Kids.length = 0 then 7 else 5
def VExp.level (x : VExp) : Int :=
  if x.Kind = 8 ∨ x.Kind = 10 ∨ x.Kind = 11 ∨ x.Kind = 12 ∨ x.Kind = 13 then 0 else if x.Kind = 14 then opLev x.Name else if x.Kind = 9 then 5
  else if (x.Kind = 6 ∨ x.Kind = 15) ∧ x.Kids.length ≠ 0 then 5 else 6
def sLet : ByteArray := ⟨#[108, 101, 116, 32]⟩
def sLetRec : ByteArray := ⟨#[108, 101, 116, 32, 114, 101, 99, 32]⟩
def sIs : ByteArray := ⟨#[32, 61, 32]⟩
def sIn : ByteArray := ⟨#[32, 105, 110, 32]⟩
def sFun : ByteArray := ⟨#[102, 117, 110, 32]⟩
def sIf : ByteArray := ⟨#[105, 102, 32]⟩
def sThen : ByteArray := ⟨#[32, 116, 104, 101, 110, 32]⟩
def sElse : ByteArray := ⟨#[32, 101, 108, 115, 101, 32]⟩
def sMatch : ByteArray := ⟨#[109, 97, 116, 99, 104, 32]⟩
def sWith : ByteArray := ⟨#[32, 119, 105, 116, 104]⟩
def sEnd : ByteArray := ⟨#[32, 101, 110, 100]⟩
def sBar : ByteArray := ⟨#[32, 124, 32]⟩
mutual
def VExp.form : VExp → ByteArray
  | .mk k name num text pos kids arms =>
    if k = 1 then numB num else if k = 2 then quotedB text else if k = 3 then boolB num else if k = 4 then sUnit else if k = 5 then name
    else if k = 6 ∨ k = 15 then (if kids.length = 0 then name else name ++ (sSp ++ kidB (VExp.txts kids 6) 0))
    else if k = 7 then byteB 40 ++ (joinB sComma (VExp.txts kids 0) ++ byteB 41)
    else if k = 8 then sFun ++ (name ++ (sArrow ++ kidB (VExp.txts kids 0) 0))
    else if k = 9 then kidB (VExp.txts kids (appAsk kids)) 0 ++ (sSp ++ kidB (VExp.txts kids 6) 1)
    else if k = 14 then kidB (VExp.txts kids (opLeft name)) 0 ++ (sSp ++ (name ++ (sSp ++ kidB (VExp.txts kids (opLev name + 1)) 1)))
    else if k = 10 then sLet ++ (name ++ (sIs ++ (kidB (VExp.txts kids 0) 0 ++ (sIn ++ kidB (VExp.txts kids 0) 1))))
    else if k = 11 then sLetRec ++ (name ++ (sSp ++ (text ++ (sIs ++ (kidB (VExp.txts kids 0) 0 ++ (sIn ++ kidB (VExp.txts kids 0) 1))))))
    else if k = 12 then sIf ++ (kidB (VExp.txts kids 0) 0 ++ (sThen ++ (kidB (VExp.txts kids 0) 1 ++ (sElse ++ kidB (VExp.txts kids 0) 2))))
    else sMatch ++ (kidB (VExp.txts kids 0) 0 ++ (sWith ++ (VArm.bits arms ++ sEnd)))
def VExp.txts : List VExp → Int → List ByteArray
  | [], _ => []
  | x :: l, a => roundB x.form x.level a :: VExp.txts l a
def VArm.bits : List VArm → ByteArray
  | [] => ⟨#[]⟩
  | .mk p e :: l => sBar ++ (p.txt 0 ++ (sArrow ++ (roundB e.form e.level 0 ++ VArm.bits l)))
end
def VExp.txt (x : VExp) (a : Int) : ByteArray := roundB x.form x.level a
theorem ite_le {c : Prop} [Decidable c] {a b : ByteArray} {n : Nat} (h : c → a.size ≤ n) (h' : ¬ c → b.size ≤ n) : (if c then a else b).size ≤ n := by
  by_cases hc : c
  · rw [if_pos hc]; exact h hc
  · rw [if_neg hc]; exact h' hc
end Go.Ab
