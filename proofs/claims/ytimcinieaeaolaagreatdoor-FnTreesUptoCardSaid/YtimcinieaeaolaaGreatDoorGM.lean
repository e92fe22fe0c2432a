/- Part of a proof: the functions that the law reaches, walked by the abstract logic of the texts Ab. -/
import Derived.Test.YtimcinieaeaolaaGreatDoorAbM4
import Derived.Lib.Join
import Derived.Lib.ItoaNum
import Derived.Lib.LaidTab
set_option linter.unusedVariables false
set_option linter.unusedSimpArgs false
set_option linter.defProp false
/-
  LISTS IN THE LAWS' OWN HELPERS, once for all element types: what is left of toXS, szXS, eqXS.
-/
namespace Go.Ab
set_option maxRecDepth 100000
theorem wrapI {n : Int} (h : -9223372036854775808 ≤ n) (h' : n ≤ 9223372036854775807) : IntKind.i64.wrap n = n := wrap_id h h'
theorem wrapS {a b : Nat} (h : b ≤ a) (h' : a ≤ 4611686018427387904) : IntKind.i64.wrap ((a : Int) - (b : Int)) = ((a - b : Nat) : Int) := by
  rw [wrapI (by omega) (by omega)]; omega
theorem wrapA {a b : Nat} (h : a + b ≤ 4611686018427387904) : IntKind.i64.wrap ((a : Int) + (b : Int)) = ((a + b : Nat) : Int) := by
  rw [wrapI (by omega) (by omega)]; omega
theorem wrapA1 {a : Nat} (h : a ≤ 4611686018427387904) : IntKind.i64.wrap ((a : Int) + 1) = ((a + 1 : Nat) : Int) := by
  rw [wrapI (by omega) (by omega)]; omega
theorem lt0 (n : Nat) : decide ((n : Int) < 0) = false := by simp
theorem getM {α : Type} (f : α → AV) {l : List α} {i : Nat} (h : i < l.length) : (l.map f)[i]? = some (f l[i]) := by simp [h]
theorem elemM {α : Type} (f : α → AV) {l : List α} {s n : Nat} {k : IntKind} {K : AV → Prop} (h : n < l.length) (hs : (f l[n]).cells.length = s) (hk : goT K (f l[n])) : elemP s (.sl (l.map f)) (.v (.int k (n : Int))) K :=
  elem_intro _ (getM f h) hs hk
theorem norefsM {α : Type} {f : α → AV} {l : List α} (h : ∀ x, (f x).noref = true) : AV.norefs (l.map f) = true := norefs_of fun a ha => by
  obtain ⟨x, _, rfl⟩ := List.mem_map.1 ha; exact h x
section
variable {P : Program} {L : AX → SS → List AV → Prop} {R : AV → Prop} {t : T} {r : List AV} {S : List (List AV → Prop)}
/-- a loop that counts up -/
theorem loop_up {init : List AV} (n : Nat) (σ : Nat → List AV) (h0 : init = σ 0)
    (hr : ∀ i, i ≤ n → wpT P L R t (r ++ σ i) ((fun vs => i < n ∧ vs = σ (i + 1)) :: S)) : loopT P L R init t r S := by
  refine loop_intro (ι := Nat) (fun i => i ≤ n) σ (fun i => n - i) 0 (Nat.zero_le _) h0 fun i hi => ?_
  refine wpT_mono (fun _ _ _ h => h) (fun _ h => h) t (.cons (fun vs hv => ?_) (.refl _)) (hr i hi)
  exact ⟨i + 1, hv.1, by have := hv.1; omega, hv.2⟩
end
theorem sum_take {α : Type} (wt : α → Nat) (l : List α) (i : Nat) (h : i < l.length) : ((l.take (i + 1)).map wt).sum = ((l.take i).map wt).sum + wt l[i] := by
  rw [List.take_add_one, List.getElem?_eq_getElem h]
  simp only [Option.toList_some, List.map_append, List.sum_append, List.map_cons, List.map_nil, List.sum_cons, List.sum_nil, Nat.add_zero]
theorem sum_le {α : Type} (wt : α → Nat) (l : List α) (i : Nat) : ((l.take i).map wt).sum ≤ (l.map wt).sum := by
  conv => rhs; rw [← List.take_append_drop i l]
  rw [List.map_append, List.sum_append]; omega
/- numbers -/
abbrev avI (n : Int) : AV := .v (.int .i64 n)
abbrev avB (s : ByteArray) : AV := .v (.string s)
end Go.Ab
/-
  THE TYPES OF THE LAWS as types of our own (printed by wip/tool/types.py): their cells, their weights, small facts.
-/
namespace Go.Ab
set_option maxRecDepth 100000
/-- a number of 64 bits -/
def inR (n : Int) : Prop := -9223372036854775808 ≤ n ∧ n ≤ 9223372036854775807
theorem le_sum {α : Type} (w : α → Nat) {l : List α} {x : α} (h : x ∈ l) : w x ≤ (l.map w).sum := by
  induction l with
  | nil => simp at h
  | cons a l ih =>
    simp only [List.map_cons, List.sum_cons]
    rcases List.mem_cons.1 h with rfl | h
    · omega
    · have := ih h; omega
inductive VToken where
  | mk (Kind : Int) (Text : ByteArray) (Num : Int) (Pos : Int)
def VToken.Pos : VToken → Int
  | .mk _ _ _ a => a
def VToken.cs : VToken → List AV
  | .mk Kind Text Num Pos => (.v (.int .i64 Kind) :: (.v (.string Text) :: (.v (.int .i64 Num) :: (.v (.int .i64 Pos) :: []))))
def VToken.av (x : VToken) : AV := .agg x.cs
inductive VPat where
  | mk (Kind : Int) (Name : ByteArray) (Num : Int) (Pos : Int) (Kids : List VPat)
def VPat.Kind : VPat → Int
  | .mk a _ _ _ _ => a
def VPat.Name : VPat → ByteArray
  | .mk _ a _ _ _ => a
def VPat.Num : VPat → Int
  | .mk _ _ a _ _ => a
def VPat.Pos : VPat → Int
  | .mk _ _ _ a _ => a
def VPat.Kids : VPat → List VPat
  | .mk _ _ _ _ a => a
mutual
def VPat.cs : VPat → List AV
  | .mk Kind Name Num Pos Kids => (.v (.int .i64 Kind) :: (.v (.string Name) :: (.v (.int .i64 Num) :: (.v (.int .i64 Pos) :: (.sl (VPat.avs Kids) :: [])))))
def VPat.avs : List VPat → List AV
  | [] => []
  | x :: l => .agg x.cs :: VPat.avs l
end
def VPat.av (x : VPat) : AV := .agg x.cs
theorem VPat.avs_eq (l : List VPat) : VPat.avs l = l.map VPat.av := by
  induction l with
  | nil => rfl
  | cons x l ih => simp only [VPat.avs, ih, List.map_cons, VPat.av]
mutual
def VPat.wt : VPat → Nat
  | .mk Kind Name Num Pos Kids => Name.size + (Kids.length + VPat.wts Kids)
def VPat.wts : List VPat → Nat
  | [] => 0
  | x :: l => x.wt + VPat.wts l
end
theorem VPat.wts_eq (l : List VPat) : VPat.wts l = (l.map VPat.wt).sum := by
  induction l with
  | nil => rfl
  | cons x l ih => simp only [VPat.wts, ih, List.map_cons, List.sum_cons]
mutual
def VPat.ok : VPat → Prop
  | .mk Kind Name Num Pos Kids => inR Kind ∧ inR Num ∧ inR Pos ∧ VPat.oks Kids
def VPat.oks : List VPat → Prop
  | [] => True
  | x :: l => x.ok ∧ VPat.oks l
end
theorem VPat.oks_iff (l : List VPat) : VPat.oks l ↔ ∀ y ∈ l, y.ok := by
  induction l with
  | nil => simp [VPat.oks]
  | cons x l ih => simp [VPat.oks, ih]
mutual
theorem VPat.norefsC : ∀ x : VPat, AV.norefs x.cs = true
  | .mk Kind Name Num Pos Kids => by simp [VPat.cs, AV.norefs, AV.noref, norefs_append, VPat.norefsL Kids]
theorem VPat.norefsL : ∀ l : List VPat, AV.norefs (VPat.avs l) = true
  | [] => rfl
  | x :: l => by simp [VPat.avs, AV.norefs, AV.noref, VPat.norefsC x, VPat.norefsL l]
end
theorem VPat.noref (x : VPat) : x.av.noref = true   := VPat.norefsC x
theorem VPat.isAgg (x : VPat) : x.av.isAgg = true := nr rfl
theorem VPat.cs_eq (x : VPat) : x.cs = [.v (.int .i64 x.Kind), .v (.string x.Name), .v (.int .i64 x.Num), .v (.int .i64 x.Pos), .sl (x.Kids.map VPat.av)] := by
  obtain ⟨Kind, Name, Num, Pos, Kids⟩ := x
  simp only [VPat.cs, VPat.Kids, VPat.Kind, VPat.Name, VPat.Num, VPat.Pos, VPat.avs_eq, List.cons_append, List.nil_append]
theorem VPat.cells (x : VPat) : x.av.cells = [.v (.int .i64 x.Kind), .v (.string x.Name), .v (.int .i64 x.Num), .v (.int .i64 x.Pos), .sl (x.Kids.map VPat.av)] := VPat.cs_eq x
theorem VPat.width (x : VPat) : x.av.cells.length = 5 := by rw [VPat.cells]; rfl
theorem VPat.storable (x : VPat) : x.av.storable = true := by unfold AV.storable; rw [VPat.cells]; rfl
theorem VPat.eta (x : VPat) : AV.agg [.v (.int .i64 x.Kind), .v (.string x.Name), .v (.int .i64 x.Num), .v (.int .i64 x.Pos), .sl (x.Kids.map VPat.av)] = x.av := by
  show _ = AV.agg x.cs
  rw [VPat.cs_eq]
theorem VPat.shape (x : VPat) : x.av.isAgg = true ∧ x.av.cells.length = 5 ∧ x.av.storable = true := ⟨rfl, VPat.width x, VPat.storable x⟩
theorem VPat.wt_eq (x : VPat) : x.wt = x.Name.size + (x.Kids.length + (x.Kids.map VPat.wt).sum) := by
  cases x
  simp only [VPat.wt, VPat.wts_eq, VPat.Kind, VPat.Name, VPat.Num, VPat.Pos, VPat.Kids]
theorem VPat.ok_iff (x : VPat) : x.ok ↔ inR x.Kind ∧ inR x.Num ∧ inR x.Pos ∧ (∀ y ∈ x.Kids, y.ok) := by
  cases x
  simp only [VPat.ok, VPat.oks_iff, VPat.Kind, VPat.Name, VPat.Num, VPat.Pos, VPat.Kids]
theorem VPat.Kids_lt {x : VPat} {y : VPat} (h : y ∈ x.Kids) : SizeOf.sizeOf y < SizeOf.sizeOf x := by
  cases x
  have := List.sizeOf_lt_of_mem h
  simp only [VPat.Kids] at this
  simp; omega
mutual
inductive VExp where
  | mk (Kind : Int) (Name : ByteArray) (Num : Int) (Text : ByteArray) (Pos : Int) (Kids : List VExp) (Arms : List VArm)
inductive VArm where
  | mk (P : VPat) (E : VExp)
end
def VExp.Kind : VExp → Int
  | .mk a _ _ _ _ _ _ => a
def VExp.Name : VExp → ByteArray
  | .mk _ a _ _ _ _ _ => a
def VExp.Num : VExp → Int
  | .mk _ _ a _ _ _ _ => a
def VExp.Text : VExp → ByteArray
  | .mk _ _ _ a _ _ _ => a
def VExp.Pos : VExp → Int
  | .mk _ _ _ _ a _ _ => a
def VExp.Kids : VExp → List VExp
  | .mk _ _ _ _ _ a _ => a
def VExp.Arms : VExp → List VArm
  | .mk _ _ _ _ _ _ a => a
def VArm.P : VArm → VPat
  | .mk a _ => a
def VArm.E : VArm → VExp
  | .mk _ a => a
mutual
def VExp.cs : VExp → List AV
  | .mk Kind Name Num Text Pos Kids Arms => (.v (.int .i64 Kind) :: (.v (.string Name) :: (.v (.int .i64 Num) :: (.v (.string Text) :: (.v (.int .i64 Pos) :: (.sl (VExp.avs Kids) :: (.sl (VArm.avs Arms) :: [])))))))
def VArm.cs : VArm → List AV
  | .mk P E => (P.cs ++ (E.cs ++ []))
def VExp.avs : List VExp → List AV
  | [] => []
  | x :: l => .agg x.cs :: VExp.avs l
def VArm.avs : List VArm → List AV
  | [] => []
  | x :: l => .agg x.cs :: VArm.avs l
end
def VExp.av (x : VExp) : AV := .agg x.cs
theorem VExp.avs_eq (l : List VExp) : VExp.avs l = l.map VExp.av := by
  induction l with
  | nil => rfl
  | cons x l ih => simp only [VExp.avs, ih, List.map_cons, VExp.av]
def VArm.av (x : VArm) : AV := .agg x.cs
theorem VArm.avs_eq (l : List VArm) : VArm.avs l = l.map VArm.av := by
  induction l with
  | nil => rfl
  | cons x l ih => simp only [VArm.avs, ih, List.map_cons, VArm.av]
mutual
def VExp.wt : VExp → Nat
  | .mk Kind Name Num Text Pos Kids Arms => Name.size + Text.size + (Kids.length + VExp.wts Kids) + (Arms.length + VArm.wts Arms)
def VArm.wt : VArm → Nat
  | .mk P E => P.wt + E.wt
def VExp.wts : List VExp → Nat
  | [] => 0
  | x :: l => x.wt + VExp.wts l
def VArm.wts : List VArm → Nat
  | [] => 0
  | x :: l => x.wt + VArm.wts l
end
theorem VExp.wts_eq (l : List VExp) : VExp.wts l = (l.map VExp.wt).sum := by
  induction l with
  | nil => rfl
  | cons x l ih => simp only [VExp.wts, ih, List.map_cons, List.sum_cons]
theorem VArm.wts_eq (l : List VArm) : VArm.wts l = (l.map VArm.wt).sum := by
  induction l with
  | nil => rfl
  | cons x l ih => simp only [VArm.wts, ih, List.map_cons, List.sum_cons]
mutual
def VExp.ok : VExp → Prop
  | .mk Kind Name Num Text Pos Kids Arms => inR Kind ∧ inR Num ∧ inR Pos ∧ VExp.oks Kids ∧ VArm.oks Arms
def VArm.ok : VArm → Prop
  | .mk P E => P.ok ∧ E.ok
def VExp.oks : List VExp → Prop
  | [] => True
  | x :: l => x.ok ∧ VExp.oks l
def VArm.oks : List VArm → Prop
  | [] => True
  | x :: l => x.ok ∧ VArm.oks l
end
theorem VExp.oks_iff (l : List VExp) : VExp.oks l ↔ ∀ y ∈ l, y.ok := by
  induction l with
  | nil => simp [VExp.oks]
  | cons x l ih => simp [VExp.oks, ih]
theorem VArm.oks_iff (l : List VArm) : VArm.oks l ↔ ∀ y ∈ l, y.ok := by
  induction l with
  | nil => simp [VArm.oks]
  | cons x l ih => simp [VArm.oks, ih]
mutual
theorem VExp.norefsC : ∀ x : VExp, AV.norefs x.cs = true
  | .mk Kind Name Num Text Pos Kids Arms => by simp [VExp.cs, AV.norefs, AV.noref, norefs_append, VExp.norefsL Kids, VArm.norefsL Arms]
theorem VArm.norefsC : ∀ x : VArm, AV.norefs x.cs = true
  | .mk P E => by simp [VArm.cs, AV.norefs, AV.noref, norefs_append, VPat.norefsC P, VExp.norefsC E]
theorem VExp.norefsL : ∀ l : List VExp, AV.norefs (VExp.avs l) = true
  | [] => rfl
  | x :: l => by simp [VExp.avs, AV.norefs, AV.noref, VExp.norefsC x, VExp.norefsL l]
theorem VArm.norefsL : ∀ l : List VArm, AV.norefs (VArm.avs l) = true
  | [] => rfl
  | x :: l => by simp [VArm.avs, AV.norefs, AV.noref, VArm.norefsC x, VArm.norefsL l]
end
theorem VExp.noref (x : VExp) : x.av.noref = true   := VExp.norefsC x
theorem VExp.isAgg (x : VExp) : x.av.isAgg = true := nr rfl
theorem VExp.cs_eq (x : VExp) : x.cs = [.v (.int .i64 x.Kind), .v (.string x.Name), .v (.int .i64 x.Num), .v (.string x.Text), .v (.int .i64 x.Pos), .sl (x.Kids.map VExp.av), .sl (x.Arms.map VArm.av)] := by
  obtain ⟨Kind, Name, Num, Text, Pos, Kids, Arms⟩ := x
  simp only [VExp.cs, VExp.Arms, VExp.Kids, VExp.Kind, VExp.Name, VExp.Num, VExp.Pos, VExp.Text, VArm.avs_eq, VExp.avs_eq, List.cons_append, List.nil_append]
theorem VExp.cells (x : VExp) : x.av.cells = [.v (.int .i64 x.Kind), .v (.string x.Name), .v (.int .i64 x.Num), .v (.string x.Text), .v (.int .i64 x.Pos), .sl (x.Kids.map VExp.av), .sl (x.Arms.map VArm.av)] := VExp.cs_eq x
theorem VExp.width (x : VExp) : x.av.cells.length = 7 := by rw [VExp.cells]; rfl
theorem VExp.storable (x : VExp) : x.av.storable = true := by unfold AV.storable; rw [VExp.cells]; rfl
theorem VExp.eta (x : VExp) : AV.agg [.v (.int .i64 x.Kind), .v (.string x.Name), .v (.int .i64 x.Num), .v (.string x.Text), .v (.int .i64 x.Pos), .sl (x.Kids.map VExp.av), .sl (x.Arms.map VArm.av)] = x.av := by
  show _ = AV.agg x.cs
  rw [VExp.cs_eq]
theorem VExp.shape (x : VExp) : x.av.isAgg = true ∧ x.av.cells.length = 7 ∧ x.av.storable = true := ⟨rfl, VExp.width x, VExp.storable x⟩
theorem VExp.wt_eq (x : VExp) : x.wt = x.Name.size + x.Text.size + (x.Kids.length + (x.Kids.map VExp.wt).sum) + (x.Arms.length + (x.Arms.map VArm.wt).sum) := by
  cases x
  simp only [VExp.wt, VExp.wts_eq, VArm.wts_eq, VExp.Kind, VExp.Name, VExp.Num, VExp.Text, VExp.Pos, VExp.Kids, VExp.Arms]
theorem VExp.ok_iff (x : VExp) : x.ok ↔ inR x.Kind ∧ inR x.Num ∧ inR x.Pos ∧ (∀ y ∈ x.Kids, y.ok) ∧ (∀ y ∈ x.Arms, y.ok) := by
  cases x
  simp only [VExp.ok, VExp.oks_iff, VArm.oks_iff, VExp.Kind, VExp.Name, VExp.Num, VExp.Text, VExp.Pos, VExp.Kids, VExp.Arms]
theorem VExp.Kids_lt {x : VExp} {y : VExp} (h : y ∈ x.Kids) : SizeOf.sizeOf y < SizeOf.sizeOf x := by
  cases x
  have := List.sizeOf_lt_of_mem h
  simp only [VExp.Kids] at this
  simp; omega
theorem VExp.Arms_lt {x : VExp} {y : VArm} (h : y ∈ x.Arms) : SizeOf.sizeOf y < SizeOf.sizeOf x := by
  cases x
  have := List.sizeOf_lt_of_mem h
  simp only [VExp.Arms] at this
  simp; omega
theorem VArm.noref (x : VArm) : x.av.noref = true   := VArm.norefsC x
theorem VArm.isAgg (x : VArm) : x.av.isAgg = true := nr rfl
theorem VArm.cs_eq (x : VArm) : x.cs = [.v (.int .i64 x.P.Kind), .v (.string x.P.Name), .v (.int .i64 x.P.Num), .v (.int .i64 x.P.Pos), .sl (x.P.Kids.map VPat.av), .v (.int .i64 x.E.Kind), .v (.string x.E.Name), .v (.int .i64 x.E.Num), .v (.string x.E.Text), .v (.int .i64 x.E.Pos), .sl (x.E.Kids.map VExp.av), .sl (x.E.Arms.map VArm.av)] := by
  obtain ⟨⟨P_Kind, P_Name, P_Num, P_Pos, P_Kids⟩, ⟨E_Kind, E_Name, E_Num, E_Text, E_Pos, E_Kids, E_Arms⟩⟩ := x
  simp only [VArm.cs, VExp.cs, VPat.cs, VArm.E, VArm.P, VExp.Arms, VExp.Kids, VExp.Kind, VExp.Name, VExp.Num, VExp.Pos, VExp.Text, VPat.Kids, VPat.Kind, VPat.Name, VPat.Num, VPat.Pos, VArm.avs_eq, VExp.avs_eq, VPat.avs_eq, List.cons_append, List.nil_append]
theorem VArm.cells (x : VArm) : x.av.cells = [.v (.int .i64 x.P.Kind), .v (.string x.P.Name), .v (.int .i64 x.P.Num), .v (.int .i64 x.P.Pos), .sl (x.P.Kids.map VPat.av), .v (.int .i64 x.E.Kind), .v (.string x.E.Name), .v (.int .i64 x.E.Num), .v (.string x.E.Text), .v (.int .i64 x.E.Pos), .sl (x.E.Kids.map VExp.av), .sl (x.E.Arms.map VArm.av)] := VArm.cs_eq x
theorem VArm.width (x : VArm) : x.av.cells.length = 12 := by rw [VArm.cells]; rfl
theorem VArm.storable (x : VArm) : x.av.storable = true := by unfold AV.storable; rw [VArm.cells]; rfl
theorem VArm.eta (x : VArm) : AV.agg [.v (.int .i64 x.P.Kind), .v (.string x.P.Name), .v (.int .i64 x.P.Num), .v (.int .i64 x.P.Pos), .sl (x.P.Kids.map VPat.av), .v (.int .i64 x.E.Kind), .v (.string x.E.Name), .v (.int .i64 x.E.Num), .v (.string x.E.Text), .v (.int .i64 x.E.Pos), .sl (x.E.Kids.map VExp.av), .sl (x.E.Arms.map VArm.av)] = x.av := by
  show _ = AV.agg x.cs
  rw [VArm.cs_eq]
theorem VArm.shape (x : VArm) : x.av.isAgg = true ∧ x.av.cells.length = 12 ∧ x.av.storable = true := ⟨rfl, VArm.width x, VArm.storable x⟩
theorem VArm.load_P (x : VArm) : loadC (some 5) x.av 0 = x.P.av := by
  unfold loadC
  simp only
  rw [if_neg (fun h => by have := h.2.2; rw [VArm.width] at this; omega), VArm.cells]
  exact VPat.eta _
theorem VArm.load_E (x : VArm) : loadC (some 7) x.av 5 = x.E.av := by
  unfold loadC
  simp only
  rw [if_neg (fun h => by have := h.2.2; rw [VArm.width] at this; omega), VArm.cells]
  exact VExp.eta _
theorem VArm.wt_eq (x : VArm) : x.wt = x.P.wt + x.E.wt := by
  cases x
  simp only [VArm.wt, VExp.wts_eq, VArm.wts_eq, VArm.P, VArm.E]
theorem VArm.facts {l : List VArm} {b : Nat} (h : (l.map VArm.wt).sum ≤ b) : ∀ x ∈ l, x.wt ≤ b ∧ x.wt = x.P.wt + x.E.wt := fun x hx => ⟨Nat.le_trans (le_sum VArm.wt hx) h, x.wt_eq⟩
theorem VArm.ok_iff (x : VArm) : x.ok ↔ x.P.ok ∧ x.E.ok := by
  cases x
  simp only [VArm.ok, VExp.oks_iff, VArm.oks_iff, VArm.P, VArm.E]
theorem VArm.E_lt (x : VArm) : SizeOf.sizeOf x.E < SizeOf.sizeOf x := by
  cases x
  simp only [VArm.E]
  simp; omega
inductive VTypeExp where
  | mk (Kind : Int) (Name : ByteArray) (Pos : Int) (Kids : List VTypeExp)
def VTypeExp.Kind : VTypeExp → Int
  | .mk a _ _ _ => a
def VTypeExp.Name : VTypeExp → ByteArray
  | .mk _ a _ _ => a
def VTypeExp.Pos : VTypeExp → Int
  | .mk _ _ a _ => a
def VTypeExp.Kids : VTypeExp → List VTypeExp
  | .mk _ _ _ a => a
mutual
def VTypeExp.cs : VTypeExp → List AV
  | .mk Kind Name Pos Kids => (.v (.int .i64 Kind) :: (.v (.string Name) :: (.v (.int .i64 Pos) :: (.sl (VTypeExp.avs Kids) :: []))))
def VTypeExp.avs : List VTypeExp → List AV
  | [] => []
  | x :: l => .agg x.cs :: VTypeExp.avs l
end
def VTypeExp.av (x : VTypeExp) : AV := .agg x.cs
theorem VTypeExp.avs_eq (l : List VTypeExp) : VTypeExp.avs l = l.map VTypeExp.av := by
  induction l with
  | nil => rfl
  | cons x l ih => simp only [VTypeExp.avs, ih, List.map_cons, VTypeExp.av]
mutual
def VTypeExp.wt : VTypeExp → Nat
  | .mk Kind Name Pos Kids => Name.size + (Kids.length + VTypeExp.wts Kids)
def VTypeExp.wts : List VTypeExp → Nat
  | [] => 0
  | x :: l => x.wt + VTypeExp.wts l
end
theorem VTypeExp.wts_eq (l : List VTypeExp) : VTypeExp.wts l = (l.map VTypeExp.wt).sum := by
  induction l with
  | nil => rfl
  | cons x l ih => simp only [VTypeExp.wts, ih, List.map_cons, List.sum_cons]
mutual
def VTypeExp.ok : VTypeExp → Prop
  | .mk Kind Name Pos Kids => inR Kind ∧ inR Pos ∧ VTypeExp.oks Kids
def VTypeExp.oks : List VTypeExp → Prop
  | [] => True
  | x :: l => x.ok ∧ VTypeExp.oks l
end
theorem VTypeExp.oks_iff (l : List VTypeExp) : VTypeExp.oks l ↔ ∀ y ∈ l, y.ok := by
  induction l with
  | nil => simp [VTypeExp.oks]
  | cons x l ih => simp [VTypeExp.oks, ih]
mutual
theorem VTypeExp.norefsC : ∀ x : VTypeExp, AV.norefs x.cs = true
  | .mk Kind Name Pos Kids => by simp [VTypeExp.cs, AV.norefs, AV.noref, norefs_append, VTypeExp.norefsL Kids]
theorem VTypeExp.norefsL : ∀ l : List VTypeExp, AV.norefs (VTypeExp.avs l) = true
  | [] => rfl
  | x :: l => by simp [VTypeExp.avs, AV.norefs, AV.noref, VTypeExp.norefsC x, VTypeExp.norefsL l]
end
theorem VTypeExp.noref (x : VTypeExp) : x.av.noref = true   := VTypeExp.norefsC x
theorem VTypeExp.isAgg (x : VTypeExp) : x.av.isAgg = true := nr rfl
theorem VTypeExp.cs_eq (x : VTypeExp) : x.cs = [.v (.int .i64 x.Kind), .v (.string x.Name), .v (.int .i64 x.Pos), .sl (x.Kids.map VTypeExp.av)] := by
  obtain ⟨Kind, Name, Pos, Kids⟩ := x
  simp only [VTypeExp.cs, VTypeExp.Kids, VTypeExp.Kind, VTypeExp.Name, VTypeExp.Pos, VTypeExp.avs_eq, List.cons_append, List.nil_append]
theorem VTypeExp.cells (x : VTypeExp) : x.av.cells = [.v (.int .i64 x.Kind), .v (.string x.Name), .v (.int .i64 x.Pos), .sl (x.Kids.map VTypeExp.av)] := VTypeExp.cs_eq x
theorem VTypeExp.width (x : VTypeExp) : x.av.cells.length = 4 := by rw [VTypeExp.cells]; rfl
theorem VTypeExp.storable (x : VTypeExp) : x.av.storable = true := by unfold AV.storable; rw [VTypeExp.cells]; rfl
theorem VTypeExp.eta (x : VTypeExp) : AV.agg [.v (.int .i64 x.Kind), .v (.string x.Name), .v (.int .i64 x.Pos), .sl (x.Kids.map VTypeExp.av)] = x.av := by
  show _ = AV.agg x.cs
  rw [VTypeExp.cs_eq]
theorem VTypeExp.shape (x : VTypeExp) : x.av.isAgg = true ∧ x.av.cells.length = 4 ∧ x.av.storable = true := ⟨rfl, VTypeExp.width x, VTypeExp.storable x⟩
theorem VTypeExp.wt_eq (x : VTypeExp) : x.wt = x.Name.size + (x.Kids.length + (x.Kids.map VTypeExp.wt).sum) := by
  cases x
  simp only [VTypeExp.wt, VTypeExp.wts_eq, VTypeExp.Kind, VTypeExp.Name, VTypeExp.Pos, VTypeExp.Kids]
theorem VTypeExp.ok_iff (x : VTypeExp) : x.ok ↔ inR x.Kind ∧ inR x.Pos ∧ (∀ y ∈ x.Kids, y.ok) := by
  cases x
  simp only [VTypeExp.ok, VTypeExp.oks_iff, VTypeExp.Kind, VTypeExp.Name, VTypeExp.Pos, VTypeExp.Kids]
theorem VTypeExp.Kids_lt {x : VTypeExp} {y : VTypeExp} (h : y ∈ x.Kids) : SizeOf.sizeOf y < SizeOf.sizeOf x := by
  cases x
  have := List.sizeOf_lt_of_mem h
  simp only [VTypeExp.Kids] at this
  simp; omega
inductive VCtor where
  | mk (Name : ByteArray) (Has : Bool) (Arg : VTypeExp) (Pos : Int)
def VCtor.Name : VCtor → ByteArray
  | .mk a _ _ _ => a
def VCtor.Has : VCtor → Bool
  | .mk _ a _ _ => a
def VCtor.Arg : VCtor → VTypeExp
  | .mk _ _ a _ => a
def VCtor.Pos : VCtor → Int
  | .mk _ _ _ a => a
def VCtor.cs : VCtor → List AV
  | .mk Name Has Arg Pos => (.v (.string Name) :: (.v (.bool Has) :: (Arg.cs ++ (.v (.int .i64 Pos) :: []))))
def VCtor.av (x : VCtor) : AV := .agg x.cs
def VCtor.wt : VCtor → Nat
  | .mk Name Has Arg Pos => Name.size + Arg.wt
def VCtor.ok : VCtor → Prop
  | .mk Name Has Arg Pos => Arg.ok ∧ inR Pos
theorem VCtor.norefsC : ∀ x : VCtor, AV.norefs x.cs = true
  | .mk Name Has Arg Pos => by simp [VCtor.cs, AV.norefs, AV.noref, norefs_append, VTypeExp.norefsC Arg]
theorem VCtor.noref (x : VCtor) : x.av.noref = true   := VCtor.norefsC x
theorem VCtor.isAgg (x : VCtor) : x.av.isAgg = true := nr rfl
theorem VCtor.cs_eq (x : VCtor) : x.cs = [.v (.string x.Name), .v (.bool x.Has), .v (.int .i64 x.Arg.Kind), .v (.string x.Arg.Name), .v (.int .i64 x.Arg.Pos), .sl (x.Arg.Kids.map VTypeExp.av), .v (.int .i64 x.Pos)] := by
  obtain ⟨Name, Has, ⟨Arg_Kind, Arg_Name, Arg_Pos, Arg_Kids⟩, Pos⟩ := x
  simp only [VCtor.cs, VTypeExp.cs, VCtor.Arg, VCtor.Has, VCtor.Name, VCtor.Pos, VTypeExp.Kids, VTypeExp.Kind, VTypeExp.Name, VTypeExp.Pos, VTypeExp.avs_eq, List.cons_append, List.nil_append]
theorem VCtor.cells (x : VCtor) : x.av.cells = [.v (.string x.Name), .v (.bool x.Has), .v (.int .i64 x.Arg.Kind), .v (.string x.Arg.Name), .v (.int .i64 x.Arg.Pos), .sl (x.Arg.Kids.map VTypeExp.av), .v (.int .i64 x.Pos)] := VCtor.cs_eq x
theorem VCtor.width (x : VCtor) : x.av.cells.length = 7 := by rw [VCtor.cells]; rfl
theorem VCtor.storable (x : VCtor) : x.av.storable = true := by unfold AV.storable; rw [VCtor.cells]; rfl
theorem VCtor.eta (x : VCtor) : AV.agg [.v (.string x.Name), .v (.bool x.Has), .v (.int .i64 x.Arg.Kind), .v (.string x.Arg.Name), .v (.int .i64 x.Arg.Pos), .sl (x.Arg.Kids.map VTypeExp.av), .v (.int .i64 x.Pos)] = x.av := by
  show _ = AV.agg x.cs
  rw [VCtor.cs_eq]
theorem VCtor.shape (x : VCtor) : x.av.isAgg = true ∧ x.av.cells.length = 7 ∧ x.av.storable = true := ⟨rfl, VCtor.width x, VCtor.storable x⟩
theorem VCtor.load_Arg (x : VCtor) : loadC (some 4) x.av 2 = x.Arg.av := by
  unfold loadC
  simp only
  rw [if_neg (fun h => by have := h.2.2; rw [VCtor.width] at this; omega), VCtor.cells]
  exact VTypeExp.eta _
theorem VCtor.wt_eq (x : VCtor) : x.wt = x.Name.size + x.Arg.wt := by
  cases x
  simp only [VCtor.wt, VCtor.Name, VCtor.Has, VCtor.Arg, VCtor.Pos]
theorem VCtor.facts {l : List VCtor} {b : Nat} (h : (l.map VCtor.wt).sum ≤ b) : ∀ x ∈ l, x.wt ≤ b ∧ x.wt = x.Name.size + x.Arg.wt := fun x hx => ⟨Nat.le_trans (le_sum VCtor.wt hx) h, x.wt_eq⟩
theorem VCtor.ok_iff (x : VCtor) : x.ok ↔ x.Arg.ok ∧ inR x.Pos := by
  cases x
  simp only [VCtor.ok, VCtor.Name, VCtor.Has, VCtor.Arg, VCtor.Pos]
inductive VData where
  | mk (Name : ByteArray) (Vars : List ByteArray) (Ctors : List VCtor) (Pos : Int)
def VData.Name : VData → ByteArray
  | .mk a _ _ _ => a
def VData.Vars : VData → List ByteArray
  | .mk _ a _ _ => a
def VData.Ctors : VData → List VCtor
  | .mk _ _ a _ => a
def VData.Pos : VData → Int
  | .mk _ _ _ a => a
def VData.cs : VData → List AV
  | .mk Name Vars Ctors Pos => (.v (.string Name) :: (.sl (Vars.map fun x => .v (.string x)) :: (.sl (Ctors.map VCtor.av) :: (.v (.int .i64 Pos) :: []))))
def VData.av (x : VData) : AV := .agg x.cs
def VData.wt : VData → Nat
  | .mk Name Vars Ctors Pos => Name.size + (Vars.length + (Vars.map fun x => x.size).sum) + (Ctors.length + (Ctors.map VCtor.wt).sum)
def VData.ok : VData → Prop
  | .mk Name Vars Ctors Pos => (∀ y ∈ Ctors, y.ok) ∧ inR Pos
theorem VData.norefsC : ∀ x : VData, AV.norefs x.cs = true
  | .mk Name Vars Ctors Pos => by simp [VData.cs, AV.norefs, AV.noref, norefs_append, norefsM (f := fun x => .v (.string x)) (l := Vars) (fun _ => rfl), norefsM (f := VCtor.av) (l := Ctors) VCtor.noref]
theorem VData.noref (x : VData) : x.av.noref = true   := VData.norefsC x
theorem VData.isAgg (x : VData) : x.av.isAgg = true := nr rfl
theorem VData.cs_eq (x : VData) : x.cs = [.v (.string x.Name), .sl (x.Vars.map fun x => .v (.string x)), .sl (x.Ctors.map VCtor.av), .v (.int .i64 x.Pos)] := by
  obtain ⟨Name, Vars, Ctors, Pos⟩ := x
  simp only [VData.cs, VData.Ctors, VData.Name, VData.Pos, VData.Vars, List.cons_append, List.nil_append]
theorem VData.cells (x : VData) : x.av.cells = [.v (.string x.Name), .sl (x.Vars.map fun x => .v (.string x)), .sl (x.Ctors.map VCtor.av), .v (.int .i64 x.Pos)] := VData.cs_eq x
theorem VData.width (x : VData) : x.av.cells.length = 4 := by rw [VData.cells]; rfl
theorem VData.storable (x : VData) : x.av.storable = true := by unfold AV.storable; rw [VData.cells]; rfl
theorem VData.eta (x : VData) : AV.agg [.v (.string x.Name), .sl (x.Vars.map fun x => .v (.string x)), .sl (x.Ctors.map VCtor.av), .v (.int .i64 x.Pos)] = x.av := by
  show _ = AV.agg x.cs
  rw [VData.cs_eq]
theorem VData.shape (x : VData) : x.av.isAgg = true ∧ x.av.cells.length = 4 ∧ x.av.storable = true := ⟨rfl, VData.width x, VData.storable x⟩
theorem VData.wt_eq (x : VData) : x.wt = x.Name.size + (x.Vars.length + (x.Vars.map fun x => x.size).sum) + (x.Ctors.length + (x.Ctors.map VCtor.wt).sum) := by
  cases x
  simp only [VData.wt, VData.Name, VData.Vars, VData.Ctors, VData.Pos]
theorem VData.ok_iff (x : VData) : x.ok ↔ (∀ y ∈ x.Ctors, y.ok) ∧ inR x.Pos := by
  cases x
  simp only [VData.ok, VData.Name, VData.Vars, VData.Ctors, VData.Pos]
inductive VProg where
  | mk (Types : List VData) (Body : VExp)
def VProg.Types : VProg → List VData
  | .mk a _ => a
def VProg.Body : VProg → VExp
  | .mk _ a => a
def VProg.cs : VProg → List AV
  | .mk Types Body => (.sl (Types.map VData.av) :: (Body.cs ++ []))
def VProg.av (x : VProg) : AV := .agg x.cs
def VProg.wt : VProg → Nat
  | .mk Types Body => (Types.length + (Types.map VData.wt).sum) + Body.wt
def VProg.ok : VProg → Prop
  | .mk Types Body => (∀ y ∈ Types, y.ok) ∧ Body.ok
theorem VProg.norefsC : ∀ x : VProg, AV.norefs x.cs = true
  | .mk Types Body => by simp [VProg.cs, AV.norefs, AV.noref, norefs_append, norefsM (f := VData.av) (l := Types) VData.noref, VExp.norefsC Body]
theorem VProg.noref (x : VProg) : x.av.noref = true   := VProg.norefsC x
theorem VProg.isAgg (x : VProg) : x.av.isAgg = true := nr rfl
theorem VProg.cs_eq (x : VProg) : x.cs = [.sl (x.Types.map VData.av), .v (.int .i64 x.Body.Kind), .v (.string x.Body.Name), .v (.int .i64 x.Body.Num), .v (.string x.Body.Text), .v (.int .i64 x.Body.Pos), .sl (x.Body.Kids.map VExp.av), .sl (x.Body.Arms.map VArm.av)] := by
  obtain ⟨Types, ⟨Body_Kind, Body_Name, Body_Num, Body_Text, Body_Pos, Body_Kids, Body_Arms⟩⟩ := x
  simp only [VExp.cs, VProg.cs, VExp.Arms, VExp.Kids, VExp.Kind, VExp.Name, VExp.Num, VExp.Pos, VExp.Text, VProg.Body, VProg.Types, VArm.avs_eq, VExp.avs_eq, List.cons_append, List.nil_append]
theorem VProg.cells (x : VProg) : x.av.cells = [.sl (x.Types.map VData.av), .v (.int .i64 x.Body.Kind), .v (.string x.Body.Name), .v (.int .i64 x.Body.Num), .v (.string x.Body.Text), .v (.int .i64 x.Body.Pos), .sl (x.Body.Kids.map VExp.av), .sl (x.Body.Arms.map VArm.av)] := VProg.cs_eq x
theorem VProg.width (x : VProg) : x.av.cells.length = 8 := by rw [VProg.cells]; rfl
theorem VProg.storable (x : VProg) : x.av.storable = true := by unfold AV.storable; rw [VProg.cells]; rfl
theorem VProg.eta (x : VProg) : AV.agg [.sl (x.Types.map VData.av), .v (.int .i64 x.Body.Kind), .v (.string x.Body.Name), .v (.int .i64 x.Body.Num), .v (.string x.Body.Text), .v (.int .i64 x.Body.Pos), .sl (x.Body.Kids.map VExp.av), .sl (x.Body.Arms.map VArm.av)] = x.av := by
  show _ = AV.agg x.cs
  rw [VProg.cs_eq]
theorem VProg.load_Body (x : VProg) : loadC (some 7) x.av 1 = x.Body.av := by
  unfold loadC
  simp only
  rw [if_neg (fun h => by have := h.2.2; rw [VProg.width] at this; omega), VProg.cells]
  exact VExp.eta _
theorem VProg.wt_eq (x : VProg) : x.wt = (x.Types.length + (x.Types.map VData.wt).sum) + x.Body.wt := by
  cases x
  simp only [VProg.wt, VProg.Types, VProg.Body]
theorem VProg.ok_iff (x : VProg) : x.ok ↔ (∀ y ∈ x.Types, y.ok) ∧ x.Body.ok := by
  cases x
  simp only [VProg.ok, VProg.Types, VProg.Body]
inductive VTy where
  | mk (Kind : Int) (N : Int) (Name : ByteArray) (Kids : List VTy)
def VTy.N : VTy → Int
  | .mk _ a _ _ => a
def VTy.Name : VTy → ByteArray
  | .mk _ _ a _ => a
mutual
def VTy.cs : VTy → List AV
  | .mk Kind N Name Kids => (.v (.int .i64 Kind) :: (.v (.int .i64 N) :: (.v (.string Name) :: (.sl (VTy.avs Kids) :: []))))
def VTy.avs : List VTy → List AV
  | [] => []
  | x :: l => .agg x.cs :: VTy.avs l
end
def VTy.av (x : VTy) : AV := .agg x.cs
inductive VCtorInfo where
  | mk (Name : ByteArray) (Has : Bool) (Arg : VTy)
def VCtorInfo.Name : VCtorInfo → ByteArray
  | .mk a _ _ => a
def VCtorInfo.cs : VCtorInfo → List AV
  | .mk Name Has Arg => (.v (.string Name) :: (.v (.bool Has) :: (Arg.cs ++ [])))
def VCtorInfo.av (x : VCtorInfo) : AV := .agg x.cs
inductive VDataInfo where
  | mk (Name : ByteArray) (Vars : Int) (Ctors : List VCtorInfo)
def VDataInfo.Name : VDataInfo → ByteArray
  | .mk a _ _ => a
def VDataInfo.cs : VDataInfo → List AV
  | .mk Name Vars Ctors => (.v (.string Name) :: (.v (.int .i64 Vars) :: (.sl (Ctors.map VCtorInfo.av) :: [])))
def VDataInfo.av (x : VDataInfo) : AV := .agg x.cs
inductive VCPat where
  | mk (Kind : Int) (Num : Int) (Name : ByteArray) (T : VTy) (Kids : List VCPat)
def VCPat.Name : VCPat → ByteArray
  | .mk _ _ a _ _ => a
mutual
def VCPat.cs : VCPat → List AV
  | .mk Kind Num Name T Kids => (.v (.int .i64 Kind) :: (.v (.int .i64 Num) :: (.v (.string Name) :: (T.cs ++ (.sl (VCPat.avs Kids) :: [])))))
def VCPat.avs : List VCPat → List AV
  | [] => []
  | x :: l => .agg x.cs :: VCPat.avs l
end
def VCPat.av (x : VCPat) : AV := .agg x.cs
mutual
inductive VCore where
  | mk (Kind : Int) (N : Int) (Num : Int) (Text : ByteArray) (Name : ByteArray) (T : VTy) (Ts : List VTy) (Kids : List VCore) (Arms : List VCArm)
inductive VCArm where
  | mk (P : VCPat) (E : VCore)
end
def VCore.N : VCore → Int
  | .mk _ a _ _ _ _ _ _ _ => a
def VCore.Name : VCore → ByteArray
  | .mk _ _ _ _ a _ _ _ _ => a
def VCore.Ts : VCore → List VTy
  | .mk _ _ _ _ _ _ a _ _ => a
mutual
def VCore.cs : VCore → List AV
  | .mk Kind N Num Text Name T Ts Kids Arms => (.v (.int .i64 Kind) :: (.v (.int .i64 N) :: (.v (.int .i64 Num) :: (.v (.string Text) :: (.v (.string Name) :: (T.cs ++ (.sl (Ts.map VTy.av) :: (.sl (VCore.avs Kids) :: (.sl (VCArm.avs Arms) :: [])))))))))
def VCArm.cs : VCArm → List AV
  | .mk P E => (P.cs ++ (E.cs ++ []))
def VCore.avs : List VCore → List AV
  | [] => []
  | x :: l => .agg x.cs :: VCore.avs l
def VCArm.avs : List VCArm → List AV
  | [] => []
  | x :: l => .agg x.cs :: VCArm.avs l
end
def VCore.av (x : VCore) : AV := .agg x.cs
def VCArm.av (x : VCArm) : AV := .agg x.cs
inductive VKVal where
  | mk (Kind : Int) (N : Int) (Num : Int) (Text : ByteArray)
def VKVal.N : VKVal → Int
  | .mk _ a _ _ => a
def VKVal.cs : VKVal → List AV
  | .mk Kind N Num Text => (.v (.int .i64 Kind) :: (.v (.int .i64 N) :: (.v (.int .i64 Num) :: (.v (.string Text) :: []))))
def VKVal.av (x : VKVal) : AV := .agg x.cs
inductive VKTerm where
  | mk (Kind : Int) (Name : ByteArray) (N : Int) (Num : Int) (T : VTy) (Ts : List VTy) (Vs : List VKVal) (Kids : List VKTerm)
def VKTerm.Name : VKTerm → ByteArray
  | .mk _ a _ _ _ _ _ _ => a
def VKTerm.N : VKTerm → Int
  | .mk _ _ a _ _ _ _ _ => a
def VKTerm.Ts : VKTerm → List VTy
  | .mk _ _ _ _ _ a _ _ => a
def VKTerm.Vs : VKTerm → List VKVal
  | .mk _ _ _ _ _ _ a _ => a
mutual
def VKTerm.cs : VKTerm → List AV
  | .mk Kind Name N Num T Ts Vs Kids => (.v (.int .i64 Kind) :: (.v (.string Name) :: (.v (.int .i64 N) :: (.v (.int .i64 Num) :: (T.cs ++ (.sl (Ts.map VTy.av) :: (.sl (Vs.map VKVal.av) :: (.sl (VKTerm.avs Kids) :: []))))))))
def VKTerm.avs : List VKTerm → List AV
  | [] => []
  | x :: l => .agg x.cs :: VKTerm.avs l
end
def VKTerm.av (x : VKTerm) : AV := .agg x.cs
inductive VSlot where
  | mk (T : VTy) (Many : Int) (Cont : Bool)
def VSlot.Many : VSlot → Int
  | .mk _ a _ => a
def VSlot.Cont : VSlot → Bool
  | .mk _ _ a => a
def VSlot.cs : VSlot → List AV
  | .mk T Many Cont => (T.cs ++ (.v (.int .i64 Many) :: (.v (.bool Cont) :: [])))
def VSlot.av (x : VSlot) : AV := .agg x.cs
inductive VBlock where
  | mk (Vars : Int) (Caps : List VSlot) (Cont : Bool) (T : VTy) (Body : VKTerm)
def VBlock.Caps : VBlock → List VSlot
  | .mk _ a _ _ _ => a
def VBlock.Cont : VBlock → Bool
  | .mk _ _ a _ _ => a
def VBlock.cs : VBlock → List AV
  | .mk Vars Caps Cont T Body => (.v (.int .i64 Vars) :: (.sl (Caps.map VSlot.av) :: (.v (.bool Cont) :: (T.cs ++ (Body.cs ++ [])))))
def VBlock.av (x : VBlock) : AV := .agg x.cs
inductive VBProg where
  | mk (Blocks : List VBlock) (Main : VKTerm)
def VBProg.Blocks : VBProg → List VBlock
  | .mk a _ => a
def VBProg.Main : VBProg → VKTerm
  | .mk _ a => a
def VBProg.cs : VBProg → List AV
  | .mk Blocks Main => (.sl (Blocks.map VBlock.av) :: (Main.cs ++ []))
def VBProg.av (x : VBProg) : AV := .agg x.cs
inductive VInstr where
  | mk (Op : Int) (A : Int) (B : Int) (C : Int) (N : Int) (Text : ByteArray)
def VInstr.Op : VInstr → Int
  | .mk a _ _ _ _ _ => a
def VInstr.A : VInstr → Int
  | .mk _ a _ _ _ _ => a
def VInstr.B : VInstr → Int
  | .mk _ _ a _ _ _ => a
def VInstr.C : VInstr → Int
  | .mk _ _ _ a _ _ => a
def VInstr.N : VInstr → Int
  | .mk _ _ _ _ a _ => a
def VInstr.cs : VInstr → List AV
  | .mk Op A B C N Text => (.v (.int .i64 Op) :: (.v (.int .i64 A) :: (.v (.int .i64 B) :: (.v (.int .i64 C) :: (.v (.int .i64 N) :: (.v (.string Text) :: []))))))
def VInstr.av (x : VInstr) : AV := .agg x.cs
inductive VCode where
  | mk (Instrs : List VInstr) (Starts : List Int)
def VCode.Instrs : VCode → List VInstr
  | .mk a _ => a
def VCode.Starts : VCode → List Int
  | .mk _ a => a
def VCode.cs : VCode → List AV
  | .mk Instrs Starts => (.sl (Instrs.map VInstr.av) :: (.sl (Starts.map fun x => .v (.int .i64 x)) :: []))
def VCode.av (x : VCode) : AV := .agg x.cs
inductive VEvent where
  | mk (At : Int) (Room : Int) (Put : Int)
def VEvent.At : VEvent → Int
  | .mk a _ _ => a
def VEvent.Room : VEvent → Int
  | .mk _ a _ => a
def VEvent.Put : VEvent → Int
  | .mk _ _ a => a
def VEvent.cs : VEvent → List AV
  | .mk At Room Put => (.v (.int .i64 At) :: (.v (.int .i64 Room) :: (.v (.int .i64 Put) :: [])))
def VEvent.av (x : VEvent) : AV := .agg x.cs
end Go.Ab
/-
  THE FUNCTIONS OF PACKAGE slices, once for all element types; loops with what holds at each round.
-/
namespace Go.Ab
set_option maxRecDepth 100000
section
variable {P : Program} {L : AX → SS → List AV → Prop} {R : AV → Prop} {t : T} {r : List AV} {S : List (List AV → Prop)}
/-- a loop that counts up, with what holds at each round -/
theorem loop_inv {init : List AV} (n : Nat) (I : Nat → Prop) (σ : Nat → List AV) (h0 : init = σ 0) (hI : I 0)
    (hr : ∀ i, i ≤ n → I i → wpT P L R t (r ++ σ i) ((fun vs => i < n ∧ I (i + 1) ∧ vs = σ (i + 1)) :: S)) : loopT P L R init t r S := by
  refine loop_intro (ι := Nat) (fun i => i ≤ n ∧ I i) σ (fun i => n - i) 0 ⟨Nat.zero_le _, hI⟩ h0 fun i hi => ?_
  refine wpT_mono (fun _ _ _ h => h) (fun _ h => h) t (.cons (fun vs hv => ?_) (.refl _)) (hr i hi.1 hi.2)
  exact ⟨i + 1, ⟨hv.1, hv.2.1⟩, by have := hv.1; omega, hv.2.2⟩
end
theorem dropC {α : Type} {l : List α} {i : Nat} (h : i < l.length) : l.drop i = l[i] :: l.drop (i + 1) := List.drop_eq_getElem_cons h
theorem dropE {α : Type} (l : List α) : l.drop l.length = [] := List.drop_length
/-- the first place from k on that passes -/
def idxR {α : Type} (p : α → Bool) : List α → Nat → Int
  | [], _ => -1
  | x :: r, k => if p x = true then (k : Int) else idxR p r (k + 1)
theorem idxR_any {α : Type} (p : α → Bool) : ∀ (l : List α) (k : Nat), decide (0 ≤ idxR p l k) = l.any p
  | [], _ => by simp [idxR]
  | x :: r, k => by
    unfold idxR
    by_cases h : p x = true
    · simp [h]
    · simp only [h, List.any_cons]; rw [if_neg (by simp), idxR_any p r (k + 1)]; simp
def TidxF (s : Nat) : T :=
.bind 0 (
 .op (.lenL (.x 0)) (
 .loop [(.c (.v (.int .i64 0)))] (
  .op (.bin .lss (.x 3) (.x 2)) (
  .ite (.x 4)
   (.op (.elem s (.x 0) (.x 3)) (
   .chk (.cells (.x 5) s) (
   .op (.callv (.x 1) [(.x 5)] false) (
   .ite (.x 6)
    (.esc (.esc (.ret [(.x 3)])))
    (.op (.bin .add (.x 3) (.c (.v (.int .i64 1)))) (
    .jump [(.x 7)]))))))
   (.esc (.jump [])))))) (
.ret [(.c (.v (.int .i64 (-1))))])
theorem idxF_T {P : Program} {L : AX → SS → List AV → Prop} {α : Type} {av : α → AV} {s : Nat} {g : FuncId} {caps : List AV} {l : List α} (p : α → Bool) (hs : ∀ x, (av x).isAgg = true ∧ (av x).cells.length = s ∧ (av x).storable = true)
    (hl : l.length ≤ 1073741824) (hc : ∀ x ∈ l, PCon P g (av x :: caps) (.v (.bool (p x)))) :
    wpT P L (fun a => a = .v (.int .i64 (idxR p l 0))) (TidxF s) [.sl (l.map av), .fn g caps] [] := by
  simp only [TidxF, WA, Nat.reduceEqDiff, Nat.reduceAdd, Nat.reduceLT, Nat.reduceLeDiff, Nat.reduceMul, reduceIte, reduceCtorEq, Int.reduceEq, Int.reduceLT, Int.reduceLE, Int.reduceNe]
  refine bind_push ?_
  simp only [WA, Nat.reduceEqDiff, Nat.reduceAdd, Nat.reduceLT, Nat.reduceLeDiff, Nat.reduceMul, reduceIte, reduceCtorEq, Int.reduceEq, Int.reduceLT, Int.reduceLE, Int.reduceNe]
  refine loop_inv l.length (fun i => idxR p l 0 = idxR p (l.drop i) i) (fun i => [.v (.int .i64 i)]) rfl rfl fun i hi hI => ?_
  simp only [WA, Nat.reduceEqDiff, Nat.reduceAdd, Nat.reduceLT, Nat.reduceLeDiff, Nat.reduceMul, reduceIte, reduceCtorEq, Int.reduceEq, Int.reduceLT, Int.reduceLE, Int.reduceNe]
  refine ite_dec (fun h => ?_) (fun h => ?_)
  · have hlt : i < l.length := by omega
    obtain ⟨x1, x2, x3⟩ := hs l[i]
    rw [dropC hlt, idxR] at hI
    simp only [WA, Nat.reduceEqDiff, Nat.reduceAdd, Nat.reduceLT, Nat.reduceLeDiff, Nat.reduceMul, reduceIte, reduceCtorEq, Int.reduceEq, Int.reduceLT, Int.reduceLE, Int.reduceNe]
    refine elemM av hlt x2 ?_
    simp only [x1, x2, x3, WA, Nat.reduceEqDiff, Nat.reduceAdd, Nat.reduceLT, Nat.reduceLeDiff, Nat.reduceMul, reduceIte, reduceCtorEq, Int.reduceEq, Int.reduceLT, Int.reduceLE, Int.reduceNe]
    refine call_v (hc _ (List.getElem_mem hlt)) ?_
    simp only [WA, Nat.reduceEqDiff, Nat.reduceAdd, Nat.reduceLT, Nat.reduceLeDiff, Nat.reduceMul, reduceIte, reduceCtorEq, Int.reduceEq, Int.reduceLT, Int.reduceLE, Int.reduceNe]
    refine ite_intro (fun h => ?_) (fun h => ?_)
    · simp only [h, if_pos] at hI
      simp only [hI, WA, Nat.reduceEqDiff, Nat.reduceAdd, Nat.reduceLT, Nat.reduceLeDiff, Nat.reduceMul, reduceIte, reduceCtorEq, Int.reduceEq, Int.reduceLT, Int.reduceLE, Int.reduceNe]
    · simp only [h] at hI
      simp (disch := omega) only [wrapA1, WA, Nat.reduceEqDiff, Nat.reduceAdd, Nat.reduceLT, Nat.reduceLeDiff, Nat.reduceMul, reduceIte, reduceCtorEq, Int.reduceEq, Int.reduceLT, Int.reduceLE, Int.reduceNe]
      exact ⟨hlt, by simpa using hI⟩
  · have he : i = l.length := by omega
    subst he
    rw [dropE, idxR] at hI
    simp only [hI, WA, Nat.reduceEqDiff, Nat.reduceAdd, Nat.reduceLT, Nat.reduceLeDiff, Nat.reduceMul, reduceIte, reduceCtorEq, Int.reduceEq, Int.reduceLT, Int.reduceLE, Int.reduceNe]
def TanyF (f : FuncId) (fl : Bool) : T :=
.op (.call f [(.x 0), (.x 1)] fl) (
.op (.bin .geq (.x 2) (.c (.v (.int .i64 0)))) (
.ret [(.x 3)]))
theorem anyF_T {fl : Bool} {P : Program} {L : AX → SS → List AV → Prop} {α : Type} {a b : AV} {f : FuncId} {l : List α} {p : α → Bool} (hc : PCon P f [a, b] (.v (.int .i64 (idxR p l 0)))) :
    wpT P L (fun r => r = .v (.bool (l.any p))) (TanyF f fl) [a, b] [] := by
  simp only [TanyF, WA, Nat.reduceEqDiff, Nat.reduceAdd, Nat.reduceLT, Nat.reduceLeDiff, Nat.reduceMul, reduceIte, reduceCtorEq, Int.reduceEq, Int.reduceLT, Int.reduceLE, Int.reduceNe]
  refine call_v hc ?_
  simp only [idxR_any, WA, Nat.reduceEqDiff, Nat.reduceAdd, Nat.reduceLT, Nat.reduceLeDiff, Nat.reduceMul, reduceIte, reduceCtorEq, Int.reduceEq, Int.reduceLT, Int.reduceLE, Int.reduceNe]
def TidxE : T :=
.bind 0 (
 .op (.lenL (.x 0)) (
 .loop [(.c (.v (.int .i64 0)))] (
  .op (.bin .lss (.x 3) (.x 2)) (
  .ite (.x 4)
   (.op (.elem 1 (.x 0) (.x 3)) (
   .chk (.lt (.x 5) 0) (
   .op (.bin .eql (.x 1) (.cell 5 0)) (
   .ite (.x 6)
    (.esc (.esc (.ret [(.x 3)])))
    (.op (.bin .add (.x 3) (.c (.v (.int .i64 1)))) (
    .jump [(.x 7)]))))))
   (.esc (.jump [])))))) (
.ret [(.c (.v (.int .i64 (-1))))])
theorem idxE_T {P : Program} {L : AX → SS → List AV → Prop} {α : Type} [DecidableEq α] {g : α → Value} {l : List α} {x : α} (hg : ∀ (x y : α) (K : AV → Prop), goT K (.v (.bool (decide (x = y)))) → binT .eql (.v (g x)) (.v (g y)) K)
    (hl : l.length ≤ 1073741824) : wpT P L (fun a => a = .v (.int .i64 (idxR (fun y => decide (x = y)) l 0))) TidxE [.sl (l.map fun y => .v (g y)), .v (g x)] [] := by
  simp only [TidxE, WA, Nat.reduceEqDiff, Nat.reduceAdd, Nat.reduceLT, Nat.reduceLeDiff, Nat.reduceMul, reduceIte, reduceCtorEq, Int.reduceEq, Int.reduceLT, Int.reduceLE, Int.reduceNe]
  refine bind_push ?_
  simp only [WA, Nat.reduceEqDiff, Nat.reduceAdd, Nat.reduceLT, Nat.reduceLeDiff, Nat.reduceMul, reduceIte, reduceCtorEq, Int.reduceEq, Int.reduceLT, Int.reduceLE, Int.reduceNe]
  refine loop_inv l.length (fun i => idxR (fun y => decide (x = y)) l 0 = idxR (fun y => decide (x = y)) (l.drop i) i) (fun i => [.v (.int .i64 i)]) rfl rfl fun i hi hI => ?_
  simp only [WA, Nat.reduceEqDiff, Nat.reduceAdd, Nat.reduceLT, Nat.reduceLeDiff, Nat.reduceMul, reduceIte, reduceCtorEq, Int.reduceEq, Int.reduceLT, Int.reduceLE, Int.reduceNe]
  refine ite_dec (fun h => ?_) (fun h => ?_)
  · have hlt : i < l.length := by omega
    rw [dropC hlt, idxR] at hI
    simp only [WA, Nat.reduceEqDiff, Nat.reduceAdd, Nat.reduceLT, Nat.reduceLeDiff, Nat.reduceMul, reduceIte, reduceCtorEq, Int.reduceEq, Int.reduceLT, Int.reduceLE, Int.reduceNe]
    refine elemM (fun y => .v (g y)) hlt rfl ?_
    simp only [WA, Nat.reduceEqDiff, Nat.reduceAdd, Nat.reduceLT, Nat.reduceLeDiff, Nat.reduceMul, reduceIte, reduceCtorEq, Int.reduceEq, Int.reduceLT, Int.reduceLE, Int.reduceNe]
    refine hg _ _ _ ?_
    simp only [WA, Nat.reduceEqDiff, Nat.reduceAdd, Nat.reduceLT, Nat.reduceLeDiff, Nat.reduceMul, reduceIte, reduceCtorEq, Int.reduceEq, Int.reduceLT, Int.reduceLE, Int.reduceNe]
    refine ite_dec (fun h => ?_) (fun h => ?_)
    · rw [if_pos (decide_eq_true h)] at hI
      simp only [hI, WA, Nat.reduceEqDiff, Nat.reduceAdd, Nat.reduceLT, Nat.reduceLeDiff, Nat.reduceMul, reduceIte, reduceCtorEq, Int.reduceEq, Int.reduceLT, Int.reduceLE, Int.reduceNe]
    · rw [if_neg (by simpa using h)] at hI
      simp (disch := omega) only [wrapA1, WA, Nat.reduceEqDiff, Nat.reduceAdd, Nat.reduceLT, Nat.reduceLeDiff, Nat.reduceMul, reduceIte, reduceCtorEq, Int.reduceEq, Int.reduceLT, Int.reduceLE, Int.reduceNe]
      exact ⟨hlt, hI⟩
  · have he : i = l.length := by omega
    subst he
    rw [dropE, idxR] at hI
    simp only [hI, WA, Nat.reduceEqDiff, Nat.reduceAdd, Nat.reduceLT, Nat.reduceLeDiff, Nat.reduceMul, reduceIte, reduceCtorEq, Int.reduceEq, Int.reduceLT, Int.reduceLE, Int.reduceNe]
theorem eqlS (x y : ByteArray) (K : AV → Prop) (h : goT K (.v (.bool (decide (x = y))))) : binT .eql (.v (.string x)) (.v (.string y)) K := by rw [b_seql]; exact h
/-- two lists, side by side -/
def all2 {α : Type} (p : α → α → Bool) : List α → List α → Bool
  | [], [] => true
  | x :: l, y :: m => p x y && all2 p l m
  | _, _ => false
theorem all2_len {α : Type} (p : α → α → Bool) : ∀ (l m : List α), l.length ≠ m.length → all2 p l m = false
  | [], [], h => (h rfl).elim
  | [], _ :: _, _ => rfl
  | _ :: _, [], _ => rfl
  | x :: l, y :: m, h => by simp only [all2, all2_len p l m (by simpa using h), Bool.and_false]
def TeqF (s : Nat) : T :=
.op (.lenL (.x 0)) (
.op (.lenL (.x 1)) (
.op (.bin .neq (.x 3) (.x 4)) (
.ite (.x 5)
 (.ret [(.c (.v (.bool false)))])
 (.bind 0 (
  .op (.lenL (.x 0)) (
  .loop [(.c (.v (.int .i64 0)))] (
   .op (.bin .lss (.x 7) (.x 6)) (
   .ite (.x 8)
    (.op (.elem s (.x 0) (.x 7)) (
    .chk (.cells (.x 9) s) (
    .chk (.cells (.x 9) s) (
    .op (.elem s (.x 1) (.x 7)) (
    .chk (.cells (.x 10) s) (
    .chk (.cells (.x 10) s) (
    .chk (.cells (.x 9) s) (
    .chk (.cells (.x 10) s) (
    .op (.callv (.x 2) [(.x 9), (.x 10)] false) (
    .op (.un .not (.x 11)) (
    .ite (.x 12)
     (.esc (.esc (.ret [(.c (.v (.bool false)))])))
     (.op (.bin .add (.x 7) (.c (.v (.int .i64 1)))) (
     .jump [(.x 13)])))))))))))))
    (.esc (.jump [])))))) (
 .ret [(.c (.v (.bool true)))])))))
theorem eqF_T {P : Program} {L : AX → SS → List AV → Prop} {α : Type} {av : α → AV} {s : Nat} {g : FuncId} {caps : List AV} {l m : List α} (p : α → α → Bool) (hs : ∀ x, (av x).isAgg = true ∧ (av x).cells.length = s ∧ (av x).storable = true)
    (hl : l.length ≤ 1073741824) (hc : ∀ x ∈ l, ∀ y ∈ m, PCon P g (av x :: av y :: caps) (.v (.bool (p x y)))) :
    wpT P L (fun a => a = .v (.bool (all2 p l m))) (TeqF s) [.sl (l.map av), .sl (m.map av), .fn g caps] [] := by
  simp only [TeqF, WA, Nat.reduceEqDiff, Nat.reduceAdd, Nat.reduceLT, Nat.reduceLeDiff, Nat.reduceMul, reduceIte, reduceCtorEq, Int.reduceEq, Int.reduceLT, Int.reduceLE, Int.reduceNe]
  refine ite_ndec (fun h => ?_) (fun h => ?_)
  · simp only [all2_len p l m (by omega), WA, Nat.reduceEqDiff, Nat.reduceAdd, Nat.reduceLT, Nat.reduceLeDiff, Nat.reduceMul, reduceIte, reduceCtorEq, Int.reduceEq, Int.reduceLT, Int.reduceLE, Int.reduceNe]
  · have hlm : l.length = m.length := by omega
    simp only [WA, Nat.reduceEqDiff, Nat.reduceAdd, Nat.reduceLT, Nat.reduceLeDiff, Nat.reduceMul, reduceIte, reduceCtorEq, Int.reduceEq, Int.reduceLT, Int.reduceLE, Int.reduceNe]
    refine bind_push ?_
    simp only [WA, Nat.reduceEqDiff, Nat.reduceAdd, Nat.reduceLT, Nat.reduceLeDiff, Nat.reduceMul, reduceIte, reduceCtorEq, Int.reduceEq, Int.reduceLT, Int.reduceLE, Int.reduceNe]
    refine loop_inv l.length (fun i => all2 p l m = all2 p (l.drop i) (m.drop i)) (fun i => [.v (.int .i64 i)]) rfl rfl fun i hi hI => ?_
    simp only [WA, Nat.reduceEqDiff, Nat.reduceAdd, Nat.reduceLT, Nat.reduceLeDiff, Nat.reduceMul, reduceIte, reduceCtorEq, Int.reduceEq, Int.reduceLT, Int.reduceLE, Int.reduceNe]
    refine ite_dec (fun h => ?_) (fun h => ?_)
    · have hlt : i < l.length := by omega
      have hlt' : i < m.length := by omega
      obtain ⟨x1, x2, x3⟩ := hs l[i]
      obtain ⟨y1, y2, y3⟩ := hs m[i]
      rw [dropC hlt, dropC hlt', all2] at hI
      simp only [WA, Nat.reduceEqDiff, Nat.reduceAdd, Nat.reduceLT, Nat.reduceLeDiff, Nat.reduceMul, reduceIte, reduceCtorEq, Int.reduceEq, Int.reduceLT, Int.reduceLE, Int.reduceNe]
      refine elemM av hlt x2 ?_
      simp only [x1, x2, x3, WA, Nat.reduceEqDiff, Nat.reduceAdd, Nat.reduceLT, Nat.reduceLeDiff, Nat.reduceMul, reduceIte, reduceCtorEq, Int.reduceEq, Int.reduceLT, Int.reduceLE, Int.reduceNe]
      refine elemM av hlt' y2 ?_
      simp only [x1, x2, x3, y1, y2, y3, WA, Nat.reduceEqDiff, Nat.reduceAdd, Nat.reduceLT, Nat.reduceLeDiff, Nat.reduceMul, reduceIte, reduceCtorEq, Int.reduceEq, Int.reduceLT, Int.reduceLE, Int.reduceNe]
      refine call_v (hc _ (List.getElem_mem hlt) _ (List.getElem_mem hlt')) ?_
      simp only [WA, Nat.reduceEqDiff, Nat.reduceAdd, Nat.reduceLT, Nat.reduceLeDiff, Nat.reduceMul, reduceIte, reduceCtorEq, Int.reduceEq, Int.reduceLT, Int.reduceLE, Int.reduceNe]
      refine ite_intro (fun h => ?_) (fun h => ?_)
      · have h : p l[i] m[i] = false := by simpa using h
        simp only [h, Bool.false_and] at hI
        simp only [hI, WA, Nat.reduceEqDiff, Nat.reduceAdd, Nat.reduceLT, Nat.reduceLeDiff, Nat.reduceMul, reduceIte, reduceCtorEq, Int.reduceEq, Int.reduceLT, Int.reduceLE, Int.reduceNe]
      · have h : p l[i] m[i] = true := by simpa using h
        simp only [h, Bool.true_and] at hI
        simp (disch := omega) only [wrapA1, WA, Nat.reduceEqDiff, Nat.reduceAdd, Nat.reduceLT, Nat.reduceLeDiff, Nat.reduceMul, reduceIte, reduceCtorEq, Int.reduceEq, Int.reduceLT, Int.reduceLE, Int.reduceNe]
        exact ⟨hlt, hI⟩
    · have he : i = l.length := by omega
      subst he
      rw [dropE, hlm, dropE, all2] at hI
      simp only [hI, WA, Nat.reduceEqDiff, Nat.reduceAdd, Nat.reduceLT, Nat.reduceLeDiff, Nat.reduceMul, reduceIte, reduceCtorEq, Int.reduceEq, Int.reduceLT, Int.reduceLE, Int.reduceNe]
end Go.Ab
/-
  LOOPS OVER LISTS AND BYTES: what is left is what the list's rest asks.
-/
namespace Go.Ab
set_option maxRecDepth 100000
theorem not_any {α : Type} (p : α → Bool) (l : List α) : (!(l.any fun y => !p y)) = l.all p := by
  induction l with
  | nil => rfl
  | cons x l ih => simp only [List.any_cons, List.all_cons, ← ih]; cases p x <;> simp
theorem avb {a b : Bool} (h : a = true ↔ b = true) : AV.v (.bool a) = AV.v (.bool b) := by rw [Bool.eq_iff_iff.2 h]
section
variable {P : Program} {L : AX → SS → List AV → Prop} {R : AV → Prop} {t : T} {r : List AV} {S : List (List AV → Prop)}
/-- a loop over a list: G tells what is still asked, of the rest and of what is kept -/
theorem loop_list {α β : Type} {init : List AV} (l : List α) (σ : Nat → β → List AV) (G : Nat → List α → β → Prop) (b0 : β) (h0 : init = σ 0 b0) (hG : G 0 l b0)
    (hc : ∀ (i : Nat) (x : α) (rest : List α) (b : β), i < l.length → l[i]? = some x → x ∈ l → (∀ (f : α → AV) (s : Nat) (k : IntKind) (K : AV → Prop), (f x).cells.length = s → elemP s (.sl (l.map f)) (.v (.int k (i : Int))) K = goT K (f x)) →
      decide ((i : Int) < (l.length : Int)) = true → G i (x :: rest) b → wpT P L R t (r ++ σ i b) ((fun vs => i < l.length ∧ ∃ b', G (i + 1) rest b' ∧ vs = σ (i + 1) b') :: S))
    (he : ∀ b, decide ((l.length : Int) < (l.length : Int)) = false → G l.length [] b → wpT P L R t (r ++ σ l.length b) ((fun _ => False) :: S)) : loopT P L R init t r S := by
  refine loop_intro (ι := Nat × β) (fun q => q.1 ≤ l.length ∧ G q.1 (l.drop q.1) q.2) (fun q => σ q.1 q.2) (fun q => l.length - q.1) (0, b0) ⟨Nat.zero_le _, hG⟩ h0 fun q hq => ?_
  obtain ⟨i, b⟩ := q
  obtain ⟨hi, hg⟩ := hq
  rcases Nat.lt_or_ge i l.length with h | h
  · have hg : G i (l[i] :: l.drop (i + 1)) b := by rw [← dropC h]; exact hg
    refine wpT_mono (fun _ _ _ h => h) (fun _ h => h) t (.cons (fun vs hv => ?_) (.refl _)) (hc i l[i] (l.drop (i + 1)) b h (List.getElem?_eq_getElem h) (List.getElem_mem h) (fun f s k K hs => ?_) (by simp; exact h) hg)
    · obtain ⟨_, b', h1, h2⟩ := hv
      exact ⟨(i + 1, b'), ⟨h, h1⟩, by simp only; omega, h2⟩
    · unfold elemP
      have hx : (l.map f).getD (Int.toNat (i : Int)) .top = f l[i] := by simp [List.getD, h]
      simp only [hx, hs, true_and, goT]
      exact propext ⟨fun q => q.2.2, fun q => ⟨Int.natCast_nonneg i, by simp; exact h, q⟩⟩
  · have he' : i = l.length := by simp only at hi; omega
    subst he'
    have hg : G l.length [] b := by simpa using hg
    refine wpT_mono (fun _ _ _ h => h) (fun _ h => h) t (.cons (fun vs hv => hv.elim) (.refl _)) (he b (by simp) hg)
/-- the same, with what is known of each -/
theorem loop_listF {α β : Type} {init : List AV} (l : List α) (σ : Nat → β → List AV) (G : Nat → List α → β → Prop) (b0 : β) {F : α → Prop} (hF : ∀ x ∈ l, F x) (h0 : init = σ 0 b0) (hG : G 0 l b0)
    (hc : ∀ (i : Nat) (x : α) (rest : List α) (b : β), i < l.length → l[i]? = some x → x ∈ l → (∀ (f : α → AV) (s : Nat) (k : IntKind) (K : AV → Prop), (f x).cells.length = s → elemP s (.sl (l.map f)) (.v (.int k (i : Int))) K = goT K (f x)) →
      decide ((i : Int) < (l.length : Int)) = true → F x → G i (x :: rest) b → wpT P L R t (r ++ σ i b) ((fun vs => i < l.length ∧ ∃ b', G (i + 1) rest b' ∧ vs = σ (i + 1) b') :: S))
    (he : ∀ b, decide ((l.length : Int) < (l.length : Int)) = false → G l.length [] b → wpT P L R t (r ++ σ l.length b) ((fun _ => False) :: S)) : loopT P L R init t r S :=
  loop_list l σ G b0 h0 hG (fun i x rest b hi hx hm hel hd hg => hc i x rest b hi hx hm hel hd (hF x hm) hg) he
/-- two lists of one length, side by side -/
theorem loop_zip {α γ β : Type} {init : List AV} (l : List α) (m : List γ) (hlm : l.length = m.length) (σ : Nat → β → List AV) (G : Nat → List α → List γ → β → Prop) (b0 : β) (h0 : init = σ 0 b0) (hG : G 0 l m b0)
    (hc : ∀ (i : Nat) (x : α) (y : γ) (rest : List α) (resty : List γ) (b : β), i < l.length → x ∈ l → y ∈ m →
      (∀ (f : α → AV) (s : Nat) (k : IntKind) (K : AV → Prop), (f x).cells.length = s → elemP s (.sl (l.map f)) (.v (.int k (i : Int))) K = goT K (f x)) →
      (∀ (f : γ → AV) (s : Nat) (k : IntKind) (K : AV → Prop), (f y).cells.length = s → elemP s (.sl (m.map f)) (.v (.int k (i : Int))) K = goT K (f y)) →
      decide ((i : Int) < (l.length : Int)) = true → decide ((i : Int) < (m.length : Int)) = true → G i (x :: rest) (y :: resty) b → wpT P L R t (r ++ σ i b) ((fun vs => i < l.length ∧ ∃ b', G (i + 1) rest resty b' ∧ vs = σ (i + 1) b') :: S))
    (he : ∀ b, decide ((l.length : Int) < (l.length : Int)) = false → decide ((l.length : Int) < (m.length : Int)) = false → G l.length [] [] b → wpT P L R t (r ++ σ l.length b) ((fun _ => False) :: S)) : loopT P L R init t r S := by
  refine loop_intro (ι := Nat × β) (fun q => q.1 ≤ l.length ∧ G q.1 (l.drop q.1) (m.drop q.1) q.2) (fun q => σ q.1 q.2) (fun q => l.length - q.1) (0, b0) ⟨Nat.zero_le _, hG⟩ h0 fun q hq => ?_
  obtain ⟨i, b⟩ := q
  obtain ⟨hi, hg⟩ := hq
  rcases Nat.lt_or_ge i l.length with h | h
  · have h' : i < m.length := by omega
    have hg : G i (l[i] :: l.drop (i + 1)) (m[i] :: m.drop (i + 1)) b := by rw [← dropC h, ← dropC h']; exact hg
    refine wpT_mono (fun _ _ _ h => h) (fun _ h => h) t (.cons (fun vs hv => ?_) (.refl _)) (hc i l[i] m[i] (l.drop (i + 1)) (m.drop (i + 1)) b h (List.getElem_mem h) (List.getElem_mem h') (fun f s k K hs => ?_) (fun f s k K hs => ?_) (by simp; exact h) (by simp; exact h') hg)
    · obtain ⟨_, b', h1, h2⟩ := hv
      exact ⟨(i + 1, b'), ⟨h, h1⟩, by simp only; omega, h2⟩
    · unfold elemP
      have hx : (l.map f).getD (Int.toNat (i : Int)) .top = f l[i] := by simp [List.getD, h]
      simp only [hx, hs, true_and, goT]
      exact propext ⟨fun q => q.2.2, fun q => ⟨Int.natCast_nonneg i, by simp; exact h, q⟩⟩
    · unfold elemP
      have hx : (m.map f).getD (Int.toNat (i : Int)) .top = f m[i] := by simp [List.getD, h']
      simp only [hx, hs, true_and, goT]
      exact propext ⟨fun q => q.2.2, fun q => ⟨Int.natCast_nonneg i, by simp; exact h', q⟩⟩
  · have he' : i = l.length := by simp only at hi; omega
    subst he'
    have hg : G l.length [] [] b := by rw [dropE, hlm, dropE] at hg; rw [hlm]; exact hg
    exact wpT_mono (fun _ _ _ h => h) (fun _ h => h) t (.cons (fun vs hv => hv.elim) (.refl _)) (he b (by simp) (by simp [hlm]) hg)
/-- a string's bytes -/
def bs (s : ByteArray) : List Int := s.data.toList.map fun b => (b.toNat : Int)
theorem bs_len (s : ByteArray) : (bs s).length = s.size := by simp [bs]
theorem bs_range {s : ByteArray} {c : Int} (h : c ∈ bs s) : 0 ≤ c ∧ c < 256 := by
  simp only [bs, List.mem_map] at h
  obtain ⟨b, _, rfl⟩ := h
  exact ⟨by omega, by have := b.toNat_lt; omega⟩
theorem idxB {s : ByteArray} {i : Nat} {k : IntKind} {K : AV → Prop} (h : i < (bs s).length) (hk : goT K (.v (.int .u8 (bs s)[i]))) : idxT (.v (.string s)) (.v (.int k (i : Int))) K := by
  rw [i_idx]
  have hl := bs_len s
  refine ⟨by omega, by omega, ?_⟩
  have : (((s.data.toList.getD (Int.toNat (i : Int)) 0).toNat : Nat) : Int) = (bs s)[i] := by
    simp only [bs, Int.toNat_natCast, List.getElem_map, List.getD]
    have h1 : i < s.data.toList.length := by simpa [bs] using h
    rw [List.getElem?_eq_getElem h1]; rfl
  rw [this]; exact hk
theorem idxX {s : ByteArray} {i : Nat} {c : Int} (h : (bs s)[i]? = some c) (k : IntKind) (K : AV → Prop) : idxT (.v (.string s)) (.v (.int k (i : Int))) K = goT K (.v (.int .u8 c)) := by
  have hl := bs_len s
  obtain ⟨h1, h2⟩ := List.getElem?_eq_some_iff.1 h
  refine propext ⟨fun q => ?_, fun q => idxB h1 (by rw [h2]; exact q)⟩
  rw [i_idx] at q
  have q := q.2.2
  have : (((s.data.toList.getD (Int.toNat (i : Int)) 0).toNat : Nat) : Int) = c := by
    rw [← h2]
    simp only [bs, Int.toNat_natCast, List.getElem_map, List.getD]
    have h1 : i < s.data.toList.length := by simpa [bs] using h1
    rw [List.getElem?_eq_getElem h1]; rfl
  rw [this] at q; exact q
theorem wrap8 {c : Int} (h : 0 ≤ c) (h' : c < 256) : IntKind.i64.wrap c = c := wrapI (by omega) (by omega)
/-- a loop over the bytes of a string -/
theorem loop_bytes {β : Type} {init : List AV} (s : ByteArray) (σ : Nat → β → List AV) (G : Nat → List Int → β → Prop) (b0 : β) (h0 : init = σ 0 b0) (hG : G 0 (bs s) b0)
    (hc : ∀ (i : Nat) (c : Int) (rest : List Int) (b : β), i < s.size → (bs s)[i]? = some c → c ∈ bs s → (∀ (k : IntKind) (K : AV → Prop), idxT (.v (.string s)) (.v (.int k (i : Int))) K = goT K (.v (.int .u8 c))) →
      decide ((i : Int) < (s.size : Int)) = true → 0 ≤ c → c < 256 → IntKind.i64.wrap c = c → G i (c :: rest) b → wpT P L R t (r ++ σ i b) ((fun vs => i < s.size ∧ ∃ b', G (i + 1) rest b' ∧ vs = σ (i + 1) b') :: S))
    (he : ∀ b, decide ((s.size : Int) < (s.size : Int)) = false → G s.size [] b → wpT P L R t (r ++ σ s.size b) ((fun _ => False) :: S)) : loopT P L R init t r S := by
  have hl := bs_len s
  refine loop_list (bs s) σ G b0 h0 hG (fun i c rest b hi hx hm _ hd hg => ?_) (fun b hd hg => ?_)
  · obtain ⟨c0, c1⟩ := bs_range hm
    rw [hl] at hi hd
    rw [hl]
    exact hc i c rest b hi hx hm (idxX hx) hd c0 c1 (wrap8 c0 c1) hg
  · rw [hl] at hd hg ⊢
    exact he b hd hg
end
/- functions whose code the walk does not cover, by contracts in the model's own words -/
theorem enters_of {P : Program} {f : FuncId} (h : (match P.funcs[f]? with | some fn => fn.body.isSome && !(fn.name == "runtime.NumGoroutine") | none => false) = true) : Enters P f := by
  cases hf : P.funcs[f]? with
  | none => rw [hf] at h; cases h
  | some fn =>
    rw [hf] at h
    simp only [Bool.and_eq_true] at h
    exact ⟨fn, hf, h.1, by simpa using h.2⟩
theorem R.v_inv {I : Imm} {L : Nat → Loc} {O : List AObj} {a x : Value} (h : R I L O (.v a) x) : x = a := by cases h; rfl
end Go.Ab
/-
  AN ELEMENT AT A PLACE THAT IS KNOWN.
-/
namespace Go.Ab
set_option maxRecDepth 100000
theorem elem_at (n : Nat) {α : Type} {l : List α} {x : α} (hx : l[n]? = some x) (f : α → AV) (s : Nat) (k : IntKind) (K : AV → Prop) (hs : (f x).cells.length = s) :
    elemP s (.sl (l.map f)) (.v (.int k (n : Int))) K = goT K (f x) := by
  have hl : n < l.length := (List.getElem?_eq_some_iff.1 hx).1
  unfold elemP
  have hx' : (l.map f).getD (Int.toNat (n : Int)) .top = f x := by simp [List.getD, hx]
  simp only [hx', hs, true_and, goT]
  exact propext ⟨fun q => q.2.2, fun q => ⟨Int.natCast_nonneg n, by simp; exact hl, q⟩⟩
theorem elem_0 {α : Type} {l : List α} {x : α} (hx : l[0]? = some x) (f : α → AV) (s : Nat) (k : IntKind) (K : AV → Prop) (hs : (f x).cells.length = s) :
    elemP s (.sl (l.map f)) (.v (.int k 0)) K = goT K (f x) := elem_at 0 hx f s k K hs
theorem elem_1 {α : Type} {l : List α} {x : α} (hx : l[1]? = some x) (f : α → AV) (s : Nat) (k : IntKind) (K : AV → Prop) (hs : (f x).cells.length = s) :
    elemP s (.sl (l.map f)) (.v (.int k 1)) K = goT K (f x) := elem_at 1 hx f s k K hs
theorem get_0 {α : Type} {l : List α} (h : 0 < l.length) : l[0]? = some l[0] := List.getElem?_eq_getElem h
theorem get_1 {α : Type} {l : List α} (h : 1 < l.length) : l[1]? = some l[1] := List.getElem?_eq_getElem h
end Go.Ab
/-
  DOORS: the library's functions that read a table or build texts, by the contracts of the shelf; texts laid side by side.
-/
namespace Go.Ab
set_option maxRecDepth 100000
theorem PCon.of_below {P : Program} {f : FuncId} {args : List AV} {y : Value} (he : Enters P f) (hy : y.oneCell' = true)
    (h : ∀ I L w vs, Inv I L [] w → RL I L [] args vs → Calls P f vs w fun e w' => e = .returned y ∧ RowKit.Below w.heap.size w w') : PCon P f args (.v y) := by
  refine ⟨he, fun I L w vs hi hr => (h I L w vs hi hr).mono ?_⟩
  rintro e w' ⟨h1, hb⟩
  refine ⟨y, I, L, h1, .v y hy, ⟨⟨fun b o x hx => ?_, by simp, by simp, by simp, hi.fix, hi.blk_frm (fun b hb' _ => hb.block b hb') (fun _ _ _ h => h)⟩, .refl _ _ _, ⟨hb.os, hb.tape, hb.output, hb.size, fun b hb' _ => hb.block b hb'⟩, fun _ h => .inl h, fun _ _ _ h => .inl h⟩⟩
  have := hi.imm b o x hx
  rw [← this]
  exact World.cell?_of_block (a := ⟨b, o, none⟩) (hb.block b (cell_block this))
/-- the table of the powers of ten lies where it lay -/
theorem Inv.tab {P : Program} {I : Imm} {L : Nat → Loc} {O : List AObj} {w : World} (hi : Inv I L O w) (hg : P.globalNamed "internal/strconv.uint64pow10" = some tabNo) : Lib.TabIs P w "internal/strconv.uint64pow10" .u64 Lib.pow10Tab := by
  obtain ⟨h1, _⟩ := hi.blk (tabNo, 20) (List.mem_of_getElem? (i := 0) rfl)
  unfold blkSize at h1
  split at h1
  case h_2 => cases h1
  rename_i c e f hc
  simp only [Option.some.injEq] at h1
  have hz : ∀ k v, fixedCells[k]? = some (tabNo, k, v) → c[k]? = some v := fun k v hk => by
    have := hi.imm tabNo k v (hi.fix _ (List.mem_of_getElem? hk))
    rw [cell_cells hc] at this
    exact this
  unfold Lib.TabIs World.var?
  rw [hg]
  simp only [Option.bind_some, hc, Option.some.injEq]
  apply Array.ext
  · simp [h1, Lib.pow10Tab]
  · intro k hk1 hk2
    have hk : k < 20 := by omega
    have : c[k]? = some ((Lib.pow10Tab.map fun z => Value.int .u64 z).toArray[k]) := by
      clear hk1
      match k, hk, hk2 with
      | 0, _, _ => exact hz 0 _ rfl
      | 1, _, _ => exact hz 1 _ rfl
      | 2, _, _ => exact hz 2 _ rfl
      | 3, _, _ => exact hz 3 _ rfl
      | 4, _, _ => exact hz 4 _ rfl
      | 5, _, _ => exact hz 5 _ rfl
      | 6, _, _ => exact hz 6 _ rfl
      | 7, _, _ => exact hz 7 _ rfl
      | 8, _, _ => exact hz 8 _ rfl
      | 9, _, _ => exact hz 9 _ rfl
      | 10, _, _ => exact hz 10 _ rfl
      | 11, _, _ => exact hz 11 _ rfl
      | 12, _, _ => exact hz 12 _ rfl
      | 13, _, _ => exact hz 13 _ rfl
      | 14, _, _ => exact hz 14 _ rfl
      | 15, _, _ => exact hz 15 _ rfl
      | 16, _, _ => exact hz 16 _ rfl
      | 17, _, _ => exact hz 17 _ rfl
      | 18, _, _ => exact hz 18 _ rfl
      | 19, _, _ => exact hz 19 _ rfl
      | k + 20, hk, _ => exact absurd hk (by omega)
    rw [Array.getElem?_eq_getElem hk1] at this
    exact Option.some.inj this
/-- a decimal numeral -/
def numB (n : Int) : ByteArray := ⟨(Lib.itoa n).toArray⟩
/-- texts with another between -/
def tailB (sep : ByteArray) : List ByteArray → ByteArray
  | [] => ⟨#[]⟩
  | y :: r => sep ++ y ++ tailB sep r
def joinB (sep : ByteArray) : List ByteArray → ByteArray
  | [] => ⟨#[]⟩
  | x :: r => x ++ tailB sep r
theorem bytes_ext {a b : ByteArray} (h : a.data.toList = b.data.toList) : a = b := by
  cases a with | mk a => cases b with | mk b =>
  cases a with | mk a => cases b with | mk b =>
  simp only at h
  rw [h]
theorem app_list (a b : ByteArray) : (a ++ b).data.toList = a.data.toList ++ b.data.toList := by simp
theorem empA (a : ByteArray) : (⟨#[]⟩ : ByteArray) ++ a = a := bytes_ext (by rw [app_list]; rfl)
theorem appE (a : ByteArray) : a ++ (⟨#[]⟩ : ByteArray) = a := bytes_ext (by rw [app_list]; simp)
theorem appA (a b c : ByteArray) : a ++ b ++ c = a ++ (b ++ c) := bytes_ext (by simp only [app_list, List.append_assoc])
theorem app_size (a b : ByteArray) : (a ++ b).size = a.size + b.size := by simp
theorem tailB_list (sep : ByteArray) : ∀ l : List ByteArray, (tailB sep l).data.toList = Lib.joinTail sep.data.toList (l.map (·.data.toList))
  | [] => rfl
  | y :: r => by
    rw [tailB, app_list, app_list, tailB_list sep r]
    simp [Lib.joinTail]
theorem joinB_lib (sep : ByteArray) (l : List ByteArray) : (⟨(Lib.join (l.map (·.data.toList)) sep.data.toList).toArray⟩ : ByteArray) = joinB sep l := by
  apply bytes_ext
  cases l with
  | nil => rfl
  | cons x r => rw [List.map_cons, Lib.join_cons, joinB, app_list, tailB_list]
/-- what a text is at most as long as -/
theorem tailB_size (sep : ByteArray) : ∀ l : List ByteArray, (tailB sep l).size = l.length * sep.size + (l.map ByteArray.size).sum
  | [] => by simp [tailB]; rfl
  | y :: r => by
    rw [tailB, app_size, app_size, tailB_size sep r]
    simp only [List.length_cons, List.map_cons, List.sum_cons, Nat.add_mul]
    omega
theorem joinB_size (sep : ByteArray) (l : List ByteArray) : (joinB sep l).size ≤ l.length * sep.size + (l.map ByteArray.size).sum := by
  cases l with
  | nil => exact Nat.zero_le _
  | cons x r =>
    rw [joinB, app_size, tailB_size]
    simp only [List.length_cons, List.map_cons, List.sum_cons, Nat.add_mul]
    omega
theorem rl_1 {I : Imm} {L : Nat → Loc} {a : AV} {vs : Array Value} (h : RL I L [] [a] vs) : ∃ x, vs = #[x] ∧ R I L [] a x := by
  obtain ⟨h1, h2⟩ := h
  match vs, h1 with
  | ⟨[x]⟩, _ => exact ⟨x, rfl, h2 0 a x rfl rfl⟩
theorem rl_2 {I : Imm} {L : Nat → Loc} {a b : AV} {vs : Array Value} (h : RL I L [] [a, b] vs) : ∃ x y, vs = #[x, y] ∧ R I L [] a x ∧ R I L [] b y := by
  obtain ⟨h1, h2⟩ := h
  match vs, h1 with
  | ⟨[x, y]⟩, _ => exact ⟨x, y, rfl, h2 0 a x rfl rfl, h2 1 b y rfl rfl⟩
/-- strings that lie as the contract's words say -/
theorem strings_at {I : Imm} {L : Nat → Loc} {w : World} {l : List ByteArray} {x : Value} (hi : Inv I L [] w) (hr : R I L [] (.sl (l.map avB)) x) :
    (l = [] ∧ ∃ a c, x = .slice a 0 c) ∨ ∃ bk o c, x = .slice (some ⟨bk, o, none⟩) l.length c ∧ l.length ≤ c ∧ bk < w.heap.size ∧ ∀ (j : Nat) y, l[j]? = some y → w.cell? ⟨bk, o + j, none⟩ = some (.string y) := by
  generalize ha : AV.sl (l.map avB) = a at hr
  cases hr with
  | sl0 a c =>
    refine .inl ⟨?_, a, c, rfl⟩
    simp only [AV.sl.injEq] at ha
    simpa using ha
  | sl xs blk off cap s vals h1 h2 h3 h4 h5 =>
    simp only [AV.sl.injEq] at ha
    subst ha
    have hne : l ≠ [] := by rintro rfl; exact h2 rfl
    have hs : s = 1 := by
      obtain ⟨y, r, rfl⟩ := List.exists_cons_of_ne_nil hne
      exact (h3 0 (avB y) rfl).symm
    subst hs
    have hc : ∀ (j : Nat) y, l[j]? = some y → w.cell? ⟨blk, off + j, none⟩ = some (.string y) := fun j y hy => by
      have hx : (l.map avB)[j]? = some (avB y) := by simp [hy]
      have q1 := h4 j (avB y) 0 (avB y) hx rfl
      have q2 := (h5 j (avB y) 0 (avB y) hx rfl).v_inv
      have q3 := hi.imm _ _ _ q1.1
      rw [q2] at q3
      simpa using q3
    refine .inr ⟨blk, off, cap, by simp, by simpa using h1, ?_, hc⟩
    obtain ⟨y, r, rfl⟩ := List.exists_cons_of_ne_nil hne
    exact cell_block (hc 0 y rfl)
  | v | nils | iptr | rowLive | rowNil | rowDead | ptrLive | ptrDead | fn | agg | tup | top => cases ha
end Go.Ab
/-
  BYTES, AND THE ARITHMETIC OF NUMBERS AS FEW BYTES.
-/
namespace Go.Ab
set_option maxRecDepth 100000
/-- bytes -/
abbrev by1 (n : Int) : AV := .v (.int .u8 n)
abbrev bys (l : List Int) : List AV := l.map by1
theorem bys_noref (l : List Int) : AV.norefs (bys l) = true := by
  induction l with
  | nil => rfl
  | cons a l ih => simpa [AV.norefs, AV.noref] using ih
/- numbers back of their bytes -/
def val : List Int → Nat
  | [] => 0
  | c :: r => (c % 128).toNat + 128 * val r
def unz (x : Nat) : Int := if x % 2 = 1 then -((x / 2 : Nat) : Int) - 1 else ((x / 2 : Nat) : Int)
/-- what both get: k bytes were read, they are worth acc -/
def gs (at' : Int) : Nat → Nat → List Int → Int × Int × Bool
  | _, _, [] => (0, 0, false)
  | k, acc, c :: r => if 10 ≤ k then (0, 0, false) else if 127 < c then gs at' (k + 1) (acc + (c % 128).toNat * 128 ^ k) r
    else if (0 < k ∧ c = 0) ∨ (k = 9 ∧ 1 < c) then (0, 0, false) else (unz (acc + (c % 128).toNat * 128 ^ k), at' + k + 1, true)
end Go.Ab
/-
  NIL SLICES ARE EMPTY ONES, at any depth: what a contract says of the one it says of the other.
-/
namespace Go.Ab
set_option maxRecDepth 100000
/-- nil slices are empty ones, at any depth -/
inductive AV.leD : AV → AV → Prop
  | refl (a : AV) : AV.leD a a
  | nil : AV.leD .nils (.sl [])
  | agg (cs ds : List AV) (hl : cs.length = ds.length) (h : ∀ (i : Nat) (c d : AV), cs[i]? = some c → ds[i]? = some d → AV.leD c d) : AV.leD (.agg cs) (.agg ds)
  | sl (xs ys : List AV) (hl : xs.length = ys.length) (h : ∀ (i : Nat) (x y : AV), xs[i]? = some x → ys[i]? = some y → x.cells.length = y.cells.length)
      (hc : ∀ (i : Nat) (x y : AV) (j : Nat) (c d : AV), xs[i]? = some x → ys[i]? = some y → x.cells[j]? = some c → y.cells[j]? = some d → AV.leD c d) : AV.leD (.sl xs) (.sl ys)
theorem get_other {α β : Type} {l : List α} {m : List β} (hl : l.length = m.length) {i : Nat} {y : β} (h : m[i]? = some y) : ∃ x, l[i]? = some x := by
  have := (List.getElem?_eq_some_iff.1 h).1
  exact ⟨l[i], List.getElem?_eq_getElem (by omega)⟩
theorem AV.leD.sound {I : Imm} {L : Nat → Loc} {O : List AObj} {a b : AV} (h : AV.leD a b) : ∀ {x : Value}, R I L O a x → R I L O b x := by
  induction h with
  | refl => intro x hr; exact hr
  | nil => intro x hr; cases hr; exact .sl0 _ _
  | agg cs ds hl h ih =>
    intro x hr
    cases hr with
    | agg _ vs h1 h2 =>
      refine .agg _ _ (by omega) fun i d y hd hy => ?_
      obtain ⟨c, hc⟩ := get_other hl hd
      exact ih i c d hc hd (h2 i c y hc hy)
  | sl xs ys hl h hc ih =>
    intro x hr
    cases hr with
    | sl0 a c =>
      have : ys = [] := by cases ys with | nil => rfl | cons _ _ => simp at hl
      subst this
      exact .sl0 _ _
    | sl _ blk off cap s vals h1 h2 h3 h4 h5 =>
      rw [hl]
      have hg : ∀ (i : Nat) (y : AV) (j : Nat) (d : AV), ys[i]? = some y → y.cells[j]? = some d → ∃ x c, xs[i]? = some x ∧ x.cells[j]? = some c := fun i y j d hy hd => by
        obtain ⟨x, hx⟩ := get_other hl hy
        obtain ⟨c, hcc⟩ := get_other (h i x y hx hy) hd
        exact ⟨x, c, hx, hcc⟩
      refine .sl ys blk off cap s vals (by omega) (by rintro rfl; exact h2 (by cases xs with | nil => rfl | cons _ _ => simp at hl)) (fun i y hy => ?_) (fun i y j d hy hd => ?_) (fun i y j d hy hd => ?_)
      · obtain ⟨x, hx⟩ := get_other hl hy
        rw [← h i x y hx hy]; exact h3 i x hx
      · obtain ⟨x, c, hx, hcc⟩ := hg i y j d hy hd
        exact h4 i x j c hx hcc
      · obtain ⟨x, c, hx, hcc⟩ := hg i y j d hy hd
        exact ih i x y j c d hx hy hcc hd (h5 i x j c hx hcc)
theorem PCon.argsD {P : Program} {f : FuncId} {as' bs : List AV} {res : AV} (h : PCon P f bs res) (hl : as'.length = bs.length) (hle : ∀ (i : Nat) (a b : AV), as'[i]? = some a → bs[i]? = some b → AV.leD a b) : PCon P f as' res := by
  refine ⟨h.1, fun I L w vs hi hr => h.2 I L w vs hi ⟨by rw [← hl]; exact hr.1, fun i b x hb hx => ?_⟩⟩
  obtain ⟨a, ha⟩ := get_other hl hb
  exact (hle i _ _ ha hb).sound (hr.2 i _ x ha hx)
end Go.Ab
