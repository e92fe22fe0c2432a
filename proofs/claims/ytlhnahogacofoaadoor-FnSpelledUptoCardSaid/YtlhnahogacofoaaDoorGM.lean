/- Part of a proof: the functions that the law reaches, walked by the abstract logic of the texts Ab. -/
import Derived.Test.YtlhnahogacofoaaDoorAbM4
import Derived.Lib.Join
import Derived.Lib.ItoaNum
import Derived.Lib.LaidTab
import Derived.Test.YtlhnahogacofoaaDoorAbM3
set_option linter.unusedVariables false
set_option linter.unusedSimpArgs false
set_option linter.defProp false
/-
  LISTS IN THE LAWS' OWN HELPERS, once for all element types: what is left of toXS, szXS, eqXS.
-/
namespace Go.Ab
set_option maxRecDepth 100000
theorem wrapI {n : Int} (h : -9223372036854775808 ≤ n) (h' : n ≤ 9223372036854775807) : IntKind.i64.wrap n = n := wrap_id h h'
theorem wrapS {a b : Nat} (h : b ≤ a) (h' : a ≤ 4611686018427387904) : IntKind.i64.wrap ((a : Int) - (b : Int)) = ((a - b : Nat) : Int) := by
  rw [wrapI (by omega) (by omega)]; omega
theorem wrapA {a b : Nat} (h : a + b ≤ 4611686018427387904) : IntKind.i64.wrap ((a : Int) + (b : Int)) = ((a + b : Nat) : Int) := by
  rw [wrapI (by omega) (by omega)]; omega
theorem wrapA1 {a : Nat} (h : a ≤ 4611686018427387904) : IntKind.i64.wrap ((a : Int) + 1) = ((a + 1 : Nat) : Int) := by
  rw [wrapI (by omega) (by omega)]; omega
theorem lt0 (n : Nat) : decide ((n : Int) < 0) = false := by simp
theorem getM {α : Type} (f : α → AV) {l : List α} {i : Nat} (h : i < l.length) : (l.map f)[i]? = some (f l[i]) := by simp [h]
theorem elemM {α : Type} (f : α → AV) {l : List α} {s n : Nat} {k : IntKind} {K : AV → Prop} (h : n < l.length) (hs : (f l[n]).cells.length = s) (hk : goT K (f l[n])) : elemP s (.sl (l.map f)) (.v (.int k (n : Int))) K :=
  elem_intro _ (getM f h) hs hk
theorem norefsM {α : Type} {f : α → AV} {l : List α} (h : ∀ x, (f x).noref = true) : AV.norefs (l.map f) = true := norefs_of fun a ha => by
  obtain ⟨x, _, rfl⟩ := List.mem_map.1 ha; exact h x
section
variable {P : Program} {L : AX → SS → List AV → Prop} {R : AV → Prop} {t : T} {r : List AV} {S : List (List AV → Prop)}
/-- a loop that counts up -/
theorem loop_up {init : List AV} (n : Nat) (σ : Nat → List AV) (h0 : init = σ 0)
    (hr : ∀ i, i ≤ n → wpT P L R t (r ++ σ i) ((fun vs => i < n ∧ vs = σ (i + 1)) :: S)) : loopT P L R init t r S := by
  refine loop_intro (ι := Nat) (fun i => i ≤ n) σ (fun i => n - i) 0 (Nat.zero_le _) h0 fun i hi => ?_
  refine wpT_mono (fun _ _ _ h => h) (fun _ h => h) t (.cons (fun vs hv => ?_) (.refl _)) (hr i hi)
  exact ⟨i + 1, hv.1, by have := hv.1; omega, hv.2⟩
end
/- numbers -/
abbrev avI (n : Int) : AV := .v (.int .i64 n)
abbrev avB (s : ByteArray) : AV := .v (.string s)
end Go.Ab
/-
  THE TYPES OF THE LAWS as types of our own (printed by wip/tool/types.py): their cells, their weights, small facts.
-/
namespace Go.Ab
set_option maxRecDepth 100000
/-- a number of 64 bits -/
def inR (n : Int) : Prop := -9223372036854775808 ≤ n ∧ n ≤ 9223372036854775807
theorem le_sum {α : Type} (w : α → Nat) {l : List α} {x : α} (h : x ∈ l) : w x ≤ (l.map w).sum := by
  induction l with
  | nil => simp at h
  | cons a l ih =>
    simp only [List.map_cons, List.sum_cons]
    rcases List.mem_cons.1 h with rfl | h
    · omega
    · have := ih h; omega
inductive VToken where
  | mk (Kind : Int) (Text : ByteArray) (Num : Int) (Pos : Int)
def VToken.Kind : VToken → Int
  | .mk a _ _ _ => a
def VToken.Text : VToken → ByteArray
  | .mk _ a _ _ => a
def VToken.Num : VToken → Int
  | .mk _ _ a _ => a
def VToken.Pos : VToken → Int
  | .mk _ _ _ a => a
theorem VToken.Kind_mk (Kind : Int) (Text : ByteArray) (Num : Int) (Pos : Int) : (VToken.mk Kind Text Num Pos).Kind = Kind := nr rfl
theorem VToken.Text_mk (Kind : Int) (Text : ByteArray) (Num : Int) (Pos : Int) : (VToken.mk Kind Text Num Pos).Text = Text := nr rfl
theorem VToken.Num_mk (Kind : Int) (Text : ByteArray) (Num : Int) (Pos : Int) : (VToken.mk Kind Text Num Pos).Num = Num := nr rfl
theorem VToken.Pos_mk (Kind : Int) (Text : ByteArray) (Num : Int) (Pos : Int) : (VToken.mk Kind Text Num Pos).Pos = Pos := nr rfl
def VToken.cs : VToken → List AV
  | .mk Kind Text Num Pos => (.v (.int .i64 Kind) :: (.v (.string Text) :: (.v (.int .i64 Num) :: (.v (.int .i64 Pos) :: []))))
def VToken.av (x : VToken) : AV := .agg x.cs
def VToken.wt : VToken → Nat
  | .mk Kind Text Num Pos => Text.size
def VToken.ok : VToken → Prop
  | .mk Kind Text Num Pos => inR Kind ∧ inR Num ∧ inR Pos
theorem VToken.norefsC : ∀ x : VToken, AV.norefs x.cs = true
  | .mk Kind Text Num Pos => by simp [VToken.cs, AV.norefs, AV.noref, norefs_append]
theorem VToken.noref (x : VToken) : x.av.noref = true   := VToken.norefsC x
theorem VToken.isAgg (x : VToken) : x.av.isAgg = true := nr rfl
theorem VToken.cs_eq (x : VToken) : x.cs = [.v (.int .i64 x.Kind), .v (.string x.Text), .v (.int .i64 x.Num), .v (.int .i64 x.Pos)] := by
  obtain ⟨Kind, Text, Num, Pos⟩ := x
  simp only [VToken.cs, VToken.Kind, VToken.Num, VToken.Pos, VToken.Text, List.cons_append, List.nil_append]
theorem VToken.cells (x : VToken) : x.av.cells = [.v (.int .i64 x.Kind), .v (.string x.Text), .v (.int .i64 x.Num), .v (.int .i64 x.Pos)] := VToken.cs_eq x
theorem VToken.width (x : VToken) : x.av.cells.length = 4 := by rw [VToken.cells]; rfl
theorem VToken.storable (x : VToken) : x.av.storable = true := by unfold AV.storable; rw [VToken.cells]; rfl
theorem VToken.eta (x : VToken) : AV.agg [.v (.int .i64 x.Kind), .v (.string x.Text), .v (.int .i64 x.Num), .v (.int .i64 x.Pos)] = x.av := by
  show _ = AV.agg x.cs
  rw [VToken.cs_eq]
theorem VToken.wt_eq (x : VToken) : x.wt = x.Text.size := by
  cases x
  simp only [VToken.wt, VToken.Kind, VToken.Text, VToken.Num, VToken.Pos]
theorem VToken.facts {l : List VToken} {b : Nat} (h : (l.map VToken.wt).sum ≤ b) : ∀ x ∈ l, x.wt ≤ b ∧ x.wt = x.Text.size := fun x hx => ⟨Nat.le_trans (le_sum VToken.wt hx) h, x.wt_eq⟩
theorem VToken.ok_iff (x : VToken) : x.ok ↔ inR x.Kind ∧ inR x.Num ∧ inR x.Pos := by
  cases x
  simp only [VToken.ok, VToken.Kind, VToken.Text, VToken.Num, VToken.Pos]
inductive VPat where
  | mk (Kind : Int) (Name : ByteArray) (Num : Int) (Pos : Int) (Kids : List VPat)
def VPat.Kind : VPat → Int
  | .mk a _ _ _ _ => a
def VPat.Name : VPat → ByteArray
  | .mk _ a _ _ _ => a
def VPat.Num : VPat → Int
  | .mk _ _ a _ _ => a
def VPat.Pos : VPat → Int
  | .mk _ _ _ a _ => a
def VPat.Kids : VPat → List VPat
  | .mk _ _ _ _ a => a
mutual
def VPat.cs : VPat → List AV
  | .mk Kind Name Num Pos Kids => (.v (.int .i64 Kind) :: (.v (.string Name) :: (.v (.int .i64 Num) :: (.v (.int .i64 Pos) :: (.sl (VPat.avs Kids) :: [])))))
def VPat.avs : List VPat → List AV
  | [] => []
  | x :: l => .agg x.cs :: VPat.avs l
end
def VPat.av (x : VPat) : AV := .agg x.cs
theorem VPat.avs_eq (l : List VPat) : VPat.avs l = l.map VPat.av := by
  induction l with
  | nil => rfl
  | cons x l ih => simp only [VPat.avs, ih, List.map_cons, VPat.av]
mutual
def VPat.wt : VPat → Nat
  | .mk Kind Name Num Pos Kids => Name.size + (Kids.length + VPat.wts Kids)
def VPat.wts : List VPat → Nat
  | [] => 0
  | x :: l => x.wt + VPat.wts l
end
theorem VPat.wts_eq (l : List VPat) : VPat.wts l = (l.map VPat.wt).sum := by
  induction l with
  | nil => rfl
  | cons x l ih => simp only [VPat.wts, ih, List.map_cons, List.sum_cons]
mutual
theorem VPat.norefsC : ∀ x : VPat, AV.norefs x.cs = true
  | .mk Kind Name Num Pos Kids => by simp [VPat.cs, AV.norefs, AV.noref, norefs_append, VPat.norefsL Kids]
theorem VPat.norefsL : ∀ l : List VPat, AV.norefs (VPat.avs l) = true
  | [] => rfl
  | x :: l => by simp [VPat.avs, AV.norefs, AV.noref, VPat.norefsC x, VPat.norefsL l]
end
theorem VPat.noref (x : VPat) : x.av.noref = true   := VPat.norefsC x
theorem VPat.cs_eq (x : VPat) : x.cs = [.v (.int .i64 x.Kind), .v (.string x.Name), .v (.int .i64 x.Num), .v (.int .i64 x.Pos), .sl (x.Kids.map VPat.av)] := by
  obtain ⟨Kind, Name, Num, Pos, Kids⟩ := x
  simp only [VPat.cs, VPat.Kids, VPat.Kind, VPat.Name, VPat.Num, VPat.Pos, VPat.avs_eq, List.cons_append, List.nil_append]
theorem VPat.cells (x : VPat) : x.av.cells = [.v (.int .i64 x.Kind), .v (.string x.Name), .v (.int .i64 x.Num), .v (.int .i64 x.Pos), .sl (x.Kids.map VPat.av)] := VPat.cs_eq x
theorem VPat.wt_eq (x : VPat) : x.wt = x.Name.size + (x.Kids.length + (x.Kids.map VPat.wt).sum) := by
  cases x
  simp only [VPat.wt, VPat.wts_eq, VPat.Kind, VPat.Name, VPat.Num, VPat.Pos, VPat.Kids]
theorem VPat.facts {l : List VPat} {b : Nat} (h : (l.map VPat.wt).sum ≤ b) : ∀ x ∈ l, x.wt ≤ b ∧ x.wt = x.Name.size + (x.Kids.length + (x.Kids.map VPat.wt).sum) := fun x hx => ⟨Nat.le_trans (le_sum VPat.wt hx) h, x.wt_eq⟩
mutual
inductive VExp where
  | mk (Kind : Int) (Name : ByteArray) (Num : Int) (Text : ByteArray) (Pos : Int) (Kids : List VExp) (Arms : List VArm)
inductive VArm where
  | mk (P : VPat) (E : VExp)
end
def VExp.Kind : VExp → Int
  | .mk a _ _ _ _ _ _ => a
def VExp.Name : VExp → ByteArray
  | .mk _ a _ _ _ _ _ => a
def VExp.Num : VExp → Int
  | .mk _ _ a _ _ _ _ => a
def VExp.Text : VExp → ByteArray
  | .mk _ _ _ a _ _ _ => a
def VExp.Pos : VExp → Int
  | .mk _ _ _ _ a _ _ => a
def VExp.Kids : VExp → List VExp
  | .mk _ _ _ _ _ a _ => a
def VExp.Arms : VExp → List VArm
  | .mk _ _ _ _ _ _ a => a
def VArm.P : VArm → VPat
  | .mk a _ => a
def VArm.E : VArm → VExp
  | .mk _ a => a
mutual
def VExp.cs : VExp → List AV
  | .mk Kind Name Num Text Pos Kids Arms => (.v (.int .i64 Kind) :: (.v (.string Name) :: (.v (.int .i64 Num) :: (.v (.string Text) :: (.v (.int .i64 Pos) :: (.sl (VExp.avs Kids) :: (.sl (VArm.avs Arms) :: [])))))))
def VArm.cs : VArm → List AV
  | .mk P E => (P.cs ++ (E.cs ++ []))
def VExp.avs : List VExp → List AV
  | [] => []
  | x :: l => .agg x.cs :: VExp.avs l
def VArm.avs : List VArm → List AV
  | [] => []
  | x :: l => .agg x.cs :: VArm.avs l
end
def VExp.av (x : VExp) : AV := .agg x.cs
theorem VExp.avs_eq (l : List VExp) : VExp.avs l = l.map VExp.av := by
  induction l with
  | nil => rfl
  | cons x l ih => simp only [VExp.avs, ih, List.map_cons, VExp.av]
def VArm.av (x : VArm) : AV := .agg x.cs
theorem VArm.avs_eq (l : List VArm) : VArm.avs l = l.map VArm.av := by
  induction l with
  | nil => rfl
  | cons x l ih => simp only [VArm.avs, ih, List.map_cons, VArm.av]
mutual
def VExp.wt : VExp → Nat
  | .mk Kind Name Num Text Pos Kids Arms => Name.size + Text.size + (Kids.length + VExp.wts Kids) + (Arms.length + VArm.wts Arms)
def VArm.wt : VArm → Nat
  | .mk P E => P.wt + E.wt
def VExp.wts : List VExp → Nat
  | [] => 0
  | x :: l => x.wt + VExp.wts l
def VArm.wts : List VArm → Nat
  | [] => 0
  | x :: l => x.wt + VArm.wts l
end
theorem VExp.wts_eq (l : List VExp) : VExp.wts l = (l.map VExp.wt).sum := by
  induction l with
  | nil => rfl
  | cons x l ih => simp only [VExp.wts, ih, List.map_cons, List.sum_cons]
theorem VArm.wts_eq (l : List VArm) : VArm.wts l = (l.map VArm.wt).sum := by
  induction l with
  | nil => rfl
  | cons x l ih => simp only [VArm.wts, ih, List.map_cons, List.sum_cons]
mutual
theorem VExp.norefsC : ∀ x : VExp, AV.norefs x.cs = true
  | .mk Kind Name Num Text Pos Kids Arms => by simp [VExp.cs, AV.norefs, AV.noref, norefs_append, VExp.norefsL Kids, VArm.norefsL Arms]
theorem VArm.norefsC : ∀ x : VArm, AV.norefs x.cs = true
  | .mk P E => by simp [VArm.cs, AV.norefs, AV.noref, norefs_append, VPat.norefsC P, VExp.norefsC E]
theorem VExp.norefsL : ∀ l : List VExp, AV.norefs (VExp.avs l) = true
  | [] => rfl
  | x :: l => by simp [VExp.avs, AV.norefs, AV.noref, VExp.norefsC x, VExp.norefsL l]
theorem VArm.norefsL : ∀ l : List VArm, AV.norefs (VArm.avs l) = true
  | [] => rfl
  | x :: l => by simp [VArm.avs, AV.norefs, AV.noref, VArm.norefsC x, VArm.norefsL l]
end
theorem VExp.noref (x : VExp) : x.av.noref = true   := VExp.norefsC x
theorem VExp.cs_eq (x : VExp) : x.cs = [.v (.int .i64 x.Kind), .v (.string x.Name), .v (.int .i64 x.Num), .v (.string x.Text), .v (.int .i64 x.Pos), .sl (x.Kids.map VExp.av), .sl (x.Arms.map VArm.av)] := by
  obtain ⟨Kind, Name, Num, Text, Pos, Kids, Arms⟩ := x
  simp only [VExp.cs, VExp.Arms, VExp.Kids, VExp.Kind, VExp.Name, VExp.Num, VExp.Pos, VExp.Text, VArm.avs_eq, VExp.avs_eq, List.cons_append, List.nil_append]
theorem VExp.cells (x : VExp) : x.av.cells = [.v (.int .i64 x.Kind), .v (.string x.Name), .v (.int .i64 x.Num), .v (.string x.Text), .v (.int .i64 x.Pos), .sl (x.Kids.map VExp.av), .sl (x.Arms.map VArm.av)] := VExp.cs_eq x
theorem VExp.wt_eq (x : VExp) : x.wt = x.Name.size + x.Text.size + (x.Kids.length + (x.Kids.map VExp.wt).sum) + (x.Arms.length + (x.Arms.map VArm.wt).sum) := by
  cases x
  simp only [VExp.wt, VExp.wts_eq, VArm.wts_eq, VExp.Kind, VExp.Name, VExp.Num, VExp.Text, VExp.Pos, VExp.Kids, VExp.Arms]
theorem VExp.facts {l : List VExp} {b : Nat} (h : (l.map VExp.wt).sum ≤ b) : ∀ x ∈ l, x.wt ≤ b ∧ x.wt = x.Name.size + x.Text.size + (x.Kids.length + (x.Kids.map VExp.wt).sum) + (x.Arms.length + (x.Arms.map VArm.wt).sum) := fun x hx => ⟨Nat.le_trans (le_sum VExp.wt hx) h, x.wt_eq⟩
theorem VArm.noref (x : VArm) : x.av.noref = true   := VArm.norefsC x
theorem VArm.cs_eq (x : VArm) : x.cs = [.v (.int .i64 x.P.Kind), .v (.string x.P.Name), .v (.int .i64 x.P.Num), .v (.int .i64 x.P.Pos), .sl (x.P.Kids.map VPat.av), .v (.int .i64 x.E.Kind), .v (.string x.E.Name), .v (.int .i64 x.E.Num), .v (.string x.E.Text), .v (.int .i64 x.E.Pos), .sl (x.E.Kids.map VExp.av), .sl (x.E.Arms.map VArm.av)] := by
  obtain ⟨⟨P_Kind, P_Name, P_Num, P_Pos, P_Kids⟩, ⟨E_Kind, E_Name, E_Num, E_Text, E_Pos, E_Kids, E_Arms⟩⟩ := x
  simp only [VArm.cs, VExp.cs, VPat.cs, VArm.E, VArm.P, VExp.Arms, VExp.Kids, VExp.Kind, VExp.Name, VExp.Num, VExp.Pos, VExp.Text, VPat.Kids, VPat.Kind, VPat.Name, VPat.Num, VPat.Pos, VArm.avs_eq, VExp.avs_eq, VPat.avs_eq, List.cons_append, List.nil_append]
theorem VArm.cells (x : VArm) : x.av.cells = [.v (.int .i64 x.P.Kind), .v (.string x.P.Name), .v (.int .i64 x.P.Num), .v (.int .i64 x.P.Pos), .sl (x.P.Kids.map VPat.av), .v (.int .i64 x.E.Kind), .v (.string x.E.Name), .v (.int .i64 x.E.Num), .v (.string x.E.Text), .v (.int .i64 x.E.Pos), .sl (x.E.Kids.map VExp.av), .sl (x.E.Arms.map VArm.av)] := VArm.cs_eq x
theorem VArm.wt_eq (x : VArm) : x.wt = x.P.wt + x.E.wt := by
  cases x
  simp only [VArm.wt, VExp.wts_eq, VArm.wts_eq, VArm.P, VArm.E]
theorem VArm.facts {l : List VArm} {b : Nat} (h : (l.map VArm.wt).sum ≤ b) : ∀ x ∈ l, x.wt ≤ b ∧ x.wt = x.P.wt + x.E.wt := fun x hx => ⟨Nat.le_trans (le_sum VArm.wt hx) h, x.wt_eq⟩
inductive VTypeExp where
  | mk (Kind : Int) (Name : ByteArray) (Pos : Int) (Kids : List VTypeExp)
def VTypeExp.Kind : VTypeExp → Int
  | .mk a _ _ _ => a
def VTypeExp.Name : VTypeExp → ByteArray
  | .mk _ a _ _ => a
def VTypeExp.Pos : VTypeExp → Int
  | .mk _ _ a _ => a
def VTypeExp.Kids : VTypeExp → List VTypeExp
  | .mk _ _ _ a => a
mutual
def VTypeExp.cs : VTypeExp → List AV
  | .mk Kind Name Pos Kids => (.v (.int .i64 Kind) :: (.v (.string Name) :: (.v (.int .i64 Pos) :: (.sl (VTypeExp.avs Kids) :: []))))
def VTypeExp.avs : List VTypeExp → List AV
  | [] => []
  | x :: l => .agg x.cs :: VTypeExp.avs l
end
def VTypeExp.av (x : VTypeExp) : AV := .agg x.cs
theorem VTypeExp.avs_eq (l : List VTypeExp) : VTypeExp.avs l = l.map VTypeExp.av := by
  induction l with
  | nil => rfl
  | cons x l ih => simp only [VTypeExp.avs, ih, List.map_cons, VTypeExp.av]
mutual
def VTypeExp.wt : VTypeExp → Nat
  | .mk Kind Name Pos Kids => Name.size + (Kids.length + VTypeExp.wts Kids)
def VTypeExp.wts : List VTypeExp → Nat
  | [] => 0
  | x :: l => x.wt + VTypeExp.wts l
end
theorem VTypeExp.wts_eq (l : List VTypeExp) : VTypeExp.wts l = (l.map VTypeExp.wt).sum := by
  induction l with
  | nil => rfl
  | cons x l ih => simp only [VTypeExp.wts, ih, List.map_cons, List.sum_cons]
mutual
theorem VTypeExp.norefsC : ∀ x : VTypeExp, AV.norefs x.cs = true
  | .mk Kind Name Pos Kids => by simp [VTypeExp.cs, AV.norefs, AV.noref, norefs_append, VTypeExp.norefsL Kids]
theorem VTypeExp.norefsL : ∀ l : List VTypeExp, AV.norefs (VTypeExp.avs l) = true
  | [] => rfl
  | x :: l => by simp [VTypeExp.avs, AV.norefs, AV.noref, VTypeExp.norefsC x, VTypeExp.norefsL l]
end
theorem VTypeExp.noref (x : VTypeExp) : x.av.noref = true   := VTypeExp.norefsC x
theorem VTypeExp.cs_eq (x : VTypeExp) : x.cs = [.v (.int .i64 x.Kind), .v (.string x.Name), .v (.int .i64 x.Pos), .sl (x.Kids.map VTypeExp.av)] := by
  obtain ⟨Kind, Name, Pos, Kids⟩ := x
  simp only [VTypeExp.cs, VTypeExp.Kids, VTypeExp.Kind, VTypeExp.Name, VTypeExp.Pos, VTypeExp.avs_eq, List.cons_append, List.nil_append]
theorem VTypeExp.cells (x : VTypeExp) : x.av.cells = [.v (.int .i64 x.Kind), .v (.string x.Name), .v (.int .i64 x.Pos), .sl (x.Kids.map VTypeExp.av)] := VTypeExp.cs_eq x
theorem VTypeExp.wt_eq (x : VTypeExp) : x.wt = x.Name.size + (x.Kids.length + (x.Kids.map VTypeExp.wt).sum) := by
  cases x
  simp only [VTypeExp.wt, VTypeExp.wts_eq, VTypeExp.Kind, VTypeExp.Name, VTypeExp.Pos, VTypeExp.Kids]
theorem VTypeExp.facts {l : List VTypeExp} {b : Nat} (h : (l.map VTypeExp.wt).sum ≤ b) : ∀ x ∈ l, x.wt ≤ b ∧ x.wt = x.Name.size + (x.Kids.length + (x.Kids.map VTypeExp.wt).sum) := fun x hx => ⟨Nat.le_trans (le_sum VTypeExp.wt hx) h, x.wt_eq⟩
inductive VCtor where
  | mk (Name : ByteArray) (Has : Bool) (Arg : VTypeExp) (Pos : Int)
def VCtor.Name : VCtor → ByteArray
  | .mk a _ _ _ => a
def VCtor.Has : VCtor → Bool
  | .mk _ a _ _ => a
def VCtor.Arg : VCtor → VTypeExp
  | .mk _ _ a _ => a
def VCtor.Pos : VCtor → Int
  | .mk _ _ _ a => a
def VCtor.cs : VCtor → List AV
  | .mk Name Has Arg Pos => (.v (.string Name) :: (.v (.bool Has) :: (Arg.cs ++ (.v (.int .i64 Pos) :: []))))
def VCtor.av (x : VCtor) : AV := .agg x.cs
def VCtor.wt : VCtor → Nat
  | .mk Name Has Arg Pos => Name.size + Arg.wt
theorem VCtor.norefsC : ∀ x : VCtor, AV.norefs x.cs = true
  | .mk Name Has Arg Pos => by simp [VCtor.cs, AV.norefs, AV.noref, norefs_append, VTypeExp.norefsC Arg]
theorem VCtor.noref (x : VCtor) : x.av.noref = true   := VCtor.norefsC x
theorem VCtor.cs_eq (x : VCtor) : x.cs = [.v (.string x.Name), .v (.bool x.Has), .v (.int .i64 x.Arg.Kind), .v (.string x.Arg.Name), .v (.int .i64 x.Arg.Pos), .sl (x.Arg.Kids.map VTypeExp.av), .v (.int .i64 x.Pos)] := by
  obtain ⟨Name, Has, ⟨Arg_Kind, Arg_Name, Arg_Pos, Arg_Kids⟩, Pos⟩ := x
  simp only [VCtor.cs, VTypeExp.cs, VCtor.Arg, VCtor.Has, VCtor.Name, VCtor.Pos, VTypeExp.Kids, VTypeExp.Kind, VTypeExp.Name, VTypeExp.Pos, VTypeExp.avs_eq, List.cons_append, List.nil_append]
theorem VCtor.cells (x : VCtor) : x.av.cells = [.v (.string x.Name), .v (.bool x.Has), .v (.int .i64 x.Arg.Kind), .v (.string x.Arg.Name), .v (.int .i64 x.Arg.Pos), .sl (x.Arg.Kids.map VTypeExp.av), .v (.int .i64 x.Pos)] := VCtor.cs_eq x
theorem VCtor.wt_eq (x : VCtor) : x.wt = x.Name.size + x.Arg.wt := by
  cases x
  simp only [VCtor.wt, VCtor.Name, VCtor.Has, VCtor.Arg, VCtor.Pos]
theorem VCtor.facts {l : List VCtor} {b : Nat} (h : (l.map VCtor.wt).sum ≤ b) : ∀ x ∈ l, x.wt ≤ b ∧ x.wt = x.Name.size + x.Arg.wt := fun x hx => ⟨Nat.le_trans (le_sum VCtor.wt hx) h, x.wt_eq⟩
inductive VData where
  | mk (Name : ByteArray) (Vars : List ByteArray) (Ctors : List VCtor) (Pos : Int)
def VData.Name : VData → ByteArray
  | .mk a _ _ _ => a
def VData.Vars : VData → List ByteArray
  | .mk _ a _ _ => a
def VData.Ctors : VData → List VCtor
  | .mk _ _ a _ => a
def VData.Pos : VData → Int
  | .mk _ _ _ a => a
def VData.cs : VData → List AV
  | .mk Name Vars Ctors Pos => (.v (.string Name) :: (.sl (Vars.map fun x => .v (.string x)) :: (.sl (Ctors.map VCtor.av) :: (.v (.int .i64 Pos) :: []))))
def VData.av (x : VData) : AV := .agg x.cs
def VData.wt : VData → Nat
  | .mk Name Vars Ctors Pos => Name.size + (Vars.length + (Vars.map fun x => x.size).sum) + (Ctors.length + (Ctors.map VCtor.wt).sum)
theorem VData.norefsC : ∀ x : VData, AV.norefs x.cs = true
  | .mk Name Vars Ctors Pos => by simp [VData.cs, AV.norefs, AV.noref, norefs_append, norefsM (f := fun x => .v (.string x)) (l := Vars) (fun _ => rfl), norefsM (f := VCtor.av) (l := Ctors) VCtor.noref]
theorem VData.noref (x : VData) : x.av.noref = true   := VData.norefsC x
theorem VData.cs_eq (x : VData) : x.cs = [.v (.string x.Name), .sl (x.Vars.map fun x => .v (.string x)), .sl (x.Ctors.map VCtor.av), .v (.int .i64 x.Pos)] := by
  obtain ⟨Name, Vars, Ctors, Pos⟩ := x
  simp only [VData.cs, VData.Ctors, VData.Name, VData.Pos, VData.Vars, List.cons_append, List.nil_append]
theorem VData.cells (x : VData) : x.av.cells = [.v (.string x.Name), .sl (x.Vars.map fun x => .v (.string x)), .sl (x.Ctors.map VCtor.av), .v (.int .i64 x.Pos)] := VData.cs_eq x
theorem VData.wt_eq (x : VData) : x.wt = x.Name.size + (x.Vars.length + (x.Vars.map fun x => x.size).sum) + (x.Ctors.length + (x.Ctors.map VCtor.wt).sum) := by
  cases x
  simp only [VData.wt, VData.Name, VData.Vars, VData.Ctors, VData.Pos]
theorem VData.facts {l : List VData} {b : Nat} (h : (l.map VData.wt).sum ≤ b) : ∀ x ∈ l, x.wt ≤ b ∧ x.wt = x.Name.size + (x.Vars.length + (x.Vars.map fun x => x.size).sum) + (x.Ctors.length + (x.Ctors.map VCtor.wt).sum) := fun x hx => ⟨Nat.le_trans (le_sum VData.wt hx) h, x.wt_eq⟩
inductive VProg where
  | mk (Types : List VData) (Body : VExp)
def VProg.Types : VProg → List VData
  | .mk a _ => a
def VProg.Body : VProg → VExp
  | .mk _ a => a
def VProg.cs : VProg → List AV
  | .mk Types Body => (.sl (Types.map VData.av) :: (Body.cs ++ []))
def VProg.av (x : VProg) : AV := .agg x.cs
def VProg.wt : VProg → Nat
  | .mk Types Body => (Types.length + (Types.map VData.wt).sum) + Body.wt
theorem VProg.norefsC : ∀ x : VProg, AV.norefs x.cs = true
  | .mk Types Body => by simp [VProg.cs, AV.norefs, AV.noref, norefs_append, norefsM (f := VData.av) (l := Types) VData.noref, VExp.norefsC Body]
theorem VProg.noref (x : VProg) : x.av.noref = true   := VProg.norefsC x
theorem VProg.cs_eq (x : VProg) : x.cs = [.sl (x.Types.map VData.av), .v (.int .i64 x.Body.Kind), .v (.string x.Body.Name), .v (.int .i64 x.Body.Num), .v (.string x.Body.Text), .v (.int .i64 x.Body.Pos), .sl (x.Body.Kids.map VExp.av), .sl (x.Body.Arms.map VArm.av)] := by
  obtain ⟨Types, ⟨Body_Kind, Body_Name, Body_Num, Body_Text, Body_Pos, Body_Kids, Body_Arms⟩⟩ := x
  simp only [VExp.cs, VProg.cs, VExp.Arms, VExp.Kids, VExp.Kind, VExp.Name, VExp.Num, VExp.Pos, VExp.Text, VProg.Body, VProg.Types, VArm.avs_eq, VExp.avs_eq, List.cons_append, List.nil_append]
theorem VProg.cells (x : VProg) : x.av.cells = [.sl (x.Types.map VData.av), .v (.int .i64 x.Body.Kind), .v (.string x.Body.Name), .v (.int .i64 x.Body.Num), .v (.string x.Body.Text), .v (.int .i64 x.Body.Pos), .sl (x.Body.Kids.map VExp.av), .sl (x.Body.Arms.map VArm.av)] := VProg.cs_eq x
theorem VProg.wt_eq (x : VProg) : x.wt = (x.Types.length + (x.Types.map VData.wt).sum) + x.Body.wt := by
  cases x
  simp only [VProg.wt, VProg.Types, VProg.Body]
theorem VProg.facts {l : List VProg} {b : Nat} (h : (l.map VProg.wt).sum ≤ b) : ∀ x ∈ l, x.wt ≤ b ∧ x.wt = (x.Types.length + (x.Types.map VData.wt).sum) + x.Body.wt := fun x hx => ⟨Nat.le_trans (le_sum VProg.wt hx) h, x.wt_eq⟩
inductive VTy where
  | mk (Kind : Int) (N : Int) (Name : ByteArray) (Kids : List VTy)
def VTy.Kind : VTy → Int
  | .mk a _ _ _ => a
def VTy.N : VTy → Int
  | .mk _ a _ _ => a
def VTy.Name : VTy → ByteArray
  | .mk _ _ a _ => a
def VTy.Kids : VTy → List VTy
  | .mk _ _ _ a => a
mutual
def VTy.cs : VTy → List AV
  | .mk Kind N Name Kids => (.v (.int .i64 Kind) :: (.v (.int .i64 N) :: (.v (.string Name) :: (.sl (VTy.avs Kids) :: []))))
def VTy.avs : List VTy → List AV
  | [] => []
  | x :: l => .agg x.cs :: VTy.avs l
end
def VTy.av (x : VTy) : AV := .agg x.cs
theorem VTy.avs_eq (l : List VTy) : VTy.avs l = l.map VTy.av := by
  induction l with
  | nil => rfl
  | cons x l ih => simp only [VTy.avs, ih, List.map_cons, VTy.av]
mutual
def VTy.wt : VTy → Nat
  | .mk Kind N Name Kids => Name.size + (Kids.length + VTy.wts Kids)
def VTy.wts : List VTy → Nat
  | [] => 0
  | x :: l => x.wt + VTy.wts l
end
theorem VTy.wts_eq (l : List VTy) : VTy.wts l = (l.map VTy.wt).sum := by
  induction l with
  | nil => rfl
  | cons x l ih => simp only [VTy.wts, ih, List.map_cons, List.sum_cons]
mutual
theorem VTy.norefsC : ∀ x : VTy, AV.norefs x.cs = true
  | .mk Kind N Name Kids => by simp [VTy.cs, AV.norefs, AV.noref, norefs_append, VTy.norefsL Kids]
theorem VTy.norefsL : ∀ l : List VTy, AV.norefs (VTy.avs l) = true
  | [] => rfl
  | x :: l => by simp [VTy.avs, AV.norefs, AV.noref, VTy.norefsC x, VTy.norefsL l]
end
theorem VTy.noref (x : VTy) : x.av.noref = true   := VTy.norefsC x
theorem VTy.cs_eq (x : VTy) : x.cs = [.v (.int .i64 x.Kind), .v (.int .i64 x.N), .v (.string x.Name), .sl (x.Kids.map VTy.av)] := by
  obtain ⟨Kind, N, Name, Kids⟩ := x
  simp only [VTy.cs, VTy.Kids, VTy.Kind, VTy.N, VTy.Name, VTy.avs_eq, List.cons_append, List.nil_append]
theorem VTy.cells (x : VTy) : x.av.cells = [.v (.int .i64 x.Kind), .v (.int .i64 x.N), .v (.string x.Name), .sl (x.Kids.map VTy.av)] := VTy.cs_eq x
theorem VTy.wt_eq (x : VTy) : x.wt = x.Name.size + (x.Kids.length + (x.Kids.map VTy.wt).sum) := by
  cases x
  simp only [VTy.wt, VTy.wts_eq, VTy.Kind, VTy.N, VTy.Name, VTy.Kids]
theorem VTy.facts {l : List VTy} {b : Nat} (h : (l.map VTy.wt).sum ≤ b) : ∀ x ∈ l, x.wt ≤ b ∧ x.wt = x.Name.size + (x.Kids.length + (x.Kids.map VTy.wt).sum) := fun x hx => ⟨Nat.le_trans (le_sum VTy.wt hx) h, x.wt_eq⟩
inductive VCtorInfo where
  | mk (Name : ByteArray) (Has : Bool) (Arg : VTy)
def VCtorInfo.Name : VCtorInfo → ByteArray
  | .mk a _ _ => a
def VCtorInfo.Has : VCtorInfo → Bool
  | .mk _ a _ => a
def VCtorInfo.Arg : VCtorInfo → VTy
  | .mk _ _ a => a
def VCtorInfo.cs : VCtorInfo → List AV
  | .mk Name Has Arg => (.v (.string Name) :: (.v (.bool Has) :: (Arg.cs ++ [])))
def VCtorInfo.av (x : VCtorInfo) : AV := .agg x.cs
def VCtorInfo.wt : VCtorInfo → Nat
  | .mk Name Has Arg => Name.size + Arg.wt
theorem VCtorInfo.norefsC : ∀ x : VCtorInfo, AV.norefs x.cs = true
  | .mk Name Has Arg => by simp [VCtorInfo.cs, AV.norefs, AV.noref, norefs_append, VTy.norefsC Arg]
theorem VCtorInfo.noref (x : VCtorInfo) : x.av.noref = true   := VCtorInfo.norefsC x
theorem VCtorInfo.cs_eq (x : VCtorInfo) : x.cs = [.v (.string x.Name), .v (.bool x.Has), .v (.int .i64 x.Arg.Kind), .v (.int .i64 x.Arg.N), .v (.string x.Arg.Name), .sl (x.Arg.Kids.map VTy.av)] := by
  obtain ⟨Name, Has, ⟨Arg_Kind, Arg_N, Arg_Name, Arg_Kids⟩⟩ := x
  simp only [VCtorInfo.cs, VTy.cs, VCtorInfo.Arg, VCtorInfo.Has, VCtorInfo.Name, VTy.Kids, VTy.Kind, VTy.N, VTy.Name, VTy.avs_eq, List.cons_append, List.nil_append]
theorem VCtorInfo.cells (x : VCtorInfo) : x.av.cells = [.v (.string x.Name), .v (.bool x.Has), .v (.int .i64 x.Arg.Kind), .v (.int .i64 x.Arg.N), .v (.string x.Arg.Name), .sl (x.Arg.Kids.map VTy.av)] := VCtorInfo.cs_eq x
theorem VCtorInfo.wt_eq (x : VCtorInfo) : x.wt = x.Name.size + x.Arg.wt := by
  cases x
  simp only [VCtorInfo.wt, VCtorInfo.Name, VCtorInfo.Has, VCtorInfo.Arg]
theorem VCtorInfo.facts {l : List VCtorInfo} {b : Nat} (h : (l.map VCtorInfo.wt).sum ≤ b) : ∀ x ∈ l, x.wt ≤ b ∧ x.wt = x.Name.size + x.Arg.wt := fun x hx => ⟨Nat.le_trans (le_sum VCtorInfo.wt hx) h, x.wt_eq⟩
inductive VDataInfo where
  | mk (Name : ByteArray) (Vars : Int) (Ctors : List VCtorInfo)
def VDataInfo.Name : VDataInfo → ByteArray
  | .mk a _ _ => a
def VDataInfo.Vars : VDataInfo → Int
  | .mk _ a _ => a
def VDataInfo.Ctors : VDataInfo → List VCtorInfo
  | .mk _ _ a => a
def VDataInfo.cs : VDataInfo → List AV
  | .mk Name Vars Ctors => (.v (.string Name) :: (.v (.int .i64 Vars) :: (.sl (Ctors.map VCtorInfo.av) :: [])))
def VDataInfo.av (x : VDataInfo) : AV := .agg x.cs
def VDataInfo.wt : VDataInfo → Nat
  | .mk Name Vars Ctors => Name.size + (Ctors.length + (Ctors.map VCtorInfo.wt).sum)
theorem VDataInfo.norefsC : ∀ x : VDataInfo, AV.norefs x.cs = true
  | .mk Name Vars Ctors => by simp [VDataInfo.cs, AV.norefs, AV.noref, norefs_append, norefsM (f := VCtorInfo.av) (l := Ctors) VCtorInfo.noref]
theorem VDataInfo.noref (x : VDataInfo) : x.av.noref = true   := VDataInfo.norefsC x
theorem VDataInfo.cs_eq (x : VDataInfo) : x.cs = [.v (.string x.Name), .v (.int .i64 x.Vars), .sl (x.Ctors.map VCtorInfo.av)] := by
  obtain ⟨Name, Vars, Ctors⟩ := x
  simp only [VDataInfo.cs, VDataInfo.Ctors, VDataInfo.Name, VDataInfo.Vars, List.cons_append, List.nil_append]
theorem VDataInfo.cells (x : VDataInfo) : x.av.cells = [.v (.string x.Name), .v (.int .i64 x.Vars), .sl (x.Ctors.map VCtorInfo.av)] := VDataInfo.cs_eq x
theorem VDataInfo.wt_eq (x : VDataInfo) : x.wt = x.Name.size + (x.Ctors.length + (x.Ctors.map VCtorInfo.wt).sum) := by
  cases x
  simp only [VDataInfo.wt, VDataInfo.Name, VDataInfo.Vars, VDataInfo.Ctors]
theorem VDataInfo.facts {l : List VDataInfo} {b : Nat} (h : (l.map VDataInfo.wt).sum ≤ b) : ∀ x ∈ l, x.wt ≤ b ∧ x.wt = x.Name.size + (x.Ctors.length + (x.Ctors.map VCtorInfo.wt).sum) := fun x hx => ⟨Nat.le_trans (le_sum VDataInfo.wt hx) h, x.wt_eq⟩
inductive VCPat where
  | mk (Kind : Int) (Num : Int) (Name : ByteArray) (T : VTy) (Kids : List VCPat)
def VCPat.Kind : VCPat → Int
  | .mk a _ _ _ _ => a
def VCPat.Num : VCPat → Int
  | .mk _ a _ _ _ => a
def VCPat.Name : VCPat → ByteArray
  | .mk _ _ a _ _ => a
def VCPat.T : VCPat → VTy
  | .mk _ _ _ a _ => a
def VCPat.Kids : VCPat → List VCPat
  | .mk _ _ _ _ a => a
mutual
def VCPat.cs : VCPat → List AV
  | .mk Kind Num Name T Kids => (.v (.int .i64 Kind) :: (.v (.int .i64 Num) :: (.v (.string Name) :: (T.cs ++ (.sl (VCPat.avs Kids) :: [])))))
def VCPat.avs : List VCPat → List AV
  | [] => []
  | x :: l => .agg x.cs :: VCPat.avs l
end
def VCPat.av (x : VCPat) : AV := .agg x.cs
theorem VCPat.avs_eq (l : List VCPat) : VCPat.avs l = l.map VCPat.av := by
  induction l with
  | nil => rfl
  | cons x l ih => simp only [VCPat.avs, ih, List.map_cons, VCPat.av]
mutual
def VCPat.wt : VCPat → Nat
  | .mk Kind Num Name T Kids => Name.size + T.wt + (Kids.length + VCPat.wts Kids)
def VCPat.wts : List VCPat → Nat
  | [] => 0
  | x :: l => x.wt + VCPat.wts l
end
theorem VCPat.wts_eq (l : List VCPat) : VCPat.wts l = (l.map VCPat.wt).sum := by
  induction l with
  | nil => rfl
  | cons x l ih => simp only [VCPat.wts, ih, List.map_cons, List.sum_cons]
mutual
theorem VCPat.norefsC : ∀ x : VCPat, AV.norefs x.cs = true
  | .mk Kind Num Name T Kids => by simp [VCPat.cs, AV.norefs, AV.noref, norefs_append, VTy.norefsC T, VCPat.norefsL Kids]
theorem VCPat.norefsL : ∀ l : List VCPat, AV.norefs (VCPat.avs l) = true
  | [] => rfl
  | x :: l => by simp [VCPat.avs, AV.norefs, AV.noref, VCPat.norefsC x, VCPat.norefsL l]
end
theorem VCPat.noref (x : VCPat) : x.av.noref = true   := VCPat.norefsC x
theorem VCPat.cs_eq (x : VCPat) : x.cs = [.v (.int .i64 x.Kind), .v (.int .i64 x.Num), .v (.string x.Name), .v (.int .i64 x.T.Kind), .v (.int .i64 x.T.N), .v (.string x.T.Name), .sl (x.T.Kids.map VTy.av), .sl (x.Kids.map VCPat.av)] := by
  obtain ⟨Kind, Num, Name, ⟨T_Kind, T_N, T_Name, T_Kids⟩, Kids⟩ := x
  simp only [VCPat.cs, VTy.cs, VCPat.Kids, VCPat.Kind, VCPat.Name, VCPat.Num, VCPat.T, VTy.Kids, VTy.Kind, VTy.N, VTy.Name, VCPat.avs_eq, VTy.avs_eq, List.cons_append, List.nil_append]
theorem VCPat.cells (x : VCPat) : x.av.cells = [.v (.int .i64 x.Kind), .v (.int .i64 x.Num), .v (.string x.Name), .v (.int .i64 x.T.Kind), .v (.int .i64 x.T.N), .v (.string x.T.Name), .sl (x.T.Kids.map VTy.av), .sl (x.Kids.map VCPat.av)] := VCPat.cs_eq x
theorem VCPat.wt_eq (x : VCPat) : x.wt = x.Name.size + x.T.wt + (x.Kids.length + (x.Kids.map VCPat.wt).sum) := by
  cases x
  simp only [VCPat.wt, VCPat.wts_eq, VCPat.Kind, VCPat.Num, VCPat.Name, VCPat.T, VCPat.Kids]
theorem VCPat.facts {l : List VCPat} {b : Nat} (h : (l.map VCPat.wt).sum ≤ b) : ∀ x ∈ l, x.wt ≤ b ∧ x.wt = x.Name.size + x.T.wt + (x.Kids.length + (x.Kids.map VCPat.wt).sum) := fun x hx => ⟨Nat.le_trans (le_sum VCPat.wt hx) h, x.wt_eq⟩
mutual
inductive VCore where
  | mk (Kind : Int) (N : Int) (Num : Int) (Text : ByteArray) (Name : ByteArray) (T : VTy) (Ts : List VTy) (Kids : List VCore) (Arms : List VCArm)
inductive VCArm where
  | mk (P : VCPat) (E : VCore)
end
def VCore.Kind : VCore → Int
  | .mk a _ _ _ _ _ _ _ _ => a
def VCore.N : VCore → Int
  | .mk _ a _ _ _ _ _ _ _ => a
def VCore.Num : VCore → Int
  | .mk _ _ a _ _ _ _ _ _ => a
def VCore.Text : VCore → ByteArray
  | .mk _ _ _ a _ _ _ _ _ => a
def VCore.Name : VCore → ByteArray
  | .mk _ _ _ _ a _ _ _ _ => a
def VCore.T : VCore → VTy
  | .mk _ _ _ _ _ a _ _ _ => a
def VCore.Ts : VCore → List VTy
  | .mk _ _ _ _ _ _ a _ _ => a
def VCore.Kids : VCore → List VCore
  | .mk _ _ _ _ _ _ _ a _ => a
def VCore.Arms : VCore → List VCArm
  | .mk _ _ _ _ _ _ _ _ a => a
def VCArm.P : VCArm → VCPat
  | .mk a _ => a
def VCArm.E : VCArm → VCore
  | .mk _ a => a
mutual
def VCore.cs : VCore → List AV
  | .mk Kind N Num Text Name T Ts Kids Arms => (.v (.int .i64 Kind) :: (.v (.int .i64 N) :: (.v (.int .i64 Num) :: (.v (.string Text) :: (.v (.string Name) :: (T.cs ++ (.sl (Ts.map VTy.av) :: (.sl (VCore.avs Kids) :: (.sl (VCArm.avs Arms) :: [])))))))))
def VCArm.cs : VCArm → List AV
  | .mk P E => (P.cs ++ (E.cs ++ []))
def VCore.avs : List VCore → List AV
  | [] => []
  | x :: l => .agg x.cs :: VCore.avs l
def VCArm.avs : List VCArm → List AV
  | [] => []
  | x :: l => .agg x.cs :: VCArm.avs l
end
def VCore.av (x : VCore) : AV := .agg x.cs
theorem VCore.avs_eq (l : List VCore) : VCore.avs l = l.map VCore.av := by
  induction l with
  | nil => rfl
  | cons x l ih => simp only [VCore.avs, ih, List.map_cons, VCore.av]
def VCArm.av (x : VCArm) : AV := .agg x.cs
theorem VCArm.avs_eq (l : List VCArm) : VCArm.avs l = l.map VCArm.av := by
  induction l with
  | nil => rfl
  | cons x l ih => simp only [VCArm.avs, ih, List.map_cons, VCArm.av]
mutual
def VCore.wt : VCore → Nat
  | .mk Kind N Num Text Name T Ts Kids Arms => Text.size + Name.size + T.wt + (Ts.length + (Ts.map VTy.wt).sum) + (Kids.length + VCore.wts Kids) + (Arms.length + VCArm.wts Arms)
def VCArm.wt : VCArm → Nat
  | .mk P E => P.wt + E.wt
def VCore.wts : List VCore → Nat
  | [] => 0
  | x :: l => x.wt + VCore.wts l
def VCArm.wts : List VCArm → Nat
  | [] => 0
  | x :: l => x.wt + VCArm.wts l
end
theorem VCore.wts_eq (l : List VCore) : VCore.wts l = (l.map VCore.wt).sum := by
  induction l with
  | nil => rfl
  | cons x l ih => simp only [VCore.wts, ih, List.map_cons, List.sum_cons]
theorem VCArm.wts_eq (l : List VCArm) : VCArm.wts l = (l.map VCArm.wt).sum := by
  induction l with
  | nil => rfl
  | cons x l ih => simp only [VCArm.wts, ih, List.map_cons, List.sum_cons]
mutual
theorem VCore.norefsC : ∀ x : VCore, AV.norefs x.cs = true
  | .mk Kind N Num Text Name T Ts Kids Arms => by simp [VCore.cs, AV.norefs, AV.noref, norefs_append, VTy.norefsC T, norefsM (f := VTy.av) (l := Ts) VTy.noref, VCore.norefsL Kids, VCArm.norefsL Arms]
theorem VCArm.norefsC : ∀ x : VCArm, AV.norefs x.cs = true
  | .mk P E => by simp [VCArm.cs, AV.norefs, AV.noref, norefs_append, VCPat.norefsC P, VCore.norefsC E]
theorem VCore.norefsL : ∀ l : List VCore, AV.norefs (VCore.avs l) = true
  | [] => rfl
  | x :: l => by simp [VCore.avs, AV.norefs, AV.noref, VCore.norefsC x, VCore.norefsL l]
theorem VCArm.norefsL : ∀ l : List VCArm, AV.norefs (VCArm.avs l) = true
  | [] => rfl
  | x :: l => by simp [VCArm.avs, AV.norefs, AV.noref, VCArm.norefsC x, VCArm.norefsL l]
end
theorem VCore.noref (x : VCore) : x.av.noref = true   := VCore.norefsC x
theorem VCore.cs_eq (x : VCore) : x.cs = [.v (.int .i64 x.Kind), .v (.int .i64 x.N), .v (.int .i64 x.Num), .v (.string x.Text), .v (.string x.Name), .v (.int .i64 x.T.Kind), .v (.int .i64 x.T.N), .v (.string x.T.Name), .sl (x.T.Kids.map VTy.av), .sl (x.Ts.map VTy.av), .sl (x.Kids.map VCore.av), .sl (x.Arms.map VCArm.av)] := by
  obtain ⟨Kind, N, Num, Text, Name, ⟨T_Kind, T_N, T_Name, T_Kids⟩, Ts, Kids, Arms⟩ := x
  simp only [VCore.cs, VTy.cs, VCore.Arms, VCore.Kids, VCore.Kind, VCore.N, VCore.Name, VCore.Num, VCore.T, VCore.Text, VCore.Ts, VTy.Kids, VTy.Kind, VTy.N, VTy.Name, VCArm.avs_eq, VCore.avs_eq, VTy.avs_eq, List.cons_append, List.nil_append]
theorem VCore.cells (x : VCore) : x.av.cells = [.v (.int .i64 x.Kind), .v (.int .i64 x.N), .v (.int .i64 x.Num), .v (.string x.Text), .v (.string x.Name), .v (.int .i64 x.T.Kind), .v (.int .i64 x.T.N), .v (.string x.T.Name), .sl (x.T.Kids.map VTy.av), .sl (x.Ts.map VTy.av), .sl (x.Kids.map VCore.av), .sl (x.Arms.map VCArm.av)] := VCore.cs_eq x
theorem VCore.wt_eq (x : VCore) : x.wt = x.Text.size + x.Name.size + x.T.wt + (x.Ts.length + (x.Ts.map VTy.wt).sum) + (x.Kids.length + (x.Kids.map VCore.wt).sum) + (x.Arms.length + (x.Arms.map VCArm.wt).sum) := by
  cases x
  simp only [VCore.wt, VCore.wts_eq, VCArm.wts_eq, VCore.Kind, VCore.N, VCore.Num, VCore.Text, VCore.Name, VCore.T, VCore.Ts, VCore.Kids, VCore.Arms]
theorem VCore.facts {l : List VCore} {b : Nat} (h : (l.map VCore.wt).sum ≤ b) : ∀ x ∈ l, x.wt ≤ b ∧ x.wt = x.Text.size + x.Name.size + x.T.wt + (x.Ts.length + (x.Ts.map VTy.wt).sum) + (x.Kids.length + (x.Kids.map VCore.wt).sum) + (x.Arms.length + (x.Arms.map VCArm.wt).sum) := fun x hx => ⟨Nat.le_trans (le_sum VCore.wt hx) h, x.wt_eq⟩
theorem VCArm.noref (x : VCArm) : x.av.noref = true   := VCArm.norefsC x
theorem VCArm.cs_eq (x : VCArm) : x.cs = [.v (.int .i64 x.P.Kind), .v (.int .i64 x.P.Num), .v (.string x.P.Name), .v (.int .i64 x.P.T.Kind), .v (.int .i64 x.P.T.N), .v (.string x.P.T.Name), .sl (x.P.T.Kids.map VTy.av), .sl (x.P.Kids.map VCPat.av), .v (.int .i64 x.E.Kind), .v (.int .i64 x.E.N), .v (.int .i64 x.E.Num), .v (.string x.E.Text), .v (.string x.E.Name), .v (.int .i64 x.E.T.Kind), .v (.int .i64 x.E.T.N), .v (.string x.E.T.Name), .sl (x.E.T.Kids.map VTy.av), .sl (x.E.Ts.map VTy.av), .sl (x.E.Kids.map VCore.av), .sl (x.E.Arms.map VCArm.av)] := by
  obtain ⟨⟨P_Kind, P_Num, P_Name, ⟨P_T_Kind, P_T_N, P_T_Name, P_T_Kids⟩, P_Kids⟩, ⟨E_Kind, E_N, E_Num, E_Text, E_Name, ⟨E_T_Kind, E_T_N, E_T_Name, E_T_Kids⟩, E_Ts, E_Kids, E_Arms⟩⟩ := x
  simp only [VCArm.cs, VCPat.cs, VCore.cs, VTy.cs, VCArm.E, VCArm.P, VCPat.Kids, VCPat.Kind, VCPat.Name, VCPat.Num, VCPat.T, VCore.Arms, VCore.Kids, VCore.Kind, VCore.N, VCore.Name, VCore.Num, VCore.T, VCore.Text, VCore.Ts, VTy.Kids, VTy.Kind, VTy.N, VTy.Name, VCArm.avs_eq, VCPat.avs_eq, VCore.avs_eq, VTy.avs_eq, List.cons_append, List.nil_append]
theorem VCArm.cells (x : VCArm) : x.av.cells = [.v (.int .i64 x.P.Kind), .v (.int .i64 x.P.Num), .v (.string x.P.Name), .v (.int .i64 x.P.T.Kind), .v (.int .i64 x.P.T.N), .v (.string x.P.T.Name), .sl (x.P.T.Kids.map VTy.av), .sl (x.P.Kids.map VCPat.av), .v (.int .i64 x.E.Kind), .v (.int .i64 x.E.N), .v (.int .i64 x.E.Num), .v (.string x.E.Text), .v (.string x.E.Name), .v (.int .i64 x.E.T.Kind), .v (.int .i64 x.E.T.N), .v (.string x.E.T.Name), .sl (x.E.T.Kids.map VTy.av), .sl (x.E.Ts.map VTy.av), .sl (x.E.Kids.map VCore.av), .sl (x.E.Arms.map VCArm.av)] := VCArm.cs_eq x
theorem VCArm.wt_eq (x : VCArm) : x.wt = x.P.wt + x.E.wt := by
  cases x
  simp only [VCArm.wt, VCore.wts_eq, VCArm.wts_eq, VCArm.P, VCArm.E]
theorem VCArm.facts {l : List VCArm} {b : Nat} (h : (l.map VCArm.wt).sum ≤ b) : ∀ x ∈ l, x.wt ≤ b ∧ x.wt = x.P.wt + x.E.wt := fun x hx => ⟨Nat.le_trans (le_sum VCArm.wt hx) h, x.wt_eq⟩
inductive VKVal where
  | mk (Kind : Int) (N : Int) (Num : Int) (Text : ByteArray)
def VKVal.Kind : VKVal → Int
  | .mk a _ _ _ => a
def VKVal.N : VKVal → Int
  | .mk _ a _ _ => a
def VKVal.Num : VKVal → Int
  | .mk _ _ a _ => a
def VKVal.Text : VKVal → ByteArray
  | .mk _ _ _ a => a
def VKVal.cs : VKVal → List AV
  | .mk Kind N Num Text => (.v (.int .i64 Kind) :: (.v (.int .i64 N) :: (.v (.int .i64 Num) :: (.v (.string Text) :: []))))
def VKVal.av (x : VKVal) : AV := .agg x.cs
def VKVal.wt : VKVal → Nat
  | .mk Kind N Num Text => Text.size
theorem VKVal.norefsC : ∀ x : VKVal, AV.norefs x.cs = true
  | .mk Kind N Num Text => by simp [VKVal.cs, AV.norefs, AV.noref, norefs_append]
theorem VKVal.noref (x : VKVal) : x.av.noref = true   := VKVal.norefsC x
theorem VKVal.cs_eq (x : VKVal) : x.cs = [.v (.int .i64 x.Kind), .v (.int .i64 x.N), .v (.int .i64 x.Num), .v (.string x.Text)] := by
  obtain ⟨Kind, N, Num, Text⟩ := x
  simp only [VKVal.cs, VKVal.Kind, VKVal.N, VKVal.Num, VKVal.Text, List.cons_append, List.nil_append]
theorem VKVal.cells (x : VKVal) : x.av.cells = [.v (.int .i64 x.Kind), .v (.int .i64 x.N), .v (.int .i64 x.Num), .v (.string x.Text)] := VKVal.cs_eq x
theorem VKVal.wt_eq (x : VKVal) : x.wt = x.Text.size := by
  cases x
  simp only [VKVal.wt, VKVal.Kind, VKVal.N, VKVal.Num, VKVal.Text]
theorem VKVal.facts {l : List VKVal} {b : Nat} (h : (l.map VKVal.wt).sum ≤ b) : ∀ x ∈ l, x.wt ≤ b ∧ x.wt = x.Text.size := fun x hx => ⟨Nat.le_trans (le_sum VKVal.wt hx) h, x.wt_eq⟩
inductive VKTerm where
  | mk (Kind : Int) (Name : ByteArray) (N : Int) (Num : Int) (T : VTy) (Ts : List VTy) (Vs : List VKVal) (Kids : List VKTerm)
def VKTerm.Kind : VKTerm → Int
  | .mk a _ _ _ _ _ _ _ => a
def VKTerm.Name : VKTerm → ByteArray
  | .mk _ a _ _ _ _ _ _ => a
def VKTerm.N : VKTerm → Int
  | .mk _ _ a _ _ _ _ _ => a
def VKTerm.Num : VKTerm → Int
  | .mk _ _ _ a _ _ _ _ => a
def VKTerm.T : VKTerm → VTy
  | .mk _ _ _ _ a _ _ _ => a
def VKTerm.Ts : VKTerm → List VTy
  | .mk _ _ _ _ _ a _ _ => a
def VKTerm.Vs : VKTerm → List VKVal
  | .mk _ _ _ _ _ _ a _ => a
def VKTerm.Kids : VKTerm → List VKTerm
  | .mk _ _ _ _ _ _ _ a => a
mutual
def VKTerm.cs : VKTerm → List AV
  | .mk Kind Name N Num T Ts Vs Kids => (.v (.int .i64 Kind) :: (.v (.string Name) :: (.v (.int .i64 N) :: (.v (.int .i64 Num) :: (T.cs ++ (.sl (Ts.map VTy.av) :: (.sl (Vs.map VKVal.av) :: (.sl (VKTerm.avs Kids) :: []))))))))
def VKTerm.avs : List VKTerm → List AV
  | [] => []
  | x :: l => .agg x.cs :: VKTerm.avs l
end
def VKTerm.av (x : VKTerm) : AV := .agg x.cs
theorem VKTerm.avs_eq (l : List VKTerm) : VKTerm.avs l = l.map VKTerm.av := by
  induction l with
  | nil => rfl
  | cons x l ih => simp only [VKTerm.avs, ih, List.map_cons, VKTerm.av]
mutual
def VKTerm.wt : VKTerm → Nat
  | .mk Kind Name N Num T Ts Vs Kids => Name.size + T.wt + (Ts.length + (Ts.map VTy.wt).sum) + (Vs.length + (Vs.map VKVal.wt).sum) + (Kids.length + VKTerm.wts Kids)
def VKTerm.wts : List VKTerm → Nat
  | [] => 0
  | x :: l => x.wt + VKTerm.wts l
end
theorem VKTerm.wts_eq (l : List VKTerm) : VKTerm.wts l = (l.map VKTerm.wt).sum := by
  induction l with
  | nil => rfl
  | cons x l ih => simp only [VKTerm.wts, ih, List.map_cons, List.sum_cons]
mutual
theorem VKTerm.norefsC : ∀ x : VKTerm, AV.norefs x.cs = true
  | .mk Kind Name N Num T Ts Vs Kids => by simp [VKTerm.cs, AV.norefs, AV.noref, norefs_append, VTy.norefsC T, norefsM (f := VTy.av) (l := Ts) VTy.noref, norefsM (f := VKVal.av) (l := Vs) VKVal.noref, VKTerm.norefsL Kids]
theorem VKTerm.norefsL : ∀ l : List VKTerm, AV.norefs (VKTerm.avs l) = true
  | [] => rfl
  | x :: l => by simp [VKTerm.avs, AV.norefs, AV.noref, VKTerm.norefsC x, VKTerm.norefsL l]
end
theorem VKTerm.noref (x : VKTerm) : x.av.noref = true   := VKTerm.norefsC x
theorem VKTerm.cs_eq (x : VKTerm) : x.cs = [.v (.int .i64 x.Kind), .v (.string x.Name), .v (.int .i64 x.N), .v (.int .i64 x.Num), .v (.int .i64 x.T.Kind), .v (.int .i64 x.T.N), .v (.string x.T.Name), .sl (x.T.Kids.map VTy.av), .sl (x.Ts.map VTy.av), .sl (x.Vs.map VKVal.av), .sl (x.Kids.map VKTerm.av)] := by
  obtain ⟨Kind, Name, N, Num, ⟨T_Kind, T_N, T_Name, T_Kids⟩, Ts, Vs, Kids⟩ := x
  simp only [VKTerm.cs, VTy.cs, VKTerm.Kids, VKTerm.Kind, VKTerm.N, VKTerm.Name, VKTerm.Num, VKTerm.T, VKTerm.Ts, VKTerm.Vs, VTy.Kids, VTy.Kind, VTy.N, VTy.Name, VKTerm.avs_eq, VTy.avs_eq, List.cons_append, List.nil_append]
theorem VKTerm.cells (x : VKTerm) : x.av.cells = [.v (.int .i64 x.Kind), .v (.string x.Name), .v (.int .i64 x.N), .v (.int .i64 x.Num), .v (.int .i64 x.T.Kind), .v (.int .i64 x.T.N), .v (.string x.T.Name), .sl (x.T.Kids.map VTy.av), .sl (x.Ts.map VTy.av), .sl (x.Vs.map VKVal.av), .sl (x.Kids.map VKTerm.av)] := VKTerm.cs_eq x
theorem VKTerm.wt_eq (x : VKTerm) : x.wt = x.Name.size + x.T.wt + (x.Ts.length + (x.Ts.map VTy.wt).sum) + (x.Vs.length + (x.Vs.map VKVal.wt).sum) + (x.Kids.length + (x.Kids.map VKTerm.wt).sum) := by
  cases x
  simp only [VKTerm.wt, VKTerm.wts_eq, VKTerm.Kind, VKTerm.Name, VKTerm.N, VKTerm.Num, VKTerm.T, VKTerm.Ts, VKTerm.Vs, VKTerm.Kids]
theorem VKTerm.facts {l : List VKTerm} {b : Nat} (h : (l.map VKTerm.wt).sum ≤ b) : ∀ x ∈ l, x.wt ≤ b ∧ x.wt = x.Name.size + x.T.wt + (x.Ts.length + (x.Ts.map VTy.wt).sum) + (x.Vs.length + (x.Vs.map VKVal.wt).sum) + (x.Kids.length + (x.Kids.map VKTerm.wt).sum) := fun x hx => ⟨Nat.le_trans (le_sum VKTerm.wt hx) h, x.wt_eq⟩
inductive VSlot where
  | mk (T : VTy) (Many : Int) (Cont : Bool)
def VSlot.T : VSlot → VTy
  | .mk a _ _ => a
def VSlot.Many : VSlot → Int
  | .mk _ a _ => a
def VSlot.Cont : VSlot → Bool
  | .mk _ _ a => a
def VSlot.cs : VSlot → List AV
  | .mk T Many Cont => (T.cs ++ (.v (.int .i64 Many) :: (.v (.bool Cont) :: [])))
def VSlot.av (x : VSlot) : AV := .agg x.cs
def VSlot.wt : VSlot → Nat
  | .mk T Many Cont => T.wt
theorem VSlot.norefsC : ∀ x : VSlot, AV.norefs x.cs = true
  | .mk T Many Cont => by simp [VSlot.cs, AV.norefs, AV.noref, norefs_append, VTy.norefsC T]
theorem VSlot.noref (x : VSlot) : x.av.noref = true   := VSlot.norefsC x
theorem VSlot.cs_eq (x : VSlot) : x.cs = [.v (.int .i64 x.T.Kind), .v (.int .i64 x.T.N), .v (.string x.T.Name), .sl (x.T.Kids.map VTy.av), .v (.int .i64 x.Many), .v (.bool x.Cont)] := by
  obtain ⟨⟨T_Kind, T_N, T_Name, T_Kids⟩, Many, Cont⟩ := x
  simp only [VSlot.cs, VTy.cs, VSlot.Cont, VSlot.Many, VSlot.T, VTy.Kids, VTy.Kind, VTy.N, VTy.Name, VTy.avs_eq, List.cons_append, List.nil_append]
theorem VSlot.cells (x : VSlot) : x.av.cells = [.v (.int .i64 x.T.Kind), .v (.int .i64 x.T.N), .v (.string x.T.Name), .sl (x.T.Kids.map VTy.av), .v (.int .i64 x.Many), .v (.bool x.Cont)] := VSlot.cs_eq x
theorem VSlot.wt_eq (x : VSlot) : x.wt = x.T.wt := by
  cases x
  simp only [VSlot.wt, VSlot.T, VSlot.Many, VSlot.Cont]
theorem VSlot.facts {l : List VSlot} {b : Nat} (h : (l.map VSlot.wt).sum ≤ b) : ∀ x ∈ l, x.wt ≤ b ∧ x.wt = x.T.wt := fun x hx => ⟨Nat.le_trans (le_sum VSlot.wt hx) h, x.wt_eq⟩
inductive VBlock where
  | mk (Vars : Int) (Caps : List VSlot) (Cont : Bool) (T : VTy) (Body : VKTerm)
def VBlock.Vars : VBlock → Int
  | .mk a _ _ _ _ => a
def VBlock.Caps : VBlock → List VSlot
  | .mk _ a _ _ _ => a
def VBlock.Cont : VBlock → Bool
  | .mk _ _ a _ _ => a
def VBlock.T : VBlock → VTy
  | .mk _ _ _ a _ => a
def VBlock.Body : VBlock → VKTerm
  | .mk _ _ _ _ a => a
def VBlock.cs : VBlock → List AV
  | .mk Vars Caps Cont T Body => (.v (.int .i64 Vars) :: (.sl (Caps.map VSlot.av) :: (.v (.bool Cont) :: (T.cs ++ (Body.cs ++ [])))))
def VBlock.av (x : VBlock) : AV := .agg x.cs
def VBlock.wt : VBlock → Nat
  | .mk Vars Caps Cont T Body => (Caps.length + (Caps.map VSlot.wt).sum) + T.wt + Body.wt
theorem VBlock.norefsC : ∀ x : VBlock, AV.norefs x.cs = true
  | .mk Vars Caps Cont T Body => by simp [VBlock.cs, AV.norefs, AV.noref, norefs_append, norefsM (f := VSlot.av) (l := Caps) VSlot.noref, VTy.norefsC T, VKTerm.norefsC Body]
theorem VBlock.noref (x : VBlock) : x.av.noref = true   := VBlock.norefsC x
theorem VBlock.cs_eq (x : VBlock) : x.cs = [.v (.int .i64 x.Vars), .sl (x.Caps.map VSlot.av), .v (.bool x.Cont), .v (.int .i64 x.T.Kind), .v (.int .i64 x.T.N), .v (.string x.T.Name), .sl (x.T.Kids.map VTy.av), .v (.int .i64 x.Body.Kind), .v (.string x.Body.Name), .v (.int .i64 x.Body.N), .v (.int .i64 x.Body.Num), .v (.int .i64 x.Body.T.Kind), .v (.int .i64 x.Body.T.N), .v (.string x.Body.T.Name), .sl (x.Body.T.Kids.map VTy.av), .sl (x.Body.Ts.map VTy.av), .sl (x.Body.Vs.map VKVal.av), .sl (x.Body.Kids.map VKTerm.av)] := by
  obtain ⟨Vars, Caps, Cont, ⟨T_Kind, T_N, T_Name, T_Kids⟩, ⟨Body_Kind, Body_Name, Body_N, Body_Num, ⟨Body_T_Kind, Body_T_N, Body_T_Name, Body_T_Kids⟩, Body_Ts, Body_Vs, Body_Kids⟩⟩ := x
  simp only [VBlock.cs, VKTerm.cs, VTy.cs, VBlock.Body, VBlock.Caps, VBlock.Cont, VBlock.T, VBlock.Vars, VKTerm.Kids, VKTerm.Kind, VKTerm.N, VKTerm.Name, VKTerm.Num, VKTerm.T, VKTerm.Ts, VKTerm.Vs, VTy.Kids, VTy.Kind, VTy.N, VTy.Name, VKTerm.avs_eq, VTy.avs_eq, List.cons_append, List.nil_append]
theorem VBlock.cells (x : VBlock) : x.av.cells = [.v (.int .i64 x.Vars), .sl (x.Caps.map VSlot.av), .v (.bool x.Cont), .v (.int .i64 x.T.Kind), .v (.int .i64 x.T.N), .v (.string x.T.Name), .sl (x.T.Kids.map VTy.av), .v (.int .i64 x.Body.Kind), .v (.string x.Body.Name), .v (.int .i64 x.Body.N), .v (.int .i64 x.Body.Num), .v (.int .i64 x.Body.T.Kind), .v (.int .i64 x.Body.T.N), .v (.string x.Body.T.Name), .sl (x.Body.T.Kids.map VTy.av), .sl (x.Body.Ts.map VTy.av), .sl (x.Body.Vs.map VKVal.av), .sl (x.Body.Kids.map VKTerm.av)] := VBlock.cs_eq x
theorem VBlock.wt_eq (x : VBlock) : x.wt = (x.Caps.length + (x.Caps.map VSlot.wt).sum) + x.T.wt + x.Body.wt := by
  cases x
  simp only [VBlock.wt, VBlock.Vars, VBlock.Caps, VBlock.Cont, VBlock.T, VBlock.Body]
theorem VBlock.facts {l : List VBlock} {b : Nat} (h : (l.map VBlock.wt).sum ≤ b) : ∀ x ∈ l, x.wt ≤ b ∧ x.wt = (x.Caps.length + (x.Caps.map VSlot.wt).sum) + x.T.wt + x.Body.wt := fun x hx => ⟨Nat.le_trans (le_sum VBlock.wt hx) h, x.wt_eq⟩
inductive VBProg where
  | mk (Blocks : List VBlock) (Main : VKTerm)
def VBProg.Blocks : VBProg → List VBlock
  | .mk a _ => a
def VBProg.Main : VBProg → VKTerm
  | .mk _ a => a
def VBProg.cs : VBProg → List AV
  | .mk Blocks Main => (.sl (Blocks.map VBlock.av) :: (Main.cs ++ []))
def VBProg.av (x : VBProg) : AV := .agg x.cs
def VBProg.wt : VBProg → Nat
  | .mk Blocks Main => (Blocks.length + (Blocks.map VBlock.wt).sum) + Main.wt
theorem VBProg.norefsC : ∀ x : VBProg, AV.norefs x.cs = true
  | .mk Blocks Main => by simp [VBProg.cs, AV.norefs, AV.noref, norefs_append, norefsM (f := VBlock.av) (l := Blocks) VBlock.noref, VKTerm.norefsC Main]
theorem VBProg.noref (x : VBProg) : x.av.noref = true   := VBProg.norefsC x
theorem VBProg.cs_eq (x : VBProg) : x.cs = [.sl (x.Blocks.map VBlock.av), .v (.int .i64 x.Main.Kind), .v (.string x.Main.Name), .v (.int .i64 x.Main.N), .v (.int .i64 x.Main.Num), .v (.int .i64 x.Main.T.Kind), .v (.int .i64 x.Main.T.N), .v (.string x.Main.T.Name), .sl (x.Main.T.Kids.map VTy.av), .sl (x.Main.Ts.map VTy.av), .sl (x.Main.Vs.map VKVal.av), .sl (x.Main.Kids.map VKTerm.av)] := by
  obtain ⟨Blocks, ⟨Main_Kind, Main_Name, Main_N, Main_Num, ⟨Main_T_Kind, Main_T_N, Main_T_Name, Main_T_Kids⟩, Main_Ts, Main_Vs, Main_Kids⟩⟩ := x
  simp only [VBProg.cs, VKTerm.cs, VTy.cs, VBProg.Blocks, VBProg.Main, VKTerm.Kids, VKTerm.Kind, VKTerm.N, VKTerm.Name, VKTerm.Num, VKTerm.T, VKTerm.Ts, VKTerm.Vs, VTy.Kids, VTy.Kind, VTy.N, VTy.Name, VKTerm.avs_eq, VTy.avs_eq, List.cons_append, List.nil_append]
theorem VBProg.cells (x : VBProg) : x.av.cells = [.sl (x.Blocks.map VBlock.av), .v (.int .i64 x.Main.Kind), .v (.string x.Main.Name), .v (.int .i64 x.Main.N), .v (.int .i64 x.Main.Num), .v (.int .i64 x.Main.T.Kind), .v (.int .i64 x.Main.T.N), .v (.string x.Main.T.Name), .sl (x.Main.T.Kids.map VTy.av), .sl (x.Main.Ts.map VTy.av), .sl (x.Main.Vs.map VKVal.av), .sl (x.Main.Kids.map VKTerm.av)] := VBProg.cs_eq x
theorem VBProg.wt_eq (x : VBProg) : x.wt = (x.Blocks.length + (x.Blocks.map VBlock.wt).sum) + x.Main.wt := by
  cases x
  simp only [VBProg.wt, VBProg.Blocks, VBProg.Main]
theorem VBProg.facts {l : List VBProg} {b : Nat} (h : (l.map VBProg.wt).sum ≤ b) : ∀ x ∈ l, x.wt ≤ b ∧ x.wt = (x.Blocks.length + (x.Blocks.map VBlock.wt).sum) + x.Main.wt := fun x hx => ⟨Nat.le_trans (le_sum VBProg.wt hx) h, x.wt_eq⟩
inductive VInstr where
  | mk (Op : Int) (A : Int) (B : Int) (C : Int) (N : Int) (Text : ByteArray)
def VInstr.Op : VInstr → Int
  | .mk a _ _ _ _ _ => a
def VInstr.A : VInstr → Int
  | .mk _ a _ _ _ _ => a
def VInstr.B : VInstr → Int
  | .mk _ _ a _ _ _ => a
def VInstr.C : VInstr → Int
  | .mk _ _ _ a _ _ => a
def VInstr.N : VInstr → Int
  | .mk _ _ _ _ a _ => a
def VInstr.Text : VInstr → ByteArray
  | .mk _ _ _ _ _ a => a
def VInstr.cs : VInstr → List AV
  | .mk Op A B C N Text => (.v (.int .i64 Op) :: (.v (.int .i64 A) :: (.v (.int .i64 B) :: (.v (.int .i64 C) :: (.v (.int .i64 N) :: (.v (.string Text) :: []))))))
def VInstr.av (x : VInstr) : AV := .agg x.cs
def VInstr.wt : VInstr → Nat
  | .mk Op A B C N Text => Text.size
theorem VInstr.norefsC : ∀ x : VInstr, AV.norefs x.cs = true
  | .mk Op A B C N Text => by simp [VInstr.cs, AV.norefs, AV.noref, norefs_append]
theorem VInstr.noref (x : VInstr) : x.av.noref = true   := VInstr.norefsC x
theorem VInstr.cs_eq (x : VInstr) : x.cs = [.v (.int .i64 x.Op), .v (.int .i64 x.A), .v (.int .i64 x.B), .v (.int .i64 x.C), .v (.int .i64 x.N), .v (.string x.Text)] := by
  obtain ⟨Op, A, B, C, N, Text⟩ := x
  simp only [VInstr.cs, VInstr.A, VInstr.B, VInstr.C, VInstr.N, VInstr.Op, VInstr.Text, List.cons_append, List.nil_append]
theorem VInstr.cells (x : VInstr) : x.av.cells = [.v (.int .i64 x.Op), .v (.int .i64 x.A), .v (.int .i64 x.B), .v (.int .i64 x.C), .v (.int .i64 x.N), .v (.string x.Text)] := VInstr.cs_eq x
theorem VInstr.wt_eq (x : VInstr) : x.wt = x.Text.size := by
  cases x
  simp only [VInstr.wt, VInstr.Op, VInstr.A, VInstr.B, VInstr.C, VInstr.N, VInstr.Text]
theorem VInstr.facts {l : List VInstr} {b : Nat} (h : (l.map VInstr.wt).sum ≤ b) : ∀ x ∈ l, x.wt ≤ b ∧ x.wt = x.Text.size := fun x hx => ⟨Nat.le_trans (le_sum VInstr.wt hx) h, x.wt_eq⟩
inductive VCode where
  | mk (Instrs : List VInstr) (Starts : List Int)
def VCode.Instrs : VCode → List VInstr
  | .mk a _ => a
def VCode.Starts : VCode → List Int
  | .mk _ a => a
def VCode.cs : VCode → List AV
  | .mk Instrs Starts => (.sl (Instrs.map VInstr.av) :: (.sl (Starts.map fun x => .v (.int .i64 x)) :: []))
def VCode.av (x : VCode) : AV := .agg x.cs
def VCode.wt : VCode → Nat
  | .mk Instrs Starts => (Instrs.length + (Instrs.map VInstr.wt).sum) + Starts.length
theorem VCode.norefsC : ∀ x : VCode, AV.norefs x.cs = true
  | .mk Instrs Starts => by simp [VCode.cs, AV.norefs, AV.noref, norefs_append, norefsM (f := VInstr.av) (l := Instrs) VInstr.noref, norefsM (f := fun x => .v (.int .i64 x)) (l := Starts) (fun _ => rfl)]
theorem VCode.noref (x : VCode) : x.av.noref = true   := VCode.norefsC x
theorem VCode.cs_eq (x : VCode) : x.cs = [.sl (x.Instrs.map VInstr.av), .sl (x.Starts.map fun x => .v (.int .i64 x))] := by
  obtain ⟨Instrs, Starts⟩ := x
  simp only [VCode.cs, VCode.Instrs, VCode.Starts, List.cons_append, List.nil_append]
theorem VCode.cells (x : VCode) : x.av.cells = [.sl (x.Instrs.map VInstr.av), .sl (x.Starts.map fun x => .v (.int .i64 x))] := VCode.cs_eq x
theorem VCode.wt_eq (x : VCode) : x.wt = (x.Instrs.length + (x.Instrs.map VInstr.wt).sum) + x.Starts.length := by
  cases x
  simp only [VCode.wt, VCode.Instrs, VCode.Starts]
theorem VCode.facts {l : List VCode} {b : Nat} (h : (l.map VCode.wt).sum ≤ b) : ∀ x ∈ l, x.wt ≤ b ∧ x.wt = (x.Instrs.length + (x.Instrs.map VInstr.wt).sum) + x.Starts.length := fun x hx => ⟨Nat.le_trans (le_sum VCode.wt hx) h, x.wt_eq⟩
inductive VEvent where
  | mk (At : Int) (Room : Int) (Put : Int)
def VEvent.At : VEvent → Int
  | .mk a _ _ => a
def VEvent.Room : VEvent → Int
  | .mk _ a _ => a
def VEvent.Put : VEvent → Int
  | .mk _ _ a => a
def VEvent.cs : VEvent → List AV
  | .mk At Room Put => (.v (.int .i64 At) :: (.v (.int .i64 Room) :: (.v (.int .i64 Put) :: [])))
def VEvent.av (x : VEvent) : AV := .agg x.cs
def VEvent.wt : VEvent → Nat
  | .mk At Room Put => 0
theorem VEvent.norefsC : ∀ x : VEvent, AV.norefs x.cs = true
  | .mk At Room Put => by simp [VEvent.cs, AV.norefs, AV.noref, norefs_append]
theorem VEvent.noref (x : VEvent) : x.av.noref = true   := VEvent.norefsC x
theorem VEvent.cs_eq (x : VEvent) : x.cs = [.v (.int .i64 x.At), .v (.int .i64 x.Room), .v (.int .i64 x.Put)] := by
  obtain ⟨At, Room, Put⟩ := x
  simp only [VEvent.cs, VEvent.At, VEvent.Put, VEvent.Room, List.cons_append, List.nil_append]
theorem VEvent.cells (x : VEvent) : x.av.cells = [.v (.int .i64 x.At), .v (.int .i64 x.Room), .v (.int .i64 x.Put)] := VEvent.cs_eq x
theorem VEvent.wt_eq (x : VEvent) : x.wt = 0 := by
  cases x
  simp only [VEvent.wt, VEvent.At, VEvent.Room, VEvent.Put]
theorem VEvent.facts {l : List VEvent} {b : Nat} (h : (l.map VEvent.wt).sum ≤ b) : ∀ x ∈ l, x.wt ≤ b ∧ x.wt = 0 := fun x hx => ⟨Nat.le_trans (le_sum VEvent.wt hx) h, x.wt_eq⟩
end Go.Ab
/-
  THE FUNCTIONS OF PACKAGE slices, once for all element types; loops with what holds at each round.
-/
namespace Go.Ab
set_option maxRecDepth 100000
section
variable {P : Program} {L : AX → SS → List AV → Prop} {R : AV → Prop} {t : T} {r : List AV} {S : List (List AV → Prop)}
/-- a loop that counts up, with what holds at each round -/
theorem loop_inv {init : List AV} (n : Nat) (I : Nat → Prop) (σ : Nat → List AV) (h0 : init = σ 0) (hI : I 0)
    (hr : ∀ i, i ≤ n → I i → wpT P L R t (r ++ σ i) ((fun vs => i < n ∧ I (i + 1) ∧ vs = σ (i + 1)) :: S)) : loopT P L R init t r S := by
  refine loop_intro (ι := Nat) (fun i => i ≤ n ∧ I i) σ (fun i => n - i) 0 ⟨Nat.zero_le _, hI⟩ h0 fun i hi => ?_
  refine wpT_mono (fun _ _ _ h => h) (fun _ h => h) t (.cons (fun vs hv => ?_) (.refl _)) (hr i hi.1 hi.2)
  exact ⟨i + 1, ⟨hv.1, hv.2.1⟩, by have := hv.1; omega, hv.2.2⟩
end
theorem dropC {α : Type} {l : List α} {i : Nat} (h : i < l.length) : l.drop i = l[i] :: l.drop (i + 1) := List.drop_eq_getElem_cons h
theorem dropE {α : Type} (l : List α) : l.drop l.length = [] := List.drop_length
/-- the first place from k on that passes -/
def idxR {α : Type} (p : α → Bool) : List α → Nat → Int
  | [], _ => -1
  | x :: r, k => if p x = true then (k : Int) else idxR p r (k + 1)
theorem idxR_any {α : Type} (p : α → Bool) : ∀ (l : List α) (k : Nat), decide (0 ≤ idxR p l k) = l.any p
  | [], _ => by simp [idxR]
  | x :: r, k => by
    unfold idxR
    by_cases h : p x = true
    · simp [h]
    · simp only [h, List.any_cons]; rw [if_neg (by simp), idxR_any p r (k + 1)]; simp
def TidxF (s : Nat) : T :=
.bind 0 (
 .op (.lenL (.x 0)) (
 .loop [(.c (.v (.int .i64 0)))] (
  .op (.bin .lss (.x 3) (.x 2)) (
  .ite (.x 4)
   (.op (.elem s (.x 0) (.x 3)) (
   .chk (.cells (.x 5) s) (
   .op (.callv (.x 1) [(.x 5)] false) (
   .ite (.x 6)
    (.esc (.esc (.ret [(.x 3)])))
    (.op (.bin .add (.x 3) (.c (.v (.int .i64 1)))) (
    .jump [(.x 7)]))))))
   (.esc (.jump [])))))) (
.ret [(.c (.v (.int .i64 (-1))))])
theorem idxF_T {P : Program} {L : AX → SS → List AV → Prop} {α : Type} {av : α → AV} {s : Nat} {g : FuncId} {caps : List AV} {l : List α} (p : α → Bool) (hs : ∀ x, (av x).isAgg = true ∧ (av x).cells.length = s ∧ (av x).storable = true)
    (hl : l.length ≤ 1073741824) (hc : ∀ x ∈ l, PCon P g (av x :: caps) (.v (.bool (p x)))) :
    wpT P L (fun a => a = .v (.int .i64 (idxR p l 0))) (TidxF s) [.sl (l.map av), .fn g caps] [] := by
  simp only [TidxF, WA, Nat.reduceEqDiff, Nat.reduceAdd, Nat.reduceLT, Nat.reduceLeDiff, Nat.reduceMul, reduceIte, reduceCtorEq, Int.reduceEq, Int.reduceLT, Int.reduceLE, Int.reduceNe]
  refine bind_push ?_
  simp only [WA, Nat.reduceEqDiff, Nat.reduceAdd, Nat.reduceLT, Nat.reduceLeDiff, Nat.reduceMul, reduceIte, reduceCtorEq, Int.reduceEq, Int.reduceLT, Int.reduceLE, Int.reduceNe]
  refine loop_inv l.length (fun i => idxR p l 0 = idxR p (l.drop i) i) (fun i => [.v (.int .i64 i)]) rfl rfl fun i hi hI => ?_
  simp only [WA, Nat.reduceEqDiff, Nat.reduceAdd, Nat.reduceLT, Nat.reduceLeDiff, Nat.reduceMul, reduceIte, reduceCtorEq, Int.reduceEq, Int.reduceLT, Int.reduceLE, Int.reduceNe]
  refine ite_dec (fun h => ?_) (fun h => ?_)
  · have hlt : i < l.length := by omega
    obtain ⟨x1, x2, x3⟩ := hs l[i]
    rw [dropC hlt, idxR] at hI
    simp only [WA, Nat.reduceEqDiff, Nat.reduceAdd, Nat.reduceLT, Nat.reduceLeDiff, Nat.reduceMul, reduceIte, reduceCtorEq, Int.reduceEq, Int.reduceLT, Int.reduceLE, Int.reduceNe]
    refine elemM av hlt x2 ?_
    simp only [x1, x2, x3, WA, Nat.reduceEqDiff, Nat.reduceAdd, Nat.reduceLT, Nat.reduceLeDiff, Nat.reduceMul, reduceIte, reduceCtorEq, Int.reduceEq, Int.reduceLT, Int.reduceLE, Int.reduceNe]
    refine call_v (hc _ (List.getElem_mem hlt)) ?_
    simp only [WA, Nat.reduceEqDiff, Nat.reduceAdd, Nat.reduceLT, Nat.reduceLeDiff, Nat.reduceMul, reduceIte, reduceCtorEq, Int.reduceEq, Int.reduceLT, Int.reduceLE, Int.reduceNe]
    refine ite_intro (fun h => ?_) (fun h => ?_)
    · simp only [h, if_pos] at hI
      simp only [hI, WA, Nat.reduceEqDiff, Nat.reduceAdd, Nat.reduceLT, Nat.reduceLeDiff, Nat.reduceMul, reduceIte, reduceCtorEq, Int.reduceEq, Int.reduceLT, Int.reduceLE, Int.reduceNe]
    · simp only [h] at hI
      simp (disch := omega) only [wrapA1, WA, Nat.reduceEqDiff, Nat.reduceAdd, Nat.reduceLT, Nat.reduceLeDiff, Nat.reduceMul, reduceIte, reduceCtorEq, Int.reduceEq, Int.reduceLT, Int.reduceLE, Int.reduceNe]
      exact ⟨hlt, by simpa using hI⟩
  · have he : i = l.length := by omega
    subst he
    rw [dropE, idxR] at hI
    simp only [hI, WA, Nat.reduceEqDiff, Nat.reduceAdd, Nat.reduceLT, Nat.reduceLeDiff, Nat.reduceMul, reduceIte, reduceCtorEq, Int.reduceEq, Int.reduceLT, Int.reduceLE, Int.reduceNe]
def TanyF (f : FuncId) (fl : Bool) : T :=
.op (.call f [(.x 0), (.x 1)] fl) (
.op (.bin .geq (.x 2) (.c (.v (.int .i64 0)))) (
.ret [(.x 3)]))
theorem anyF_T {fl : Bool} {P : Program} {L : AX → SS → List AV → Prop} {α : Type} {a b : AV} {f : FuncId} {l : List α} {p : α → Bool} (hc : PCon P f [a, b] (.v (.int .i64 (idxR p l 0)))) :
    wpT P L (fun r => r = .v (.bool (l.any p))) (TanyF f fl) [a, b] [] := by
  simp only [TanyF, WA, Nat.reduceEqDiff, Nat.reduceAdd, Nat.reduceLT, Nat.reduceLeDiff, Nat.reduceMul, reduceIte, reduceCtorEq, Int.reduceEq, Int.reduceLT, Int.reduceLE, Int.reduceNe]
  refine call_v hc ?_
  simp only [idxR_any, WA, Nat.reduceEqDiff, Nat.reduceAdd, Nat.reduceLT, Nat.reduceLeDiff, Nat.reduceMul, reduceIte, reduceCtorEq, Int.reduceEq, Int.reduceLT, Int.reduceLE, Int.reduceNe]
def TidxE : T :=
.bind 0 (
 .op (.lenL (.x 0)) (
 .loop [(.c (.v (.int .i64 0)))] (
  .op (.bin .lss (.x 3) (.x 2)) (
  .ite (.x 4)
   (.op (.elem 1 (.x 0) (.x 3)) (
   .chk (.lt (.x 5) 0) (
   .op (.bin .eql (.x 1) (.cell 5 0)) (
   .ite (.x 6)
    (.esc (.esc (.ret [(.x 3)])))
    (.op (.bin .add (.x 3) (.c (.v (.int .i64 1)))) (
    .jump [(.x 7)]))))))
   (.esc (.jump [])))))) (
.ret [(.c (.v (.int .i64 (-1))))])
theorem idxE_T {P : Program} {L : AX → SS → List AV → Prop} {α : Type} [DecidableEq α] {g : α → Value} {l : List α} {x : α} (hg : ∀ (x y : α) (K : AV → Prop), goT K (.v (.bool (decide (x = y)))) → binT .eql (.v (g x)) (.v (g y)) K)
    (hl : l.length ≤ 1073741824) : wpT P L (fun a => a = .v (.int .i64 (idxR (fun y => decide (x = y)) l 0))) TidxE [.sl (l.map fun y => .v (g y)), .v (g x)] [] := by
  simp only [TidxE, WA, Nat.reduceEqDiff, Nat.reduceAdd, Nat.reduceLT, Nat.reduceLeDiff, Nat.reduceMul, reduceIte, reduceCtorEq, Int.reduceEq, Int.reduceLT, Int.reduceLE, Int.reduceNe]
  refine bind_push ?_
  simp only [WA, Nat.reduceEqDiff, Nat.reduceAdd, Nat.reduceLT, Nat.reduceLeDiff, Nat.reduceMul, reduceIte, reduceCtorEq, Int.reduceEq, Int.reduceLT, Int.reduceLE, Int.reduceNe]
  refine loop_inv l.length (fun i => idxR (fun y => decide (x = y)) l 0 = idxR (fun y => decide (x = y)) (l.drop i) i) (fun i => [.v (.int .i64 i)]) rfl rfl fun i hi hI => ?_
  simp only [WA, Nat.reduceEqDiff, Nat.reduceAdd, Nat.reduceLT, Nat.reduceLeDiff, Nat.reduceMul, reduceIte, reduceCtorEq, Int.reduceEq, Int.reduceLT, Int.reduceLE, Int.reduceNe]
  refine ite_dec (fun h => ?_) (fun h => ?_)
  · have hlt : i < l.length := by omega
    rw [dropC hlt, idxR] at hI
    simp only [WA, Nat.reduceEqDiff, Nat.reduceAdd, Nat.reduceLT, Nat.reduceLeDiff, Nat.reduceMul, reduceIte, reduceCtorEq, Int.reduceEq, Int.reduceLT, Int.reduceLE, Int.reduceNe]
    refine elemM (fun y => .v (g y)) hlt rfl ?_
    simp only [WA, Nat.reduceEqDiff, Nat.reduceAdd, Nat.reduceLT, Nat.reduceLeDiff, Nat.reduceMul, reduceIte, reduceCtorEq, Int.reduceEq, Int.reduceLT, Int.reduceLE, Int.reduceNe]
    refine hg _ _ _ ?_
    simp only [WA, Nat.reduceEqDiff, Nat.reduceAdd, Nat.reduceLT, Nat.reduceLeDiff, Nat.reduceMul, reduceIte, reduceCtorEq, Int.reduceEq, Int.reduceLT, Int.reduceLE, Int.reduceNe]
    refine ite_dec (fun h => ?_) (fun h => ?_)
    · rw [if_pos (decide_eq_true h)] at hI
      simp only [hI, WA, Nat.reduceEqDiff, Nat.reduceAdd, Nat.reduceLT, Nat.reduceLeDiff, Nat.reduceMul, reduceIte, reduceCtorEq, Int.reduceEq, Int.reduceLT, Int.reduceLE, Int.reduceNe]
    · rw [if_neg (by simpa using h)] at hI
      simp (disch := omega) only [wrapA1, WA, Nat.reduceEqDiff, Nat.reduceAdd, Nat.reduceLT, Nat.reduceLeDiff, Nat.reduceMul, reduceIte, reduceCtorEq, Int.reduceEq, Int.reduceLT, Int.reduceLE, Int.reduceNe]
      exact ⟨hlt, hI⟩
  · have he : i = l.length := by omega
    subst he
    rw [dropE, idxR] at hI
    simp only [hI, WA, Nat.reduceEqDiff, Nat.reduceAdd, Nat.reduceLT, Nat.reduceLeDiff, Nat.reduceMul, reduceIte, reduceCtorEq, Int.reduceEq, Int.reduceLT, Int.reduceLE, Int.reduceNe]
theorem eqlS (x y : ByteArray) (K : AV → Prop) (h : goT K (.v (.bool (decide (x = y))))) : binT .eql (.v (.string x)) (.v (.string y)) K := by rw [b_seql]; exact h
end Go.Ab
/-
  LOOPS OVER LISTS AND BYTES: what is left is what the list's rest asks.
-/
namespace Go.Ab
set_option maxRecDepth 100000
section
variable {P : Program} {L : AX → SS → List AV → Prop} {R : AV → Prop} {t : T} {r : List AV} {S : List (List AV → Prop)}
/-- a loop over a list: G tells what is still asked, of the rest and of what is kept -/
theorem loop_list {α β : Type} {init : List AV} (l : List α) (σ : Nat → β → List AV) (G : Nat → List α → β → Prop) (b0 : β) (h0 : init = σ 0 b0) (hG : G 0 l b0)
    (hc : ∀ (i : Nat) (x : α) (rest : List α) (b : β), i < l.length → l[i]? = some x → x ∈ l → (∀ (f : α → AV) (s : Nat) (k : IntKind) (K : AV → Prop), (f x).cells.length = s → elemP s (.sl (l.map f)) (.v (.int k (i : Int))) K = goT K (f x)) →
      decide ((i : Int) < (l.length : Int)) = true → G i (x :: rest) b → wpT P L R t (r ++ σ i b) ((fun vs => i < l.length ∧ ∃ b', G (i + 1) rest b' ∧ vs = σ (i + 1) b') :: S))
    (he : ∀ b, decide ((l.length : Int) < (l.length : Int)) = false → G l.length [] b → wpT P L R t (r ++ σ l.length b) ((fun _ => False) :: S)) : loopT P L R init t r S := by
  refine loop_intro (ι := Nat × β) (fun q => q.1 ≤ l.length ∧ G q.1 (l.drop q.1) q.2) (fun q => σ q.1 q.2) (fun q => l.length - q.1) (0, b0) ⟨Nat.zero_le _, hG⟩ h0 fun q hq => ?_
  obtain ⟨i, b⟩ := q
  obtain ⟨hi, hg⟩ := hq
  rcases Nat.lt_or_ge i l.length with h | h
  · have hg : G i (l[i] :: l.drop (i + 1)) b := by rw [← dropC h]; exact hg
    refine wpT_mono (fun _ _ _ h => h) (fun _ h => h) t (.cons (fun vs hv => ?_) (.refl _)) (hc i l[i] (l.drop (i + 1)) b h (List.getElem?_eq_getElem h) (List.getElem_mem h) (fun f s k K hs => ?_) (by simp; exact h) hg)
    · obtain ⟨_, b', h1, h2⟩ := hv
      exact ⟨(i + 1, b'), ⟨h, h1⟩, by simp only; omega, h2⟩
    · unfold elemP
      have hx : (l.map f).getD (Int.toNat (i : Int)) .top = f l[i] := by simp [List.getD, h]
      simp only [hx, hs, true_and, goT]
      exact propext ⟨fun q => q.2.2, fun q => ⟨Int.natCast_nonneg i, by simp; exact h, q⟩⟩
  · have he' : i = l.length := by simp only at hi; omega
    subst he'
    have hg : G l.length [] b := by simpa using hg
    refine wpT_mono (fun _ _ _ h => h) (fun _ h => h) t (.cons (fun vs hv => hv.elim) (.refl _)) (he b (by simp) hg)
/-- a string's bytes -/
def bs (s : ByteArray) : List Int := s.data.toList.map fun b => (b.toNat : Int)
theorem bs_len (s : ByteArray) : (bs s).length = s.size := by simp [bs]
theorem bs_range {s : ByteArray} {c : Int} (h : c ∈ bs s) : 0 ≤ c ∧ c < 256 := by
  simp only [bs, List.mem_map] at h
  obtain ⟨b, _, rfl⟩ := h
  exact ⟨by omega, by have := b.toNat_lt; omega⟩
theorem bs_inj {s u : ByteArray} (h : bs s = bs u) : s = u := by
  cases s with | mk d => cases u with | mk e =>
  cases d with | mk d => cases e with | mk e =>
  simp only [bs] at h
  have : d = e := (List.map_inj_right (fun x y hxy => by
    have : x.toNat = y.toNat := by exact_mod_cast hxy
    exact UInt8.toNat_inj.1 this)).1 h
  rw [this]
theorem idxB {s : ByteArray} {i : Nat} {k : IntKind} {K : AV → Prop} (h : i < (bs s).length) (hk : goT K (.v (.int .u8 (bs s)[i]))) : idxT (.v (.string s)) (.v (.int k (i : Int))) K := by
  rw [i_idx]
  have hl := bs_len s
  refine ⟨by omega, by omega, ?_⟩
  have : (((s.data.toList.getD (Int.toNat (i : Int)) 0).toNat : Nat) : Int) = (bs s)[i] := by
    simp only [bs, Int.toNat_natCast, List.getElem_map, List.getD]
    have h1 : i < s.data.toList.length := by simpa [bs] using h
    rw [List.getElem?_eq_getElem h1]; rfl
  rw [this]; exact hk
theorem idxX {s : ByteArray} {i : Nat} {c : Int} (h : (bs s)[i]? = some c) (k : IntKind) (K : AV → Prop) : idxT (.v (.string s)) (.v (.int k (i : Int))) K = goT K (.v (.int .u8 c)) := by
  have hl := bs_len s
  obtain ⟨h1, h2⟩ := List.getElem?_eq_some_iff.1 h
  refine propext ⟨fun q => ?_, fun q => idxB h1 (by rw [h2]; exact q)⟩
  rw [i_idx] at q
  have q := q.2.2
  have : (((s.data.toList.getD (Int.toNat (i : Int)) 0).toNat : Nat) : Int) = c := by
    rw [← h2]
    simp only [bs, Int.toNat_natCast, List.getElem_map, List.getD]
    have h1 : i < s.data.toList.length := by simpa [bs] using h1
    rw [List.getElem?_eq_getElem h1]; rfl
  rw [this] at q; exact q
theorem wrap8 {c : Int} (h : 0 ≤ c) (h' : c < 256) : IntKind.i64.wrap c = c := wrapI (by omega) (by omega)
/-- a loop over the bytes of a string -/
theorem loop_bytes {β : Type} {init : List AV} (s : ByteArray) (σ : Nat → β → List AV) (G : Nat → List Int → β → Prop) (b0 : β) (h0 : init = σ 0 b0) (hG : G 0 (bs s) b0)
    (hc : ∀ (i : Nat) (c : Int) (rest : List Int) (b : β), i < s.size → (bs s)[i]? = some c → c ∈ bs s → (∀ (k : IntKind) (K : AV → Prop), idxT (.v (.string s)) (.v (.int k (i : Int))) K = goT K (.v (.int .u8 c))) →
      decide ((i : Int) < (s.size : Int)) = true → 0 ≤ c → c < 256 → IntKind.i64.wrap c = c → G i (c :: rest) b → wpT P L R t (r ++ σ i b) ((fun vs => i < s.size ∧ ∃ b', G (i + 1) rest b' ∧ vs = σ (i + 1) b') :: S))
    (he : ∀ b, decide ((s.size : Int) < (s.size : Int)) = false → G s.size [] b → wpT P L R t (r ++ σ s.size b) ((fun _ => False) :: S)) : loopT P L R init t r S := by
  have hl := bs_len s
  refine loop_list (bs s) σ G b0 h0 hG (fun i c rest b hi hx hm _ hd hg => ?_) (fun b hd hg => ?_)
  · obtain ⟨c0, c1⟩ := bs_range hm
    rw [hl] at hi hd
    rw [hl]
    exact hc i c rest b hi hx hm (idxX hx) hd c0 c1 (wrap8 c0 c1) hg
  · rw [hl] at hd hg ⊢
    exact he b hd hg
end
/- functions whose code the walk does not cover, by contracts in the model's own words -/
theorem enters_of {P : Program} {f : FuncId} (h : (match P.funcs[f]? with | some fn => fn.body.isSome && !(fn.name == "runtime.NumGoroutine") | none => false) = true) : Enters P f := by
  cases hf : P.funcs[f]? with
  | none => rw [hf] at h; cases h
  | some fn =>
    rw [hf] at h
    simp only [Bool.and_eq_true] at h
    exact ⟨fn, hf, h.1, by simpa using h.2⟩
theorem R.v_inv {I : Imm} {L : Nat → Loc} {O : List AObj} {a x : Value} (h : R I L O (.v a) x) : x = a := by cases h; rfl
end Go.Ab
/-
  AN ELEMENT AT A PLACE THAT IS KNOWN.
-/
namespace Go.Ab
set_option maxRecDepth 100000
theorem elem_at (n : Nat) {α : Type} {l : List α} {x : α} (hx : l[n]? = some x) (f : α → AV) (s : Nat) (k : IntKind) (K : AV → Prop) (hs : (f x).cells.length = s) :
    elemP s (.sl (l.map f)) (.v (.int k (n : Int))) K = goT K (f x) := by
  have hl : n < l.length := (List.getElem?_eq_some_iff.1 hx).1
  unfold elemP
  have hx' : (l.map f).getD (Int.toNat (n : Int)) .top = f x := by simp [List.getD, hx]
  simp only [hx', hs, true_and, goT]
  exact propext ⟨fun q => q.2.2, fun q => ⟨Int.natCast_nonneg n, by simp; exact hl, q⟩⟩
end Go.Ab
/-
  DOORS: the library's functions that read a table or build texts, by the contracts of the shelf; texts laid side by side.
-/
namespace Go.Ab
set_option maxRecDepth 100000
theorem PCon.of_below {P : Program} {f : FuncId} {args : List AV} {y : Value} (he : Enters P f) (hy : y.oneCell' = true)
    (h : ∀ I L w vs, Inv I L [] w → RL I L [] args vs → Calls P f vs w fun e w' => e = .returned y ∧ RowKit.Below w.heap.size w w') : PCon P f args (.v y) := by
  refine ⟨he, fun I L w vs hi hr => (h I L w vs hi hr).mono ?_⟩
  rintro e w' ⟨h1, hb⟩
  refine ⟨y, I, L, h1, .v y hy, ⟨⟨fun b o x hx => ?_, by simp, by simp, by simp, hi.fix, hi.blk_frm (fun b hb' _ => hb.block b hb') (fun _ _ _ h => h), .no (by simp)⟩, .refl _ _ _, ⟨hb.os, hb.tape, hb.output, hb.size, fun b hb' _ => hb.block b hb'⟩, fun _ h => .inl h, fun _ _ _ h => .inl h⟩⟩
  have := hi.imm b o x hx
  rw [← this]
  exact World.cell?_of_block (a := ⟨b, o, none⟩) (hb.block b (cell_block this))
/-- the table of the powers of ten lies where it lay -/
theorem Inv.tab {P : Program} {I : Imm} {L : Nat → Loc} {O : List AObj} {w : World} (hi : Inv I L O w) (hg : P.globalNamed "internal/strconv.uint64pow10" = some tabNo) : Lib.TabIs P w "internal/strconv.uint64pow10" .u64 Lib.pow10Tab := by
  obtain ⟨h1, _⟩ := hi.blk (tabNo, 20) (List.mem_of_getElem? (i := 0) rfl)
  unfold blkSize at h1
  split at h1
  case h_2 => cases h1
  rename_i c e f hc
  simp only [Option.some.injEq] at h1
  have hz : ∀ k v, fixedCells[k]? = some (tabNo, k, v) → c[k]? = some v := fun k v hk => by
    have := hi.imm tabNo k v (hi.fix _ (List.mem_of_getElem? hk))
    rw [cell_cells hc] at this
    exact this
  unfold Lib.TabIs World.var?
  rw [hg]
  simp only [Option.bind_some, hc, Option.some.injEq]
  apply Array.ext
  · simp [h1, Lib.pow10Tab]
  · intro k hk1 hk2
    have hk : k < 20 := by omega
    have : c[k]? = some ((Lib.pow10Tab.map fun z => Value.int .u64 z).toArray[k]) := by
      clear hk1
      match k, hk, hk2 with
      | 0, _, _ => exact hz 0 _ rfl
      | 1, _, _ => exact hz 1 _ rfl
      | 2, _, _ => exact hz 2 _ rfl
      | 3, _, _ => exact hz 3 _ rfl
      | 4, _, _ => exact hz 4 _ rfl
      | 5, _, _ => exact hz 5 _ rfl
      | 6, _, _ => exact hz 6 _ rfl
      | 7, _, _ => exact hz 7 _ rfl
      | 8, _, _ => exact hz 8 _ rfl
      | 9, _, _ => exact hz 9 _ rfl
      | 10, _, _ => exact hz 10 _ rfl
      | 11, _, _ => exact hz 11 _ rfl
      | 12, _, _ => exact hz 12 _ rfl
      | 13, _, _ => exact hz 13 _ rfl
      | 14, _, _ => exact hz 14 _ rfl
      | 15, _, _ => exact hz 15 _ rfl
      | 16, _, _ => exact hz 16 _ rfl
      | 17, _, _ => exact hz 17 _ rfl
      | 18, _, _ => exact hz 18 _ rfl
      | 19, _, _ => exact hz 19 _ rfl
      | k + 20, hk, _ => exact absurd hk (by omega)
    rw [Array.getElem?_eq_getElem hk1] at this
    exact Option.some.inj this
/-- a decimal numeral -/
def numB (n : Int) : ByteArray := ⟨(Lib.itoa n).toArray⟩
/-- texts with another between -/
def tailB (sep : ByteArray) : List ByteArray → ByteArray
  | [] => ⟨#[]⟩
  | y :: r => sep ++ y ++ tailB sep r
def joinB (sep : ByteArray) : List ByteArray → ByteArray
  | [] => ⟨#[]⟩
  | x :: r => x ++ tailB sep r
theorem bytes_ext {a b : ByteArray} (h : a.data.toList = b.data.toList) : a = b := by
  cases a with | mk a => cases b with | mk b =>
  cases a with | mk a => cases b with | mk b =>
  simp only at h
  rw [h]
theorem app_list (a b : ByteArray) : (a ++ b).data.toList = a.data.toList ++ b.data.toList := by simp
theorem appE (a : ByteArray) : a ++ (⟨#[]⟩ : ByteArray) = a := bytes_ext (by rw [app_list]; simp)
theorem appA (a b c : ByteArray) : a ++ b ++ c = a ++ (b ++ c) := bytes_ext (by simp only [app_list, List.append_assoc])
theorem app_size (a b : ByteArray) : (a ++ b).size = a.size + b.size := by simp
theorem tailB_list (sep : ByteArray) : ∀ l : List ByteArray, (tailB sep l).data.toList = Lib.joinTail sep.data.toList (l.map (·.data.toList))
  | [] => rfl
  | y :: r => by
    rw [tailB, app_list, app_list, tailB_list sep r]
    simp [Lib.joinTail]
theorem joinB_lib (sep : ByteArray) (l : List ByteArray) : (⟨(Lib.join (l.map (·.data.toList)) sep.data.toList).toArray⟩ : ByteArray) = joinB sep l := by
  apply bytes_ext
  cases l with
  | nil => rfl
  | cons x r => rw [List.map_cons, Lib.join_cons, joinB, app_list, tailB_list]
/-- what a text is at most as long as -/
theorem tailB_size (sep : ByteArray) : ∀ l : List ByteArray, (tailB sep l).size = l.length * sep.size + (l.map ByteArray.size).sum
  | [] => by simp [tailB]; rfl
  | y :: r => by
    rw [tailB, app_size, app_size, tailB_size sep r]
    simp only [List.length_cons, List.map_cons, List.sum_cons, Nat.add_mul]
    omega
theorem joinB_size (sep : ByteArray) (l : List ByteArray) : (joinB sep l).size ≤ l.length * sep.size + (l.map ByteArray.size).sum := by
  cases l with
  | nil => exact Nat.zero_le _
  | cons x r =>
    rw [joinB, app_size, tailB_size]
    simp only [List.length_cons, List.map_cons, List.sum_cons, Nat.add_mul]
    omega
theorem rl_1 {I : Imm} {L : Nat → Loc} {a : AV} {vs : Array Value} (h : RL I L [] [a] vs) : ∃ x, vs = #[x] ∧ R I L [] a x := by
  obtain ⟨h1, h2⟩ := h
  match vs, h1 with
  | ⟨[x]⟩, _ => exact ⟨x, rfl, h2 0 a x rfl rfl⟩
theorem rl_2 {I : Imm} {L : Nat → Loc} {a b : AV} {vs : Array Value} (h : RL I L [] [a, b] vs) : ∃ x y, vs = #[x, y] ∧ R I L [] a x ∧ R I L [] b y := by
  obtain ⟨h1, h2⟩ := h
  match vs, h1 with
  | ⟨[x, y]⟩, _ => exact ⟨x, y, rfl, h2 0 a x rfl rfl, h2 1 b y rfl rfl⟩
/-- strings that lie as the contract's words say -/
theorem strings_at {I : Imm} {L : Nat → Loc} {w : World} {l : List ByteArray} {x : Value} (hi : Inv I L [] w) (hr : R I L [] (.sl (l.map avB)) x) :
    (l = [] ∧ ∃ a c, x = .slice a 0 c) ∨ ∃ bk o c, x = .slice (some ⟨bk, o, none⟩) l.length c ∧ l.length ≤ c ∧ bk < w.heap.size ∧ ∀ (j : Nat) y, l[j]? = some y → w.cell? ⟨bk, o + j, none⟩ = some (.string y) := by
  generalize ha : AV.sl (l.map avB) = a at hr
  cases hr with
  | sl0 a c =>
    refine .inl ⟨?_, a, c, rfl⟩
    simp only [AV.sl.injEq] at ha
    simpa using ha
  | sl xs blk off cap s vals h1 h2 h3 h4 h5 =>
    simp only [AV.sl.injEq] at ha
    subst ha
    have hne : l ≠ [] := by rintro rfl; exact h2 rfl
    have hs : s = 1 := by
      obtain ⟨y, r, rfl⟩ := List.exists_cons_of_ne_nil hne
      exact (h3 0 (avB y) rfl).symm
    subst hs
    have hc : ∀ (j : Nat) y, l[j]? = some y → w.cell? ⟨blk, off + j, none⟩ = some (.string y) := fun j y hy => by
      have hx : (l.map avB)[j]? = some (avB y) := by simp [hy]
      have q1 := h4 j (avB y) 0 (avB y) hx rfl
      have q2 := (h5 j (avB y) 0 (avB y) hx rfl).v_inv
      have q3 := hi.imm _ _ _ q1.1
      rw [q2] at q3
      simpa using q3
    refine .inr ⟨blk, off, cap, by simp, by simpa using h1, ?_, hc⟩
    obtain ⟨y, r, rfl⟩ := List.exists_cons_of_ne_nil hne
    exact cell_block (hc 0 y rfl)
  | v | nils | ifc | iptr | rowLive | rowNil | rowDead | ptrLive | ptrDead | fn | agg | tup | ownLive | ownDead | top => cases ha
end Go.Ab
/-
  BYTES, AND THE ARITHMETIC OF NUMBERS AS FEW BYTES.
-/
namespace Go.Ab
set_option maxRecDepth 100000
/-- bytes -/
abbrev by1 (n : Int) : AV := .v (.int .u8 n)
abbrev bys (l : List Int) : List AV := l.map by1
theorem bys_noref (l : List Int) : AV.norefs (bys l) = true := by
  induction l with
  | nil => rfl
  | cons a l ih => simpa [AV.norefs, AV.noref] using ih
/-- what the laws' mark writes -/
def marks (b : Nat) (n : Nat) : List Int := (List.range n).map fun i => IntKind.u8.wrap ((b + i : Nat) : Int)
/- numbers back of their bytes -/
def val : List Int → Nat
  | [] => 0
  | c :: r => (c % 128).toNat + 128 * val r
def unz (x : Nat) : Int := if x % 2 = 1 then -((x / 2 : Nat) : Int) - 1 else ((x / 2 : Nat) : Int)
/-- what both get: k bytes were read, they are worth acc -/
def gs (at' : Int) : Nat → Nat → List Int → Int × Int × Bool
  | _, _, [] => (0, 0, false)
  | k, acc, c :: r => if 10 ≤ k then (0, 0, false) else if 127 < c then gs at' (k + 1) (acc + (c % 128).toNat * 128 ^ k) r
    else if (0 < k ∧ c = 0) ∨ (k = 9 ∧ 1 < c) then (0, 0, false) else (unz (acc + (c % 128).toNat * 128 ^ k), at' + k + 1, true)
end Go.Ab
/-
  NIL SLICES ARE EMPTY ONES, at any depth: what a contract says of the one it says of the other.
-/
namespace Go.Ab
set_option maxRecDepth 100000
/-- nil slices are empty ones, at any depth -/
inductive AV.leD : AV → AV → Prop
  | refl (a : AV) : AV.leD a a
  | nil : AV.leD .nils (.sl [])
  | agg (cs ds : List AV) (hl : cs.length = ds.length) (h : ∀ (i : Nat) (c d : AV), cs[i]? = some c → ds[i]? = some d → AV.leD c d) : AV.leD (.agg cs) (.agg ds)
  | sl (xs ys : List AV) (hl : xs.length = ys.length) (h : ∀ (i : Nat) (x y : AV), xs[i]? = some x → ys[i]? = some y → x.cells.length = y.cells.length)
      (hc : ∀ (i : Nat) (x y : AV) (j : Nat) (c d : AV), xs[i]? = some x → ys[i]? = some y → x.cells[j]? = some c → y.cells[j]? = some d → AV.leD c d) : AV.leD (.sl xs) (.sl ys)
theorem get_other {α β : Type} {l : List α} {m : List β} (hl : l.length = m.length) {i : Nat} {y : β} (h : m[i]? = some y) : ∃ x, l[i]? = some x := by
  have := (List.getElem?_eq_some_iff.1 h).1
  exact ⟨l[i], List.getElem?_eq_getElem (by omega)⟩
theorem AV.leD.sound {I : Imm} {L : Nat → Loc} {O : List AObj} {a b : AV} (h : AV.leD a b) : ∀ {x : Value}, R I L O a x → R I L O b x := by
  induction h with
  | refl => intro x hr; exact hr
  | nil => intro x hr; cases hr; exact .sl0 _ _
  | agg cs ds hl h ih =>
    intro x hr
    cases hr with
    | agg _ vs h1 h2 =>
      refine .agg _ _ (by omega) fun i d y hd hy => ?_
      obtain ⟨c, hc⟩ := get_other hl hd
      exact ih i c d hc hd (h2 i c y hc hy)
  | sl xs ys hl h hc ih =>
    intro x hr
    cases hr with
    | sl0 a c =>
      have : ys = [] := by cases ys with | nil => rfl | cons _ _ => simp at hl
      subst this
      exact .sl0 _ _
    | sl _ blk off cap s vals h1 h2 h3 h4 h5 =>
      rw [hl]
      have hg : ∀ (i : Nat) (y : AV) (j : Nat) (d : AV), ys[i]? = some y → y.cells[j]? = some d → ∃ x c, xs[i]? = some x ∧ x.cells[j]? = some c := fun i y j d hy hd => by
        obtain ⟨x, hx⟩ := get_other hl hy
        obtain ⟨c, hcc⟩ := get_other (h i x y hx hy) hd
        exact ⟨x, c, hx, hcc⟩
      refine .sl ys blk off cap s vals (by omega) (by rintro rfl; exact h2 (by cases xs with | nil => rfl | cons _ _ => simp at hl)) (fun i y hy => ?_) (fun i y j d hy hd => ?_) (fun i y j d hy hd => ?_)
      · obtain ⟨x, hx⟩ := get_other hl hy
        rw [← h i x y hx hy]; exact h3 i x hx
      · obtain ⟨x, c, hx, hcc⟩ := hg i y j d hy hd
        exact h4 i x j c hx hcc
      · obtain ⟨x, c, hx, hcc⟩ := hg i y j d hy hd
        exact ih i x y j c d hx hy hcc hd (h5 i x j c hx hcc)
end Go.Ab
/-
  TREES OF ONE's OWN IN THE LAWS' HELPERS: rows of elements whose slices have names; toXS; what a walk needs for marks.
-/
namespace Go.Ab
set_option maxRecDepth 100000
/- LISTS -/
/- SPLITS -/
/- ENDS -/
/- CALLS -/
/- toXS -/
/- DRAWN REGIONS -/
/- CALLS THAT ARE LENT WHAT IS OWNED -/
theorem Frz.ob {O : List AObj} {n : Nat} {nl : Bool} {e s : Nat} {xs : List AV} (h : O[n]? = some (rowOb nl e s xs)) (hn : AV.norefs xs = true) : Frz O (.row n xs.length) (.sl xs) := by
  unfold rowOb at h
  split at h
  · rename_i hh
    have : xs = [] := by cases xs with
      | nil => rfl
      | cons a l => simp at hh
    subst this
    exact .nil n _ _ h
  · exact .row n _ _ _ _ h rfl hn
/- MORE RULES -/
/- MARKS THAT ARE KEPT -/
end Go.Ab
