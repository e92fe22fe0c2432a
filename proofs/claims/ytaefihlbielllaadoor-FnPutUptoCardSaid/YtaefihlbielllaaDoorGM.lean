/- Part of a proof: the functions that the law reaches, walked by the abstract logic of the texts Ab. -/
import Derived.Test.YtaefihlbielllaaDoorAbM4
import Derived.Lib.Join
import Derived.Lib.ItoaNum
import Derived.Lib.LaidTab
import Derived.Test.YtaefihlbielllaaDoorAbM3
set_option linter.unusedVariables false
set_option linter.unusedSimpArgs false
set_option linter.defProp false
/-
  LISTS IN THE LAWS' OWN HELPERS, once for all element types: what is left of toXS, szXS, eqXS.
-/
namespace Go.Ab
set_option maxRecDepth 100000
theorem wrapI {n : Int} (h : -9223372036854775808 ≤ n) (h' : n ≤ 9223372036854775807) : IntKind.i64.wrap n = n := wrap_id h h'
theorem wrapS {a b : Nat} (h : b ≤ a) (h' : a ≤ 4611686018427387904) : IntKind.i64.wrap ((a : Int) - (b : Int)) = ((a - b : Nat) : Int) := by
  rw [wrapI (by omega) (by omega)]; omega
theorem wrapA {a b : Nat} (h : a + b ≤ 4611686018427387904) : IntKind.i64.wrap ((a : Int) + (b : Int)) = ((a + b : Nat) : Int) := by
  rw [wrapI (by omega) (by omega)]; omega
theorem wrapA1 {a : Nat} (h : a ≤ 4611686018427387904) : IntKind.i64.wrap ((a : Int) + 1) = ((a + 1 : Nat) : Int) := by
  rw [wrapI (by omega) (by omega)]; omega
theorem lt0 (n : Nat) : decide ((n : Int) < 0) = false := by simp
theorem getM {α : Type} (f : α → AV) {l : List α} {i : Nat} (h : i < l.length) : (l.map f)[i]? = some (f l[i]) := by simp [h]
theorem elemM {α : Type} (f : α → AV) {l : List α} {s n : Nat} {k : IntKind} {K : AV → Prop} (h : n < l.length) (hs : (f l[n]).cells.length = s) (hk : goT K (f l[n])) : elemP s (.sl (l.map f)) (.v (.int k (n : Int))) K :=
  elem_intro _ (getM f h) hs hk
theorem norefsM {α : Type} {f : α → AV} {l : List α} (h : ∀ x, (f x).noref = true) : AV.norefs (l.map f) = true := norefs_of fun a ha => by
  obtain ⟨x, _, rfl⟩ := List.mem_map.1 ha; exact h x
section
variable {P : Program} {L : AX → SS → List AV → Prop} {R : AV → Prop} {t : T} {r : List AV} {S : List (List AV → Prop)}
/-- a loop that counts up -/
theorem loop_up {init : List AV} (n : Nat) (σ : Nat → List AV) (h0 : init = σ 0)
    (hr : ∀ i, i ≤ n → wpT P L R t (r ++ σ i) ((fun vs => i < n ∧ vs = σ (i + 1)) :: S)) : loopT P L R init t r S := by
  refine loop_intro (ι := Nat) (fun i => i ≤ n) σ (fun i => n - i) 0 (Nat.zero_le _) h0 fun i hi => ?_
  refine wpT_mono (fun _ _ _ h => h) (fun _ h => h) t (.cons (fun vs hv => ?_) (.refl _)) (hr i hi)
  exact ⟨i + 1, hv.1, by have := hv.1; omega, hv.2⟩
end
/- numbers -/
abbrev avI (n : Int) : AV := .v (.int .i64 n)
abbrev avB (s : ByteArray) : AV := .v (.string s)
end Go.Ab
/-
  THE TYPES OF THE LAWS as types of our own (printed by wip/tool/types.py): their cells, their weights, small facts.
-/
namespace Go.Ab
set_option maxRecDepth 100000
/-- a number of 64 bits -/
def inR (n : Int) : Prop := -9223372036854775808 ≤ n ∧ n ≤ 9223372036854775807
theorem le_sum {α : Type} (w : α → Nat) {l : List α} {x : α} (h : x ∈ l) : w x ≤ (l.map w).sum := by
  induction l with
  | nil => simp at h
  | cons a l ih =>
    simp only [List.map_cons, List.sum_cons]
    rcases List.mem_cons.1 h with rfl | h
    · omega
    · have := ih h; omega
inductive VToken where
  | mk (Kind : Int) (Text : ByteArray) (Num : Int) (Pos : Int)
def VToken.Kind : VToken → Int
  | .mk a _ _ _ => a
def VToken.Text : VToken → ByteArray
  | .mk _ a _ _ => a
def VToken.Num : VToken → Int
  | .mk _ _ a _ => a
def VToken.Pos : VToken → Int
  | .mk _ _ _ a => a
def VToken.wt : VToken → Nat
  | .mk Kind Text Num Pos => Text.size
theorem VToken.wt_eq (x : VToken) : x.wt = x.Text.size := by
  cases x
  simp only [VToken.wt, VToken.Kind, VToken.Text, VToken.Num, VToken.Pos]
theorem VToken.facts {l : List VToken} {b : Nat} (h : (l.map VToken.wt).sum ≤ b) : ∀ x ∈ l, x.wt ≤ b ∧ x.wt = x.Text.size := fun x hx => ⟨Nat.le_trans (le_sum VToken.wt hx) h, x.wt_eq⟩
inductive VPat where
  | mk (Kind : Int) (Name : ByteArray) (Num : Int) (Pos : Int) (Kids : List VPat)
def VPat.Kind : VPat → Int
  | .mk a _ _ _ _ => a
def VPat.Name : VPat → ByteArray
  | .mk _ a _ _ _ => a
def VPat.Num : VPat → Int
  | .mk _ _ a _ _ => a
def VPat.Pos : VPat → Int
  | .mk _ _ _ a _ => a
def VPat.Kids : VPat → List VPat
  | .mk _ _ _ _ a => a
mutual
def VPat.wt : VPat → Nat
  | .mk Kind Name Num Pos Kids => Name.size + (Kids.length + VPat.wts Kids)
def VPat.wts : List VPat → Nat
  | [] => 0
  | x :: l => x.wt + VPat.wts l
end
theorem VPat.wts_eq (l : List VPat) : VPat.wts l = (l.map VPat.wt).sum := by
  induction l with
  | nil => rfl
  | cons x l ih => simp only [VPat.wts, ih, List.map_cons, List.sum_cons]
theorem VPat.wt_eq (x : VPat) : x.wt = x.Name.size + (x.Kids.length + (x.Kids.map VPat.wt).sum) := by
  cases x
  simp only [VPat.wt, VPat.wts_eq, VPat.Kind, VPat.Name, VPat.Num, VPat.Pos, VPat.Kids]
theorem VPat.facts {l : List VPat} {b : Nat} (h : (l.map VPat.wt).sum ≤ b) : ∀ x ∈ l, x.wt ≤ b ∧ x.wt = x.Name.size + (x.Kids.length + (x.Kids.map VPat.wt).sum) := fun x hx => ⟨Nat.le_trans (le_sum VPat.wt hx) h, x.wt_eq⟩
mutual
inductive VExp where
  | mk (Kind : Int) (Name : ByteArray) (Num : Int) (Text : ByteArray) (Pos : Int) (Kids : List VExp) (Arms : List VArm)
inductive VArm where
  | mk (P : VPat) (E : VExp)
end
def VExp.Kind : VExp → Int
  | .mk a _ _ _ _ _ _ => a
def VExp.Name : VExp → ByteArray
  | .mk _ a _ _ _ _ _ => a
def VExp.Num : VExp → Int
  | .mk _ _ a _ _ _ _ => a
def VExp.Text : VExp → ByteArray
  | .mk _ _ _ a _ _ _ => a
def VExp.Pos : VExp → Int
  | .mk _ _ _ _ a _ _ => a
def VExp.Kids : VExp → List VExp
  | .mk _ _ _ _ _ a _ => a
def VExp.Arms : VExp → List VArm
  | .mk _ _ _ _ _ _ a => a
def VArm.P : VArm → VPat
  | .mk a _ => a
def VArm.E : VArm → VExp
  | .mk _ a => a
mutual
def VExp.wt : VExp → Nat
  | .mk Kind Name Num Text Pos Kids Arms => Name.size + Text.size + (Kids.length + VExp.wts Kids) + (Arms.length + VArm.wts Arms)
def VArm.wt : VArm → Nat
  | .mk P E => P.wt + E.wt
def VExp.wts : List VExp → Nat
  | [] => 0
  | x :: l => x.wt + VExp.wts l
def VArm.wts : List VArm → Nat
  | [] => 0
  | x :: l => x.wt + VArm.wts l
end
theorem VExp.wts_eq (l : List VExp) : VExp.wts l = (l.map VExp.wt).sum := by
  induction l with
  | nil => rfl
  | cons x l ih => simp only [VExp.wts, ih, List.map_cons, List.sum_cons]
theorem VArm.wts_eq (l : List VArm) : VArm.wts l = (l.map VArm.wt).sum := by
  induction l with
  | nil => rfl
  | cons x l ih => simp only [VArm.wts, ih, List.map_cons, List.sum_cons]
theorem VExp.wt_eq (x : VExp) : x.wt = x.Name.size + x.Text.size + (x.Kids.length + (x.Kids.map VExp.wt).sum) + (x.Arms.length + (x.Arms.map VArm.wt).sum) := by
  cases x
  simp only [VExp.wt, VExp.wts_eq, VArm.wts_eq, VExp.Kind, VExp.Name, VExp.Num, VExp.Text, VExp.Pos, VExp.Kids, VExp.Arms]
theorem VExp.facts {l : List VExp} {b : Nat} (h : (l.map VExp.wt).sum ≤ b) : ∀ x ∈ l, x.wt ≤ b ∧ x.wt = x.Name.size + x.Text.size + (x.Kids.length + (x.Kids.map VExp.wt).sum) + (x.Arms.length + (x.Arms.map VArm.wt).sum) := fun x hx => ⟨Nat.le_trans (le_sum VExp.wt hx) h, x.wt_eq⟩
theorem VArm.wt_eq (x : VArm) : x.wt = x.P.wt + x.E.wt := by
  cases x
  simp only [VArm.wt, VExp.wts_eq, VArm.wts_eq, VArm.P, VArm.E]
theorem VArm.facts {l : List VArm} {b : Nat} (h : (l.map VArm.wt).sum ≤ b) : ∀ x ∈ l, x.wt ≤ b ∧ x.wt = x.P.wt + x.E.wt := fun x hx => ⟨Nat.le_trans (le_sum VArm.wt hx) h, x.wt_eq⟩
inductive VTypeExp where
  | mk (Kind : Int) (Name : ByteArray) (Pos : Int) (Kids : List VTypeExp)
def VTypeExp.Kind : VTypeExp → Int
  | .mk a _ _ _ => a
def VTypeExp.Name : VTypeExp → ByteArray
  | .mk _ a _ _ => a
def VTypeExp.Pos : VTypeExp → Int
  | .mk _ _ a _ => a
def VTypeExp.Kids : VTypeExp → List VTypeExp
  | .mk _ _ _ a => a
theorem VTypeExp.Kind_mk (Kind : Int) (Name : ByteArray) (Pos : Int) (Kids : List VTypeExp) : (VTypeExp.mk Kind Name Pos Kids).Kind = Kind := nr rfl
theorem VTypeExp.Name_mk (Kind : Int) (Name : ByteArray) (Pos : Int) (Kids : List VTypeExp) : (VTypeExp.mk Kind Name Pos Kids).Name = Name := nr rfl
theorem VTypeExp.Kids_mk (Kind : Int) (Name : ByteArray) (Pos : Int) (Kids : List VTypeExp) : (VTypeExp.mk Kind Name Pos Kids).Kids = Kids := nr rfl
mutual
def VTypeExp.cs : VTypeExp → List AV
  | .mk Kind Name Pos Kids => (.v (.int .i64 Kind) :: (.v (.string Name) :: (.v (.int .i64 Pos) :: (.sl (VTypeExp.avs Kids) :: []))))
def VTypeExp.avs : List VTypeExp → List AV
  | [] => []
  | x :: l => .agg x.cs :: VTypeExp.avs l
end
def VTypeExp.av (x : VTypeExp) : AV := .agg x.cs
theorem VTypeExp.avs_eq (l : List VTypeExp) : VTypeExp.avs l = l.map VTypeExp.av := by
  induction l with
  | nil => rfl
  | cons x l ih => simp only [VTypeExp.avs, ih, List.map_cons, VTypeExp.av]
mutual
def VTypeExp.wt : VTypeExp → Nat
  | .mk Kind Name Pos Kids => Name.size + (Kids.length + VTypeExp.wts Kids)
def VTypeExp.wts : List VTypeExp → Nat
  | [] => 0
  | x :: l => x.wt + VTypeExp.wts l
end
theorem VTypeExp.wts_eq (l : List VTypeExp) : VTypeExp.wts l = (l.map VTypeExp.wt).sum := by
  induction l with
  | nil => rfl
  | cons x l ih => simp only [VTypeExp.wts, ih, List.map_cons, List.sum_cons]
mutual
theorem VTypeExp.norefsC : ∀ x : VTypeExp, AV.norefs x.cs = true
  | .mk Kind Name Pos Kids => by simp [VTypeExp.cs, AV.norefs, AV.noref, norefs_append, VTypeExp.norefsL Kids]
theorem VTypeExp.norefsL : ∀ l : List VTypeExp, AV.norefs (VTypeExp.avs l) = true
  | [] => rfl
  | x :: l => by simp [VTypeExp.avs, AV.norefs, AV.noref, VTypeExp.norefsC x, VTypeExp.norefsL l]
end
theorem VTypeExp.noref (x : VTypeExp) : x.av.noref = true   := VTypeExp.norefsC x
theorem VTypeExp.isAgg (x : VTypeExp) : x.av.isAgg = true := nr rfl
theorem VTypeExp.cs_eq (x : VTypeExp) : x.cs = [.v (.int .i64 x.Kind), .v (.string x.Name), .v (.int .i64 x.Pos), .sl (x.Kids.map VTypeExp.av)] := by
  obtain ⟨Kind, Name, Pos, Kids⟩ := x
  simp only [VTypeExp.cs, VTypeExp.Kids, VTypeExp.Kind, VTypeExp.Name, VTypeExp.Pos, VTypeExp.avs_eq, List.cons_append, List.nil_append]
theorem VTypeExp.cells (x : VTypeExp) : x.av.cells = [.v (.int .i64 x.Kind), .v (.string x.Name), .v (.int .i64 x.Pos), .sl (x.Kids.map VTypeExp.av)] := VTypeExp.cs_eq x
theorem VTypeExp.width (x : VTypeExp) : x.av.cells.length = 4 := by rw [VTypeExp.cells]; rfl
theorem VTypeExp.storable (x : VTypeExp) : x.av.storable = true := by unfold AV.storable; rw [VTypeExp.cells]; rfl
theorem VTypeExp.eta (x : VTypeExp) : AV.agg [.v (.int .i64 x.Kind), .v (.string x.Name), .v (.int .i64 x.Pos), .sl (x.Kids.map VTypeExp.av)] = x.av := by
  show _ = AV.agg x.cs
  rw [VTypeExp.cs_eq]
theorem VTypeExp.shape (x : VTypeExp) : x.av.isAgg = true ∧ x.av.cells.length = 4 ∧ x.av.storable = true := ⟨rfl, VTypeExp.width x, VTypeExp.storable x⟩
theorem VTypeExp.wt_eq (x : VTypeExp) : x.wt = x.Name.size + (x.Kids.length + (x.Kids.map VTypeExp.wt).sum) := by
  cases x
  simp only [VTypeExp.wt, VTypeExp.wts_eq, VTypeExp.Kind, VTypeExp.Name, VTypeExp.Pos, VTypeExp.Kids]
theorem VTypeExp.facts {l : List VTypeExp} {b : Nat} (h : (l.map VTypeExp.wt).sum ≤ b) : ∀ x ∈ l, x.wt ≤ b ∧ x.wt = x.Name.size + (x.Kids.length + (x.Kids.map VTypeExp.wt).sum) := fun x hx => ⟨Nat.le_trans (le_sum VTypeExp.wt hx) h, x.wt_eq⟩
theorem VTypeExp.Kids_lt {x : VTypeExp} {y : VTypeExp} (h : y ∈ x.Kids) : SizeOf.sizeOf y < SizeOf.sizeOf x := by
  cases x
  have := List.sizeOf_lt_of_mem h
  simp only [VTypeExp.Kids] at this
  simp; omega
inductive VCtor where
  | mk (Name : ByteArray) (Has : Bool) (Arg : VTypeExp) (Pos : Int)
def VCtor.Name : VCtor → ByteArray
  | .mk a _ _ _ => a
def VCtor.Has : VCtor → Bool
  | .mk _ a _ _ => a
def VCtor.Arg : VCtor → VTypeExp
  | .mk _ _ a _ => a
def VCtor.Pos : VCtor → Int
  | .mk _ _ _ a => a
def VCtor.wt : VCtor → Nat
  | .mk Name Has Arg Pos => Name.size + Arg.wt
theorem VCtor.wt_eq (x : VCtor) : x.wt = x.Name.size + x.Arg.wt := by
  cases x
  simp only [VCtor.wt, VCtor.Name, VCtor.Has, VCtor.Arg, VCtor.Pos]
theorem VCtor.facts {l : List VCtor} {b : Nat} (h : (l.map VCtor.wt).sum ≤ b) : ∀ x ∈ l, x.wt ≤ b ∧ x.wt = x.Name.size + x.Arg.wt := fun x hx => ⟨Nat.le_trans (le_sum VCtor.wt hx) h, x.wt_eq⟩
inductive VData where
  | mk (Name : ByteArray) (Vars : List ByteArray) (Ctors : List VCtor) (Pos : Int)
def VData.Name : VData → ByteArray
  | .mk a _ _ _ => a
def VData.Vars : VData → List ByteArray
  | .mk _ a _ _ => a
def VData.Ctors : VData → List VCtor
  | .mk _ _ a _ => a
def VData.Pos : VData → Int
  | .mk _ _ _ a => a
def VData.wt : VData → Nat
  | .mk Name Vars Ctors Pos => Name.size + (Vars.length + (Vars.map fun x => x.size).sum) + (Ctors.length + (Ctors.map VCtor.wt).sum)
theorem VData.wt_eq (x : VData) : x.wt = x.Name.size + (x.Vars.length + (x.Vars.map fun x => x.size).sum) + (x.Ctors.length + (x.Ctors.map VCtor.wt).sum) := by
  cases x
  simp only [VData.wt, VData.Name, VData.Vars, VData.Ctors, VData.Pos]
theorem VData.facts {l : List VData} {b : Nat} (h : (l.map VData.wt).sum ≤ b) : ∀ x ∈ l, x.wt ≤ b ∧ x.wt = x.Name.size + (x.Vars.length + (x.Vars.map fun x => x.size).sum) + (x.Ctors.length + (x.Ctors.map VCtor.wt).sum) := fun x hx => ⟨Nat.le_trans (le_sum VData.wt hx) h, x.wt_eq⟩
inductive VProg where
  | mk (Types : List VData) (Body : VExp)
def VProg.Types : VProg → List VData
  | .mk a _ => a
def VProg.Body : VProg → VExp
  | .mk _ a => a
def VProg.wt : VProg → Nat
  | .mk Types Body => (Types.length + (Types.map VData.wt).sum) + Body.wt
theorem VProg.wt_eq (x : VProg) : x.wt = (x.Types.length + (x.Types.map VData.wt).sum) + x.Body.wt := by
  cases x
  simp only [VProg.wt, VProg.Types, VProg.Body]
theorem VProg.facts {l : List VProg} {b : Nat} (h : (l.map VProg.wt).sum ≤ b) : ∀ x ∈ l, x.wt ≤ b ∧ x.wt = (x.Types.length + (x.Types.map VData.wt).sum) + x.Body.wt := fun x hx => ⟨Nat.le_trans (le_sum VProg.wt hx) h, x.wt_eq⟩
inductive VTy where
  | mk (Kind : Int) (N : Int) (Name : ByteArray) (Kids : List VTy)
def VTy.Kind : VTy → Int
  | .mk a _ _ _ => a
def VTy.N : VTy → Int
  | .mk _ a _ _ => a
def VTy.Name : VTy → ByteArray
  | .mk _ _ a _ => a
def VTy.Kids : VTy → List VTy
  | .mk _ _ _ a => a
theorem VTy.Kind_mk (Kind : Int) (N : Int) (Name : ByteArray) (Kids : List VTy) : (VTy.mk Kind N Name Kids).Kind = Kind := nr rfl
theorem VTy.N_mk (Kind : Int) (N : Int) (Name : ByteArray) (Kids : List VTy) : (VTy.mk Kind N Name Kids).N = N := nr rfl
theorem VTy.Name_mk (Kind : Int) (N : Int) (Name : ByteArray) (Kids : List VTy) : (VTy.mk Kind N Name Kids).Name = Name := nr rfl
theorem VTy.Kids_mk (Kind : Int) (N : Int) (Name : ByteArray) (Kids : List VTy) : (VTy.mk Kind N Name Kids).Kids = Kids := nr rfl
mutual
def VTy.cs : VTy → List AV
  | .mk Kind N Name Kids => (.v (.int .i64 Kind) :: (.v (.int .i64 N) :: (.v (.string Name) :: (.sl (VTy.avs Kids) :: []))))
def VTy.avs : List VTy → List AV
  | [] => []
  | x :: l => .agg x.cs :: VTy.avs l
end
def VTy.av (x : VTy) : AV := .agg x.cs
theorem VTy.avs_eq (l : List VTy) : VTy.avs l = l.map VTy.av := by
  induction l with
  | nil => rfl
  | cons x l ih => simp only [VTy.avs, ih, List.map_cons, VTy.av]
mutual
def VTy.wt : VTy → Nat
  | .mk Kind N Name Kids => Name.size + (Kids.length + VTy.wts Kids)
def VTy.wts : List VTy → Nat
  | [] => 0
  | x :: l => x.wt + VTy.wts l
end
theorem VTy.wts_eq (l : List VTy) : VTy.wts l = (l.map VTy.wt).sum := by
  induction l with
  | nil => rfl
  | cons x l ih => simp only [VTy.wts, ih, List.map_cons, List.sum_cons]
mutual
def VTy.ok : VTy → Prop
  | .mk Kind N Name Kids => inR Kind ∧ inR N ∧ VTy.oks Kids
def VTy.oks : List VTy → Prop
  | [] => True
  | x :: l => x.ok ∧ VTy.oks l
end
theorem VTy.oks_iff (l : List VTy) : VTy.oks l ↔ ∀ y ∈ l, y.ok := by
  induction l with
  | nil => simp [VTy.oks]
  | cons x l ih => simp [VTy.oks, ih]
mutual
theorem VTy.norefsC : ∀ x : VTy, AV.norefs x.cs = true
  | .mk Kind N Name Kids => by simp [VTy.cs, AV.norefs, AV.noref, norefs_append, VTy.norefsL Kids]
theorem VTy.norefsL : ∀ l : List VTy, AV.norefs (VTy.avs l) = true
  | [] => rfl
  | x :: l => by simp [VTy.avs, AV.norefs, AV.noref, VTy.norefsC x, VTy.norefsL l]
end
theorem VTy.noref (x : VTy) : x.av.noref = true   := VTy.norefsC x
theorem VTy.isAgg (x : VTy) : x.av.isAgg = true := nr rfl
theorem VTy.cs_eq (x : VTy) : x.cs = [.v (.int .i64 x.Kind), .v (.int .i64 x.N), .v (.string x.Name), .sl (x.Kids.map VTy.av)] := by
  obtain ⟨Kind, N, Name, Kids⟩ := x
  simp only [VTy.cs, VTy.Kids, VTy.Kind, VTy.N, VTy.Name, VTy.avs_eq, List.cons_append, List.nil_append]
theorem VTy.cells (x : VTy) : x.av.cells = [.v (.int .i64 x.Kind), .v (.int .i64 x.N), .v (.string x.Name), .sl (x.Kids.map VTy.av)] := VTy.cs_eq x
theorem VTy.width (x : VTy) : x.av.cells.length = 4 := by rw [VTy.cells]; rfl
theorem VTy.storable (x : VTy) : x.av.storable = true := by unfold AV.storable; rw [VTy.cells]; rfl
theorem VTy.eta (x : VTy) : AV.agg [.v (.int .i64 x.Kind), .v (.int .i64 x.N), .v (.string x.Name), .sl (x.Kids.map VTy.av)] = x.av := by
  show _ = AV.agg x.cs
  rw [VTy.cs_eq]
theorem VTy.shape (x : VTy) : x.av.isAgg = true ∧ x.av.cells.length = 4 ∧ x.av.storable = true := ⟨rfl, VTy.width x, VTy.storable x⟩
theorem VTy.wt_eq (x : VTy) : x.wt = x.Name.size + (x.Kids.length + (x.Kids.map VTy.wt).sum) := by
  cases x
  simp only [VTy.wt, VTy.wts_eq, VTy.Kind, VTy.N, VTy.Name, VTy.Kids]
theorem VTy.facts {l : List VTy} {b : Nat} (h : (l.map VTy.wt).sum ≤ b) : ∀ x ∈ l, x.wt ≤ b ∧ x.wt = x.Name.size + (x.Kids.length + (x.Kids.map VTy.wt).sum) := fun x hx => ⟨Nat.le_trans (le_sum VTy.wt hx) h, x.wt_eq⟩
theorem VTy.ok_iff (x : VTy) : x.ok ↔ inR x.Kind ∧ inR x.N ∧ (∀ y ∈ x.Kids, y.ok) := by
  cases x
  simp only [VTy.ok, VTy.oks_iff, VTy.Kind, VTy.N, VTy.Name, VTy.Kids]
theorem VTy.Kids_lt {x : VTy} {y : VTy} (h : y ∈ x.Kids) : SizeOf.sizeOf y < SizeOf.sizeOf x := by
  cases x
  have := List.sizeOf_lt_of_mem h
  simp only [VTy.Kids] at this
  simp; omega
inductive VCtorInfo where
  | mk (Name : ByteArray) (Has : Bool) (Arg : VTy)
def VCtorInfo.Name : VCtorInfo → ByteArray
  | .mk a _ _ => a
def VCtorInfo.Has : VCtorInfo → Bool
  | .mk _ a _ => a
def VCtorInfo.Arg : VCtorInfo → VTy
  | .mk _ _ a => a
def VCtorInfo.wt : VCtorInfo → Nat
  | .mk Name Has Arg => Name.size + Arg.wt
theorem VCtorInfo.wt_eq (x : VCtorInfo) : x.wt = x.Name.size + x.Arg.wt := by
  cases x
  simp only [VCtorInfo.wt, VCtorInfo.Name, VCtorInfo.Has, VCtorInfo.Arg]
theorem VCtorInfo.facts {l : List VCtorInfo} {b : Nat} (h : (l.map VCtorInfo.wt).sum ≤ b) : ∀ x ∈ l, x.wt ≤ b ∧ x.wt = x.Name.size + x.Arg.wt := fun x hx => ⟨Nat.le_trans (le_sum VCtorInfo.wt hx) h, x.wt_eq⟩
inductive VDataInfo where
  | mk (Name : ByteArray) (Vars : Int) (Ctors : List VCtorInfo)
def VDataInfo.Name : VDataInfo → ByteArray
  | .mk a _ _ => a
def VDataInfo.Vars : VDataInfo → Int
  | .mk _ a _ => a
def VDataInfo.Ctors : VDataInfo → List VCtorInfo
  | .mk _ _ a => a
def VDataInfo.wt : VDataInfo → Nat
  | .mk Name Vars Ctors => Name.size + (Ctors.length + (Ctors.map VCtorInfo.wt).sum)
theorem VDataInfo.wt_eq (x : VDataInfo) : x.wt = x.Name.size + (x.Ctors.length + (x.Ctors.map VCtorInfo.wt).sum) := by
  cases x
  simp only [VDataInfo.wt, VDataInfo.Name, VDataInfo.Vars, VDataInfo.Ctors]
theorem VDataInfo.facts {l : List VDataInfo} {b : Nat} (h : (l.map VDataInfo.wt).sum ≤ b) : ∀ x ∈ l, x.wt ≤ b ∧ x.wt = x.Name.size + (x.Ctors.length + (x.Ctors.map VCtorInfo.wt).sum) := fun x hx => ⟨Nat.le_trans (le_sum VDataInfo.wt hx) h, x.wt_eq⟩
inductive VCPat where
  | mk (Kind : Int) (Num : Int) (Name : ByteArray) (T : VTy) (Kids : List VCPat)
def VCPat.Kind : VCPat → Int
  | .mk a _ _ _ _ => a
def VCPat.Num : VCPat → Int
  | .mk _ a _ _ _ => a
def VCPat.Name : VCPat → ByteArray
  | .mk _ _ a _ _ => a
def VCPat.T : VCPat → VTy
  | .mk _ _ _ a _ => a
def VCPat.Kids : VCPat → List VCPat
  | .mk _ _ _ _ a => a
mutual
def VCPat.wt : VCPat → Nat
  | .mk Kind Num Name T Kids => Name.size + T.wt + (Kids.length + VCPat.wts Kids)
def VCPat.wts : List VCPat → Nat
  | [] => 0
  | x :: l => x.wt + VCPat.wts l
end
theorem VCPat.wts_eq (l : List VCPat) : VCPat.wts l = (l.map VCPat.wt).sum := by
  induction l with
  | nil => rfl
  | cons x l ih => simp only [VCPat.wts, ih, List.map_cons, List.sum_cons]
theorem VCPat.wt_eq (x : VCPat) : x.wt = x.Name.size + x.T.wt + (x.Kids.length + (x.Kids.map VCPat.wt).sum) := by
  cases x
  simp only [VCPat.wt, VCPat.wts_eq, VCPat.Kind, VCPat.Num, VCPat.Name, VCPat.T, VCPat.Kids]
theorem VCPat.facts {l : List VCPat} {b : Nat} (h : (l.map VCPat.wt).sum ≤ b) : ∀ x ∈ l, x.wt ≤ b ∧ x.wt = x.Name.size + x.T.wt + (x.Kids.length + (x.Kids.map VCPat.wt).sum) := fun x hx => ⟨Nat.le_trans (le_sum VCPat.wt hx) h, x.wt_eq⟩
mutual
inductive VCore where
  | mk (Kind : Int) (N : Int) (Num : Int) (Text : ByteArray) (Name : ByteArray) (T : VTy) (Ts : List VTy) (Kids : List VCore) (Arms : List VCArm)
inductive VCArm where
  | mk (P : VCPat) (E : VCore)
end
def VCore.Kind : VCore → Int
  | .mk a _ _ _ _ _ _ _ _ => a
def VCore.N : VCore → Int
  | .mk _ a _ _ _ _ _ _ _ => a
def VCore.Num : VCore → Int
  | .mk _ _ a _ _ _ _ _ _ => a
def VCore.Text : VCore → ByteArray
  | .mk _ _ _ a _ _ _ _ _ => a
def VCore.Name : VCore → ByteArray
  | .mk _ _ _ _ a _ _ _ _ => a
def VCore.T : VCore → VTy
  | .mk _ _ _ _ _ a _ _ _ => a
def VCore.Ts : VCore → List VTy
  | .mk _ _ _ _ _ _ a _ _ => a
def VCore.Kids : VCore → List VCore
  | .mk _ _ _ _ _ _ _ a _ => a
def VCore.Arms : VCore → List VCArm
  | .mk _ _ _ _ _ _ _ _ a => a
def VCArm.P : VCArm → VCPat
  | .mk a _ => a
def VCArm.E : VCArm → VCore
  | .mk _ a => a
mutual
def VCore.wt : VCore → Nat
  | .mk Kind N Num Text Name T Ts Kids Arms => Text.size + Name.size + T.wt + (Ts.length + (Ts.map VTy.wt).sum) + (Kids.length + VCore.wts Kids) + (Arms.length + VCArm.wts Arms)
def VCArm.wt : VCArm → Nat
  | .mk P E => P.wt + E.wt
def VCore.wts : List VCore → Nat
  | [] => 0
  | x :: l => x.wt + VCore.wts l
def VCArm.wts : List VCArm → Nat
  | [] => 0
  | x :: l => x.wt + VCArm.wts l
end
theorem VCore.wts_eq (l : List VCore) : VCore.wts l = (l.map VCore.wt).sum := by
  induction l with
  | nil => rfl
  | cons x l ih => simp only [VCore.wts, ih, List.map_cons, List.sum_cons]
theorem VCArm.wts_eq (l : List VCArm) : VCArm.wts l = (l.map VCArm.wt).sum := by
  induction l with
  | nil => rfl
  | cons x l ih => simp only [VCArm.wts, ih, List.map_cons, List.sum_cons]
theorem VCore.wt_eq (x : VCore) : x.wt = x.Text.size + x.Name.size + x.T.wt + (x.Ts.length + (x.Ts.map VTy.wt).sum) + (x.Kids.length + (x.Kids.map VCore.wt).sum) + (x.Arms.length + (x.Arms.map VCArm.wt).sum) := by
  cases x
  simp only [VCore.wt, VCore.wts_eq, VCArm.wts_eq, VCore.Kind, VCore.N, VCore.Num, VCore.Text, VCore.Name, VCore.T, VCore.Ts, VCore.Kids, VCore.Arms]
theorem VCore.facts {l : List VCore} {b : Nat} (h : (l.map VCore.wt).sum ≤ b) : ∀ x ∈ l, x.wt ≤ b ∧ x.wt = x.Text.size + x.Name.size + x.T.wt + (x.Ts.length + (x.Ts.map VTy.wt).sum) + (x.Kids.length + (x.Kids.map VCore.wt).sum) + (x.Arms.length + (x.Arms.map VCArm.wt).sum) := fun x hx => ⟨Nat.le_trans (le_sum VCore.wt hx) h, x.wt_eq⟩
theorem VCArm.wt_eq (x : VCArm) : x.wt = x.P.wt + x.E.wt := by
  cases x
  simp only [VCArm.wt, VCore.wts_eq, VCArm.wts_eq, VCArm.P, VCArm.E]
theorem VCArm.facts {l : List VCArm} {b : Nat} (h : (l.map VCArm.wt).sum ≤ b) : ∀ x ∈ l, x.wt ≤ b ∧ x.wt = x.P.wt + x.E.wt := fun x hx => ⟨Nat.le_trans (le_sum VCArm.wt hx) h, x.wt_eq⟩
inductive VKVal where
  | mk (Kind : Int) (N : Int) (Num : Int) (Text : ByteArray)
def VKVal.Kind : VKVal → Int
  | .mk a _ _ _ => a
def VKVal.N : VKVal → Int
  | .mk _ a _ _ => a
def VKVal.Num : VKVal → Int
  | .mk _ _ a _ => a
def VKVal.Text : VKVal → ByteArray
  | .mk _ _ _ a => a
def VKVal.wt : VKVal → Nat
  | .mk Kind N Num Text => Text.size
theorem VKVal.wt_eq (x : VKVal) : x.wt = x.Text.size := by
  cases x
  simp only [VKVal.wt, VKVal.Kind, VKVal.N, VKVal.Num, VKVal.Text]
theorem VKVal.facts {l : List VKVal} {b : Nat} (h : (l.map VKVal.wt).sum ≤ b) : ∀ x ∈ l, x.wt ≤ b ∧ x.wt = x.Text.size := fun x hx => ⟨Nat.le_trans (le_sum VKVal.wt hx) h, x.wt_eq⟩
inductive VKTerm where
  | mk (Kind : Int) (Name : ByteArray) (N : Int) (Num : Int) (T : VTy) (Ts : List VTy) (Vs : List VKVal) (Kids : List VKTerm)
def VKTerm.Kind : VKTerm → Int
  | .mk a _ _ _ _ _ _ _ => a
def VKTerm.Name : VKTerm → ByteArray
  | .mk _ a _ _ _ _ _ _ => a
def VKTerm.N : VKTerm → Int
  | .mk _ _ a _ _ _ _ _ => a
def VKTerm.Num : VKTerm → Int
  | .mk _ _ _ a _ _ _ _ => a
def VKTerm.T : VKTerm → VTy
  | .mk _ _ _ _ a _ _ _ => a
def VKTerm.Ts : VKTerm → List VTy
  | .mk _ _ _ _ _ a _ _ => a
def VKTerm.Vs : VKTerm → List VKVal
  | .mk _ _ _ _ _ _ a _ => a
def VKTerm.Kids : VKTerm → List VKTerm
  | .mk _ _ _ _ _ _ _ a => a
mutual
def VKTerm.wt : VKTerm → Nat
  | .mk Kind Name N Num T Ts Vs Kids => Name.size + T.wt + (Ts.length + (Ts.map VTy.wt).sum) + (Vs.length + (Vs.map VKVal.wt).sum) + (Kids.length + VKTerm.wts Kids)
def VKTerm.wts : List VKTerm → Nat
  | [] => 0
  | x :: l => x.wt + VKTerm.wts l
end
theorem VKTerm.wts_eq (l : List VKTerm) : VKTerm.wts l = (l.map VKTerm.wt).sum := by
  induction l with
  | nil => rfl
  | cons x l ih => simp only [VKTerm.wts, ih, List.map_cons, List.sum_cons]
theorem VKTerm.wt_eq (x : VKTerm) : x.wt = x.Name.size + x.T.wt + (x.Ts.length + (x.Ts.map VTy.wt).sum) + (x.Vs.length + (x.Vs.map VKVal.wt).sum) + (x.Kids.length + (x.Kids.map VKTerm.wt).sum) := by
  cases x
  simp only [VKTerm.wt, VKTerm.wts_eq, VKTerm.Kind, VKTerm.Name, VKTerm.N, VKTerm.Num, VKTerm.T, VKTerm.Ts, VKTerm.Vs, VKTerm.Kids]
theorem VKTerm.facts {l : List VKTerm} {b : Nat} (h : (l.map VKTerm.wt).sum ≤ b) : ∀ x ∈ l, x.wt ≤ b ∧ x.wt = x.Name.size + x.T.wt + (x.Ts.length + (x.Ts.map VTy.wt).sum) + (x.Vs.length + (x.Vs.map VKVal.wt).sum) + (x.Kids.length + (x.Kids.map VKTerm.wt).sum) := fun x hx => ⟨Nat.le_trans (le_sum VKTerm.wt hx) h, x.wt_eq⟩
inductive VSlot where
  | mk (T : VTy) (Many : Int) (Cont : Bool)
def VSlot.T : VSlot → VTy
  | .mk a _ _ => a
def VSlot.Many : VSlot → Int
  | .mk _ a _ => a
def VSlot.Cont : VSlot → Bool
  | .mk _ _ a => a
def VSlot.wt : VSlot → Nat
  | .mk T Many Cont => T.wt
theorem VSlot.wt_eq (x : VSlot) : x.wt = x.T.wt := by
  cases x
  simp only [VSlot.wt, VSlot.T, VSlot.Many, VSlot.Cont]
theorem VSlot.facts {l : List VSlot} {b : Nat} (h : (l.map VSlot.wt).sum ≤ b) : ∀ x ∈ l, x.wt ≤ b ∧ x.wt = x.T.wt := fun x hx => ⟨Nat.le_trans (le_sum VSlot.wt hx) h, x.wt_eq⟩
inductive VBlock where
  | mk (Vars : Int) (Caps : List VSlot) (Cont : Bool) (T : VTy) (Body : VKTerm)
def VBlock.Vars : VBlock → Int
  | .mk a _ _ _ _ => a
def VBlock.Caps : VBlock → List VSlot
  | .mk _ a _ _ _ => a
def VBlock.Cont : VBlock → Bool
  | .mk _ _ a _ _ => a
def VBlock.T : VBlock → VTy
  | .mk _ _ _ a _ => a
def VBlock.Body : VBlock → VKTerm
  | .mk _ _ _ _ a => a
def VBlock.wt : VBlock → Nat
  | .mk Vars Caps Cont T Body => (Caps.length + (Caps.map VSlot.wt).sum) + T.wt + Body.wt
theorem VBlock.wt_eq (x : VBlock) : x.wt = (x.Caps.length + (x.Caps.map VSlot.wt).sum) + x.T.wt + x.Body.wt := by
  cases x
  simp only [VBlock.wt, VBlock.Vars, VBlock.Caps, VBlock.Cont, VBlock.T, VBlock.Body]
theorem VBlock.facts {l : List VBlock} {b : Nat} (h : (l.map VBlock.wt).sum ≤ b) : ∀ x ∈ l, x.wt ≤ b ∧ x.wt = (x.Caps.length + (x.Caps.map VSlot.wt).sum) + x.T.wt + x.Body.wt := fun x hx => ⟨Nat.le_trans (le_sum VBlock.wt hx) h, x.wt_eq⟩
inductive VBProg where
  | mk (Blocks : List VBlock) (Main : VKTerm)
def VBProg.Blocks : VBProg → List VBlock
  | .mk a _ => a
def VBProg.Main : VBProg → VKTerm
  | .mk _ a => a
def VBProg.wt : VBProg → Nat
  | .mk Blocks Main => (Blocks.length + (Blocks.map VBlock.wt).sum) + Main.wt
theorem VBProg.wt_eq (x : VBProg) : x.wt = (x.Blocks.length + (x.Blocks.map VBlock.wt).sum) + x.Main.wt := by
  cases x
  simp only [VBProg.wt, VBProg.Blocks, VBProg.Main]
theorem VBProg.facts {l : List VBProg} {b : Nat} (h : (l.map VBProg.wt).sum ≤ b) : ∀ x ∈ l, x.wt ≤ b ∧ x.wt = (x.Blocks.length + (x.Blocks.map VBlock.wt).sum) + x.Main.wt := fun x hx => ⟨Nat.le_trans (le_sum VBProg.wt hx) h, x.wt_eq⟩
inductive VInstr where
  | mk (Op : Int) (A : Int) (B : Int) (C : Int) (N : Int) (Text : ByteArray)
def VInstr.Op : VInstr → Int
  | .mk a _ _ _ _ _ => a
def VInstr.A : VInstr → Int
  | .mk _ a _ _ _ _ => a
def VInstr.B : VInstr → Int
  | .mk _ _ a _ _ _ => a
def VInstr.C : VInstr → Int
  | .mk _ _ _ a _ _ => a
def VInstr.N : VInstr → Int
  | .mk _ _ _ _ a _ => a
def VInstr.Text : VInstr → ByteArray
  | .mk _ _ _ _ _ a => a
def VInstr.wt : VInstr → Nat
  | .mk Op A B C N Text => Text.size
theorem VInstr.wt_eq (x : VInstr) : x.wt = x.Text.size := by
  cases x
  simp only [VInstr.wt, VInstr.Op, VInstr.A, VInstr.B, VInstr.C, VInstr.N, VInstr.Text]
theorem VInstr.facts {l : List VInstr} {b : Nat} (h : (l.map VInstr.wt).sum ≤ b) : ∀ x ∈ l, x.wt ≤ b ∧ x.wt = x.Text.size := fun x hx => ⟨Nat.le_trans (le_sum VInstr.wt hx) h, x.wt_eq⟩
inductive VCode where
  | mk (Instrs : List VInstr) (Starts : List Int)
def VCode.Instrs : VCode → List VInstr
  | .mk a _ => a
def VCode.Starts : VCode → List Int
  | .mk _ a => a
def VCode.wt : VCode → Nat
  | .mk Instrs Starts => (Instrs.length + (Instrs.map VInstr.wt).sum) + Starts.length
theorem VCode.wt_eq (x : VCode) : x.wt = (x.Instrs.length + (x.Instrs.map VInstr.wt).sum) + x.Starts.length := by
  cases x
  simp only [VCode.wt, VCode.Instrs, VCode.Starts]
theorem VCode.facts {l : List VCode} {b : Nat} (h : (l.map VCode.wt).sum ≤ b) : ∀ x ∈ l, x.wt ≤ b ∧ x.wt = (x.Instrs.length + (x.Instrs.map VInstr.wt).sum) + x.Starts.length := fun x hx => ⟨Nat.le_trans (le_sum VCode.wt hx) h, x.wt_eq⟩
inductive VEvent where
  | mk (At : Int) (Room : Int) (Put : Int)
def VEvent.At : VEvent → Int
  | .mk a _ _ => a
def VEvent.Room : VEvent → Int
  | .mk _ a _ => a
def VEvent.Put : VEvent → Int
  | .mk _ _ a => a
def VEvent.wt : VEvent → Nat
  | .mk At Room Put => 0
theorem VEvent.wt_eq (x : VEvent) : x.wt = 0 := by
  cases x
  simp only [VEvent.wt, VEvent.At, VEvent.Room, VEvent.Put]
theorem VEvent.facts {l : List VEvent} {b : Nat} (h : (l.map VEvent.wt).sum ≤ b) : ∀ x ∈ l, x.wt ≤ b ∧ x.wt = 0 := fun x hx => ⟨Nat.le_trans (le_sum VEvent.wt hx) h, x.wt_eq⟩
end Go.Ab
/-
  THE FUNCTIONS OF PACKAGE slices, once for all element types; loops with what holds at each round.
-/
namespace Go.Ab
set_option maxRecDepth 100000
section
variable {P : Program} {L : AX → SS → List AV → Prop} {R : AV → Prop} {t : T} {r : List AV} {S : List (List AV → Prop)}
/-- a loop that counts up, with what holds at each round -/
theorem loop_inv {init : List AV} (n : Nat) (I : Nat → Prop) (σ : Nat → List AV) (h0 : init = σ 0) (hI : I 0)
    (hr : ∀ i, i ≤ n → I i → wpT P L R t (r ++ σ i) ((fun vs => i < n ∧ I (i + 1) ∧ vs = σ (i + 1)) :: S)) : loopT P L R init t r S := by
  refine loop_intro (ι := Nat) (fun i => i ≤ n ∧ I i) σ (fun i => n - i) 0 ⟨Nat.zero_le _, hI⟩ h0 fun i hi => ?_
  refine wpT_mono (fun _ _ _ h => h) (fun _ h => h) t (.cons (fun vs hv => ?_) (.refl _)) (hr i hi.1 hi.2)
  exact ⟨i + 1, ⟨hv.1, hv.2.1⟩, by have := hv.1; omega, hv.2.2⟩
end
theorem dropC {α : Type} {l : List α} {i : Nat} (h : i < l.length) : l.drop i = l[i] :: l.drop (i + 1) := List.drop_eq_getElem_cons h
theorem dropE {α : Type} (l : List α) : l.drop l.length = [] := List.drop_length
/-- the first place from k on that passes -/
def idxR {α : Type} (p : α → Bool) : List α → Nat → Int
  | [], _ => -1
  | x :: r, k => if p x = true then (k : Int) else idxR p r (k + 1)
theorem idxR_any {α : Type} (p : α → Bool) : ∀ (l : List α) (k : Nat), decide (0 ≤ idxR p l k) = l.any p
  | [], _ => by simp [idxR]
  | x :: r, k => by
    unfold idxR
    by_cases h : p x = true
    · simp [h]
    · simp only [h, List.any_cons]; rw [if_neg (by simp), idxR_any p r (k + 1)]; simp
def TidxF (s : Nat) : T :=
.bind 0 (
 .op (.lenL (.x 0)) (
 .loop [(.c (.v (.int .i64 0)))] (
  .op (.bin .lss (.x 3) (.x 2)) (
  .ite (.x 4)
   (.op (.elem s (.x 0) (.x 3)) (
   .chk (.cells (.x 5) s) (
   .op (.callv (.x 1) [(.x 5)] false) (
   .ite (.x 6)
    (.esc (.esc (.ret [(.x 3)])))
    (.op (.bin .add (.x 3) (.c (.v (.int .i64 1)))) (
    .jump [(.x 7)]))))))
   (.esc (.jump [])))))) (
.ret [(.c (.v (.int .i64 (-1))))])
theorem idxF_T {P : Program} {L : AX → SS → List AV → Prop} {α : Type} {av : α → AV} {s : Nat} {g : FuncId} {caps : List AV} {l : List α} (p : α → Bool) (hs : ∀ x, (av x).isAgg = true ∧ (av x).cells.length = s ∧ (av x).storable = true)
    (hl : l.length ≤ 1073741824) (hc : ∀ x ∈ l, PCon P g (av x :: caps) (.v (.bool (p x)))) :
    wpT P L (fun a => a = .v (.int .i64 (idxR p l 0))) (TidxF s) [.sl (l.map av), .fn g caps] [] := by
  simp only [TidxF, WA, Nat.reduceEqDiff, Nat.reduceAdd, Nat.reduceLT, Nat.reduceLeDiff, Nat.reduceMul, reduceIte, reduceCtorEq, Int.reduceEq, Int.reduceLT, Int.reduceLE, Int.reduceNe]
  refine bind_push ?_
  simp only [WA, Nat.reduceEqDiff, Nat.reduceAdd, Nat.reduceLT, Nat.reduceLeDiff, Nat.reduceMul, reduceIte, reduceCtorEq, Int.reduceEq, Int.reduceLT, Int.reduceLE, Int.reduceNe]
  refine loop_inv l.length (fun i => idxR p l 0 = idxR p (l.drop i) i) (fun i => [.v (.int .i64 i)]) rfl rfl fun i hi hI => ?_
  simp only [WA, Nat.reduceEqDiff, Nat.reduceAdd, Nat.reduceLT, Nat.reduceLeDiff, Nat.reduceMul, reduceIte, reduceCtorEq, Int.reduceEq, Int.reduceLT, Int.reduceLE, Int.reduceNe]
  refine ite_dec (fun h => ?_) (fun h => ?_)
  · have hlt : i < l.length := by omega
    obtain ⟨x1, x2, x3⟩ := hs l[i]
    rw [dropC hlt, idxR] at hI
    simp only [WA, Nat.reduceEqDiff, Nat.reduceAdd, Nat.reduceLT, Nat.reduceLeDiff, Nat.reduceMul, reduceIte, reduceCtorEq, Int.reduceEq, Int.reduceLT, Int.reduceLE, Int.reduceNe]
    refine elemM av hlt x2 ?_
    simp only [x1, x2, x3, WA, Nat.reduceEqDiff, Nat.reduceAdd, Nat.reduceLT, Nat.reduceLeDiff, Nat.reduceMul, reduceIte, reduceCtorEq, Int.reduceEq, Int.reduceLT, Int.reduceLE, Int.reduceNe]
    refine call_v (hc _ (List.getElem_mem hlt)) ?_
    simp only [WA, Nat.reduceEqDiff, Nat.reduceAdd, Nat.reduceLT, Nat.reduceLeDiff, Nat.reduceMul, reduceIte, reduceCtorEq, Int.reduceEq, Int.reduceLT, Int.reduceLE, Int.reduceNe]
    refine ite_intro (fun h => ?_) (fun h => ?_)
    · simp only [h, if_pos] at hI
      simp only [hI, WA, Nat.reduceEqDiff, Nat.reduceAdd, Nat.reduceLT, Nat.reduceLeDiff, Nat.reduceMul, reduceIte, reduceCtorEq, Int.reduceEq, Int.reduceLT, Int.reduceLE, Int.reduceNe]
    · simp only [h] at hI
      simp (disch := omega) only [wrapA1, WA, Nat.reduceEqDiff, Nat.reduceAdd, Nat.reduceLT, Nat.reduceLeDiff, Nat.reduceMul, reduceIte, reduceCtorEq, Int.reduceEq, Int.reduceLT, Int.reduceLE, Int.reduceNe]
      exact ⟨hlt, by simpa using hI⟩
  · have he : i = l.length := by omega
    subst he
    rw [dropE, idxR] at hI
    simp only [hI, WA, Nat.reduceEqDiff, Nat.reduceAdd, Nat.reduceLT, Nat.reduceLeDiff, Nat.reduceMul, reduceIte, reduceCtorEq, Int.reduceEq, Int.reduceLT, Int.reduceLE, Int.reduceNe]
def TanyF (f : FuncId) (fl : Bool) : T :=
.op (.call f [(.x 0), (.x 1)] fl) (
.op (.bin .geq (.x 2) (.c (.v (.int .i64 0)))) (
.ret [(.x 3)]))
theorem anyF_T {fl : Bool} {P : Program} {L : AX → SS → List AV → Prop} {α : Type} {a b : AV} {f : FuncId} {l : List α} {p : α → Bool} (hc : PCon P f [a, b] (.v (.int .i64 (idxR p l 0)))) :
    wpT P L (fun r => r = .v (.bool (l.any p))) (TanyF f fl) [a, b] [] := by
  simp only [TanyF, WA, Nat.reduceEqDiff, Nat.reduceAdd, Nat.reduceLT, Nat.reduceLeDiff, Nat.reduceMul, reduceIte, reduceCtorEq, Int.reduceEq, Int.reduceLT, Int.reduceLE, Int.reduceNe]
  refine call_v hc ?_
  simp only [idxR_any, WA, Nat.reduceEqDiff, Nat.reduceAdd, Nat.reduceLT, Nat.reduceLeDiff, Nat.reduceMul, reduceIte, reduceCtorEq, Int.reduceEq, Int.reduceLT, Int.reduceLE, Int.reduceNe]
def TidxE : T :=
.bind 0 (
 .op (.lenL (.x 0)) (
 .loop [(.c (.v (.int .i64 0)))] (
  .op (.bin .lss (.x 3) (.x 2)) (
  .ite (.x 4)
   (.op (.elem 1 (.x 0) (.x 3)) (
   .chk (.lt (.x 5) 0) (
   .op (.bin .eql (.x 1) (.cell 5 0)) (
   .ite (.x 6)
    (.esc (.esc (.ret [(.x 3)])))
    (.op (.bin .add (.x 3) (.c (.v (.int .i64 1)))) (
    .jump [(.x 7)]))))))
   (.esc (.jump [])))))) (
.ret [(.c (.v (.int .i64 (-1))))])
theorem idxE_T {P : Program} {L : AX → SS → List AV → Prop} {α : Type} [DecidableEq α] {g : α → Value} {l : List α} {x : α} (hg : ∀ (x y : α) (K : AV → Prop), goT K (.v (.bool (decide (x = y)))) → binT .eql (.v (g x)) (.v (g y)) K)
    (hl : l.length ≤ 1073741824) : wpT P L (fun a => a = .v (.int .i64 (idxR (fun y => decide (x = y)) l 0))) TidxE [.sl (l.map fun y => .v (g y)), .v (g x)] [] := by
  simp only [TidxE, WA, Nat.reduceEqDiff, Nat.reduceAdd, Nat.reduceLT, Nat.reduceLeDiff, Nat.reduceMul, reduceIte, reduceCtorEq, Int.reduceEq, Int.reduceLT, Int.reduceLE, Int.reduceNe]
  refine bind_push ?_
  simp only [WA, Nat.reduceEqDiff, Nat.reduceAdd, Nat.reduceLT, Nat.reduceLeDiff, Nat.reduceMul, reduceIte, reduceCtorEq, Int.reduceEq, Int.reduceLT, Int.reduceLE, Int.reduceNe]
  refine loop_inv l.length (fun i => idxR (fun y => decide (x = y)) l 0 = idxR (fun y => decide (x = y)) (l.drop i) i) (fun i => [.v (.int .i64 i)]) rfl rfl fun i hi hI => ?_
  simp only [WA, Nat.reduceEqDiff, Nat.reduceAdd, Nat.reduceLT, Nat.reduceLeDiff, Nat.reduceMul, reduceIte, reduceCtorEq, Int.reduceEq, Int.reduceLT, Int.reduceLE, Int.reduceNe]
  refine ite_dec (fun h => ?_) (fun h => ?_)
  · have hlt : i < l.length := by omega
    rw [dropC hlt, idxR] at hI
    simp only [WA, Nat.reduceEqDiff, Nat.reduceAdd, Nat.reduceLT, Nat.reduceLeDiff, Nat.reduceMul, reduceIte, reduceCtorEq, Int.reduceEq, Int.reduceLT, Int.reduceLE, Int.reduceNe]
    refine elemM (fun y => .v (g y)) hlt rfl ?_
    simp only [WA, Nat.reduceEqDiff, Nat.reduceAdd, Nat.reduceLT, Nat.reduceLeDiff, Nat.reduceMul, reduceIte, reduceCtorEq, Int.reduceEq, Int.reduceLT, Int.reduceLE, Int.reduceNe]
    refine hg _ _ _ ?_
    simp only [WA, Nat.reduceEqDiff, Nat.reduceAdd, Nat.reduceLT, Nat.reduceLeDiff, Nat.reduceMul, reduceIte, reduceCtorEq, Int.reduceEq, Int.reduceLT, Int.reduceLE, Int.reduceNe]
    refine ite_dec (fun h => ?_) (fun h => ?_)
    · rw [if_pos (decide_eq_true h)] at hI
      simp only [hI, WA, Nat.reduceEqDiff, Nat.reduceAdd, Nat.reduceLT, Nat.reduceLeDiff, Nat.reduceMul, reduceIte, reduceCtorEq, Int.reduceEq, Int.reduceLT, Int.reduceLE, Int.reduceNe]
    · rw [if_neg (by simpa using h)] at hI
      simp (disch := omega) only [wrapA1, WA, Nat.reduceEqDiff, Nat.reduceAdd, Nat.reduceLT, Nat.reduceLeDiff, Nat.reduceMul, reduceIte, reduceCtorEq, Int.reduceEq, Int.reduceLT, Int.reduceLE, Int.reduceNe]
      exact ⟨hlt, hI⟩
  · have he : i = l.length := by omega
    subst he
    rw [dropE, idxR] at hI
    simp only [hI, WA, Nat.reduceEqDiff, Nat.reduceAdd, Nat.reduceLT, Nat.reduceLeDiff, Nat.reduceMul, reduceIte, reduceCtorEq, Int.reduceEq, Int.reduceLT, Int.reduceLE, Int.reduceNe]
theorem eqlI (k : IntKind) (x y : Int) (K : AV → Prop) (h : goT K (.v (.bool (decide (x = y))))) : binT .eql (.v (.int k x)) (.v (.int k y)) K := by rw [b_eql]; exact h
theorem eqlS (x y : ByteArray) (K : AV → Prop) (h : goT K (.v (.bool (decide (x = y))))) : binT .eql (.v (.string x)) (.v (.string y)) K := by rw [b_seql]; exact h
/-- two lists, side by side -/
def all2 {α : Type} (p : α → α → Bool) : List α → List α → Bool
  | [], [] => true
  | x :: l, y :: m => p x y && all2 p l m
  | _, _ => false
theorem all2_len {α : Type} (p : α → α → Bool) : ∀ (l m : List α), l.length ≠ m.length → all2 p l m = false
  | [], [], h => (h rfl).elim
  | [], _ :: _, _ => rfl
  | _ :: _, [], _ => rfl
  | x :: l, y :: m, h => by simp only [all2, all2_len p l m (by simpa using h), Bool.and_false]
def TeqF (s : Nat) : T :=
.op (.lenL (.x 0)) (
.op (.lenL (.x 1)) (
.op (.bin .neq (.x 3) (.x 4)) (
.ite (.x 5)
 (.ret [(.c (.v (.bool false)))])
 (.bind 0 (
  .op (.lenL (.x 0)) (
  .loop [(.c (.v (.int .i64 0)))] (
   .op (.bin .lss (.x 7) (.x 6)) (
   .ite (.x 8)
    (.op (.elem s (.x 0) (.x 7)) (
    .chk (.cells (.x 9) s) (
    .chk (.cells (.x 9) s) (
    .op (.elem s (.x 1) (.x 7)) (
    .chk (.cells (.x 10) s) (
    .chk (.cells (.x 10) s) (
    .chk (.cells (.x 9) s) (
    .chk (.cells (.x 10) s) (
    .op (.callv (.x 2) [(.x 9), (.x 10)] false) (
    .op (.un .not (.x 11)) (
    .ite (.x 12)
     (.esc (.esc (.ret [(.c (.v (.bool false)))])))
     (.op (.bin .add (.x 7) (.c (.v (.int .i64 1)))) (
     .jump [(.x 13)])))))))))))))
    (.esc (.jump [])))))) (
 .ret [(.c (.v (.bool true)))])))))
theorem eqF_T {P : Program} {L : AX → SS → List AV → Prop} {α : Type} {av : α → AV} {s : Nat} {g : FuncId} {caps : List AV} {l m : List α} (p : α → α → Bool) (hs : ∀ x, (av x).isAgg = true ∧ (av x).cells.length = s ∧ (av x).storable = true)
    (hl : l.length ≤ 1073741824) (hc : ∀ x ∈ l, ∀ y ∈ m, PCon P g (av x :: av y :: caps) (.v (.bool (p x y)))) :
    wpT P L (fun a => a = .v (.bool (all2 p l m))) (TeqF s) [.sl (l.map av), .sl (m.map av), .fn g caps] [] := by
  simp only [TeqF, WA, Nat.reduceEqDiff, Nat.reduceAdd, Nat.reduceLT, Nat.reduceLeDiff, Nat.reduceMul, reduceIte, reduceCtorEq, Int.reduceEq, Int.reduceLT, Int.reduceLE, Int.reduceNe]
  refine ite_ndec (fun h => ?_) (fun h => ?_)
  · simp only [all2_len p l m (by omega), WA, Nat.reduceEqDiff, Nat.reduceAdd, Nat.reduceLT, Nat.reduceLeDiff, Nat.reduceMul, reduceIte, reduceCtorEq, Int.reduceEq, Int.reduceLT, Int.reduceLE, Int.reduceNe]
  · have hlm : l.length = m.length := by omega
    simp only [WA, Nat.reduceEqDiff, Nat.reduceAdd, Nat.reduceLT, Nat.reduceLeDiff, Nat.reduceMul, reduceIte, reduceCtorEq, Int.reduceEq, Int.reduceLT, Int.reduceLE, Int.reduceNe]
    refine bind_push ?_
    simp only [WA, Nat.reduceEqDiff, Nat.reduceAdd, Nat.reduceLT, Nat.reduceLeDiff, Nat.reduceMul, reduceIte, reduceCtorEq, Int.reduceEq, Int.reduceLT, Int.reduceLE, Int.reduceNe]
    refine loop_inv l.length (fun i => all2 p l m = all2 p (l.drop i) (m.drop i)) (fun i => [.v (.int .i64 i)]) rfl rfl fun i hi hI => ?_
    simp only [WA, Nat.reduceEqDiff, Nat.reduceAdd, Nat.reduceLT, Nat.reduceLeDiff, Nat.reduceMul, reduceIte, reduceCtorEq, Int.reduceEq, Int.reduceLT, Int.reduceLE, Int.reduceNe]
    refine ite_dec (fun h => ?_) (fun h => ?_)
    · have hlt : i < l.length := by omega
      have hlt' : i < m.length := by omega
      obtain ⟨x1, x2, x3⟩ := hs l[i]
      obtain ⟨y1, y2, y3⟩ := hs m[i]
      rw [dropC hlt, dropC hlt', all2] at hI
      simp only [WA, Nat.reduceEqDiff, Nat.reduceAdd, Nat.reduceLT, Nat.reduceLeDiff, Nat.reduceMul, reduceIte, reduceCtorEq, Int.reduceEq, Int.reduceLT, Int.reduceLE, Int.reduceNe]
      refine elemM av hlt x2 ?_
      simp only [x1, x2, x3, WA, Nat.reduceEqDiff, Nat.reduceAdd, Nat.reduceLT, Nat.reduceLeDiff, Nat.reduceMul, reduceIte, reduceCtorEq, Int.reduceEq, Int.reduceLT, Int.reduceLE, Int.reduceNe]
      refine elemM av hlt' y2 ?_
      simp only [x1, x2, x3, y1, y2, y3, WA, Nat.reduceEqDiff, Nat.reduceAdd, Nat.reduceLT, Nat.reduceLeDiff, Nat.reduceMul, reduceIte, reduceCtorEq, Int.reduceEq, Int.reduceLT, Int.reduceLE, Int.reduceNe]
      refine call_v (hc _ (List.getElem_mem hlt) _ (List.getElem_mem hlt')) ?_
      simp only [WA, Nat.reduceEqDiff, Nat.reduceAdd, Nat.reduceLT, Nat.reduceLeDiff, Nat.reduceMul, reduceIte, reduceCtorEq, Int.reduceEq, Int.reduceLT, Int.reduceLE, Int.reduceNe]
      refine ite_intro (fun h => ?_) (fun h => ?_)
      · have h : p l[i] m[i] = false := by simpa using h
        simp only [h, Bool.false_and] at hI
        simp only [hI, WA, Nat.reduceEqDiff, Nat.reduceAdd, Nat.reduceLT, Nat.reduceLeDiff, Nat.reduceMul, reduceIte, reduceCtorEq, Int.reduceEq, Int.reduceLT, Int.reduceLE, Int.reduceNe]
      · have h : p l[i] m[i] = true := by simpa using h
        simp only [h, Bool.true_and] at hI
        simp (disch := omega) only [wrapA1, WA, Nat.reduceEqDiff, Nat.reduceAdd, Nat.reduceLT, Nat.reduceLeDiff, Nat.reduceMul, reduceIte, reduceCtorEq, Int.reduceEq, Int.reduceLT, Int.reduceLE, Int.reduceNe]
        exact ⟨hlt, hI⟩
    · have he : i = l.length := by omega
      subst he
      rw [dropE, hlm, dropE, all2] at hI
      simp only [hI, WA, Nat.reduceEqDiff, Nat.reduceAdd, Nat.reduceLT, Nat.reduceLeDiff, Nat.reduceMul, reduceIte, reduceCtorEq, Int.reduceEq, Int.reduceLT, Int.reduceLE, Int.reduceNe]
end Go.Ab
/-
  LOOPS OVER LISTS AND BYTES: what is left is what the list's rest asks.
-/
namespace Go.Ab
set_option maxRecDepth 100000
theorem not_any {α : Type} (p : α → Bool) (l : List α) : (!(l.any fun y => !p y)) = l.all p := by
  induction l with
  | nil => rfl
  | cons x l ih => simp only [List.any_cons, List.all_cons, ← ih]; cases p x <;> simp
theorem avb {a b : Bool} (h : a = true ↔ b = true) : AV.v (.bool a) = AV.v (.bool b) := by rw [Bool.eq_iff_iff.2 h]
section
variable {P : Program} {L : AX → SS → List AV → Prop} {R : AV → Prop} {t : T} {r : List AV} {S : List (List AV → Prop)}
/-- a loop over a list: G tells what is still asked, of the rest and of what is kept -/
theorem loop_list {α β : Type} {init : List AV} (l : List α) (σ : Nat → β → List AV) (G : Nat → List α → β → Prop) (b0 : β) (h0 : init = σ 0 b0) (hG : G 0 l b0)
    (hc : ∀ (i : Nat) (x : α) (rest : List α) (b : β), i < l.length → l[i]? = some x → x ∈ l → (∀ (f : α → AV) (s : Nat) (k : IntKind) (K : AV → Prop), (f x).cells.length = s → elemP s (.sl (l.map f)) (.v (.int k (i : Int))) K = goT K (f x)) →
      decide ((i : Int) < (l.length : Int)) = true → G i (x :: rest) b → wpT P L R t (r ++ σ i b) ((fun vs => i < l.length ∧ ∃ b', G (i + 1) rest b' ∧ vs = σ (i + 1) b') :: S))
    (he : ∀ b, decide ((l.length : Int) < (l.length : Int)) = false → G l.length [] b → wpT P L R t (r ++ σ l.length b) ((fun _ => False) :: S)) : loopT P L R init t r S := by
  refine loop_intro (ι := Nat × β) (fun q => q.1 ≤ l.length ∧ G q.1 (l.drop q.1) q.2) (fun q => σ q.1 q.2) (fun q => l.length - q.1) (0, b0) ⟨Nat.zero_le _, hG⟩ h0 fun q hq => ?_
  obtain ⟨i, b⟩ := q
  obtain ⟨hi, hg⟩ := hq
  rcases Nat.lt_or_ge i l.length with h | h
  · have hg : G i (l[i] :: l.drop (i + 1)) b := by rw [← dropC h]; exact hg
    refine wpT_mono (fun _ _ _ h => h) (fun _ h => h) t (.cons (fun vs hv => ?_) (.refl _)) (hc i l[i] (l.drop (i + 1)) b h (List.getElem?_eq_getElem h) (List.getElem_mem h) (fun f s k K hs => ?_) (by simp; exact h) hg)
    · obtain ⟨_, b', h1, h2⟩ := hv
      exact ⟨(i + 1, b'), ⟨h, h1⟩, by simp only; omega, h2⟩
    · unfold elemP
      have hx : (l.map f).getD (Int.toNat (i : Int)) .top = f l[i] := by simp [List.getD, h]
      simp only [hx, hs, true_and, goT]
      exact propext ⟨fun q => q.2.2, fun q => ⟨Int.natCast_nonneg i, by simp; exact h, q⟩⟩
  · have he' : i = l.length := by simp only at hi; omega
    subst he'
    have hg : G l.length [] b := by simpa using hg
    refine wpT_mono (fun _ _ _ h => h) (fun _ h => h) t (.cons (fun vs hv => hv.elim) (.refl _)) (he b (by simp) hg)
/-- a string's bytes -/
def bs (s : ByteArray) : List Int := s.data.toList.map fun b => (b.toNat : Int)
theorem bs_len (s : ByteArray) : (bs s).length = s.size := by simp [bs]
theorem bs_range {s : ByteArray} {c : Int} (h : c ∈ bs s) : 0 ≤ c ∧ c < 256 := by
  simp only [bs, List.mem_map] at h
  obtain ⟨b, _, rfl⟩ := h
  exact ⟨by omega, by have := b.toNat_lt; omega⟩
theorem idxB {s : ByteArray} {i : Nat} {k : IntKind} {K : AV → Prop} (h : i < (bs s).length) (hk : goT K (.v (.int .u8 (bs s)[i]))) : idxT (.v (.string s)) (.v (.int k (i : Int))) K := by
  rw [i_idx]
  have hl := bs_len s
  refine ⟨by omega, by omega, ?_⟩
  have : (((s.data.toList.getD (Int.toNat (i : Int)) 0).toNat : Nat) : Int) = (bs s)[i] := by
    simp only [bs, Int.toNat_natCast, List.getElem_map, List.getD]
    have h1 : i < s.data.toList.length := by simpa [bs] using h
    rw [List.getElem?_eq_getElem h1]; rfl
  rw [this]; exact hk
theorem wrap8 {c : Int} (h : 0 ≤ c) (h' : c < 256) : IntKind.i64.wrap c = c := wrapI (by omega) (by omega)
end
/- functions whose code the walk does not cover, by contracts in the model's own words -/
theorem enters_of {P : Program} {f : FuncId} (h : (match P.funcs[f]? with | some fn => fn.body.isSome && !(fn.name == "runtime.NumGoroutine") | none => false) = true) : Enters P f := by
  cases hf : P.funcs[f]? with
  | none => rw [hf] at h; cases h
  | some fn =>
    rw [hf] at h
    simp only [Bool.and_eq_true] at h
    exact ⟨fn, hf, h.1, by simpa using h.2⟩
theorem R.v_inv {I : Imm} {L : Nat → Loc} {O : List AObj} {a x : Value} (h : R I L O (.v a) x) : x = a := by cases h; rfl
end Go.Ab
/-
  AN ELEMENT AT A PLACE THAT IS KNOWN.
-/
namespace Go.Ab
set_option maxRecDepth 100000
theorem elem_at (n : Nat) {α : Type} {l : List α} {x : α} (hx : l[n]? = some x) (f : α → AV) (s : Nat) (k : IntKind) (K : AV → Prop) (hs : (f x).cells.length = s) :
    elemP s (.sl (l.map f)) (.v (.int k (n : Int))) K = goT K (f x) := by
  have hl : n < l.length := (List.getElem?_eq_some_iff.1 hx).1
  unfold elemP
  have hx' : (l.map f).getD (Int.toNat (n : Int)) .top = f x := by simp [List.getD, hx]
  simp only [hx', hs, true_and, goT]
  exact propext ⟨fun q => q.2.2, fun q => ⟨Int.natCast_nonneg n, by simp; exact hl, q⟩⟩
theorem elem_0 {α : Type} {l : List α} {x : α} (hx : l[0]? = some x) (f : α → AV) (s : Nat) (k : IntKind) (K : AV → Prop) (hs : (f x).cells.length = s) :
    elemP s (.sl (l.map f)) (.v (.int k 0)) K = goT K (f x) := elem_at 0 hx f s k K hs
theorem elem_1 {α : Type} {l : List α} {x : α} (hx : l[1]? = some x) (f : α → AV) (s : Nat) (k : IntKind) (K : AV → Prop) (hs : (f x).cells.length = s) :
    elemP s (.sl (l.map f)) (.v (.int k 1)) K = goT K (f x) := elem_at 1 hx f s k K hs
theorem elem_2 {α : Type} {l : List α} {x : α} (hx : l[2]? = some x) (f : α → AV) (s : Nat) (k : IntKind) (K : AV → Prop) (hs : (f x).cells.length = s) :
    elemP s (.sl (l.map f)) (.v (.int k 2)) K = goT K (f x) := elem_at 2 hx f s k K hs
theorem get_0 {α : Type} {l : List α} (h : 0 < l.length) : l[0]? = some l[0] := List.getElem?_eq_getElem h
theorem get_1 {α : Type} {l : List α} (h : 1 < l.length) : l[1]? = some l[1] := List.getElem?_eq_getElem h
end Go.Ab
/-
  DOORS: the library's functions that read a table or build texts, by the contracts of the shelf; texts laid side by side.
-/
namespace Go.Ab
set_option maxRecDepth 100000
theorem PCon.of_below {P : Program} {f : FuncId} {args : List AV} {y : Value} (he : Enters P f) (hy : y.oneCell' = true)
    (h : ∀ I L w vs, Inv I L [] w → RL I L [] args vs → Calls P f vs w fun e w' => e = .returned y ∧ RowKit.Below w.heap.size w w') : PCon P f args (.v y) := by
  refine ⟨he, fun I L w vs hi hr => (h I L w vs hi hr).mono ?_⟩
  rintro e w' ⟨h1, hb⟩
  refine ⟨y, I, L, h1, .v y hy, ⟨⟨fun b o x hx => ?_, by simp, by simp, by simp, hi.fix, hi.blk_frm (fun b hb' _ => hb.block b hb') (fun _ _ _ h => h), .no (by simp)⟩, .refl _ _ _, ⟨hb.os, hb.tape, hb.output, hb.size, fun b hb' _ => hb.block b hb'⟩, fun _ h => .inl h, fun _ _ _ h => .inl h⟩⟩
  have := hi.imm b o x hx
  rw [← this]
  exact World.cell?_of_block (a := ⟨b, o, none⟩) (hb.block b (cell_block this))
/-- the table of the powers of ten lies where it lay -/
theorem Inv.tab {P : Program} {I : Imm} {L : Nat → Loc} {O : List AObj} {w : World} (hi : Inv I L O w) (hg : P.globalNamed "internal/strconv.uint64pow10" = some tabNo) : Lib.TabIs P w "internal/strconv.uint64pow10" .u64 Lib.pow10Tab := by
  obtain ⟨h1, _⟩ := hi.blk (tabNo, 20) (List.mem_of_getElem? (i := 0) rfl)
  unfold blkSize at h1
  split at h1
  case h_2 => cases h1
  rename_i c e f hc
  simp only [Option.some.injEq] at h1
  have hz : ∀ k v, fixedCells[k]? = some (tabNo, k, v) → c[k]? = some v := fun k v hk => by
    have := hi.imm tabNo k v (hi.fix _ (List.mem_of_getElem? hk))
    rw [cell_cells hc] at this
    exact this
  unfold Lib.TabIs World.var?
  rw [hg]
  simp only [Option.bind_some, hc, Option.some.injEq]
  apply Array.ext
  · simp [h1, Lib.pow10Tab]
  · intro k hk1 hk2
    have hk : k < 20 := by omega
    have : c[k]? = some ((Lib.pow10Tab.map fun z => Value.int .u64 z).toArray[k]) := by
      clear hk1
      match k, hk, hk2 with
      | 0, _, _ => exact hz 0 _ rfl
      | 1, _, _ => exact hz 1 _ rfl
      | 2, _, _ => exact hz 2 _ rfl
      | 3, _, _ => exact hz 3 _ rfl
      | 4, _, _ => exact hz 4 _ rfl
      | 5, _, _ => exact hz 5 _ rfl
      | 6, _, _ => exact hz 6 _ rfl
      | 7, _, _ => exact hz 7 _ rfl
      | 8, _, _ => exact hz 8 _ rfl
      | 9, _, _ => exact hz 9 _ rfl
      | 10, _, _ => exact hz 10 _ rfl
      | 11, _, _ => exact hz 11 _ rfl
      | 12, _, _ => exact hz 12 _ rfl
      | 13, _, _ => exact hz 13 _ rfl
      | 14, _, _ => exact hz 14 _ rfl
      | 15, _, _ => exact hz 15 _ rfl
      | 16, _, _ => exact hz 16 _ rfl
      | 17, _, _ => exact hz 17 _ rfl
      | 18, _, _ => exact hz 18 _ rfl
      | 19, _, _ => exact hz 19 _ rfl
      | k + 20, hk, _ => exact absurd hk (by omega)
    rw [Array.getElem?_eq_getElem hk1] at this
    exact Option.some.inj this
/-- a decimal numeral -/
def numB (n : Int) : ByteArray := ⟨(Lib.itoa n).toArray⟩
/-- texts with another between -/
def tailB (sep : ByteArray) : List ByteArray → ByteArray
  | [] => ⟨#[]⟩
  | y :: r => sep ++ y ++ tailB sep r
def joinB (sep : ByteArray) : List ByteArray → ByteArray
  | [] => ⟨#[]⟩
  | x :: r => x ++ tailB sep r
theorem bytes_ext {a b : ByteArray} (h : a.data.toList = b.data.toList) : a = b := by
  cases a with | mk a => cases b with | mk b =>
  cases a with | mk a => cases b with | mk b =>
  simp only at h
  rw [h]
theorem app_list (a b : ByteArray) : (a ++ b).data.toList = a.data.toList ++ b.data.toList := by simp
theorem appA (a b c : ByteArray) : a ++ b ++ c = a ++ (b ++ c) := bytes_ext (by simp only [app_list, List.append_assoc])
theorem app_size (a b : ByteArray) : (a ++ b).size = a.size + b.size := by simp
theorem tailB_list (sep : ByteArray) : ∀ l : List ByteArray, (tailB sep l).data.toList = Lib.joinTail sep.data.toList (l.map (·.data.toList))
  | [] => rfl
  | y :: r => by
    rw [tailB, app_list, app_list, tailB_list sep r]
    simp [Lib.joinTail]
theorem joinB_lib (sep : ByteArray) (l : List ByteArray) : (⟨(Lib.join (l.map (·.data.toList)) sep.data.toList).toArray⟩ : ByteArray) = joinB sep l := by
  apply bytes_ext
  cases l with
  | nil => rfl
  | cons x r => rw [List.map_cons, Lib.join_cons, joinB, app_list, tailB_list]
/-- what a text is at most as long as -/
theorem tailB_size (sep : ByteArray) : ∀ l : List ByteArray, (tailB sep l).size = l.length * sep.size + (l.map ByteArray.size).sum
  | [] => by simp [tailB]; rfl
  | y :: r => by
    rw [tailB, app_size, app_size, tailB_size sep r]
    simp only [List.length_cons, List.map_cons, List.sum_cons, Nat.add_mul]
    omega
theorem joinB_size (sep : ByteArray) (l : List ByteArray) : (joinB sep l).size ≤ l.length * sep.size + (l.map ByteArray.size).sum := by
  cases l with
  | nil => exact Nat.zero_le _
  | cons x r =>
    rw [joinB, app_size, tailB_size]
    simp only [List.length_cons, List.map_cons, List.sum_cons, Nat.add_mul]
    omega
theorem rl_1 {I : Imm} {L : Nat → Loc} {a : AV} {vs : Array Value} (h : RL I L [] [a] vs) : ∃ x, vs = #[x] ∧ R I L [] a x := by
  obtain ⟨h1, h2⟩ := h
  match vs, h1 with
  | ⟨[x]⟩, _ => exact ⟨x, rfl, h2 0 a x rfl rfl⟩
theorem rl_2 {I : Imm} {L : Nat → Loc} {a b : AV} {vs : Array Value} (h : RL I L [] [a, b] vs) : ∃ x y, vs = #[x, y] ∧ R I L [] a x ∧ R I L [] b y := by
  obtain ⟨h1, h2⟩ := h
  match vs, h1 with
  | ⟨[x, y]⟩, _ => exact ⟨x, y, rfl, h2 0 a x rfl rfl, h2 1 b y rfl rfl⟩
/-- strings that lie as the contract's words say -/
theorem strings_at {I : Imm} {L : Nat → Loc} {w : World} {l : List ByteArray} {x : Value} (hi : Inv I L [] w) (hr : R I L [] (.sl (l.map avB)) x) :
    (l = [] ∧ ∃ a c, x = .slice a 0 c) ∨ ∃ bk o c, x = .slice (some ⟨bk, o, none⟩) l.length c ∧ l.length ≤ c ∧ bk < w.heap.size ∧ ∀ (j : Nat) y, l[j]? = some y → w.cell? ⟨bk, o + j, none⟩ = some (.string y) := by
  generalize ha : AV.sl (l.map avB) = a at hr
  cases hr with
  | sl0 a c =>
    refine .inl ⟨?_, a, c, rfl⟩
    simp only [AV.sl.injEq] at ha
    simpa using ha
  | sl xs blk off cap s vals h1 h2 h3 h4 h5 =>
    simp only [AV.sl.injEq] at ha
    subst ha
    have hne : l ≠ [] := by rintro rfl; exact h2 rfl
    have hs : s = 1 := by
      obtain ⟨y, r, rfl⟩ := List.exists_cons_of_ne_nil hne
      exact (h3 0 (avB y) rfl).symm
    subst hs
    have hc : ∀ (j : Nat) y, l[j]? = some y → w.cell? ⟨blk, off + j, none⟩ = some (.string y) := fun j y hy => by
      have hx : (l.map avB)[j]? = some (avB y) := by simp [hy]
      have q1 := h4 j (avB y) 0 (avB y) hx rfl
      have q2 := (h5 j (avB y) 0 (avB y) hx rfl).v_inv
      have q3 := hi.imm _ _ _ q1.1
      rw [q2] at q3
      simpa using q3
    refine .inr ⟨blk, off, cap, by simp, by simpa using h1, ?_, hc⟩
    obtain ⟨y, r, rfl⟩ := List.exists_cons_of_ne_nil hne
    exact cell_block (hc 0 y rfl)
  | v | nils | ifc | iptr | rowLive | rowNil | rowDead | ptrLive | ptrDead | fn | agg | tup | ownLive | ownDead | top => cases ha
end Go.Ab
/-
  BYTES, AND THE ARITHMETIC OF NUMBERS AS FEW BYTES.
-/
namespace Go.Ab
set_option maxRecDepth 100000
/-- bytes -/
abbrev by1 (n : Int) : AV := .v (.int .u8 n)
abbrev bys (l : List Int) : List AV := l.map by1
theorem bys_noref (l : List Int) : AV.norefs (bys l) = true := by
  induction l with
  | nil => rfl
  | cons a l ih => simpa [AV.norefs, AV.noref] using ih
/-- what the laws' mark writes -/
def marks (b : Nat) (n : Nat) : List Int := (List.range n).map fun i => IntKind.u8.wrap ((b + i : Nat) : Int)
/- numbers back of their bytes -/
def val : List Int → Nat
  | [] => 0
  | c :: r => (c % 128).toNat + 128 * val r
def unz (x : Nat) : Int := if x % 2 = 1 then -((x / 2 : Nat) : Int) - 1 else ((x / 2 : Nat) : Int)
/-- what both get: k bytes were read, they are worth acc -/
def gs (at' : Int) : Nat → Nat → List Int → Int × Int × Bool
  | _, _, [] => (0, 0, false)
  | k, acc, c :: r => if 10 ≤ k then (0, 0, false) else if 127 < c then gs at' (k + 1) (acc + (c % 128).toNat * 128 ^ k) r
    else if (0 < k ∧ c = 0) ∨ (k = 9 ∧ 1 < c) then (0, 0, false) else (unz (acc + (c % 128).toNat * 128 ^ k), at' + k + 1, true)
end Go.Ab
/-
  NIL SLICES ARE EMPTY ONES, at any depth: what a contract says of the one it says of the other.
-/
namespace Go.Ab
set_option maxRecDepth 100000
/-- nil slices are empty ones, at any depth -/
inductive AV.leD : AV → AV → Prop
  | refl (a : AV) : AV.leD a a
  | nil : AV.leD .nils (.sl [])
  | agg (cs ds : List AV) (hl : cs.length = ds.length) (h : ∀ (i : Nat) (c d : AV), cs[i]? = some c → ds[i]? = some d → AV.leD c d) : AV.leD (.agg cs) (.agg ds)
  | sl (xs ys : List AV) (hl : xs.length = ys.length) (h : ∀ (i : Nat) (x y : AV), xs[i]? = some x → ys[i]? = some y → x.cells.length = y.cells.length)
      (hc : ∀ (i : Nat) (x y : AV) (j : Nat) (c d : AV), xs[i]? = some x → ys[i]? = some y → x.cells[j]? = some c → y.cells[j]? = some d → AV.leD c d) : AV.leD (.sl xs) (.sl ys)
theorem get_other {α β : Type} {l : List α} {m : List β} (hl : l.length = m.length) {i : Nat} {y : β} (h : m[i]? = some y) : ∃ x, l[i]? = some x := by
  have := (List.getElem?_eq_some_iff.1 h).1
  exact ⟨l[i], List.getElem?_eq_getElem (by omega)⟩
theorem AV.leD.sound {I : Imm} {L : Nat → Loc} {O : List AObj} {a b : AV} (h : AV.leD a b) : ∀ {x : Value}, R I L O a x → R I L O b x := by
  induction h with
  | refl => intro x hr; exact hr
  | nil => intro x hr; cases hr; exact .sl0 _ _
  | agg cs ds hl h ih =>
    intro x hr
    cases hr with
    | agg _ vs h1 h2 =>
      refine .agg _ _ (by omega) fun i d y hd hy => ?_
      obtain ⟨c, hc⟩ := get_other hl hd
      exact ih i c d hc hd (h2 i c y hc hy)
  | sl xs ys hl h hc ih =>
    intro x hr
    cases hr with
    | sl0 a c =>
      have : ys = [] := by cases ys with | nil => rfl | cons _ _ => simp at hl
      subst this
      exact .sl0 _ _
    | sl _ blk off cap s vals h1 h2 h3 h4 h5 =>
      rw [hl]
      have hg : ∀ (i : Nat) (y : AV) (j : Nat) (d : AV), ys[i]? = some y → y.cells[j]? = some d → ∃ x c, xs[i]? = some x ∧ x.cells[j]? = some c := fun i y j d hy hd => by
        obtain ⟨x, hx⟩ := get_other hl hy
        obtain ⟨c, hcc⟩ := get_other (h i x y hx hy) hd
        exact ⟨x, c, hx, hcc⟩
      refine .sl ys blk off cap s vals (by omega) (by rintro rfl; exact h2 (by cases xs with | nil => rfl | cons _ _ => simp at hl)) (fun i y hy => ?_) (fun i y j d hy hd => ?_) (fun i y j d hy hd => ?_)
      · obtain ⟨x, hx⟩ := get_other hl hy
        rw [← h i x y hx hy]; exact h3 i x hx
      · obtain ⟨x, c, hx, hcc⟩ := hg i y j d hy hd
        exact h4 i x j c hx hcc
      · obtain ⟨x, c, hx, hcc⟩ := hg i y j d hy hd
        exact ih i x y j c d hx hy hcc hd (h5 i x j c hx hcc)
end Go.Ab
/-
  TREES OF ONE's OWN IN THE LAWS' HELPERS: rows of elements whose slices have names; toXS; what a walk needs for marks.
-/
namespace Go.Ab
set_option maxRecDepth 100000
/- LISTS -/
theorem mid_get {α : Type} {B R : List α} {y d : α} {i : Nat} (h : B.length = i) : (B ++ y :: R).getD i d = y := by
  subst h; simp [List.getD]
theorem mid_set {α : Type} {B R : List α} {y z : α} {i : Nat} (h : B.length = i) : (B ++ y :: R).set i z = B ++ z :: R := by
  subst h; simp
/- SPLITS -/
theorem sp_length : ∀ (n : Nat) (cs : List AV), (sp n cs).1.length = cs.length
  | n, [] => rfl
  | n, c :: cs => by cases c <;> simp [sp, sp_length]
theorem sp_count : ∀ (n m : Nat) (cs : List AV), (sp n cs).2 = (sp m cs).2
  | n, m, [] => rfl
  | n, m, c :: cs => by
    cases c <;> simp only [sp] <;> first | exact sp_count n m cs | rw [sp_count (n + 1) (m + 1) cs]
/-- its slices alone -/
def slc : List AV → List AV
  | [] => []
  | .v _ :: r => slc r
  | a :: r => a :: slc r
theorem sp_objs : ∀ (n : Nat) (cs : List AV), (sp n cs).2 = (slc cs).map AObj.own
  | n, [] => rfl
  | n, c :: cs => by cases c <;> simp [sp, slc, sp_objs]
theorem sp_ren (b : Nat) : ∀ (n : Nat) (cs : List AV), (sp n cs).1.map (AV.ren fun k => b + k) = (sp (b + n) cs).1
  | n, [] => rfl
  | n, c :: cs => by
    cases c <;> simp only [sp, List.map_cons, AV.ren, sp_ren b, Nat.add_assoc]
theorem spx_ren (b n : Nat) (x : AV) : (spx n x).1.ren (fun k => b + k) = (spx (b + n) x).1 := by
  cases x <;> simp only [spx, AV.ren, rens_eq, sp_ren]
theorem spx_own (n : Nat) (x : AV) : ∀ ob ∈ (spx n x).2, ∃ d, ob = .own d := by
  intro ob h
  cases x <;> simp only [spx] at h
  case agg cs =>
    rw [sp_objs] at h
    obtain ⟨d, _, rfl⟩ := List.mem_map.1 h
    exact ⟨d, rfl⟩
  all_goals first | (simp at h; done) | (simp at h; exact ⟨_, h⟩)
theorem own_ren {s : Nat → Nat} {l : List AObj} (h : ∀ ob ∈ l, ∃ d, ob = .own d) : l.map (AObj.ren s) = l := by
  induction l with
  | nil => rfl
  | cons a l ih =>
    obtain ⟨d, rfl⟩ := h a (by simp)
    simp only [List.map_cons, AObj.ren, ih fun ob ho => h ob (by simp [ho])]
/-- cell j of the split: the value itself, or the next name -/
theorem sp_at : ∀ (n : Nat) (cs : List AV) (j : Nat) (c d : AV), (sp n cs).1[j]? = some c → cs[j]? = some d → (c = d ∧ ∃ v, d = .v v) ∨ ∃ k, c = .own (n + k) ∧ (sp n cs).2[k]? = some (.own d)
  | n, [], j, c, d, _, h => by simp at h
  | n, a :: cs, 0, c, d, hc, hd => by
    simp at hd; subst hd
    cases a <;> simp [sp] at hc <;> subst hc <;> first | exact .inl ⟨rfl, _, rfl⟩ | exact .inr ⟨0, rfl, rfl⟩
  | n, a :: cs, j + 1, c, d, hc, hd => by
    simp at hd
    cases a <;> simp [sp] at hc
    case v x => exact sp_at n cs j c d hc hd
    all_goals
      rcases sp_at (n + 1) cs j c d hc hd with h | ⟨k, rfl, hk⟩
      · exact .inl h
      · exact .inr ⟨k + 1, by congr 1; omega, by simpa [sp] using hk⟩
/-- each name stands at one place -/
theorem sp_inj : ∀ (n : Nat) (cs : List AV) (j j' k : Nat), (sp n cs).1[j]? = some (.own k) → (sp n cs).1[j']? = some (.own k) → (∀ c ∈ cs, ∀ m, c ≠ .own m) → n ≤ k ∧ k < n + (sp n cs).2.length ∧ j = j'
  | n, [], j, j', k, h, _, _ => by simp [sp] at h
  | n, a :: cs, j, j', k, h, h', hn => by
    have ih := fun n' j1 j2 h1 h2 => sp_inj n' cs j1 j2 k h1 h2 (fun c hc => hn c (by simp [hc]))
    cases a
    case v x =>
      cases j with
      | zero => simp [sp] at h
      | succ j =>
        cases j' with
        | zero => simp [sp] at h'
        | succ j' =>
          simp only [sp, List.getElem?_cons_succ] at h h'
          obtain ⟨h1, h2, h3⟩ := ih n j j' h h'
          exact ⟨h1, by simpa [sp] using h2, by omega⟩
    case own m => exact (hn (.own m) (by simp) m rfl).elim
    all_goals
      cases j with
      | zero =>
        simp [sp] at h
        subst h
        cases j' with
        | zero => exact ⟨Nat.le_refl _, by simp [sp], rfl⟩
        | succ j' =>
          simp only [sp, List.getElem?_cons_succ] at h'
          have := (ih (n + 1) j' j' h' h').1
          omega
      | succ j =>
        simp only [sp, List.getElem?_cons_succ] at h
        cases j' with
        | zero =>
          simp [sp] at h'
          subst h'
          have := (ih (n + 1) j j h h).1
          omega
        | succ j' =>
          simp only [sp, List.getElem?_cons_succ] at h'
          obtain ⟨h1, h2, h3⟩ := ih (n + 1) j j' h h'
          exact ⟨by omega, by simp only [sp, List.length_cons]; omega, by omega⟩
/-- an element that may lie in a row -/
def AV.elem (x : AV) : Bool := x.isAgg && x.storable && x.noref
theorem spx_agg {x : AV} (h : x.isAgg = true) (n : Nat) : spx n x = (.agg (sp n x.cells).1, (sp n x.cells).2) := by
  cases x <;> first | rfl | (simp [AV.isAgg] at h; done)
theorem noref_own {x : AV} (h : x.noref = true) : ∀ c ∈ x.cells, ∀ m, c ≠ .own m := by
  intro c hc m e
  subst e
  have := noref_cells h _ hc
  simp [AV.noref] at this
/- ENDS -/
theorem resK_mono {e : Env} {O : List AObj} : ∀ (rs : List ARes) (acc : List AV) (M M' : List AV → Prop), (∀ xs, M xs → M' xs) → resK e O rs acc M → resK e O rs acc M' := by
  intro rs
  induction rs with
  | nil => intro acc M M' hm h; exact hm _ h
  | cons r rs ih =>
    intro acc M M' hm h
    cases r with
    | tmp t => exact ih _ _ _ hm h
    | cell t n =>
      simp only [resK, ARes.get] at h ⊢
      split at h
      · split at h
        · exact ⟨h.1, ih _ _ _ hm h.2⟩
        · exact h.elim
      · exact h.elim
/-- of what was made some is kept, from number b on -/
theorem ret_from {rs : List ARes} {res rv : AV} {x : AX} (hx : x = .ret ∨ x = .normal) {e : Env} {O : List AObj} (b : Nat) (h : resK e O rs [] fun xs => packR xs = rv) (hr : rv = res.ren fun n => b + n) {O' : List AObj} (hO : O.drop b = O') (ho : ∀ ob ∈ O', ∃ d, ob = .own d)
    (hsc : res.inScope O'.length = true) : retK 0 rs res O' x e O := by
  subst hr
  have : resK e O rs [] fun xs => ∃ e', WK 0 (fun t => if t = 0 then packR xs else .top) O e' O' ∧ e' 0 = res := by
    refine resK_mono rs _ _ _ (fun xs hp => ?_) h
    refine ⟨fun t => if t = 0 then res else .top, .select (fun n => b + n) (fun i hi => ?_) (fun i j _ _ he => by omega) (fun ob hb => ?_) (fun t => ?_), rfl⟩
    · subst hO
      rw [List.getElem?_drop]
      cases hq : O[b + i]? with
      | none => rfl
      | some ob =>
        obtain ⟨d, rfl⟩ := ho ob (List.mem_of_getElem? (by rw [List.getElem?_drop]; exact hq))
        rfl
    · obtain ⟨d, rfl⟩ := ho ob hb; rfl
    · by_cases ht : t = 0
      · subst ht; exact .inr ⟨by simp [hp], by simpa using hsc⟩
      · exact .inl (by simp [ht])
  rcases hx with rfl | rfl <;> exact this
/- CALLS -/
/- toXS -/
theorem spx_cells {x : AV} (h : x.isAgg = true) (n : Nat) : (spx n x).1.cells.length = x.cells.length := by
  rw [spx_agg h]; simp only [AV.cells, sp_length]
/- DRAWN REGIONS -/
def drawK (P : Program) (n0 : Nat) (rows : List (List Nat)) (ops : List AOper) (Q : AX → Env → List AObj → Prop) (e : Env) (O : List AObj) : Prop := wpC P n0 (.region (some rows) ops) Q e O
theorem c_draw (P : Program) (n0 : Nat) (rows : List (List Nat)) (ops : List AOper) (Q : AX → Env → List AObj → Prop) (e : Env) (O : List AObj) : wpC P n0 (.region (some rows) ops) Q e O = drawK P n0 rows ops Q e O := nr rfl
theorem drawK_intro {P : Program} {n0 : Nat} {rows : List (List Nat)} {ops : List AOper} {Q : AX → Env → List AObj → Prop} {e : Env} {O : List AObj} (h : wpOpsL P ops [] e O fun labs e O => drawOkL rows (ops.zip labs) = true ∧ Q .normal e O) : drawK P n0 rows ops Q e O := ⟨ops, rfl, h⟩
def kontL (P : Program) (d : Option Nat) (e : Env) (r : List AOper) (acc : List Lab) (Q : List Lab → Env → List AObj → Prop) : KT := fun x O' => wpOpsL P r acc (setD e d x) O' Q
theorem k1_kontL (P : Program) (d : Option Nat) (e : Env) (r : List AOper) (acc : List Lab) (Q : List Lab → Env → List AObj → Prop) (a : AV) (O : List AObj) : k1 a O (kontL P d e r acc Q) = wpOpsL P r acc (setD e d a) O Q := nr rfl
theorem wpOpsL_kont (P : Program) (d : Option Nat) (op : AOp) (e : Env) (O : List AObj) (r : List AOper) (acc : List Lab) (Q : List Lab → Env → List AObj → Prop) :
    wpOpsL P (⟨none, d, op⟩ :: r) acc e O Q = wpOp P op e O (kontL P d e r (acc ++ [labOf op e O.length]) Q) := nr rfl
theorem wpOpsL_nil (P : Program) (e : Env) (O : List AObj) (acc : List Lab) (Q : List Lab → Env → List AObj → Prop) : wpOpsL P [] acc e O Q = Q acc e O := nr rfl
def beqK (neg : Bool) (a b : AV) (O : List AObj) (K : KT) : Prop := match a, b with
  | .v (.bool a), .v (.bool b) => K (.v (.bool (neg != (a == b)))) O
  | _, _ => False
theorem beqK_eq (neg a b : Bool) (O : List AObj) (K : KT) : beqK neg (.v (.bool a)) (.v (.bool b)) O K = k1 (.v (.bool (neg != (a == b)))) O K := nr rfl
theorem o_beq (P : Program) (neg : Bool) (x y : Opd) (e : Env) (O : List AObj) (K : KT) : wpOp P (.beq neg x y) e O K = beqK neg (x.ev e) (y.ev e) O K := nr rfl
theorem mid_set' {α : Type} {B R : List α} {y z : α} : (B ++ y :: R).set B.length z = B ++ z :: R := mid_set rfl
theorem PCon.any {P : Program} {f : FuncId} {args : List AV} {res : AV} (h : PCon P f args res) (hn : AV.norefs args = true) (hr : res.noref = true) (O : List AObj) : Con P f args O res O := by
  have := Con.fresh h hn O
  rwa [noref_ren res hr, List.map_nil, List.append_nil] at this
theorem cells_own (n : Nat) : (AV.own n).cells = [.own n] := nr rfl
theorem isCell_own (n : Nat) : (AV.own n).isCell = true := nr rfl
theorem storable_own (n : Nat) : (AV.own n).storable = true := nr rfl
theorem upd_own {a b : AV} {cs : List AV} {i : Nat} (n : Nat) (h : i < (a :: b :: cs).length) : upd (.agg (a :: b :: cs)) i (.own n) = .agg ((a :: b :: cs).set i (.own n)) := upd_one rfl h
theorem ren_own (s : Nat → Nat) (n : Nat) : (AV.own n).ren s = .own (s n) := nr rfl
theorem ren_v (s : Nat → Nat) (x : Value) : (AV.v x).ren s = .v x := nr rfl
theorem ren_agg (s : Nat → Nat) (cs : List AV) : (AV.agg cs).ren s = .agg (cs.map (AV.ren s)) := by simp only [AV.ren, rens_eq]
theorem oren_own (s : Nat → Nat) (a : AV) : (AObj.own a).ren s = .own a := nr rfl
theorem oren_dead (s : Nat → Nat) : AObj.dead.ren s = .dead := nr rfl
def AObj.isOwn : AObj → Bool
  | .own _ => true
  | _ => false
theorem owns_of {l : List AObj} (h : l.all AObj.isOwn = true) : ∀ ob ∈ l, ∃ d, ob = .own d := fun ob hb => by
  have := List.all_eq_true.1 h ob hb
  cases ob <;> simp [AObj.isOwn] at this
  exact ⟨_, rfl⟩
theorem kept_call {P : Program} {f : FuncId} {args : List AV} {res : AV} {O1 : List AObj} (h : Con P f args [] res O1) (hn : AV.norefs args = true) (ho : O1.all AObj.isOwn = true) (O : List AObj) : Con P f args O (res.ren fun n => O.length + n) (O ++ O1) := by
  have := h.fresh hn O
  rwa [own_ren (owns_of ho)] at this
mutual
/-- HOW MANY MARKS a tree takes -/
def AV.cnt : AV → Nat
  | .v _ => 1
  | .sl xs => AV.cnts xs
  | .agg cs => AV.cnts cs
  | _ => 0
def AV.cnts : List AV → Nat
  | [] => 0
  | x :: xs => x.cnt + AV.cnts xs
end
theorem cnts_length {α : Type} {f : α → AV} (h : ∀ x, 1 ≤ (f x).cnt) : ∀ l : List α, l.length ≤ AV.cnts (l.map f)
  | [] => Nat.zero_le _
  | x :: l => by
    have := h x
    have := cnts_length h l
    simp only [List.length_cons, List.map_cons, AV.cnts]
    omega
/- CALLS THAT ARE LENT WHAT IS OWNED -/
theorem Frz.ob {O : List AObj} {n : Nat} {nl : Bool} {e s : Nat} {xs : List AV} (h : O[n]? = some (rowOb nl e s xs)) (hn : AV.norefs xs = true) : Frz O (.row n xs.length) (.sl xs) := by
  unfold rowOb at h
  split at h
  · rename_i hh
    have : xs = [] := by cases xs with
      | nil => rfl
      | cons a l => simp at hh
    subst this
    exact .nil n _ _ h
  · exact .row n _ _ _ _ h rfl hn
theorem Frz.tree {O : List AObj} {m : Nat} {x : AV} (hx : x.elem = true) (h : ∀ (k : Nat) d, (spx 0 x).2[k]? = some (.own d) → O[m + k]? = some (.own d)) : Frz O (spx m x).1 x := by
  simp only [AV.elem, Bool.and_eq_true] at hx
  obtain ⟨⟨ha, hs⟩, hn⟩ := hx
  have hq := AV.agg_of ha
  rw [spx_agg ha]
  rw [spx_agg ha] at h
  rw [hq]
  rw [hq] at h
  refine .agg _ _ (sp_length m _) fun i a b hi hj => ?_
  simp only [AV.cells] at hi hj h
  rcases sp_at m x.cells i a b hi hj with ⟨rfl, v, rfl⟩ | ⟨k, rfl, hk⟩
  · exact .same _ rfl
  · exact .own _ _ (h k b (by rw [sp_count 0 m]; exact hk))
inductive FrzL (O : List AObj) : List AV → List AV → Prop
  | nil : FrzL O [] []
  | cons {a b : AV} {as bs : List AV} : Frz O a b → FrzL O as bs → FrzL O (a :: as) (b :: bs)
theorem FrzL.get {O : List AObj} {as bs : List AV} (h : FrzL O as bs) : as.length = bs.length ∧ ∀ (i : Nat) a b, as[i]? = some a → bs[i]? = some b → Frz O a b := by
  induction h with
  | nil => exact ⟨rfl, fun i a b h => by simp at h⟩
  | cons h _ ih =>
    refine ⟨by simp [ih.1], fun i a b ha hb => ?_⟩
    cases i with
    | zero => simp at ha hb; subst ha; subst hb; exact h
    | succ i => exact ih.2 i a b (by simpa using ha) (by simpa using hb)
theorem PCon.lendv {P : Program} {f : FuncId} {args fargs : List AV} {O : List AObj} {r : Value} (h : PCon P f fargs (.v r)) (hf : FrzL O args fargs) : Con P f args O (.v r) O := by
  have := Con.lend h hf.get.1 hf.get.2 rfl rfl
  rwa [List.map_nil, List.append_nil] at this
theorem memlesses_vals {α : Type} {f : α → AV} (h : ∀ x, (f x).memless = true) : ∀ l : List α, AV.memlesses (l.map f) = true
  | [] => rfl
  | x :: l => by simp [AV.memlesses, h x, memlesses_vals h l]
theorem FCon.lend {P : Program} {f : FuncId} {args fargs : List AV} {O : List AObj} {nl : Bool} {e s : Nat} {xs : List AV} (h : FCon P f fargs nl e s xs) (hf : FrzL O args fargs) (hx : AV.memlesses xs = true) (hn : AV.norefs xs = true) :
    Con P f args O (.row O.length xs.length) (O ++ [rowOb nl e s xs]) := by
  have := Con.lend h hf.get.1 hf.get.2 rfl (by simp only [rowOb]; split <;> simp [AObj.memless, hx])
  have he : (rowOb nl e s xs).ren (fun n => O.length + n) = rowOb nl e s xs := by
    unfold rowOb; split
    · rfl
    · simp only [AObj.ren]; rw [← rens_eq, norefs_rens xs hn]
  simp only [List.map_cons, List.map_nil, he, AV.ren, Nat.add_zero] at this
  exact this
/- MORE RULES -/
def puKK (o : PU) (xs : List AV) (O : List AObj) (K : KT) : Prop := AV.norefs xs = true ∧ puK o xs fun v => K v O
theorem o_pu (P : Program) (o : PU) (as : List Opd) (e : Env) (O : List AObj) (K : KT) : wpOp P (.pu o as) e O K = puKK o (as.map fun x => frz O (x.ev e)) O K := nr rfl
theorem puKK_max (k : IntKind) (a b : Int) (O : List AObj) (K : KT) : puKK .max [.v (.int k a), .v (.int k b)] O K = k1 (.v (.int k (max a b))) O K := by
  have : (if a < b then b else a) = max a b := by rw [Int.max_def]; split <;> split <;> omega
  simp [puKK, puK, puF, AV.norefs, AV.noref, k1, this]
/- MARKS THAT ARE KEPT -/
/-- a cell of a box that is nil is a slice of one's own to be -/
theorem WK.nilCell {n0 : Nat} {e : Env} {O : List AObj} {n ty z t' z' : Nat} {cs : List AV} {j : Nat} (hn : O[n]? = some (.live ty z [.agg cs])) (hj : cs[j]? = some .nils) :
    WK n0 e O e (O.set n (.live ty z [.agg (cs.set j (.row O.length 0))]) ++ [.nil t' z']) := by
  intro I0 L0 O0 w0 I L w f hl hg hr
  have hlt : n < O.length := (List.getElem?_eq_some_iff.1 hn).1
  let O' := O.set n (.live ty z [.agg (cs.set j (.row O.length 0))]) ++ [.nil t' z']
  have gn : O'[n]? = some (.live ty z [.agg (cs.set j (.row O.length 0))]) := by
    show (O.set n _ ++ _)[n]? = _
    rw [List.getElem?_append_left (by simpa using hlt), List.getElem?_set_self hlt]
  have go : ∀ {m : Nat}, m < O.length → m ≠ n → O'[m]? = O[m]? := fun {m} h h' => by
    show (O.set n _ ++ _)[m]? = _
    rw [List.getElem?_append_left (by simpa using h), List.getElem?_set_ne (Ne.symm h')]
  have gl : O'[O.length]? = some (.nil t' z') := by
    show (O.set n _ ++ _)[O.length]? = _
    rw [List.getElem?_append_right (by simp)]; simp
  have gx : ∀ {m : Nat} {ob : AObj}, O'[m]? = some ob → m = n ∨ (m < O.length ∧ m ≠ n) ∨ m = O.length := fun {m ob} h => by
    have : m < O'.length := (List.getElem?_eq_some_iff.1 h).1
    have h2 : O'.length = O.length + 1 := by simp [O']
    omega
  have live : ∀ {m e' k : Nat} {xs : List AV}, O'[m]? = some (AObj.live e' k xs) → ∃ ys : List AV, O[m]? = some (AObj.live e' k ys) ∧ ys.length = xs.length := fun {m e' k xs} h => by
    rcases gx h with rfl | ⟨h1, h2⟩ | rfl
    · rw [gn] at h; cases h; exact ⟨_, hn, rfl⟩
    · rw [go h1 h2] at h; exact ⟨xs, h, rfl⟩
    · rw [gl] at h; cases h
  have own : ∀ {m : Nat} {a : AV}, O'[m]? = some (AObj.own a) → O[m]? = some (AObj.own a) := fun {m a} h => by
    rcases gx h with rfl | ⟨h1, h2⟩ | rfl
    · rw [gn] at h; cases h
    · rwa [go h1 h2] at h
    · rw [gl] at h; cases h
  have ext : Ext I L O I L O' := by
    refine ⟨fun _ _ _ h => h, by simp [O'], fun m hm e' k xs hx => ?_, fun m hm e' k hx => ?_, fun m hm a hx => ⟨⟨a, own hx⟩, rfl⟩⟩
    · obtain ⟨ys, h1, h2⟩ := live hx
      exact .inl ⟨ys, h1, by omega, fun _ => rfl⟩
    · by_cases hmn : m = n
      · subst hmn; rw [gn] at hx; cases hx
      · rwa [go hm hmn] at hx
  have hi := hg.inv
  refine ⟨I, L, ⟨⟨hi.imm, fun m e' k xs hx => ?_, fun m m' e' k xs e'' k' ys hx hy hb => ?_, fun m e' k xs o hx => ?_, hi.fix, hi.blk, hi.ow.same (fun m a h => ⟨own h, rfl⟩) (fun b o v hv => .inl ⟨o, v, hv⟩) (fun m e' k xs hx => ?_) rfl⟩, hg.ext.trans ext, hg.frm, ?_, hg.immNew⟩, fun t => (hr t).mono ext⟩
  · rcases gx hx with rfl | ⟨h1, h2⟩ | rfl
    · rw [gn] at hx; cases hx
      obtain ⟨c, q1, q2, q3, q4, q5, q6⟩ := hi.obj m _ _ _ hn
      refine ⟨c, q1, q2, q3, q4, q5, fun i x hx => ?_⟩
      cases i with
      | succ i => simp at hx
      | zero =>
        simp at hx; subst hx
        obtain ⟨r1, r2⟩ := q6 0 _ rfl
        refine ⟨by simpa [AV.cells] using r1, fun i a ha => ?_⟩
        simp only [AV.cells] at ha r2
        rw [List.getElem?_set] at ha
        split at ha
        · rename_i hji
          subst hji
          split at ha
          · cases ha
            obtain ⟨y, hy, ho, hry⟩ := r2 j _ hj
            cases hry
            exact ⟨_, hy, ho, .rowNil O.length t' z' gl⟩
          · cases ha
        · obtain ⟨y, hy, ho, hry⟩ := r2 i a ha
          exact ⟨y, hy, ho, hry.mono ext⟩
    · rw [go h1 h2] at hx
      exact (hi.obj m _ _ _ hx).congr rfl fun _ _ h => h.mono ext
    · rw [gl] at hx; cases hx
  · obtain ⟨ys', h1, _⟩ := live hx
    obtain ⟨ys'', h2, _⟩ := live hy
    exact hi.sep m m' _ _ _ _ _ _ h1 h2 hb
  · obtain ⟨ys', h1, _⟩ := live hx
    exact hi.immSep m _ _ _ o h1
  · obtain ⟨ys', h1, _⟩ := live hx
    exact .inl ⟨m, _, _, _, h1, rfl⟩
  · rintro b (⟨m, e', k, xs, hx, hb⟩ | ⟨m, a, o, v, hx, hv⟩)
    · obtain ⟨ys', h1, _⟩ := live hx
      exact hg.lb b (.inl ⟨m, _, _, _, h1, hb⟩)
    · exact hg.lb b (.inr ⟨m, a, o, v, own hx, hv⟩)
def fcallK (P : Program) (f : FuncId) (args : List AV) (O : List AObj) (K : KT) : Prop := ∃ res ob, AV.norefs args = true ∧ Con P f args [] res [ob] ∧ K (res.ren fun n => O.length + n) (O ++ [ob.ren fun n => O.length + n])
theorem o_fcall (P : Program) (nl : Bool) (t s : Nat) (f : FuncId) (as : List Opd) (e : Env) (O : List AObj) (K : KT) : wpOp P (.fcall nl t s f as) e O K = fcallK P f (as.map (Opd.ev e)) O K := nr rfl
theorem fcallK_intro {P : Program} {f : FuncId} {args : List AV} {O : List AObj} {K : KT} {res : AV} {a : AV} (h : Con P f args [] res [.own a]) (hn : AV.norefs args = true) (k : k1 (res.ren fun n => O.length + n) (O ++ [.own a]) K) : fcallK P f args O K := ⟨res, .own a, hn, h, k⟩
def lcallK (P : Program) (rd : List Nat) (f : FuncId) (args : List AV) (O : List AObj) (K : KT) : Prop := ∃ res ob, (∀ O' : List AObj, O'.length = O.length → (∀ n ∈ rd, O'[n]? = O[n]?) → Con P f args O' res (O' ++ [ob])) ∧ K res (O ++ [ob])
def kcallK (P : Program) (rd : List Nat) (f : FuncId) (args : List AV) (O : List AObj) (K : KT) : Prop := ∃ res, (∀ O' : List AObj, (∀ n ∈ rd, O'[n]? = O[n]?) → Con P f args O' res O') ∧ K res O
theorem o_lcall (P : Program) (rd : List Nat) (f : FuncId) (as : List Opd) (e : Env) (O : List AObj) (K : KT) : wpOp P (.lcall rd f as) e O K = lcallK P rd f (as.map (Opd.ev e)) O K := nr rfl
theorem o_kcall (P : Program) (rd : List Nat) (f : FuncId) (as : List Opd) (e : Env) (O : List AObj) (K : KT) : wpOp P (.kcall rd f as) e O K = kcallK P rd f (as.map (Opd.ev e)) O K := nr rfl
theorem lcallK_intro {P : Program} {rd : List Nat} {f : FuncId} {args fargs : List AV} {O : List AObj} {K : KT} {res : AV} {ob : AObj} (h : Con P f fargs [] res [ob]) (hz : ∀ O' : List AObj, O'.length = O.length → (∀ n ∈ rd, O'[n]? = O[n]?) → FrzL O' args fargs) (h1 : res.memless = true) (h2 : ob.memless = true)
    (k : k1 (res.ren fun n => O.length + n) (O ++ [ob.ren fun n => O.length + n]) K) : lcallK P rd f args O K := by
  refine ⟨_, _, fun O' hl hr => ?_, k⟩
  have hg := (hz O' hl hr).get
  have := Con.lend h hg.1 hg.2 h1 (by simp [h2])
  rw [hl] at this
  exact this
theorem kcallK_intro {P : Program} {rd : List Nat} {f : FuncId} {args fargs : List AV} {O : List AObj} {K : KT} {r : Value} (h : PCon P f fargs (.v r)) (hz : ∀ O' : List AObj, (∀ n ∈ rd, O'[n]? = O[n]?) → FrzL O' args fargs) (k : k1 (.v r) O K) : kcallK P rd f args O K :=
  ⟨_, fun O' hr => PCon.lendv h (hz O' hr), k⟩
def gopLK (P : Program) (a : AV) (want : Bool) (t : Nat) (d : Option Nat) (op : AOp) (r : List AOper) (acc : List Lab) (e : Env) (O : List AObj) (Q : List Lab → Env → List AObj → Prop) : Prop := match a with
  | .v (.bool b) =>
    (b = want → wpOp P op (e.set t (.v (.bool want))) O (kontL P d (e.set t (.v (.bool want))) r (acc ++ [labOf op (e.set t (.v (.bool want))) O.length]) Q)) ∧
    (b = !want → wpOpsL P r (acc ++ [⟨[], .nop⟩]) (setD (e.set t (.v (.bool (!want)))) d (.tup [])) O Q)
  | .tup [] => wpOpsL P r (acc ++ [⟨[], .nop⟩]) (setD e d (.tup [])) O Q
  | _ => False
section
variable (P : Program) (t : Nat) (d : Option Nat) (op : AOp) (r : List AOper) (acc : List Lab) (e : Env) (O : List AObj) (Q : List Lab → Env → List AObj → Prop)
theorem l_guard (want : Bool) : wpOpsL P (⟨some (t, want), d, op⟩ :: r) acc e O Q = gopLK P (e t) want t d op r acc e O Q := by
  simp only [wpOpsL]; unfold gopLK kontL; cases e t <;> try rfl
theorem gopLK_tt : gopLK P (.v (.bool true)) true t d op r acc e O Q = wpOp P op (e.set t (.v (.bool true))) O (kontL P d (e.set t (.v (.bool true))) r (acc ++ [labOf op (e.set t (.v (.bool true))) O.length]) Q) := by simp [gopLK]
theorem gopLK_ff : gopLK P (.v (.bool false)) false t d op r acc e O Q = wpOp P op (e.set t (.v (.bool false))) O (kontL P d (e.set t (.v (.bool false))) r (acc ++ [labOf op (e.set t (.v (.bool false))) O.length]) Q) := by simp [gopLK]
theorem gopLK_tf : gopLK P (.v (.bool true)) false t d op r acc e O Q = wpOpsL P r (acc ++ [⟨[], .nop⟩]) (setD (e.set t (.v (.bool true))) d (.tup [])) O Q := by simp [gopLK]
theorem gopLK_ft : gopLK P (.v (.bool false)) true t d op r acc e O Q = wpOpsL P r (acc ++ [⟨[], .nop⟩]) (setD (e.set t (.v (.bool false))) d (.tup [])) O Q := by simp [gopLK]
theorem gopLK_skip (want : Bool) : gopLK P (.tup []) want t d op r acc e O Q = wpOpsL P r (acc ++ [⟨[], .nop⟩]) (setD e d (.tup [])) O Q := by simp [gopLK]
end
theorem Split.congr {O O' : List AObj} {ys xs : List AV} (h : Split O ys xs) (ho : ∀ (m : Nat) d, O[m]? = some (.own d) → O'[m]? = some (.own d)) : Split O' ys xs :=
  ⟨h.len, h.cells, fun i y x j c d hy hx hc hd => (h.half i y x j c d hy hx hc hd).imp id fun ⟨k, h1, h2⟩ => ⟨k, h1, ho k d h2⟩, h.inj⟩
theorem Split.nil (O : List AObj) : Split O [] [] := ⟨rfl, fun i y x h => by simp at h, fun i y x j c d h => by simp at h, fun i y j i' y' j' k h => by simp at h⟩
/-- one more element, with new names -/
theorem Split.snoc {O N : List AObj} {ys xs : List AV} (h : Split O ys xs) {x : AV} {b : Nat} (hb : O.length ≤ b) (hx : x.elem = true) (ho : ∀ (k : Nat) d, (spx 0 x).2[k]? = some (.own d) → (O ++ N)[b + k]? = some (.own d)) :
    Split (O ++ N) (ys ++ [(spx b x).1]) (xs ++ [x]) := by
  have hx' := hx
  simp only [AV.elem, Bool.and_eq_true] at hx
  obtain ⟨⟨ha, _⟩, hn⟩ := hx
  have hcl := spx_cells ha b
  have hno := noref_own hn
  have q := spx_agg ha b
  have hq0 := spx_agg ha 0
  have old : ∀ {i : Nat} {y : AV}, (ys ++ [(spx b x).1])[i]? = some y → (ys[i]? = some y ∧ i < ys.length) ∨ (i = ys.length ∧ y = (spx b x).1) := fun {i y} hi => by
    by_cases hlt : i < ys.length
    · rw [List.getElem?_append_left hlt] at hi; exact .inl ⟨hi, hlt⟩
    · rw [List.getElem?_append_right (by omega)] at hi
      have : i - ys.length = 0 := by
        rcases Nat.eq_zero_or_pos (i - ys.length) with h0 | h0
        · exact h0
        · rw [List.getElem?_eq_none (by simp; omega)] at hi; cases hi
      rw [this] at hi
      simp at hi
      exact .inr ⟨by omega, hi.symm⟩
  have oldx : ∀ {i : Nat} {z : AV}, (xs ++ [x])[i]? = some z → (i < ys.length → xs[i]? = some z) ∧ (i = ys.length → z = x) := fun {i z} hi => by
    refine ⟨fun hlt => ?_, fun he => ?_⟩
    · rwa [List.getElem?_append_left (by rw [← h.len]; exact hlt)] at hi
    · rw [List.getElem?_append_right (by rw [← h.len]; omega), he, h.len, Nat.sub_self] at hi
      simp at hi; exact hi.symm
  have ref : ∀ {i : Nat} {y : AV} {j k : Nat}, ys[i]? = some y → y.cells[j]? = some (.own k) → k < O.length := fun {i y j k} hi hj => by
    have hlt := (List.getElem?_eq_some_iff.1 hi).1
    obtain ⟨z, hz⟩ : ∃ z, xs[i]? = some z := ⟨xs[i]'(by rw [← h.len]; exact hlt), by simp [← h.len, hlt]⟩
    have hl := h.cells i y z hi hz
    have hjl := (List.getElem?_eq_some_iff.1 hj).1
    obtain ⟨d, hd⟩ : ∃ d, z.cells[j]? = some d := ⟨z.cells[j]'(by omega), by simp <;> omega⟩
    rcases h.half i y z j _ d hi hz hj hd with ⟨h1, v, h2⟩ | ⟨m, h1, h2⟩
    · rw [← h1] at h2; cases h2
    · cases h1; exact (List.getElem?_eq_some_iff.1 h2).1
  have refn : ∀ {j k : Nat}, (spx b x).1.cells[j]? = some (.own k) → b ≤ k := fun {j k} hj => by
    rw [q] at hj
    exact (sp_inj b x.cells j j k (by simpa [AV.cells] using hj) (by simpa [AV.cells] using hj) hno).1
  refine ⟨by simp [h.len], fun i y z hy hz => ?_, fun i y z j c d hy hz hc hd => ?_, fun i y j i' y' j' k h1 h2 h3 h4 => ?_⟩
  · rcases old hy with ⟨h1, h2⟩ | ⟨h1, rfl⟩
    · exact h.cells i y z h1 ((oldx hz).1 h2)
    · rw [(oldx hz).2 h1]; exact hcl
  · rcases old hy with ⟨h1, h2⟩ | ⟨h1, rfl⟩
    · rcases h.half i y z j c d h1 ((oldx hz).1 h2) hc hd with h3 | ⟨k, h3, h4⟩
      · exact .inl h3
      · exact .inr ⟨k, h3, by rw [List.getElem?_append_left (List.getElem?_eq_some_iff.1 h4).1]; exact h4⟩
    · rw [(oldx hz).2 h1] at hd
      rw [q] at hc
      rcases sp_at b x.cells j c d (by simpa [AV.cells] using hc) hd with h3 | ⟨k, h3, h4⟩
      · exact .inl h3
      · exact .inr ⟨b + k, h3, ho k d (by rw [hq0, sp_count 0 b]; exact h4)⟩
  · rcases old h1 with ⟨h5, h6⟩ | ⟨h5, rfl⟩ <;> rcases old h3 with ⟨h7, h8⟩ | ⟨h7, rfl⟩
    · exact h.inj i y j i' y' j' k h5 h2 h7 h4
    · have := ref h5 h2; have := refn h4; omega
    · have := ref h7 h4; have := refn h2; omega
    · rw [q] at h2 h4
      exact ⟨by omega, (sp_inj b x.cells j j' k (by simpa [AV.cells] using h2) (by simpa [AV.cells] using h4) hno).2.2⟩
open Classical in
/-- at the end: a row among the cells of what is given back is a tree of one's own -/
theorem ret_close {rs : List ARes} {x : AX} (hx : x = .ret ∨ x = .normal) {e : Env} {O : List AObj} {cs : List AV} {j k len ty z : Nat} {ys xs : List AV} (h : resK e O rs [] fun xs => packR xs = .agg cs) (hj : cs[j]? = some (.row k len)) (hv : ∀ (i : Nat) c, i ≠ j → cs[i]? = some c → ∃ v, c = .v v)
    (hO : O[k]? = some (rowOb true ty z ys)) (hl : ys.length = len) (hs : Split O ys xs) : retK 0 rs (.agg (cs.set j (.own 0))) [.own (.sl xs)] x e O := by
  have : resK e O rs [] fun xs' => ∃ e', WK 0 (fun t => if t = 0 then packR xs' else .top) O e' [.own (.sl xs)] ∧ e' 0 = .agg (cs.set j (.own 0)) := by
    refine resK_mono rs _ _ _ (fun xs' hp => ?_) h
    refine ⟨fun t => if t = 0 then .agg (cs.set j (.own 0)) else .top, ?_, rfl⟩
    intro I0 L0 O0 w0 I L w f hl0 hg hr
    obtain rfl : O0 = [] := List.eq_nil_of_length_eq_zero hl0
    have hr0 := hr 0
    simp only [if_true, hp] at hr0
    generalize hf : f 0 = y0 at hr0
    cases hr0 with
    | agg _ vs h1 h2 =>
    have hjl := (List.getElem?_eq_some_iff.1 hj).1
    have hjv : vs[j]? = some (vs[j]'(by omega)) := by simp [h1 ▸ hjl]
    have hrj := h2 j _ _ hj hjv
    obtain ⟨S, hS, hb⟩ : ∃ S : Nat → Prop, OT w (.sl xs) (vs[j]'(by omega)) S ∧ ∀ b, S b → LB L O b := by
      by_cases hy : ys = []
      · subst hy
        have hxs : xs = [] := List.eq_nil_of_length_eq_zero (by rw [← hs.len]; rfl)
        subst hxs
        have hO' : O[k]? = some (.nil ty z) := by rw [hO]; simp [rowOb]
        rw [(hrj.row_nil hO').1]
        exact ⟨_, .sl0 _ _, fun b h => h.elim⟩
      · have hO' : O[k]? = some (.live ty z ys) := by rw [hO]; simp [rowOb, hy]
        rw [hrj.row_live hO' hl, ← hl, hs.len]
        exact hg.inv.closes hO' hs
    have hinv := hg.inv.one_own hS hb
    refine ⟨I, _, ⟨hinv, ⟨hg.ext.imm, Nat.zero_le _, fun n hn => by simp at hn, fun n hn => by simp at hn, fun n hn => by simp at hn⟩, hg.frm, ?_, hg.immNew⟩, fun t => ?_⟩
    · rintro b (⟨n, e', s', xs', hn, _⟩ | ⟨n, a, o, v, hn, hv'⟩)
      · cases n <;> simp at hn
      · have hSb : S b := by
          by_cases hb' : S b
          · exact hb'
          · simp [hb'] at hv'
        exact hg.lb b (hb b hSb)
    · by_cases ht : t = 0
      · subst ht
        simp only [if_true]
        rw [hf]
        refine .agg _ vs (by simpa using h1) fun i c q hc hq => ?_
        rw [List.getElem?_set] at hc
        split at hc
        · rename_i hji
          subst hji
          cases hc
          rw [hjv] at hq
          cases hq
          exact .ownLive 0 (.sl xs) rfl hS.oneCell
        · rename_i hji
          obtain ⟨v, rfl⟩ := hv i c (fun h => hji h.symm) hc
          have := h2 i _ q hc hq
          cases this
          exact .v _ (by assumption)
      · simp only [if_neg ht]; exact .top _
  rcases hx with rfl | rfl <;> exact this
/-- the rules of such walks, in few names -/
def OD0 := And.intro @c_draw (And.intro @wpOpsL_kont (And.intro @wpOpsL_nil (And.intro @o_beq (And.intro @o_pu (And.intro @l_guard (And.intro @o_fcall (And.intro @o_lcall (And.intro @o_kcall (And.intro @wpC_skip (And.intro @wpC_region (And.intro @c_seq (And.intro @c_cond (And.intro @c_block (And.intro @wpC_exit (And.intro @wpC_ret (And.intro @c_keep (And.intro @c_loop (And.intro @wpOps_nil (@wpOps_kont)))))))))))))))))))
def OD1 := And.intro @c_guard (And.intro @seqQ_n (And.intro @seqQ_e (And.intro @seqQ_r (And.intro @blockQ_n (And.intro @blockQ_e (And.intro @blockQ_r (And.intro @keepQ_n (And.intro @keepQ_e (And.intro @keepQ_r (And.intro @roundQ_e (And.intro @roundQ_r (And.intro @o_mov (And.intro @o_pick (And.intro @o_alloc (And.intro @o_box (And.intro @o_build (And.intro @o_buildSlice (And.intro @o_load (@o_store)))))))))))))))))))
def OD2 := And.intro @o_bin (And.intro @o_un (And.intro @o_conv (And.intro @o_faddr (And.intro @o_fld (And.intro @o_iaddr (And.intro @o_aaddr (And.intro @o_idxS (And.intro @o_sliceS (And.intro @o_sliceL (And.intro @o_mk (And.intro @o_lenS (And.intro @o_lenL (And.intro @o_app (And.intro @o_ext (And.intro @o_nilc (And.intro @o_mkfn (And.intro @o_call (And.intro @o_callv (@o_pcall)))))))))))))))))))
def OD3 := And.intro @o_pcallv (And.intro @o_qcall (And.intro @o_qcallv (And.intro @setD_some (@setD_none))))
def OA0 := And.intro @cells_own (And.intro @isCell_own (And.intro @storable_own (And.intro @upd_own (And.intro @ren_own (And.intro @ren_v (And.intro @ren_agg (And.intro @oren_own (And.intro @oren_dead (And.intro @k1_kontL (And.intro @beqK_eq (And.intro @gopLK_tt (And.intro @gopLK_ff (And.intro @gopLK_tf (And.intro @gopLK_ft (And.intro @gopLK_skip (And.intro @puKK_max (And.intro @k1_kont (And.intro @pickK_true (@pickK_false)))))))))))))))))))
def OA1 := And.intro @pickK_bool (And.intro @boxK_eq (And.intro @bldK_nil (And.intro @bldK_cons (And.intro @bslK_nil (And.intro @bslK_cons (And.intro @objK_live (And.intro @objN_live (And.intro @objN_nil (And.intro @loadK_iptr (And.intro @loadK_ptr (And.intro @storeK_ptr (And.intro @binK_add (And.intro @binK_sub (And.intro @binK_mul (And.intro @binK_and (And.intro @binK_or (And.intro @binK_xor (And.intro @binK_quo (@binK_rem)))))))))))))))))))
def OA2 := And.intro @binK_eql (And.intro @binK_neq (And.intro @binK_lss (And.intro @binK_leq (And.intro @binK_gtr (And.intro @binK_geq (And.intro @binK_shl (And.intro @binK_shr (And.intro @binK_sadd (And.intro @binK_seql (And.intro @binK_sneq (And.intro @unK_not (And.intro @unK_neg (And.intro @convK_eq (And.intro @faddrK_iptr (And.intro @faddrK_ptr (And.intro @fldK_eq (And.intro @iaddrK_sl (And.intro @aaddrK_iptr (@aaddrK_ptr)))))))))))))))))))
def OA3 := And.intro @iaddrK_row (And.intro @idxSK_eq (And.intro @bnd_none (And.intro @bnd_some (And.intro @sliceSK_eq (And.intro @sliceLK_eq (And.intro @mkK_eq (And.intro @lenSK_eq (And.intro @lenLK_nils (And.intro @lenLK_sl (And.intro @lenLK_row (And.intro @srcOf_nils (And.intro @srcOf_sl (And.intro @srcOf_row (And.intro @ontoK_nils1 (And.intro @ontoK_nils (And.intro @ontoK_row (And.intro @extK_eq (And.intro @nilcK_iptr (@nilcK_fn)))))))))))))))))))
def OA4 := And.intro @nilcK_ptr (And.intro @callvK_fn (And.intro @qcallvK_fn (And.intro @pcallvK_fn (And.intro @gopK_tt (And.intro @gopK_tf (And.intro @gopK_ft (And.intro @gopK_ff (And.intro @gopK_skip (And.intro @condK_true (And.intro @condK_false (And.intro @loadC_whole (And.intro @loadC_none (And.intro @upd_whole (And.intro @upd_v (And.intro @upd_sl (And.intro @upd_nils (And.intro @upd_row (And.intro @upd_ptr (@upd_fn)))))))))))))))))))
def OA5 := And.intro @upd_agg (And.intro @upd_agg0 (And.intro @frz_v (And.intro @frz_sl (And.intro @frz_nils (And.intro @frz_agg (And.intro @frz_fn (And.intro @resK_nil (And.intro @resK_tmp (And.intro @resK_cell (And.intro @cellK_ptr (And.intro @cellOK_live (And.intro @packR_one (And.intro @packR_more (And.intro @List.reverse_cons.{0} (And.intro @List.reverse_nil.{0} (And.intro @ne_eq.{1} (And.intro @Nat.add_eq_zero_iff (And.intro @not_false_eq_true (@Nat.one_ne_zero)))))))))))))))))))
def OA6 := And.intro @ev_t (And.intro @ev_c (And.intro @set_at (And.intro @entry_at (And.intro @envL_cons (And.intro @keepE_eq (And.intro @List.map_cons.{0,0} (And.intro @List.map_nil.{0,0} (And.intro @Option.map_some.{0,0} (And.intro @Option.map_none.{0,0} (And.intro @List.getD_cons_zero.{0} (And.intro @List.getD_cons_succ.{0} (And.intro @List.length_nil.{0} (And.intro @List.length_cons.{0} (And.intro @List.length_append.{0} (And.intro @List.length_set.{0} (And.intro @List.nil_append.{0} (And.intro @List.cons_append.{0} (And.intro @List.append_nil.{0} (@List.getElem?_cons_zero.{0})))))))))))))))))))
def OA7 := And.intro @List.getElem?_cons_succ.{0} (And.intro @List.set_cons_zero.{0} (And.intro @List.set_cons_succ.{0} (And.intro @List.drop_succ_cons.{0} (And.intro @List.drop_zero.{0} (And.intro @List.take_succ_cons.{0} (And.intro @List.take_zero.{0} (And.intro @List.replicate_succ.{0} (And.intro @List.replicate_zero.{0} (And.intro @if_true.{1} (And.intro @if_false.{1} (And.intro @cells_agg (And.intro @cells_v (And.intro @cells_nils (And.intro @cells_sl (And.intro @cells_row (And.intro @cells_ptr (And.intro @cells_fn (And.intro @isAgg_agg (@isCell_v)))))))))))))))))))
def OA8 := And.intro @isCell_nils (And.intro @isCell_sl (And.intro @isCell_row (And.intro @isCell_ptr (And.intro @isCell_fn (And.intro @storable_agg (And.intro @storable_v (And.intro @storable_nils (And.intro @storable_sl (And.intro @storable_row (And.intro @storable_ptr (And.intro @storable_fn (And.intro @frz_noref (And.intro @aft_flat (And.intro @flat_v (And.intro @norefs_nil (And.intro @norefs_cons (And.intro @noref_v (And.intro @noref_sl (@noref_agg)))))))))))))))))))
def OA9 := And.intro @noref_tup (And.intro @noref_nils (And.intro @noref_fn (And.intro @List.all_cons.{0} (And.intro @List.all_nil.{0} (And.intro @Bool.and_true (And.intro @Bool.true_and (And.intro @Bool.or_true (And.intro @Bool.true_or (And.intro @Bool.not_true (And.intro @Bool.not_false (And.intro @decide_true (And.intro @decide_false (And.intro @dlt0 (And.intro @Option.getD_none.{0} (And.intro @Option.getD_some.{0} (And.intro @true_and (And.intro @and_true (And.intro @Nat.zero_add (@Nat.add_zero)))))))))))))))))))
def OA10 := And.intro @Nat.lt_add_one (And.intro @Nat.zero_lt_succ (@Nat.le_refl))
def OD := And.intro @OD0 (And.intro @OD1 (And.intro @OD2 (@OD3)))
def OA := And.intro @OA0 (And.intro @OA1 (And.intro @OA2 (And.intro @OA3 (And.intro @OA4 (And.intro @OA5 (And.intro @OA6 (And.intro @OA7 (And.intro @OA8 (And.intro @OA9 (@OA10))))))))))
end Go.Ab
