/-
  REGIONS THAT DRAW THEIR ORDER (1): which operations may change places, and that they may.
-/
import Derived.Test.YtaaoifpijmbhoaaAbCode
set_option linter.unusedVariables false
set_option linter.unusedSimpArgs false
set_option linter.defProp false
namespace Go.Ab

def Opd.rd : Opd → List Nat
  | .t n => [n]
  | .c _ => []

def optRd : Option Opd → List Nat
  | some x => x.rd
  | none => []

def AOp.reads : AOp → List Nat
  | .mov x | .box _ _ x | .load _ x | .un _ x | .convInt _ x | .faddr _ x | .fld _ _ x | .lenS x | .lenL x | .ext x _ | .nilc x => x.rd
  | .alloc _ _ _ => []
  | .pick c a b => c.rd ++ a.rd ++ b.rd
  | .build _ ps => ps.flatMap fun p => p.2.2.rd
  | .buildSlice _ _ _ _ ps => ps.flatMap fun p => p.2.rd
  | .store _ x y | .bin _ x y | .beq _ x y | .iaddr _ x y | .idxS x y | .app _ _ _ x y | .mk _ _ _ _ x y => x.rd ++ y.rd
  | .sliceS x l h | .sliceL _ x l h => x.rd ++ optRd l ++ optRd h
  | .mkfn _ cs => cs.flatMap Opd.rd
  | .call _ as | .pcall _ as | .qcall _ as => as.flatMap Opd.rd
  | .callv x as | .pcallv x as | .qcallv x as => x.rd ++ as.flatMap Opd.rd

/-- 0: hangs on its operands alone · 1: reads what is owned · 2: makes an object · 3: any -/
def AOp.cls : AOp → Nat
  | .mov _ | .pick _ _ _ | .build _ _ | .bin _ _ _ | .beq _ _ _ | .un _ _ | .convInt _ _ | .fld _ _ _ | .idxS _ _ | .sliceS _ _ _ | .sliceL _ _ _ _ | .ext _ _ | .mkfn _ _ | .lenS _ | .qcall _ _ | .qcallv _ _ => 0
  | .load _ _ | .faddr _ _ | .nilc _ | .iaddr _ _ _ | .lenL _ => 1
  | .alloc _ _ _ | .box _ _ _ | .buildSlice _ _ _ _ _ | .mk _ _ _ _ _ _ => 2
  | _ => 3

def agree (l : List Nat) (e e' : Env) : Prop := ∀ t ∈ l, e t = e' t

theorem agree.ev {x : Opd} {e e' : Env} {l : List Nat} (h : agree l e e') (hx : ∀ t ∈ x.rd, t ∈ l) : x.ev e = x.ev e' := by
  cases x with
  | t n => exact h n (hx n (by simp [Opd.rd]))
  | c a => rfl

theorem agree.evs {xs : List Opd} {e e' : Env} {l : List Nat} (h : agree l e e') (hx : ∀ t ∈ xs.flatMap Opd.rd, t ∈ l) : xs.map (Opd.ev e) = xs.map (Opd.ev e') := by
  apply List.map_congr_left
  intro x hm
  exact h.ev fun t ht => hx t (List.mem_flatMap.2 ⟨x, hm, ht⟩)

theorem boundK_congr {d : Int} {e e' : Env} {x : Option Opd} {l : List Nat} (h : agree l e e') (hx : ∀ t ∈ optRd x, t ∈ l) (K : Int → Prop) : boundK d e x K = boundK d e' x K := by
  cases x with
  | none => rfl
  | some o => simp only [boundK]; rw [h.ev hx]

theorem buildK_congr {e e' : Env} {l : List Nat} (h : agree l e e') : ∀ (ps : List (Nat × Nat × Opd)) (z : List AV) (K : AV → Prop), (∀ t ∈ ps.flatMap (fun p => p.2.2.rd), t ∈ l) → buildK e z ps K = buildK e' z ps K
  | [], _, _, _ => rfl
  | (off, size, x) :: r, z, K, hx => by
    simp only [buildK]
    rw [h.ev (x := x) fun t ht => hx t (by simp [ht]), buildK_congr h r _ K fun t ht => hx t (by simp only [List.flatMap_cons, List.mem_append]; exact .inr ht)]

theorem rowK_congr {e e' : Env} {l : List Nat} (h : agree l e e') (s : Nat) : ∀ (ps : List (Nat × Opd)) (z : List AV) (K : List AV → Prop), (∀ t ∈ ps.flatMap (fun p => p.2.rd), t ∈ l) → rowK e s z ps K = rowK e' s z ps K
  | [], _, _, _ => rfl
  | (i, x) :: r, z, K, hx => by
    simp only [rowK]
    rw [h.ev (x := x) fun t ht => hx t (by simp [ht]), rowK_congr h s r _ K fun t ht => hx t (by simp only [List.flatMap_cons, List.mem_append]; exact .inr ht)]

theorem wpOp_congr {P : Program} {o : AOp} {e e' : Env} (h : agree o.reads e e') (O : List AObj) (K : AV → List AObj → Prop) : wpOp P o e O K = wpOp P o e' O K := by
  cases o <;> simp only [AOp.reads] at h <;> simp only [wpOp]
  case mov x => rw [h.ev fun t ht => ht]
  case pick c a b => rw [h.ev (x := c) (by simp +contextual), h.ev (x := a) (by simp +contextual), h.ev (x := b) (by simp +contextual)]
  case box t s x => rw [h.ev fun t ht => ht]
  case build z ps => exact buildK_congr h ps z _ fun t ht => ht
  case buildSlice t s len z ps => exact rowK_congr h s ps _ _ fun t ht => ht
  case load n x => rw [h.ev fun t ht => ht]
  case store m x y => rw [h.ev (x := x) (by simp +contextual), h.ev (x := y) (by simp +contextual)]
  case bin op x y => rw [h.ev (x := x) (by simp +contextual), h.ev (x := y) (by simp +contextual)]
  case beq neg x y => rw [h.ev (x := x) (by simp +contextual), h.ev (x := y) (by simp +contextual)]
  case un op x => rw [h.ev fun t ht => ht]
  case convInt k x => rw [h.ev fun t ht => ht]
  case faddr k x => rw [h.ev fun t ht => ht]
  case fld k n x => rw [h.ev fun t ht => ht]
  case iaddr s x y => rw [h.ev (x := x) (by simp +contextual), h.ev (x := y) (by simp +contextual)]
  case idxS x y => rw [h.ev (x := x) (by simp +contextual), h.ev (x := y) (by simp +contextual)]
  case sliceS x lo hi =>
    have e1 := fun d K => boundK_congr (d := d) (x := lo) h (by simp +contextual) K
    have e2 := fun d K => boundK_congr (d := d) (x := hi) h (by simp +contextual) K
    rw [h.ev (x := x) (by simp +contextual)]
    simp only [e1, e2]
  case sliceL s x lo hi =>
    have e1 := fun d K => boundK_congr (d := d) (x := lo) h (by simp +contextual) K
    have e2 := fun d K => boundK_congr (d := d) (x := hi) h (by simp +contextual) K
    rw [h.ev (x := x) (by simp +contextual)]
    simp only [e1, e2]
  case mk t s b z x y => rw [h.ev (x := x) (by simp +contextual), h.ev (x := y) (by simp +contextual)]
  case lenS x => rw [h.ev fun t ht => ht]
  case lenL x => rw [h.ev fun t ht => ht]
  case app t s b x y => rw [h.ev (x := x) (by simp +contextual), h.ev (x := y) (by simp +contextual)]
  case ext x i => rw [h.ev fun t ht => ht]
  case nilc x => rw [h.ev fun t ht => ht]
  case mkfn f cs => rw [h.evs fun t ht => ht]
  case call f as => rw [h.evs fun t ht => ht]
  case callv x as => rw [h.ev (x := x) (by simp +contextual), h.evs (xs := as) (by simp +contextual)]
  case pcall f as =>
    have hm : (as.map fun x => frz O (x.ev e)) = as.map fun x => frz O (x.ev e') := List.map_congr_left fun x hx => by rw [h.ev (x := x) fun t ht => List.mem_flatMap.2 ⟨x, hx, ht⟩]
    rw [hm, h.evs fun t ht => ht]
  case pcallv x as =>
    have hm : (as.map fun x => frz O (x.ev e)) = as.map fun x => frz O (x.ev e') := List.map_congr_left fun x hx => by rw [h.ev (x := x) fun t ht => List.mem_append_right _ (List.mem_flatMap.2 ⟨x, hx, ht⟩)]
    rw [hm, h.ev (x := x) (by simp +contextual), h.evs (xs := as) (by simp +contextual)]
  case qcall f as => rw [h.evs fun t ht => ht]
  case qcallv x as => rw [h.ev (x := x) (by simp +contextual), h.evs (xs := as) (by simp +contextual)]

/-- what an operation gives, for whoever goes on -/
def Ex (P : Program) (o : AOp) (e : Env) (O : List AObj) (x : AV) (O' : List AObj) : Prop := ∀ K : AV → List AObj → Prop, K x O' → wpOp P o e O K

theorem buildK_ex {e : Env} : ∀ (ps : List (Nat × Nat × Opd)) (z : List AV) {K : AV → Prop}, buildK e z ps K → ∃ x, K x ∧ ∀ K' : AV → Prop, K' x → buildK e z ps K'
  | [], _, _, h => ⟨_, h, fun _ h => h⟩
  | (off, size, x) :: r, z, K, h => by
    obtain ⟨h1, h2, h3, h4⟩ := h
    obtain ⟨y, h5, h6⟩ := buildK_ex r _ h4
    exact ⟨y, h5, fun K' h => ⟨h1, h2, h3, h6 K' h⟩⟩

theorem rowK_ex {e : Env} {s : Nat} : ∀ (ps : List (Nat × Opd)) (z : List AV) {K : List AV → Prop}, rowK e s z ps K → ∃ x, K x ∧ ∀ K' : List AV → Prop, K' x → rowK e s z ps K'
  | [], _, _, h => ⟨_, h, fun _ h => h⟩
  | (i, x) :: r, z, K, h => by
    obtain ⟨h1, h2, h3, h4⟩ := h
    obtain ⟨y, h5, h6⟩ := rowK_ex r _ h4
    exact ⟨y, h5, fun K' h => ⟨h1, h2, h3, h6 K' h⟩⟩

theorem boundK_ex {d : Int} {e : Env} {x : Option Opd} {K : Int → Prop} (h : boundK d e x K) : ∃ i, K i ∧ ∀ K' : Int → Prop, K' i → boundK d e x K' := by
  cases x with
  | none => exact ⟨_, h, fun _ h => h⟩
  | some o =>
    simp only [boundK] at h ⊢
    split at h
    · exact ⟨_, h, fun _ h => h⟩
    · exact h.elim

/-- what hangs on its operands alone -/
theorem ex0 {P : Program} {o : AOp} (hc : o.cls = 0) {e : Env} {O : List AObj} {K : AV → List AObj → Prop} (h : wpOp P o e O K) :
    ∃ x, K x O ∧ ∀ O', Ex P o e O' x O' := by
  cases o <;> simp only [AOp.cls] at hc <;> first | (cases hc; done) | skip
  case mov x => exact ⟨_, h, fun O' K' h' => h'⟩
  case pick c a b =>
    simp only [wpOp] at h
    split at h
    · rename_i t ht; exact ⟨_, h, fun O' K' h' => by simp only [wpOp, ht]; exact h'⟩
    · exact h.elim
  case build z ps =>
    obtain ⟨x, h1, h2⟩ := buildK_ex ps z h
    exact ⟨x, h1, fun O' K' h' => h2 (fun a => K' a O') h'⟩
  case beq neg x y =>
    simp only [wpOp] at h
    split at h
    · rename_i a b ha hb
      exact ⟨_, h, fun O' K' h' => by simp only [wpOp, ha, hb]; exact h'⟩
    · exact h.elim
  case bin op x y =>
    simp only [wpOp] at h
    split at h
    · rename_i a b ha hb
      split at h
      · rename_i z hz; exact ⟨_, h, fun O' K' h' => by simp only [wpOp, ha, hb, hz]; exact h'⟩
      · exact h.elim
    · exact h.elim
  case un op x =>
    simp only [wpOp] at h
    split at h
    · rename_i a ha
      split at h
      · rename_i z hz; exact ⟨_, h, fun O' K' h' => by simp only [wpOp, ha, hz]; exact h'⟩
      · exact h.elim
    · exact h.elim
  case convInt k x =>
    simp only [wpOp] at h
    split at h
    · rename_i k' n ha; exact ⟨_, h, fun O' K' h' => by simp only [wpOp, ha]; exact h'⟩
    · exact h.elim
  case fld off n x => exact ⟨_, h.2.2, fun O' K' h' => ⟨h.1, h.2.1, h'⟩⟩
  case idxS x i =>
    simp only [wpOp] at h
    split at h
    · rename_i s k j ha hb; exact ⟨_, h.2.2, fun O' K' h' => by simp only [wpOp, ha, hb]; exact ⟨h.1, h.2.1, h'⟩⟩
    · exact h.elim
  case sliceS x lo hi =>
    simp only [wpOp] at h
    split at h
    · rename_i s ha
      obtain ⟨l, h1, h2⟩ := boundK_ex h
      obtain ⟨u, h3, h4⟩ := boundK_ex h1
      exact ⟨_, h3.2.2.2, fun O' K' h' => by simp only [wpOp, ha]; exact h2 _ (h4 _ ⟨h3.1, h3.2.1, h3.2.2.1, h'⟩)⟩
    · exact h.elim
  case sliceL s x lo hi =>
    simp only [wpOp] at h
    split at h
    · rename_i s ha
      obtain ⟨l, h1, h2⟩ := boundK_ex h
      obtain ⟨u, h3, h4⟩ := boundK_ex h1
      exact ⟨_, h3.2.2.2.2, fun O' K' h' => by simp only [wpOp, ha]; exact h2 _ (h4 _ ⟨h3.1, h3.2.1, h3.2.2.1, h3.2.2.2.1, h'⟩)⟩
    · exact h.elim
  case lenS x =>
    simp only [wpOp] at h
    split at h
    · rename_i s ha; exact ⟨_, h, fun O' K' h' => by simp only [wpOp, ha]; exact h'⟩
    · exact h.elim
  case ext x i =>
    simp only [wpOp] at h
    split at h
    · rename_i vs ha; exact ⟨_, h.2, fun O' K' h' => by simp only [wpOp, ha]; exact ⟨h.1, h'⟩⟩
    · exact h.elim
  case mkfn f cs => exact ⟨_, h, fun O' K' h' => h'⟩
  case qcall f as =>
    obtain ⟨r, h1, h2, h3⟩ := h
    exact ⟨r, h3, fun O' K' h' => ⟨r, h1, h2, h'⟩⟩
  case qcallv x as =>
    simp only [wpOp] at h
    split at h
    · rename_i f caps ha
      obtain ⟨r, h1, h2, h3⟩ := h
      exact ⟨r, h3, fun O' K' h' => by simp only [wpOp, ha]; exact ⟨r, h1, h2, h'⟩⟩
    · exact h.elim

theorem get_more {O : List AObj} {k : Nat} {ob b : AObj} (h : O[k]? = some ob) : (O ++ [b])[k]? = some ob := by
  rw [List.getElem?_append_left (List.getElem?_eq_some_iff.1 h).1]; exact h

/-- what reads -/
theorem ex1 {P : Program} {o : AOp} (hc : o.cls = 1) {e : Env} {O : List AObj} {K : AV → List AObj → Prop} (h : wpOp P o e O K) :
    ∃ x, K x O ∧ Ex P o e O x O ∧ ∀ b, Ex P o e (O ++ [b]) x (O ++ [b]) := by
  cases o <;> simp only [AOp.cls] at hc <;> first | (cases hc; done) | skip
  case load n x =>
    simp only [wpOp] at h
    split at h
    · rename_i y f ha; exact ⟨_, h.2, fun K' h' => by simp only [wpOp, ha]; exact ⟨h.1, h'⟩, fun b K' h' => by simp only [wpOp, ha]; exact ⟨h.1, h'⟩⟩
    · rename_i k len i f ha
      split at h
      · rename_i t s xs hO
        obtain ⟨h1, h2, h3, h4⟩ := h
        exact ⟨_, h4, fun K' h' => by simp only [wpOp, ha, hO]; exact ⟨h1, h2, h3, h'⟩, fun b K' h' => by simp only [wpOp, ha, get_more hO]; exact ⟨h1, h2, h3, h'⟩⟩
      · exact h.elim
    · exact h.elim
  case faddr off x =>
    simp only [wpOp] at h
    split at h
    · rename_i y f ha; exact ⟨_, h, fun K' h' => by simp only [wpOp, ha]; exact h', fun b K' h' => by simp only [wpOp, ha]; exact h'⟩
    · rename_i k len i f ha
      split at h
      · rename_i t s xs hO
        exact ⟨_, h.2, fun K' h' => by simp only [wpOp, ha, hO]; exact ⟨h.1, h'⟩, fun b K' h' => by simp only [wpOp, ha, get_more hO]; exact ⟨h.1, h'⟩⟩
      · exact h.elim
    · exact h.elim
  case nilc x =>
    simp only [wpOp] at h
    split at h
    · rename_i y f ha; exact ⟨_, h, fun K' h' => by simp only [wpOp, ha]; exact h', fun b K' h' => by simp only [wpOp, ha]; exact h'⟩
    · rename_i y f ha; exact ⟨_, h, fun K' h' => by simp only [wpOp, ha]; exact h', fun b K' h' => by simp only [wpOp, ha]; exact h'⟩
    · rename_i k len i f ha
      split at h
      · rename_i t s xs hO
        exact ⟨_, h.2, fun K' h' => by simp only [wpOp, ha, hO]; exact ⟨h.1, h'⟩, fun b K' h' => by simp only [wpOp, ha, get_more hO]; exact ⟨h.1, h'⟩⟩
      · exact h.elim
    · exact h.elim
  case iaddr s x y =>
    simp only [wpOp] at h
    split at h
    · rename_i xs k i ha hb
      obtain ⟨h1, h2, h3, h4⟩ := h
      exact ⟨_, h4, fun K' h' => by simp only [wpOp, ha, hb]; exact ⟨h1, h2, h3, h'⟩, fun b K' h' => by simp only [wpOp, ha, hb]; exact ⟨h1, h2, h3, h'⟩⟩
    · rename_i n len k i ha hb
      split at h
      · rename_i t s' xs hO
        obtain ⟨h1, h2, h3, h4, h5⟩ := h
        exact ⟨_, h5, fun K' h' => by simp only [wpOp, ha, hb, hO]; exact ⟨h1, h2, h3, h4, h'⟩, fun b K' h' => by simp only [wpOp, ha, hb, get_more hO]; exact ⟨h1, h2, h3, h4, h'⟩⟩
      · exact h.elim
    · exact h.elim
  case lenL x =>
    simp only [wpOp] at h
    split at h
    · rename_i ha; exact ⟨_, h, fun K' h' => by simp only [wpOp, ha]; exact h', fun b K' h' => by simp only [wpOp, ha]; exact h'⟩
    · rename_i xs ha; exact ⟨_, h, fun K' h' => by simp only [wpOp, ha]; exact h', fun b K' h' => by simp only [wpOp, ha]; exact h'⟩
    · rename_i k len ha
      split at h
      · rename_i t s xs hO
        exact ⟨_, h.2, fun K' h' => by simp only [wpOp, ha, hO]; exact ⟨h.1, h'⟩, fun b K' h' => by simp only [wpOp, ha, get_more hO]; exact ⟨h.1, h'⟩⟩
      · rename_i t s hO
        exact ⟨_, h.2, fun K' h' => by simp only [wpOp, ha, hO]; exact ⟨h.1, h'⟩, fun b K' h' => by simp only [wpOp, ha, get_more hO]; exact ⟨h.1, h'⟩⟩
      · exact h.elim
    · exact h.elim

/-- what makes an object -/
theorem ex2 {P : Program} {o : AOp} (hc : o.cls = 2) {e : Env} {O : List AObj} {K : AV → List AObj → Prop} (h : wpOp P o e O K) :
    ∃ x b, K x (O ++ [b]) ∧ Ex P o e O x (O ++ [b]) := by
  cases o <;> simp only [AOp.cls] at hc <;> first | (cases hc; done) | skip
  case alloc t s z => exact ⟨_, _, h, fun K' h' => h'⟩
  case box t s x => exact ⟨_, _, h.2.2, fun K' h' => ⟨h.1, h.2.1, h'⟩⟩
  case buildSlice t s len z ps =>
    obtain ⟨xs, h1, h2⟩ := rowK_ex ps _ h
    exact ⟨_, _, h1, fun K' h' => h2 _ h'⟩
  case mk t s b z x y =>
    simp only [wpOp] at h
    split at h
    · rename_i n c ha hb
      obtain ⟨h1, h2, h3, h4, h5⟩ := h
      exact ⟨_, _, h5, fun K' h' => by simp only [wpOp, ha, hb]; exact ⟨h1, h2, h3, h4, h'⟩⟩
    · exact h.elim

theorem srcK_ex {O : List AObj} {y : AV} {K : List AV → Prop} (h : srcK O y K) : ∃ ys, K ys ∧ ∀ K' : List AV → Prop, K' ys → srcK O y K' := by
  unfold srcK at h
  split at h
  · exact ⟨_, h, fun K' h' => h'⟩
  · exact ⟨_, h, fun K' h' => h'⟩
  · rename_i n len
    split at h
    · rename_i t s xs hO; exact ⟨_, h.2, fun K' h' => by simp only [srcK, hO]; exact ⟨h.1, h'⟩⟩
    · rename_i t s hO; exact ⟨_, h.2, fun K' h' => by simp only [srcK, hO]; exact ⟨h.1, h'⟩⟩
    · exact h.elim
  · exact h.elim

theorem appK_ex {O : List AObj} {x : AV} {t s b : Nat} {ys : List AV} {K : AV → List AObj → Prop} (h : appK O x t s b ys K) : ∃ r O', K r O' ∧ ∀ K' : AV → List AObj → Prop, K' r O' → appK O x t s b ys K' := by
  unfold appK at h
  split at h
  · obtain ⟨h1, h2, h3, h4⟩ := h
    by_cases hy : ys = []
    · exact ⟨_, _, h3 hy, fun K' h' => ⟨h1, h2, fun _ => h', fun hn => (hn hy).elim⟩⟩
    · exact ⟨_, _, h4 hy, fun K' h' => ⟨h1, h2, fun hn => (hy hn).elim, fun _ => h'⟩⟩
  · rename_i n len
    split at h
    · rename_i t' s' xs hO
      obtain ⟨h1, h2, h3, h4, h5, h6⟩ := h
      exact ⟨_, _, h6, fun K' h' => by simp only [appK, hO]; exact ⟨h1, h2, h3, h4, h5, h'⟩⟩
    · rename_i t' s' hO
      obtain ⟨h1, h2, h3, h4, h5, h6, h7⟩ := h
      by_cases hy : ys = []
      · exact ⟨_, _, h6 hy, fun K' h' => by simp only [appK, hO]; exact ⟨h1, h2, h3, h4, h5, fun _ => h', fun hn => (hn hy).elim⟩⟩
      · exact ⟨_, _, h7 hy, fun K' h' => by simp only [appK, hO]; exact ⟨h1, h2, h3, h4, h5, fun hn => (hy hn).elim, fun _ => h'⟩⟩
    · exact h.elim
  · exact h.elim

/-- any operation -/
theorem exAny {P : Program} {o : AOp} {e : Env} {O : List AObj} {K : AV → List AObj → Prop} (h : wpOp P o e O K) : ∃ x O', K x O' ∧ Ex P o e O x O' := by
  by_cases h0 : o.cls = 0
  · obtain ⟨x, h1, h2⟩ := ex0 h0 h; exact ⟨x, O, h1, h2 O⟩
  by_cases h1 : o.cls = 1
  · obtain ⟨x, h1, h2, _⟩ := ex1 h1 h; exact ⟨x, O, h1, h2⟩
  by_cases h2 : o.cls = 2
  · obtain ⟨x, b, h1, h2⟩ := ex2 h2 h; exact ⟨x, _, h1, h2⟩
  cases o <;> first | (exact (h0 rfl).elim) | (exact (h1 rfl).elim) | (exact (h2 rfl).elim) | skip
  case store m x y =>
    simp only [wpOp] at h
    split at h
    · rename_i k len i f ha
      split at h
      · rename_i t s xs hO
        obtain ⟨q1, q2, q3, q4, q5, q6⟩ := h
        exact ⟨_, _, q6, fun K' h' => by simp only [wpOp, ha, hO]; exact ⟨q1, q2, q3, q4, q5, h'⟩⟩
      · exact h.elim
    · exact h.elim
  case app t s b x y =>
    simp only [wpOp] at h
    obtain ⟨ys, q1, q2⟩ := srcK_ex h
    obtain ⟨r, O', q3, q4⟩ := appK_ex q1.2
    exact ⟨r, O', q3, fun K' h' => by simp only [wpOp]; exact q2 _ ⟨q1.1, q4 K' h'⟩⟩
  case call f as =>
    obtain ⟨r, O', q1, q2⟩ := h
    exact ⟨r, O', q2, fun K' h' => ⟨r, O', q1, h'⟩⟩
  case callv x as =>
    simp only [wpOp] at h
    split at h
    · rename_i f caps ha
      obtain ⟨r, O', q1, q2⟩ := h
      exact ⟨r, O', q2, fun K' h' => by simp only [wpOp, ha]; exact ⟨r, O', q1, h'⟩⟩
    · exact h.elim
  case pcall f as =>
    obtain ⟨r, q1, q2, q3⟩ := h
    exact ⟨r, _, q3, fun K' h' => ⟨r, q1, q2, h'⟩⟩
  case pcallv x as =>
    simp only [wpOp] at h
    split at h
    · rename_i f caps ha
      obtain ⟨r, q1, q2, q3⟩ := h
      exact ⟨r, _, q3, fun K' h' => by simp only [wpOp, ha]; exact ⟨r, q1, q2, h'⟩⟩
    · exact h.elim

end Go.Ab
