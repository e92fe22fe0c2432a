/-
  LOOPS OVER LISTS AND BYTES: what is left is what the list's rest asks.
-/
import Derived.Test.YtaaoifpijmbhoaaGS
import Derived.Test.YtaaoifpijmbhoaaVT
set_option linter.unusedVariables false
set_option linter.unusedSimpArgs false
set_option linter.defProp false
namespace Go.Ab
set_option maxRecDepth 100000

theorem exists1 {α : Type} {p : α → Prop} (a : α) (h : p a) : ∃ x, p x := ⟨a, h⟩
theorem exists2 {α β : Type} {p : α × β → Prop} (a : α) (b : β) (h : p (a, b)) : ∃ x, p x := ⟨_, h⟩
theorem exists3 {α β γ : Type} {p : α × β × γ → Prop} (a : α) (b : β) (c : γ) (h : p (a, b, c)) : ∃ x, p x := ⟨_, h⟩
theorem exists4 {α β γ δ : Type} {p : α × β × γ × δ → Prop} (a : α) (b : β) (c : γ) (d : δ) (h : p (a, b, c, d)) : ∃ x, p x := ⟨_, h⟩
theorem avb {a b : Bool} (h : a = true ↔ b = true) : AV.v (.bool a) = AV.v (.bool b) := by rw [Bool.eq_iff_iff.2 h]
section
variable {P : Program} {L : AX → SS → List AV → Prop} {R : AV → Prop} {t : T} {r : List AV} {S : List (List AV → Prop)}
/-- a loop over a list: G tells what is still asked, of the rest and of what is kept -/
theorem loop_list {α β : Type} {init : List AV} (l : List α) (σ : Nat → β → List AV) (G : Nat → List α → β → Prop) (b0 : β) (h0 : init = σ 0 b0) (hG : G 0 l b0)
    (hc : ∀ (i : Nat) (x : α) (rest : List α) (b : β), i < l.length → l[i]? = some x → x ∈ l → (∀ (f : α → AV) (s : Nat) (k : IntKind) (K : AV → Prop), (f x).cells.length = s → elemP s (.sl (l.map f)) (.v (.int k (i : Int))) K = goT K (f x)) →
      decide ((i : Int) < (l.length : Int)) = true → G i (x :: rest) b → wpT P L R t (r ++ σ i b) ((fun vs => i < l.length ∧ ∃ b', G (i + 1) rest b' ∧ vs = σ (i + 1) b') :: S))
    (he : ∀ b, decide ((l.length : Int) < (l.length : Int)) = false → G l.length [] b → wpT P L R t (r ++ σ l.length b) ((fun _ => False) :: S)) : loopT P L R init t r S := by
  refine loop_intro (ι := Nat × β) (fun q => q.1 ≤ l.length ∧ G q.1 (l.drop q.1) q.2) (fun q => σ q.1 q.2) (fun q => l.length - q.1) (0, b0) ⟨Nat.zero_le _, hG⟩ h0 fun q hq => ?_
  obtain ⟨i, b⟩ := q
  obtain ⟨hi, hg⟩ := hq
  rcases Nat.lt_or_ge i l.length with h | h
  · have hg : G i (l[i] :: l.drop (i + 1)) b := by rw [← dropC h]; exact hg
    refine wpT_mono (fun _ _ _ h => h) (fun _ h => h) t (.cons (fun vs hv => ?_) (.refl _)) (hc i l[i] (l.drop (i + 1)) b h (List.getElem?_eq_getElem h) (List.getElem_mem h) (fun f s k K hs => ?_) (by simp; exact h) hg)
    · obtain ⟨_, b', h1, h2⟩ := hv
      exact ⟨(i + 1, b'), ⟨h, h1⟩, by simp only; omega, h2⟩
    · unfold elemP
      have hx : (l.map f).getD (Int.toNat (i : Int)) .top = f l[i] := by simp [List.getD, h]
      simp only [hx, hs, true_and, goT]
      exact propext ⟨fun q => q.2.2, fun q => ⟨Int.natCast_nonneg i, by simp; exact h, q⟩⟩
  · have he' : i = l.length := by simp only at hi; omega
    subst he'
    have hg : G l.length [] b := by simpa using hg
    refine wpT_mono (fun _ _ _ h => h) (fun _ h => h) t (.cons (fun vs hv => hv.elim) (.refl _)) (he b (by simp) hg)

/-- the same, with what is known of each -/
theorem loop_listF {α β : Type} {init : List AV} (l : List α) (σ : Nat → β → List AV) (G : Nat → List α → β → Prop) (b0 : β) {F : α → Prop} (hF : ∀ x ∈ l, F x) (h0 : init = σ 0 b0) (hG : G 0 l b0)
    (hc : ∀ (i : Nat) (x : α) (rest : List α) (b : β), i < l.length → l[i]? = some x → x ∈ l → (∀ (f : α → AV) (s : Nat) (k : IntKind) (K : AV → Prop), (f x).cells.length = s → elemP s (.sl (l.map f)) (.v (.int k (i : Int))) K = goT K (f x)) →
      decide ((i : Int) < (l.length : Int)) = true → F x → G i (x :: rest) b → wpT P L R t (r ++ σ i b) ((fun vs => i < l.length ∧ ∃ b', G (i + 1) rest b' ∧ vs = σ (i + 1) b') :: S))
    (he : ∀ b, decide ((l.length : Int) < (l.length : Int)) = false → G l.length [] b → wpT P L R t (r ++ σ l.length b) ((fun _ => False) :: S)) : loopT P L R init t r S :=
  loop_list l σ G b0 h0 hG (fun i x rest b hi hx hm hel hd hg => hc i x rest b hi hx hm hel hd (hF x hm) hg) he

/-- two lists of one length, side by side -/
theorem loop_zip {α γ β : Type} {init : List AV} (l : List α) (m : List γ) (hlm : l.length = m.length) (σ : Nat → β → List AV) (G : Nat → List α → List γ → β → Prop) (b0 : β) (h0 : init = σ 0 b0) (hG : G 0 l m b0)
    (hc : ∀ (i : Nat) (x : α) (y : γ) (rest : List α) (resty : List γ) (b : β), i < l.length → x ∈ l → y ∈ m →
      (∀ (f : α → AV) (s : Nat) (k : IntKind) (K : AV → Prop), (f x).cells.length = s → elemP s (.sl (l.map f)) (.v (.int k (i : Int))) K = goT K (f x)) →
      (∀ (f : γ → AV) (s : Nat) (k : IntKind) (K : AV → Prop), (f y).cells.length = s → elemP s (.sl (m.map f)) (.v (.int k (i : Int))) K = goT K (f y)) →
      decide ((i : Int) < (l.length : Int)) = true → decide ((i : Int) < (m.length : Int)) = true → G i (x :: rest) (y :: resty) b → wpT P L R t (r ++ σ i b) ((fun vs => i < l.length ∧ ∃ b', G (i + 1) rest resty b' ∧ vs = σ (i + 1) b') :: S))
    (he : ∀ b, decide ((l.length : Int) < (l.length : Int)) = false → decide ((l.length : Int) < (m.length : Int)) = false → G l.length [] [] b → wpT P L R t (r ++ σ l.length b) ((fun _ => False) :: S)) : loopT P L R init t r S := by
  refine loop_intro (ι := Nat × β) (fun q => q.1 ≤ l.length ∧ G q.1 (l.drop q.1) (m.drop q.1) q.2) (fun q => σ q.1 q.2) (fun q => l.length - q.1) (0, b0) ⟨Nat.zero_le _, hG⟩ h0 fun q hq => ?_
  obtain ⟨i, b⟩ := q
  obtain ⟨hi, hg⟩ := hq
  rcases Nat.lt_or_ge i l.length with h | h
  · have h' : i < m.length := by omega
    have hg : G i (l[i] :: l.drop (i + 1)) (m[i] :: m.drop (i + 1)) b := by rw [← dropC h, ← dropC h']; exact hg
    refine wpT_mono (fun _ _ _ h => h) (fun _ h => h) t (.cons (fun vs hv => ?_) (.refl _)) (hc i l[i] m[i] (l.drop (i + 1)) (m.drop (i + 1)) b h (List.getElem_mem h) (List.getElem_mem h') (fun f s k K hs => ?_) (fun f s k K hs => ?_) (by simp; exact h) (by simp; exact h') hg)
    · obtain ⟨_, b', h1, h2⟩ := hv
      exact ⟨(i + 1, b'), ⟨h, h1⟩, by simp only; omega, h2⟩
    · unfold elemP
      have hx : (l.map f).getD (Int.toNat (i : Int)) .top = f l[i] := by simp [List.getD, h]
      simp only [hx, hs, true_and, goT]
      exact propext ⟨fun q => q.2.2, fun q => ⟨Int.natCast_nonneg i, by simp; exact h, q⟩⟩
    · unfold elemP
      have hx : (m.map f).getD (Int.toNat (i : Int)) .top = f m[i] := by simp [List.getD, h']
      simp only [hx, hs, true_and, goT]
      exact propext ⟨fun q => q.2.2, fun q => ⟨Int.natCast_nonneg i, by simp; exact h', q⟩⟩
  · have he' : i = l.length := by simp only at hi; omega
    subst he'
    have hg : G l.length [] [] b := by rw [dropE, hlm, dropE] at hg; rw [hlm]; exact hg
    exact wpT_mono (fun _ _ _ h => h) (fun _ h => h) t (.cons (fun vs hv => hv.elim) (.refl _)) (he b (by simp) (by simp [hlm]) hg)

/-- a string's bytes -/
def bs (s : ByteArray) : List Int := s.data.toList.map fun b => (b.toNat : Int)
theorem bs_len (s : ByteArray) : (bs s).length = s.size := by simp [bs]
theorem bs_range {s : ByteArray} {c : Int} (h : c ∈ bs s) : 0 ≤ c ∧ c < 256 := by
  simp only [bs, List.mem_map] at h
  obtain ⟨b, _, rfl⟩ := h
  exact ⟨by omega, by have := b.toNat_lt; omega⟩
theorem bs_inj {s u : ByteArray} (h : bs s = bs u) : s = u := by
  cases s with | mk d => cases u with | mk e =>
  cases d with | mk d => cases e with | mk e =>
  simp only [bs] at h
  have : d = e := (List.map_inj_right (fun x y hxy => by
    have : x.toNat = y.toNat := by exact_mod_cast hxy
    exact UInt8.toNat_inj.1 this)).1 h
  rw [this]
theorem idxB {s : ByteArray} {i : Nat} {k : IntKind} {K : AV → Prop} (h : i < (bs s).length) (hk : goT K (.v (.int .u8 (bs s)[i]))) : idxT (.v (.string s)) (.v (.int k (i : Int))) K := by
  rw [i_idx]
  have hl := bs_len s
  refine ⟨by omega, by omega, ?_⟩
  have : (((s.data.toList.getD (Int.toNat (i : Int)) 0).toNat : Nat) : Int) = (bs s)[i] := by
    simp only [bs, Int.toNat_natCast, List.getElem_map, List.getD]
    have h1 : i < s.data.toList.length := by simpa [bs] using h
    rw [List.getElem?_eq_getElem h1]; rfl
  rw [this]; exact hk
theorem idxX {s : ByteArray} {i : Nat} {c : Int} (h : (bs s)[i]? = some c) (k : IntKind) (K : AV → Prop) : idxT (.v (.string s)) (.v (.int k (i : Int))) K = goT K (.v (.int .u8 c)) := by
  have hl := bs_len s
  obtain ⟨h1, h2⟩ := List.getElem?_eq_some_iff.1 h
  refine propext ⟨fun q => ?_, fun q => idxB h1 (by rw [h2]; exact q)⟩
  rw [i_idx] at q
  have q := q.2.2
  have : (((s.data.toList.getD (Int.toNat (i : Int)) 0).toNat : Nat) : Int) = c := by
    rw [← h2]
    simp only [bs, Int.toNat_natCast, List.getElem_map, List.getD]
    have h1 : i < s.data.toList.length := by simpa [bs] using h1
    rw [List.getElem?_eq_getElem h1]; rfl
  rw [this] at q; exact q
theorem wrap8 {c : Int} (h : 0 ≤ c) (h' : c < 256) : IntKind.i64.wrap c = c := wrapI (by omega) (by omega)

/-- a loop over the bytes of a string -/
theorem loop_bytes {β : Type} {init : List AV} (s : ByteArray) (σ : Nat → β → List AV) (G : Nat → List Int → β → Prop) (b0 : β) (h0 : init = σ 0 b0) (hG : G 0 (bs s) b0)
    (hc : ∀ (i : Nat) (c : Int) (rest : List Int) (b : β), i < s.size → (bs s)[i]? = some c → c ∈ bs s → (∀ (k : IntKind) (K : AV → Prop), idxT (.v (.string s)) (.v (.int k (i : Int))) K = goT K (.v (.int .u8 c))) →
      decide ((i : Int) < (s.size : Int)) = true → 0 ≤ c → c < 256 → IntKind.i64.wrap c = c → G i (c :: rest) b → wpT P L R t (r ++ σ i b) ((fun vs => i < s.size ∧ ∃ b', G (i + 1) rest b' ∧ vs = σ (i + 1) b') :: S))
    (he : ∀ b, decide ((s.size : Int) < (s.size : Int)) = false → G s.size [] b → wpT P L R t (r ++ σ s.size b) ((fun _ => False) :: S)) : loopT P L R init t r S := by
  have hl := bs_len s
  refine loop_list (bs s) σ G b0 h0 hG (fun i c rest b hi hx hm _ hd hg => ?_) (fun b hd hg => ?_)
  · obtain ⟨c0, c1⟩ := bs_range hm
    rw [hl] at hi hd
    rw [hl]
    exact hc i c rest b hi hx hm (idxX hx) hd c0 c1 (wrap8 c0 c1) hg
  · rw [hl] at hd hg ⊢
    exact he b hd hg
end
end Go.Ab
