/-
  THE FRAME RULE: a contract on the objects that a call reaches holds among others too: its objects are renamed, the others stay.
-/
import Derived.Test.YtaaoifpijmbhoaaAbFz
set_option linter.unusedVariables false
set_option linter.unusedSimpArgs false
set_option linter.defProp false
namespace Go.Ab

mutual
def AV.ren (s : Nat → Nat) : AV → AV
  | .top => .top
  | .v x => .v x
  | .nils => .nils
  | .sl xs => .sl (AV.rens s xs)
  | .iptr x f => .iptr (x.ren s) f
  | .row n l => .row (s n) l
  | .ptr n l i f => .ptr (s n) l i f
  | .fn f cs => .fn f (AV.rens s cs)
  | .agg cs => .agg (AV.rens s cs)
  | .tup cs => .tup (AV.rens s cs)
def AV.rens (s : Nat → Nat) : List AV → List AV
  | [] => []
  | x :: xs => x.ren s :: AV.rens s xs
end
theorem rens_eq (s : Nat → Nat) (xs : List AV) : AV.rens s xs = xs.map (AV.ren s) := by
  induction xs with
  | nil => rfl
  | cons x xs ih => simp [AV.rens, ih]
mutual
theorem noref_ren {s : Nat → Nat} : ∀ (a : AV), a.noref = true → a.ren s = a
  | .top, _ | .v _, _ | .nils, _ => rfl
  | .sl xs, h => by simp only [AV.ren]; rw [norefs_rens xs (by simpa [AV.noref] using h)]
  | .iptr x _, h => by simp only [AV.ren]; rw [noref_ren x (by simpa [AV.noref] using h)]
  | .row _ _, h => by simp [AV.noref] at h
  | .ptr _ _ _ _, h => by simp [AV.noref] at h
  | .fn _ cs, h => by simp only [AV.ren]; rw [norefs_rens cs (by simpa [AV.noref] using h)]
  | .agg cs, h => by simp only [AV.ren]; rw [norefs_rens cs (by simpa [AV.noref] using h)]
  | .tup cs, h => by simp only [AV.ren]; rw [norefs_rens cs (by simpa [AV.noref] using h)]
theorem norefs_rens {s : Nat → Nat} : ∀ (xs : List AV), AV.norefs xs = true → AV.rens s xs = xs
  | [], _ => rfl
  | x :: xs, h => by
    simp only [AV.norefs, Bool.and_eq_true] at h
    simp only [AV.rens]
    rw [noref_ren x h.1, norefs_rens xs h.2]
end
theorem cells_ren (s : Nat → Nat) (a : AV) : (a.ren s).cells = a.cells.map (AV.ren s) := by
  cases a <;> simp [AV.ren, AV.cells, rens_eq]
def AObj.ren (s : Nat → Nat) : AObj → AObj
  | .dead => .dead
  | .nil e s => .nil e s
  | .live e k xs => .live e k (xs.map (AV.ren s))

theorem map_get {s : Nat → Nat} {xs : List AV} {i : Nat} {y : AV} (h : (xs.map (AV.ren s))[i]? = some y) : ∃ x, xs[i]? = some x ∧ y = x.ren s := by
  simp only [List.getElem?_map, Option.map_eq_some_iff] at h
  obtain ⟨x, hx, rfl⟩ := h
  exact ⟨x, hx, rfl⟩

theorem R.ren {I : Imm} {L L' : Nat → Loc} {O O' : List AObj} {s : Nat → Nat} (hn : ∀ n, n < O'.length → s n < O.length)
    (hg : ∀ n, n < O'.length → O[s n]? = (O'[n]?).map (AObj.ren s)) (hL : ∀ n, n < O'.length → L (s n) = L' n) {a : AV} {x : Value} (hr : R I L' O' a x) : R I L O (a.ren s) x := by
  have live : ∀ {n e k xs}, O'[n]? = some (.live e k xs) → O[s n]? = some (.live e k (xs.map (AV.ren s))) ∧ L (s n) = L' n := by
    intro n e k xs h
    have hlt := (List.getElem?_eq_some_iff.1 h).1
    exact ⟨by rw [hg n hlt, h]; rfl, hL n hlt⟩
  have back : ∀ {n e k xs}, n < O'.length → O[s n]? = some (.live e k xs) → ∃ ys, O'[n]? = some (.live e k ys) ∧ ys.length = xs.length := by
    intro n e k xs hlt h
    rw [hg n hlt, Option.map_eq_some_iff] at h
    obtain ⟨ob, h1, h2⟩ := h
    cases ob with
    | dead => cases h2
    | nil => cases h2
    | live e' k' ys => cases h2; exact ⟨ys, h1, by simp⟩
  have nilb : ∀ {n e k}, n < O'.length → O'[n]? ≠ some (.nil e k) → O[s n]? ≠ some (.nil e k) := by
    intro n e k hlt hne h
    rw [hg n hlt, Option.map_eq_some_iff] at h
    obtain ⟨ob, h1, h2⟩ := h
    cases ob with
    | dead => cases h2
    | nil => cases h2; exact hne h1
    | live => cases h2
  induction hr with
  | top x => exact .top x
  | v x hx => exact .v x hx
  | nils => exact .nils
  | sl0 a cap => exact .sl0 a cap
  | sl xs blk off cap k vals h1 h2 h3 h4 _ ih =>
    simp only [AV.ren, rens_eq]
    rw [show xs.length = (xs.map (AV.ren s)).length by simp]
    refine .sl _ blk off cap k vals (by simpa using h1) (by simpa using h2) (fun i x hx => ?_) (fun i x j c hx hc => ?_) (fun i x j c hx hc => ?_)
    · obtain ⟨y, hy, rfl⟩ := map_get hx
      rw [cells_ren, List.length_map]; exact h3 i y hy
    · obtain ⟨y, hy, rfl⟩ := map_get hx
      rw [cells_ren] at hc
      obtain ⟨d, hd, rfl⟩ := map_get hc
      exact h4 i y j d hy hd
    · obtain ⟨y, hy, rfl⟩ := map_get hx
      rw [cells_ren] at hc
      obtain ⟨d, hd, rfl⟩ := map_get hc
      exact ih i y j d hy hd
  | iptr x f blk base vals h1 _ ih =>
    simp only [AV.ren]
    refine .iptr _ f blk base vals (fun j c hc => ?_) (fun j c hc => ?_)
    · rw [cells_ren] at hc
      obtain ⟨d, hd, rfl⟩ := map_get hc
      exact h1 j d hd
    · rw [cells_ren] at hc
      obtain ⟨d, hd, rfl⟩ := map_get hc
      exact ih j d hd
  | rowLive n len e k xs hx hl =>
    obtain ⟨h1, h2⟩ := live hx
    simp only [AV.ren]
    rw [← h2]
    exact .rowLive (s n) len e k _ h1 (by simpa using hl)
  | rowNil n e k hx =>
    simp only [AV.ren]
    refine .rowNil (s n) e k ?_
    rw [hg n (List.getElem?_eq_some_iff.1 hx).1, hx]; rfl
  | rowDead n len x hlt hnn hs hx =>
    simp only [AV.ren]
    refine .rowDead (s n) len x (hn n hlt) (fun e k he => nilb hlt (hnn e k) he) (fun e k xs hxs => ?_) hx
    obtain ⟨ys, hy, he⟩ := back hlt hxs
    rw [← he]; exact hs e k ys hy
  | ptrLive n len i f e k xs hx hl =>
    obtain ⟨h1, h2⟩ := live hx
    simp only [AV.ren]
    rw [← h2]
    exact .ptrLive (s n) len i f e k _ h1 (by simpa using hl)
  | ptrDead n len i f x hlt hnn hs hx =>
    simp only [AV.ren]
    refine .ptrDead (s n) len i f x (hn n hlt) (fun e k he => nilb hlt (hnn e k) he) (fun e k xs hxs => ?_) hx
    obtain ⟨ys, hy, he⟩ := back hlt hxs
    rw [← he]; exact hs e k ys hy
  | fn f caps vs h1 _ ih =>
    simp only [AV.ren, rens_eq]
    refine .fn f _ vs (by simpa using h1) fun i c x hc hx => ?_
    obtain ⟨d, hd, rfl⟩ := map_get hc
    exact ih i d x hd hx
  | agg cs vs h1 _ ih =>
    simp only [AV.ren, rens_eq]
    refine .agg _ vs (by simpa using h1) fun i c x hc hx => ?_
    obtain ⟨d, hd, rfl⟩ := map_get hc
    exact ih i d x hd hx
  | tup cs vs h1 _ ih =>
    simp only [AV.ren, rens_eq]
    refine .tup _ vs (by simpa using h1) fun i c x hc hx => ?_
    obtain ⟨d, hd, rfl⟩ := map_get hc
    exact ih i d x hd hx

/-- back: what is said of renamed references is said of the references -/
theorem R.unren {I : Imm} {L L' : Nat → Loc} {O O' : List AObj} {s : Nat → Nat} (hg : ∀ n, n < O'.length → O[s n]? = (O'[n]?).map (AObj.ren s)) (hL : ∀ n, n < O'.length → L (s n) = L' n)
    {b : AV} {x : Value} (hr : R I L O b x) : ∀ a : AV, b = a.ren s → a.inScope O'.length = true → R I L' O' a x := by
  have live : ∀ {n e k xs}, n < O'.length → O[s n]? = some (.live e k xs) → ∃ ys, O'[n]? = some (.live e k ys) ∧ xs = ys.map (AV.ren s) := by
    intro n e k xs hlt h
    rw [hg n hlt, Option.map_eq_some_iff] at h
    obtain ⟨ob, h1, h2⟩ := h
    cases ob with
    | dead => cases h2
    | nil => cases h2
    | live e' k' ys => cases h2; exact ⟨ys, h1, rfl⟩
  have fwd : ∀ {n e k ys}, O'[n]? = some (.live e k ys) → O[s n]? = some (.live e k (ys.map (AV.ren s))) := by
    intro n e k ys h
    rw [hg n (List.getElem?_eq_some_iff.1 h).1, h]; rfl
  have fwdn : ∀ {n e k}, O'[n]? = some (.nil e k) → O[s n]? = some (.nil e k) := by
    intro n e k h
    rw [hg n (List.getElem?_eq_some_iff.1 h).1, h]; rfl
  have cm : ∀ {y : AV} {j : Nat} {d : AV}, y.cells[j]? = some d → (y.ren s).cells[j]? = some (d.ren s) := by
    intro y j d h
    rw [cells_ren, List.getElem?_map, h]; rfl
  have mm : ∀ {ys : List AV} {j : Nat} {d : AV}, ys[j]? = some d → (ys.map (AV.ren s))[j]? = some (d.ren s) := by
    intro ys j d h
    rw [List.getElem?_map, h]; rfl
  induction hr with
  | top x => intro a h; cases a <;> simp [AV.ren] at h; intro _; exact .top x
  | v x hx => intro a h; cases a <;> simp [AV.ren] at h; intro _; subst h; exact .v x hx
  | nils => intro a h; cases a <;> simp [AV.ren] at h; intro _; exact .nils
  | sl0 a cap =>
    intro a h; cases a <;> simp [AV.ren, rens_eq] at h; intro _; subst h; exact .sl0 _ cap
  | sl xs blk off cap k vals h1 h2 h3 h4 _ ih =>
    intro a h
    cases a <;> simp [AV.ren, rens_eq] at h
    rename_i ys
    subst h
    intro hs
    have hs' := scopeds_mem (by simpa [AV.inScope] using hs)
    rw [List.length_map]
    refine .sl ys blk off cap k vals (by simpa using h1) (by simpa using h2) (fun i x hx => ?_) (fun i x j c hx hc => h4 i _ j _ (mm hx) (cm hc)) (fun i x j c hx hc => ?_)
    · have := h3 i _ (mm hx)
      rwa [cells_ren, List.length_map] at this
    · exact ih i _ j _ (mm hx) (cm hc) c rfl (scoped_cells (hs' x (List.mem_of_getElem? hx)) c (List.mem_of_getElem? hc))
  | iptr x f blk base vals h1 _ ih =>
    intro a h
    cases a <;> simp [AV.ren] at h
    rename_i y g
    obtain ⟨rfl, rfl⟩ := h
    intro hs
    refine .iptr y f blk base vals (fun j c hc => h1 j _ (cm hc)) (fun j c hc => ih j _ (cm hc) c rfl (scoped_cells (by simpa [AV.inScope] using hs) c (List.mem_of_getElem? hc)))
  | rowLive n len e k xs hx hl =>
    intro a h
    cases a <;> simp [AV.ren] at h
    rename_i n' l'
    obtain ⟨rfl, rfl⟩ := h
    intro hs
    have hlt : n' < O'.length := by simpa [AV.inScope] using hs
    obtain ⟨ys, hy, rfl⟩ := live hlt hx
    rw [hL n' hlt]
    exact .rowLive n' len e k ys hy (by simpa using hl)
  | rowNil n e k hx =>
    intro a h
    cases a <;> simp [AV.ren] at h
    rename_i n' l'
    obtain ⟨rfl, rfl⟩ := h
    intro hs
    have hlt : n' < O'.length := by simpa [AV.inScope] using hs
    rw [hg n' hlt, Option.map_eq_some_iff] at hx
    obtain ⟨ob, h1, h2⟩ := hx
    cases ob with
    | dead => cases h2
    | live => cases h2
    | nil => cases h2; exact .rowNil n' e k h1
  | rowDead n len x hlt0 hnn hd hx =>
    intro a h
    cases a <;> simp [AV.ren] at h
    rename_i n' l'
    obtain ⟨rfl, rfl⟩ := h
    intro hs
    refine .rowDead n' len x (by simpa [AV.inScope] using hs) (fun e k he => hnn e k (fwdn he)) (fun e k ys hys => ?_) hx
    have := hd e k _ (fwd hys)
    simpa using this
  | ptrLive n len i f e k xs hx hl =>
    intro a h
    cases a <;> simp [AV.ren] at h
    rename_i n' l' i' f'
    obtain ⟨rfl, rfl, rfl, rfl⟩ := h
    intro hs
    have hlt : n' < O'.length := by simpa [AV.inScope] using hs
    obtain ⟨ys, hy, rfl⟩ := live hlt hx
    rw [hL n' hlt]
    exact .ptrLive n' len i f e k ys hy (by simpa using hl)
  | ptrDead n len i f x hlt0 hnn hd hx =>
    intro a h
    cases a <;> simp [AV.ren] at h
    rename_i n' l' i' f'
    obtain ⟨rfl, rfl, rfl, rfl⟩ := h
    intro hs
    refine .ptrDead n' len i f x (by simpa [AV.inScope] using hs) (fun e k he => hnn e k (fwdn he)) (fun e k ys hys => ?_) hx
    have := hd e k _ (fwd hys)
    simpa using this
  | fn f caps vs h1 _ ih =>
    intro a h
    cases a <;> simp [AV.ren, rens_eq] at h
    rename_i f' ys
    obtain ⟨rfl, rfl⟩ := h
    intro hs
    exact .fn f ys vs (by simpa using h1) fun i c x hc hx => ih i _ x (mm hc) hx c rfl (scopeds_mem (by simpa [AV.inScope] using hs) c (List.mem_of_getElem? hc))
  | agg cs vs h1 _ ih =>
    intro a h
    cases a <;> simp [AV.ren, rens_eq] at h
    rename_i ys
    subst h
    intro hs
    exact .agg ys vs (by simpa using h1) fun i c x hc hx => ih i _ x (mm hc) hx c rfl (scopeds_mem (by simpa [AV.inScope] using hs) c (List.mem_of_getElem? hc))
  | tup cs vs h1 _ ih =>
    intro a h
    cases a <;> simp [AV.ren, rens_eq] at h
    rename_i ys
    subst h
    intro hs
    exact .tup ys vs (by simpa using h1) fun i c x hc hx => ih i _ x (mm hc) hx c rfl (scopeds_mem (by simpa [AV.inScope] using hs) c (List.mem_of_getElem? hc))

theorem Con.frame {P : Program} {f : FuncId} {args : List AV} {O1 : List AObj} {res : AV} {O1' : List AObj} (h : Con P f args O1 res O1') {O O'' : List AObj} (s : Nat → Nat)
    (hs : ∀ i, i < O1.length → s i < O.length) (hg : ∀ i, i < O1.length → O[s i]? = (O1[i]?).map (AObj.ren s)) (hinj : ∀ i j, i < O1.length → j < O1.length → s i = s j → i = j)
    (hnew : ∀ i, O1.length ≤ i → s i = O.length + (i - O1.length)) (hsc : ∀ a ∈ args, a.inScope O1.length = true) (hsO : ∀ ob ∈ O1, ob.inScope O1.length = true)
    (hl : O''.length = O.length + (O1'.length - O1.length)) (h1 : ∀ i, i < O1'.length → O''[s i]? = (O1'[i]?).map (AObj.ren s)) (h2 : ∀ n, n < O.length → (∀ i, i < O1.length → s i ≠ n) → O''[n]? = O[n]?) :
    Con P f (args.map (AV.ren s)) O (res.ren s) O'' := by
  refine ⟨h.1, fun I L w vs hi hr => ?_⟩
  have inj : ∀ i j, s i = s j → i = j := by
    intro i j he
    by_cases hi : i < O1.length <;> by_cases hj : j < O1.length
    · exact hinj i j hi hj he
    · have := hs i hi; have := hnew j (by omega); omega
    · have := hs j hj; have := hnew i (by omega); omega
    · have := hnew i (by omega); have := hnew j (by omega); omega
  let L1 : Nat → Loc := fun n => L (s n)
  have live1 : ∀ {n e k ys}, O1[n]? = some (.live e k ys) → O[s n]? = some (.live e k (ys.map (AV.ren s))) := by
    intro n e k ys hn
    rw [hg n (List.getElem?_eq_some_iff.1 hn).1, hn]; rfl
  have un : ∀ {a : AV} {x : Value}, R I L O (a.ren s) x → a.inScope O1.length = true → R I L1 O1 a x := fun hr hsc => R.unren hg (fun _ _ => rfl) hr _ rfl hsc
  have hi1 : Inv I L1 O1 w := by
    refine ⟨hi.imm, fun n e k ys hn => ?_, fun n n' e k ys e' k' ys' hn hn' hb => ?_, fun n e k ys o hn => hi.immSep _ _ _ _ o (live1 hn)⟩
    · obtain ⟨c, q1, q2, q3, q4, q5, q6⟩ := hi.obj _ _ _ _ (live1 hn)
      refine ⟨c, q1, q2, by simpa using q3, q4, q5, fun i x hx => ?_⟩
      have hmx : (ys.map (AV.ren s))[i]? = some (x.ren s) := by rw [List.getElem?_map, hx]; rfl
      obtain ⟨r1, r2⟩ := q6 i _ hmx
      rw [cells_ren, List.length_map] at r1
      refine ⟨r1, fun j a ha => ?_⟩
      obtain ⟨y, hy, ho, hr'⟩ := r2 j (a.ren s) (by rw [cells_ren, List.getElem?_map, ha]; rfl)
      have hbo := hsO _ (List.mem_of_getElem? hn)
      exact ⟨y, hy, ho, un hr' (scoped_cells (scopeds_mem hbo x (List.mem_of_getElem? hx)) a (List.mem_of_getElem? ha))⟩
    · exact inj _ _ (hi.sep _ _ _ _ _ _ _ _ (live1 hn) (live1 hn') hb)
  have hr1 : RL I L1 O1 args vs := by
    refine ⟨by simpa using hr.1, fun i a x ha hx => un (hr.2 i _ x (by rw [List.getElem?_map, ha]; rfl) hx) (hsc a (List.mem_of_getElem? ha))⟩
  refine (h.2 I L1 w vs hi1 hr1).mono ?_
  rintro e w' ⟨y, I', L1', rfl, hy, hgd⟩
  have hlen := hgd.ext.len
  open Classical in
  let L'' : Nat → Loc := fun n => if hx : ∃ i, i < O1'.length ∧ s i = n then L1' hx.choose else L n
  have hL1 : ∀ i, i < O1'.length → L'' (s i) = L1' i := by
    intro i hi
    have hx : ∃ j, j < O1'.length ∧ s j = s i := ⟨i, hi, rfl⟩
    show (if hx : ∃ j, j < O1'.length ∧ s j = s i then L1' hx.choose else L (s i)) = _
    rw [dif_pos hx]
    rw [inj _ _ hx.choose_spec.2]
  have hL2 : ∀ n, (∀ i, i < O1'.length → s i ≠ n) → L'' n = L n := by
    intro n hn
    exact dif_neg (by rintro ⟨i, hi, he⟩; exact hn i hi he)
  have hsl : ∀ i, i < O1'.length → s i < O''.length := by
    intro i hi
    by_cases hm : i < O1.length
    · have := hs i hm; omega
    · have := hnew i (by omega); omega
  -- every object behind the call is one of the call's or one that stays
  have cls : ∀ n e k xs, O''[n]? = some (.live e k xs) → (∃ i ys, i < O1'.length ∧ s i = n ∧ O1'[i]? = some (.live e k ys) ∧ xs = ys.map (AV.ren s)) ∨ (n < O.length ∧ (∀ i, i < O1'.length → s i ≠ n) ∧ O[n]? = some (.live e k xs)) := by
    intro n e k xs hn
    by_cases hx : ∃ i, i < O1'.length ∧ s i = n
    · obtain ⟨i, hi, rfl⟩ := hx
      rw [h1 i hi, Option.map_eq_some_iff] at hn
      obtain ⟨ob, q1, q2⟩ := hn
      cases ob with
      | dead => cases q2
      | nil => cases q2
      | live e' k' ys => cases q2; exact .inl ⟨i, ys, hi, rfl, q1, rfl⟩
    · have hno : ∀ i, i < O1'.length → s i ≠ n := fun i hi he => hx ⟨i, hi, he⟩
      have hlt : n < O.length := by
        have := (List.getElem?_eq_some_iff.1 hn).1
        rcases Nat.lt_or_ge n O.length with h' | h'
        · exact h'
        · exact absurd (hnew (O1.length + (n - O.length)) (by omega)) (fun he => hno (O1.length + (n - O.length)) (by omega) (by omega))
      rw [h2 n hlt (fun i hi => hno i (by omega))] at hn
      exact .inr ⟨hlt, hno, hn⟩
  have lb1 : ∀ {b}, LB L1 O1 b → LB L O b := by
    rintro b ⟨n, e, k, ys, hn, hb⟩
    exact ⟨s n, e, k, _, live1 hn, hb⟩
  have old : ∀ {n e k xs}, O[n]? = some (.live e k xs) → (∀ i, i < O1'.length → s i ≠ n) → ¬ LB L1 O1 (L n).blk ∧ (L n).blk < w.heap.size := by
    intro n e k xs hn hno
    refine ⟨?_, ?_⟩
    · rintro ⟨i, e', k', ys, hi', hb⟩
      have := hi.sep _ _ _ _ _ _ _ _ (live1 hi') hn hb
      exact hno i (by have := (List.getElem?_eq_some_iff.1 hi').1; omega) this
    · obtain ⟨c, q1, _⟩ := hi.obj n e k xs hn
      exact (Array.getElem?_eq_some_iff.1 q1).1
  have ext : Ext I L O I' L'' O'' := by
    refine ⟨hgd.ext.imm, by omega, fun n hn e k xs hx => ?_, fun n hn e k hx => ?_⟩
    rotate_left
    · by_cases hex : ∃ i, i < O1'.length ∧ s i = n
      · obtain ⟨i, hi', rfl⟩ := hex
        rw [h1 i hi', Option.map_eq_some_iff] at hx
        obtain ⟨ob, q1, q2⟩ := hx
        cases ob with
        | dead => cases q2
        | live => cases q2
        | nil =>
          cases q2
          have him : i < O1.length := by
            rcases Nat.lt_or_ge i O1.length with h' | h'
            · exact h'
            · have := hnew i h'; omega
          rw [hg i him, hgd.ext.nil i him e k q1]; rfl
      · rwa [h2 n hn (fun i hi' he => hex ⟨i, by omega, he⟩)] at hx
    rcases cls n e k xs hx with ⟨i, ys, hi', rfl, q1, rfl⟩ | ⟨hlt, hno, q1⟩
    · have him : i < O1.length := by
        rcases Nat.lt_or_ge i O1.length with h' | h'
        · exact h'
        · have := hnew i h'; omega
      rcases hgd.ext.obj i him e k ys q1 with ⟨zs, z1, z2, z3⟩ | ⟨z1, z2⟩
      · refine .inl ⟨_, live1 z1, by simpa using z2, fun he => ?_⟩
        rw [hL1 i hi', z3 (by simpa using he)]
      · exact .inr ⟨by rw [hg i him, z1]; rfl, by simpa using z2⟩
    · exact .inl ⟨xs, q1, Nat.le_refl _, fun _ => hL2 n hno⟩
  have fwd : ∀ {a : AV} {x : Value}, R I' L1' O1' a x → R I' L'' O'' (a.ren s) x := fun hr => hr.ren hsl h1 hL1
  refine ⟨y, I', L'', rfl, fwd hy, ⟨⟨hgd.inv.imm, fun n e k xs hn => ?_, fun n n' e k xs e' k' xs' hn hn' hb => ?_, fun n e k xs o hn => ?_⟩, ext, ⟨hgd.frm.os, hgd.frm.tape, hgd.frm.output, hgd.frm.size, fun b hb hno => hgd.frm.block b hb fun hc => hno (lb1 hc)⟩, ?_, fun b o x hx => ?_⟩⟩
  · rcases cls n e k xs hn with ⟨i, ys, hi', rfl, q1, rfl⟩ | ⟨hlt, hno, q1⟩
    · obtain ⟨c, q1, q2, q3, q4, q5, q6⟩ := hgd.inv.obj _ _ _ _ q1
      rw [hL1 i hi']
      refine ⟨c, q1, q2, by simpa using q3, q4, q5, fun j x hx => ?_⟩
      obtain ⟨z, hz, rfl⟩ := map_get hx
      rw [cells_ren]
      refine ⟨by rw [List.length_map]; exact (q6 j z hz).1, fun l a ha => ?_⟩
      obtain ⟨b, hb, rfl⟩ := map_get ha
      obtain ⟨v, hv, ho, hr'⟩ := (q6 j z hz).2 l b hb
      exact ⟨v, hv, ho, fwd hr'⟩
    · obtain ⟨o1, o2⟩ := old q1 hno
      rw [hL2 n hno]
      obtain ⟨c, q1, q2, q3, q4, q5, q6⟩ := hi.obj _ _ _ _ q1
      refine ⟨c, by rw [hgd.frm.block _ o2 o1]; exact q1, q2, q3, q4, q5, fun j x hx => ⟨(q6 j x hx).1, fun l a ha => ?_⟩⟩
      obtain ⟨v, hv, ho, hr'⟩ := (q6 j x hx).2 l a ha
      exact ⟨v, hv, ho, hr'.mono ext⟩
  · rcases cls n e k xs hn with ⟨i, ys, hi', rfl, q1, rfl⟩ | ⟨hlt, hno, q1⟩ <;> rcases cls n' e' k' xs' hn' with ⟨i', ys', hi'', rfl, q1', rfl⟩ | ⟨hlt', hno', q1'⟩
    · rw [hL1 i hi', hL1 i' hi''] at hb
      rw [hgd.inv.sep _ _ _ _ _ _ _ _ q1 q1' hb]
    · rw [hL1 i hi', hL2 n' hno'] at hb
      obtain ⟨o1, o2⟩ := old q1' hno'
      rcases hgd.lb _ ⟨i, _, _, _, q1, hb⟩ with h' | h'
      · exact (o1 h').elim
      · omega
    · rw [hL1 i' hi'', hL2 n hno] at hb
      obtain ⟨o1, o2⟩ := old q1 hno
      rcases hgd.lb _ ⟨i', _, _, _, q1', hb.symm⟩ with h' | h'
      · exact (o1 h').elim
      · omega
    · rw [hL2 n hno, hL2 n' hno'] at hb
      exact hi.sep _ _ _ _ _ _ _ _ q1 q1' hb
  · rcases cls n e k xs hn with ⟨i, ys, hi', rfl, q1, rfl⟩ | ⟨hlt, hno, q1⟩
    · rw [hL1 i hi']; exact hgd.inv.immSep _ _ _ _ o q1
    · rw [hL2 n hno]
      obtain ⟨o1, o2⟩ := old q1 hno
      cases hx : I' (L n).blk o with
      | none => rfl
      | some x =>
        rcases hgd.immNew _ _ _ hx with h' | h' | h'
        · rw [hi.immSep _ _ _ _ o q1] at h'; cases h'
        · exact (o1 h').elim
        · omega
  · rintro b ⟨n, e, k, xs, hn, hb⟩
    rcases cls n e k xs hn with ⟨i, ys, hi', rfl, q1, rfl⟩ | ⟨hlt, hno, q1⟩
    · rw [hL1 i hi'] at hb
      rcases hgd.lb b ⟨i, _, _, _, q1, hb⟩ with h' | h'
      · exact .inl (lb1 h')
      · exact .inr h'
    · rw [hL2 n hno] at hb
      exact .inl ⟨n, _, _, _, q1, hb⟩
  · rcases hgd.immNew b o x hx with h' | h' | h'
    · exact .inl h'
    · exact .inr (.inl (lb1 h'))
    · exact .inr (.inr h')

/-- a call that makes objects, among whatever objects -/
theorem Con.fresh {P : Program} {f : FuncId} {args : List AV} {res : AV} {O1' : List AObj} (h : Con P f args [] res O1') (hn : AV.norefs args = true) (O : List AObj) :
    Con P f args O (res.ren fun n => O.length + n) (O ++ O1'.map (AObj.ren fun n => O.length + n)) := by
  have := h.frame (O := O) (O'' := O ++ O1'.map (AObj.ren fun n => O.length + n)) (fun n => O.length + n) (by simp) (by simp) (by simp) (by simp) (fun a ha => noref_scoped a (norefs_mem hn a ha)) (by simp) (by simp)
    (fun i hi => by rw [List.getElem?_append_right (by omega), List.getElem?_map, show O.length + i - O.length = i by omega]) (fun n hn _ => by rw [List.getElem?_append_left hn])
  rwa [← rens_eq, norefs_rens args hn] at this

/-- a call that reaches one object, of flat elements, and makes none -/
theorem Con.one {P : Program} {f : FuncId} {args : List AV} {res : AV} {t z : Nat} {xs ys : List AV} (h : Con P f args [.live t z xs] res [.live t z ys]) (ha : AV.scopeds 1 args = true) (hx : AV.norefs xs = true) (hy : AV.norefs ys = true) (hr : res.noref = true)
    {O : List AObj} (k : Nat) (hk : O[k]? = some (.live t z xs)) : Con P f (args.map (AV.ren fun n => if n = 0 then k else O.length + (n - 1))) O res (O.set k (.live t z ys)) := by
  have hlt : k < O.length := (List.getElem?_eq_some_iff.1 hk).1
  have hf : ∀ (s : Nat → Nat) {zs : List AV}, AV.norefs zs = true → zs.map (AV.ren s) = zs := fun s zs hz => by rw [← rens_eq, norefs_rens zs hz]
  have := h.frame (O := O) (O'' := O.set k (.live t z ys)) (fun n => if n = 0 then k else O.length + (n - 1))
    (by intro i hi; simp at hi; subst hi; simpa using hlt) (by intro i hi; simp at hi; subst hi; simp [hk, AObj.ren, hf _ hx]) (by intro i j hi hj _; simp at hi hj; omega)
    (by intro i hi; simp at hi; simp; omega) (fun a h' => scopeds_mem ha a h') (by intro ob ho; simp at ho; subst ho; exact norefs_scopeds xs hx) (by simp)
    (by intro i hi; simp at hi; subst hi; simp [hlt, AObj.ren, hf _ hy]) (by intro n hn hno; have := hno 0 (by simp); simp at this; rw [List.getElem?_set_ne this])
  rwa [noref_ren res hr] at this

/-- of the objects some are kept, under new names -/
theorem WK.select {e e' : Env} {O O1 : List AObj} (s : Nat → Nat) (hg : ∀ i, i < O1.length → O[s i]? = (O1[i]?).map (AObj.ren s)) (hinj : ∀ i j, i < O1.length → j < O1.length → s i = s j → i = j)
    (hsO : ∀ ob ∈ O1, ob.inScope O1.length = true) (he : ∀ t, e' t = .top ∨ (e t = (e' t).ren s ∧ (e' t).inScope O1.length = true)) : WK 0 e O e' O1 := by
  intro I0 L0 O0 w0 I L w f hl hgd hr
  obtain rfl : O0 = [] := List.eq_nil_of_length_eq_zero hl
  have hi := hgd.inv
  have live1 : ∀ {n e k ys}, O1[n]? = some (.live e k ys) → O[s n]? = some (.live e k (ys.map (AV.ren s))) := by
    intro n e k ys hn
    rw [hg n (List.getElem?_eq_some_iff.1 hn).1, hn]; rfl
  have un : ∀ {a : AV} {x : Value}, R I L O (a.ren s) x → a.inScope O1.length = true → R I (fun n => L (s n)) O1 a x := fun hr hsc => R.unren hg (fun _ _ => rfl) hr _ rfl hsc
  refine ⟨I, fun n => L (s n), ⟨⟨hi.imm, fun n e k ys hn => ?_, fun n n' e k ys e' k' ys' hn hn' hb => ?_, fun n e k ys o hn => hi.immSep _ _ _ _ o (live1 hn)⟩, ⟨hgd.ext.imm, by simp, by simp, by simp⟩, hgd.frm, ?_, hgd.immNew⟩, fun t => ?_⟩
  · obtain ⟨c, q1, q2, q3, q4, q5, q6⟩ := hi.obj _ _ _ _ (live1 hn)
    refine ⟨c, q1, q2, by simpa using q3, q4, q5, fun i x hx => ?_⟩
    have hmx : (ys.map (AV.ren s))[i]? = some (x.ren s) := by rw [List.getElem?_map, hx]; rfl
    obtain ⟨r1, r2⟩ := q6 i _ hmx
    rw [cells_ren, List.length_map] at r1
    refine ⟨r1, fun j a ha => ?_⟩
    obtain ⟨y, hy, ho, hr'⟩ := r2 j (a.ren s) (by rw [cells_ren, List.getElem?_map, ha]; rfl)
    have hbo := hsO _ (List.mem_of_getElem? hn)
    exact ⟨y, hy, ho, un hr' (scoped_cells (scopeds_mem hbo x (List.mem_of_getElem? hx)) a (List.mem_of_getElem? ha))⟩
  · exact hinj _ _ (List.getElem?_eq_some_iff.1 hn).1 (List.getElem?_eq_some_iff.1 hn').1 (hi.sep _ _ _ _ _ _ _ _ (live1 hn) (live1 hn') hb)
  · rintro b ⟨n, e, k, xs, hn, hb⟩
    exact hgd.lb b ⟨s n, _, _, _, live1 hn, hb⟩
  · rcases he t with h | ⟨h, h'⟩
    · rw [h]; exact .top _
    · have := hr t
      rw [h] at this
      exact un this h'

/-- the end of a call that makes one row of flat elements -/
theorem ret_row {t k len ty z : Nat} {xs : List AV} {x : AX} (hx : x = .ret ∨ x = .normal) {e : Env} {O : List AObj} (he : e t = .row k len) (hk : O[k]? = some (.live ty z xs)) (hn : AV.norefs xs = true) :
    retK 0 [.tmp t] (.row 0 len) [.live ty z xs] x e O := by
  have : resK e O [.tmp t] [] fun xs' => ∃ e', WK 0 (fun t => if t = 0 then packR xs' else .top) O e' [.live ty z xs] ∧ e' 0 = .row 0 len := by
    rw [resK_tmp, resK_nil]
    simp only [List.reverse_cons, List.reverse_nil, List.nil_append, packR, he]
    refine ⟨fun t => if t = 0 then .row 0 len else .top, .select (fun n => if n = 0 then k else k + n) (fun i hi => ?_) (fun i j hi hj _ => ?_) (fun ob ho => ?_) (fun t => ?_), rfl⟩
    · simp at hi; subst hi
      simp [hk, AObj.ren]
      rw [← rens_eq, norefs_rens xs hn]
    · simp at hi hj; omega
    · simp at ho; subst ho; exact norefs_scopeds xs hn
    · by_cases ht : t = 0
      · subst ht; exact .inr ⟨rfl, rfl⟩
      · exact .inl (by simp [ht])
  rcases hx with rfl | rfl <;> exact this

end Go.Ab
