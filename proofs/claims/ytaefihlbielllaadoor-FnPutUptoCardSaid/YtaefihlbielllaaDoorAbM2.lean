/- Part of a proof: the functions that the law reaches, walked by the abstract logic of the texts Ab. -/
import Derived.Test.YtaefihlbielllaaDoorAbM1
import Derived.Laws.BytesArg
import Derived.Deep.LoopGhost
import Derived.Laws.Strings
set_option linter.unusedVariables false
set_option linter.unusedSimpArgs false
set_option linter.defProp false
/-
  THE FRAME RULE: a contract on the objects that a call reaches holds among others too: its objects are renamed, the others stay.
-/
namespace Go.Ab
mutual
/-- all references are to objects ahead of k -/
def AV.inScope (k : Nat) : AV → Bool
  | .top | .v _ | .nils | .ifc => true
  | .sl xs => AV.scopeds k xs
  | .iptr x _ => x.inScope k
  | .row n _ => n < k
  | .ptr n _ _ _ => n < k
  | .fn _ cs => AV.scopeds k cs
  | .agg cs => AV.scopeds k cs
  | .tup vs => AV.scopeds k vs
  | .own n => n < k
def AV.scopeds (k : Nat) : List AV → Bool
  | [] => true
  | x :: xs => x.inScope k && AV.scopeds k xs
end
theorem scopeds_mem {k : Nat} {xs : List AV} (h : AV.scopeds k xs = true) : ∀ x ∈ xs, x.inScope k = true := by
  induction xs with
  | nil => simp
  | cons y ys ih =>
    simp only [AV.scopeds, Bool.and_eq_true] at h
    intro x hx
    rcases List.mem_cons.1 hx with rfl | hx
    · exact h.1
    · exact ih h.2 x hx
mutual
theorem noref_scoped {k : Nat} : ∀ (x : AV), x.noref = true → x.inScope k = true
  | .top, _ | .v _, _ | .nils, _ | .ifc, _ => rfl
  | .sl xs, h => by simp only [AV.noref, AV.inScope] at *; exact norefs_scopeds xs h
  | .iptr x _, h => by simp only [AV.noref, AV.inScope] at *; exact noref_scoped x h
  | .row _ _, h => by simp [AV.noref] at h
  | .ptr _ _ _ _, h => by simp [AV.noref] at h
  | .fn _ cs, h => by simp only [AV.noref, AV.inScope] at *; exact norefs_scopeds cs h
  | .agg cs, h => by simp only [AV.noref, AV.inScope] at *; exact norefs_scopeds cs h
  | .tup cs, h => by simp only [AV.noref, AV.inScope] at *; exact norefs_scopeds cs h
  | .own _, h => by simp [AV.noref] at h
theorem norefs_scopeds {k : Nat} : ∀ (xs : List AV), AV.norefs xs = true → AV.scopeds k xs = true
  | [], _ => rfl
  | x :: xs, h => by
    simp only [AV.norefs, AV.scopeds, Bool.and_eq_true] at *
    exact ⟨noref_scoped x h.1, norefs_scopeds xs h.2⟩
end
theorem scoped_cells {k : Nat} {x : AV} (h : x.inScope k = true) : ∀ c ∈ x.cells, c.inScope k = true := by
  cases x <;> simp only [AV.cells] <;> try (intro c hc; simp at hc; subst hc; exact h)
  simp only [AV.inScope] at h
  exact scopeds_mem h
def AObj.inScope (k : Nat) : AObj → Bool
  | .dead => true
  | .own _ => true
  | .nil _ _ => true
  | .live _ _ xs => AV.scopeds k xs
theorem rens_eq (s : Nat → Nat) (xs : List AV) : AV.rens s xs = xs.map (AV.ren s) := by
  induction xs with
  | nil => rfl
  | cons x xs ih => simp [AV.rens, ih]
mutual
theorem noref_ren {s : Nat → Nat} : ∀ (a : AV), a.noref = true → a.ren s = a
  | .top, _ | .v _, _ | .nils, _ | .ifc, _ => rfl
  | .sl xs, h => by simp only [AV.ren]; rw [norefs_rens xs (by simpa [AV.noref] using h)]
  | .iptr x _, h => by simp only [AV.ren]; rw [noref_ren x (by simpa [AV.noref] using h)]
  | .row _ _, h => by simp [AV.noref] at h
  | .ptr _ _ _ _, h => by simp [AV.noref] at h
  | .fn _ cs, h => by simp only [AV.ren]; rw [norefs_rens cs (by simpa [AV.noref] using h)]
  | .agg cs, h => by simp only [AV.ren]; rw [norefs_rens cs (by simpa [AV.noref] using h)]
  | .tup cs, h => by simp only [AV.ren]; rw [norefs_rens cs (by simpa [AV.noref] using h)]
  | .own _, h => by simp [AV.noref] at h
theorem norefs_rens {s : Nat → Nat} : ∀ (xs : List AV), AV.norefs xs = true → AV.rens s xs = xs
  | [], _ => rfl
  | x :: xs, h => by
    simp only [AV.norefs, Bool.and_eq_true] at h
    simp only [AV.rens]
    rw [noref_ren x h.1, norefs_rens xs h.2]
end
theorem cells_ren (s : Nat → Nat) (a : AV) : (a.ren s).cells = a.cells.map (AV.ren s) := by
  cases a <;> simp [AV.ren, AV.cells, rens_eq]
theorem map_get {s : Nat → Nat} {xs : List AV} {i : Nat} {y : AV} (h : (xs.map (AV.ren s))[i]? = some y) : ∃ x, xs[i]? = some x ∧ y = x.ren s := by
  simp only [List.getElem?_map, Option.map_eq_some_iff] at h
  obtain ⟨x, hx, rfl⟩ := h
  exact ⟨x, hx, rfl⟩
theorem R.ren {I : Imm} {L L' : Nat → Loc} {O O' : List AObj} {s : Nat → Nat} (hn : ∀ n, n < O'.length → s n < O.length)
    (hg : ∀ n, n < O'.length → O[s n]? = (O'[n]?).map (AObj.ren s)) (hL : ∀ n, n < O'.length → L (s n) = L' n) {a : AV} {x : Value} (hr : R I L' O' a x) : R I L O (a.ren s) x := by
  have live : ∀ {n e k xs}, O'[n]? = some (.live e k xs) → O[s n]? = some (.live e k (xs.map (AV.ren s))) ∧ L (s n) = L' n := by
    intro n e k xs h
    have hlt := (List.getElem?_eq_some_iff.1 h).1
    exact ⟨by rw [hg n hlt, h]; rfl, hL n hlt⟩
  have back : ∀ {n e k xs}, n < O'.length → O[s n]? = some (.live e k xs) → ∃ ys, O'[n]? = some (.live e k ys) ∧ ys.length = xs.length := by
    intro n e k xs hlt h
    rw [hg n hlt, Option.map_eq_some_iff] at h
    obtain ⟨ob, h1, h2⟩ := h
    cases ob with
    | dead => cases h2
    | own a => cases h2
    | nil => cases h2
    | live e' k' ys => cases h2; exact ⟨ys, h1, by simp⟩
  have nilb : ∀ {n e k}, n < O'.length → O'[n]? ≠ some (.nil e k) → O[s n]? ≠ some (.nil e k) := by
    intro n e k hlt hne h
    rw [hg n hlt, Option.map_eq_some_iff] at h
    obtain ⟨ob, h1, h2⟩ := h
    cases ob with
    | dead => cases h2
    | own a => cases h2
    | nil => cases h2; exact hne h1
    | live => cases h2
  induction hr with
  | top x => exact .top x
  | v x hx => exact .v x hx
  | nils => exact .nils
  | ifc t x => exact .ifc t x
  | sl0 a cap => exact .sl0 a cap
  | sl xs blk off cap k vals h1 h2 h3 h4 _ ih =>
    simp only [AV.ren, rens_eq]
    rw [show xs.length = (xs.map (AV.ren s)).length by simp]
    refine .sl _ blk off cap k vals (by simpa using h1) (by simpa using h2) (fun i x hx => ?_) (fun i x j c hx hc => ?_) (fun i x j c hx hc => ?_)
    · obtain ⟨y, hy, rfl⟩ := map_get hx
      rw [cells_ren, List.length_map]; exact h3 i y hy
    · obtain ⟨y, hy, rfl⟩ := map_get hx
      rw [cells_ren] at hc
      obtain ⟨d, hd, rfl⟩ := map_get hc
      exact h4 i y j d hy hd
    · obtain ⟨y, hy, rfl⟩ := map_get hx
      rw [cells_ren] at hc
      obtain ⟨d, hd, rfl⟩ := map_get hc
      exact ih i y j d hy hd
  | iptr x f blk base vals h1 _ ih =>
    simp only [AV.ren]
    refine .iptr _ f blk base vals (fun j c hc => ?_) (fun j c hc => ?_)
    · rw [cells_ren] at hc
      obtain ⟨d, hd, rfl⟩ := map_get hc
      exact h1 j d hd
    · rw [cells_ren] at hc
      obtain ⟨d, hd, rfl⟩ := map_get hc
      exact ih j d hd
  | rowLive n len e k xs hx hl =>
    obtain ⟨h1, h2⟩ := live hx
    simp only [AV.ren]
    rw [← h2]
    exact .rowLive (s n) len e k _ h1 (by simpa using hl)
  | rowNil n e k hx =>
    simp only [AV.ren]
    refine .rowNil (s n) e k ?_
    rw [hg n (List.getElem?_eq_some_iff.1 hx).1, hx]; rfl
  | rowDead n len x hlt hnn hs hx =>
    simp only [AV.ren]
    refine .rowDead (s n) len x (hn n hlt) (fun e k he => nilb hlt (hnn e k) he) (fun e k xs hxs => ?_) hx
    obtain ⟨ys, hy, he⟩ := back hlt hxs
    rw [← he]; exact hs e k ys hy
  | ptrLive n len i f e k xs hx hl =>
    obtain ⟨h1, h2⟩ := live hx
    simp only [AV.ren]
    rw [← h2]
    exact .ptrLive (s n) len i f e k _ h1 (by simpa using hl)
  | ptrDead n len i f x hlt hnn hs hx =>
    simp only [AV.ren]
    refine .ptrDead (s n) len i f x (hn n hlt) (fun e k he => nilb hlt (hnn e k) he) (fun e k xs hxs => ?_) hx
    obtain ⟨ys, hy, he⟩ := back hlt hxs
    rw [← he]; exact hs e k ys hy
  | fn f caps vs h1 _ ih =>
    simp only [AV.ren, rens_eq]
    refine .fn f _ vs (by simpa using h1) fun i c x hc hx => ?_
    obtain ⟨d, hd, rfl⟩ := map_get hc
    exact ih i d x hd hx
  | agg cs vs h1 _ ih =>
    simp only [AV.ren, rens_eq]
    refine .agg _ vs (by simpa using h1) fun i c x hc hx => ?_
    obtain ⟨d, hd, rfl⟩ := map_get hc
    exact ih i d x hd hx
  | tup cs vs h1 _ ih =>
    simp only [AV.ren, rens_eq]
    refine .tup _ vs (by simpa using h1) fun i c x hc hx => ?_
    obtain ⟨d, hd, rfl⟩ := map_get hc
    exact ih i d x hd hx
  | ownLive n a h h1 =>
    have hlt := (List.getElem?_eq_some_iff.1 h).1
    rw [← hL n hlt] at h1 ⊢
    exact .ownLive (s n) a (by rw [hg n hlt, h]; rfl) h1
  | ownDead n x hlt hno h1 =>
    refine .ownDead (s n) x (hn n hlt) (fun a ha => ?_) h1
    rw [hg n hlt, Option.map_eq_some_iff] at ha
    obtain ⟨ob, h1, h2⟩ := ha
    cases ob with
    | own c => exact hno c h1
    | _ => cases h2
/-- back: what is said of renamed references is said of the references -/
theorem R.unren {I : Imm} {L L' : Nat → Loc} {O O' : List AObj} {s : Nat → Nat} (hg : ∀ n, n < O'.length → O[s n]? = (O'[n]?).map (AObj.ren s)) (hL : ∀ n, n < O'.length → L (s n) = L' n)
    {b : AV} {x : Value} (hr : R I L O b x) : ∀ a : AV, b = a.ren s → a.inScope O'.length = true → R I L' O' a x := by
  have live : ∀ {n e k xs}, n < O'.length → O[s n]? = some (.live e k xs) → ∃ ys, O'[n]? = some (.live e k ys) ∧ xs = ys.map (AV.ren s) := by
    intro n e k xs hlt h
    rw [hg n hlt, Option.map_eq_some_iff] at h
    obtain ⟨ob, h1, h2⟩ := h
    cases ob with
    | dead => cases h2
    | own a => cases h2
    | nil => cases h2
    | live e' k' ys => cases h2; exact ⟨ys, h1, rfl⟩
  have fwd : ∀ {n e k ys}, O'[n]? = some (.live e k ys) → O[s n]? = some (.live e k (ys.map (AV.ren s))) := by
    intro n e k ys h
    rw [hg n (List.getElem?_eq_some_iff.1 h).1, h]; rfl
  have fwdn : ∀ {n e k}, O'[n]? = some (.nil e k) → O[s n]? = some (.nil e k) := by
    intro n e k h
    rw [hg n (List.getElem?_eq_some_iff.1 h).1, h]; rfl
  have cm : ∀ {y : AV} {j : Nat} {d : AV}, y.cells[j]? = some d → (y.ren s).cells[j]? = some (d.ren s) := by
    intro y j d h
    rw [cells_ren, List.getElem?_map, h]; rfl
  have mm : ∀ {ys : List AV} {j : Nat} {d : AV}, ys[j]? = some d → (ys.map (AV.ren s))[j]? = some (d.ren s) := by
    intro ys j d h
    rw [List.getElem?_map, h]; rfl
  induction hr with
  | top x => intro a h; cases a <;> simp [AV.ren] at h; intro _; exact .top x
  | v x hx => intro a h; cases a <;> simp [AV.ren] at h; intro _; subst h; exact .v x hx
  | nils => intro a h; cases a <;> simp [AV.ren] at h; intro _; exact .nils
  | ifc t x => intro a h; cases a <;> simp [AV.ren] at h; intro _; exact .ifc t x
  | sl0 a cap =>
    intro a h; cases a <;> simp [AV.ren, rens_eq] at h; intro _; subst h; exact .sl0 _ cap
  | sl xs blk off cap k vals h1 h2 h3 h4 _ ih =>
    intro a h
    cases a <;> simp [AV.ren, rens_eq] at h
    rename_i ys
    subst h
    intro hs
    have hs' := scopeds_mem (by simpa [AV.inScope] using hs)
    rw [List.length_map]
    refine .sl ys blk off cap k vals (by simpa using h1) (by simpa using h2) (fun i x hx => ?_) (fun i x j c hx hc => h4 i _ j _ (mm hx) (cm hc)) (fun i x j c hx hc => ?_)
    · have := h3 i _ (mm hx)
      rwa [cells_ren, List.length_map] at this
    · exact ih i _ j _ (mm hx) (cm hc) c rfl (scoped_cells (hs' x (List.mem_of_getElem? hx)) c (List.mem_of_getElem? hc))
  | iptr x f blk base vals h1 _ ih =>
    intro a h
    cases a <;> simp [AV.ren] at h
    rename_i y g
    obtain ⟨rfl, rfl⟩ := h
    intro hs
    refine .iptr y f blk base vals (fun j c hc => h1 j _ (cm hc)) (fun j c hc => ih j _ (cm hc) c rfl (scoped_cells (by simpa [AV.inScope] using hs) c (List.mem_of_getElem? hc)))
  | rowLive n len e k xs hx hl =>
    intro a h
    cases a <;> simp [AV.ren] at h
    rename_i n' l'
    obtain ⟨rfl, rfl⟩ := h
    intro hs
    have hlt : n' < O'.length := by simpa [AV.inScope] using hs
    obtain ⟨ys, hy, rfl⟩ := live hlt hx
    rw [hL n' hlt]
    exact .rowLive n' len e k ys hy (by simpa using hl)
  | rowNil n e k hx =>
    intro a h
    cases a <;> simp [AV.ren] at h
    rename_i n' l'
    obtain ⟨rfl, rfl⟩ := h
    intro hs
    have hlt : n' < O'.length := by simpa [AV.inScope] using hs
    rw [hg n' hlt, Option.map_eq_some_iff] at hx
    obtain ⟨ob, h1, h2⟩ := hx
    cases ob with
    | dead => cases h2
    | own a => cases h2
    | live => cases h2
    | nil => cases h2; exact .rowNil n' e k h1
  | rowDead n len x hlt0 hnn hd hx =>
    intro a h
    cases a <;> simp [AV.ren] at h
    rename_i n' l'
    obtain ⟨rfl, rfl⟩ := h
    intro hs
    refine .rowDead n' len x (by simpa [AV.inScope] using hs) (fun e k he => hnn e k (fwdn he)) (fun e k ys hys => ?_) hx
    have := hd e k _ (fwd hys)
    simpa using this
  | ptrLive n len i f e k xs hx hl =>
    intro a h
    cases a <;> simp [AV.ren] at h
    rename_i n' l' i' f'
    obtain ⟨rfl, rfl, rfl, rfl⟩ := h
    intro hs
    have hlt : n' < O'.length := by simpa [AV.inScope] using hs
    obtain ⟨ys, hy, rfl⟩ := live hlt hx
    rw [hL n' hlt]
    exact .ptrLive n' len i f e k ys hy (by simpa using hl)
  | ptrDead n len i f x hlt0 hnn hd hx =>
    intro a h
    cases a <;> simp [AV.ren] at h
    rename_i n' l' i' f'
    obtain ⟨rfl, rfl, rfl, rfl⟩ := h
    intro hs
    refine .ptrDead n' len i f x (by simpa [AV.inScope] using hs) (fun e k he => hnn e k (fwdn he)) (fun e k ys hys => ?_) hx
    have := hd e k _ (fwd hys)
    simpa using this
  | fn f caps vs h1 _ ih =>
    intro a h
    cases a <;> simp [AV.ren, rens_eq] at h
    rename_i f' ys
    obtain ⟨rfl, rfl⟩ := h
    intro hs
    exact .fn f ys vs (by simpa using h1) fun i c x hc hx => ih i _ x (mm hc) hx c rfl (scopeds_mem (by simpa [AV.inScope] using hs) c (List.mem_of_getElem? hc))
  | agg cs vs h1 _ ih =>
    intro a h
    cases a <;> simp [AV.ren, rens_eq] at h
    rename_i ys
    subst h
    intro hs
    exact .agg ys vs (by simpa using h1) fun i c x hc hx => ih i _ x (mm hc) hx c rfl (scopeds_mem (by simpa [AV.inScope] using hs) c (List.mem_of_getElem? hc))
  | tup cs vs h1 _ ih =>
    intro a h
    cases a <;> simp [AV.ren, rens_eq] at h
    rename_i ys
    subst h
    intro hs
    exact .tup ys vs (by simpa using h1) fun i c x hc hx => ih i _ x (mm hc) hx c rfl (scopeds_mem (by simpa [AV.inScope] using hs) c (List.mem_of_getElem? hc))
  | ownLive n a hx hone =>
    intro b h
    cases b <;> simp [AV.ren] at h
    rename_i n'
    subst h
    intro hs
    have hlt : n' < O'.length := by simpa [AV.inScope] using hs
    rw [hg n' hlt, Option.map_eq_some_iff] at hx
    obtain ⟨ob, h1, h2⟩ := hx
    rw [hL n' hlt] at hone ⊢
    cases ob with
    | own c => exact .ownLive n' c h1 hone
    | _ => cases h2
  | ownDead n x hlt0 hno hone =>
    intro b h
    cases b <;> simp [AV.ren] at h
    rename_i n'
    subst h
    intro hs
    have hlt : n' < O'.length := by simpa [AV.inScope] using hs
    exact .ownDead n' x hlt (fun a ha => hno a (by rw [hg n' hlt, ha]; rfl)) hone
theorem Con.frame {P : Program} {f : FuncId} {args : List AV} {O1 : List AObj} {res : AV} {O1' : List AObj} (h : Con P f args O1 res O1') {O O'' : List AObj} (s : Nat → Nat)
    (hs : ∀ i, i < O1.length → s i < O.length) (hg : ∀ i, i < O1.length → O[s i]? = (O1[i]?).map (AObj.ren s)) (hinj : ∀ i j, i < O1.length → j < O1.length → s i = s j → i = j)
    (hnew : ∀ i, O1.length ≤ i → s i = O.length + (i - O1.length)) (hsc : ∀ a ∈ args, a.inScope O1.length = true) (hsO : ∀ ob ∈ O1, ob.inScope O1.length = true)
    (hl : O''.length = O.length + (O1'.length - O1.length)) (h1 : ∀ i, i < O1'.length → O''[s i]? = (O1'[i]?).map (AObj.ren s)) (h2 : ∀ n, n < O.length → (∀ i, i < O1.length → s i ≠ n) → O''[n]? = O[n]?) :
    Con P f (args.map (AV.ren s)) O (res.ren s) O'' := by
  refine ⟨h.1, fun I L w vs hi hr => ?_⟩
  have inj : ∀ i j, s i = s j → i = j := by
    intro i j he
    by_cases hi : i < O1.length <;> by_cases hj : j < O1.length
    · exact hinj i j hi hj he
    · have := hs i hi; have := hnew j (by omega); omega
    · have := hs j hj; have := hnew i (by omega); omega
    · have := hnew i (by omega); have := hnew j (by omega); omega
  let L1 : Nat → Loc := fun n => L (s n)
  have live1 : ∀ {n e k ys}, O1[n]? = some (.live e k ys) → O[s n]? = some (.live e k (ys.map (AV.ren s))) := by
    intro n e k ys hn
    rw [hg n (List.getElem?_eq_some_iff.1 hn).1, hn]; rfl
  have un : ∀ {a : AV} {x : Value}, R I L O (a.ren s) x → a.inScope O1.length = true → R I L1 O1 a x := fun hr hsc => R.unren hg (fun _ _ => rfl) hr _ rfl hsc
  have own1 : ∀ {n : Nat} {a : AV}, O1[n]? = some (.own a) → O[s n]? = some (.own a) := by
    intro n a hn
    rw [hg n (List.getElem?_eq_some_iff.1 hn).1, hn]; rfl
  have hi1 : Inv I L1 O1 w := by
    refine ⟨hi.imm, fun n e k ys hn => ?_, fun n n' e k ys e' k' ys' hn hn' hb => ?_, fun n e k ys o hn => hi.immSep _ _ _ _ o (live1 hn), hi.fix, hi.blk,
      ⟨fun n a hn => hi.ow.tree _ a (own1 hn), fun n a hn => hi.ow.cell _ a (own1 hn), fun n a hn => hi.ow.imm _ a (own1 hn), fun n a hn b o v hv m e k xs hm => hi.ow.live _ a (own1 hn) b o v hv _ _ _ _ (live1 hm),
        fun n m a c hn hm b o o' v v' hv hv' => inj _ _ (hi.ow.sep _ _ a c (own1 hn) (own1 hm) b o o' v v' hv hv'), fun n a hn => hi.ow.deep _ a (own1 hn)⟩⟩
    · obtain ⟨c, q1, q2, q3, q4, q5, q6⟩ := hi.obj _ _ _ _ (live1 hn)
      refine ⟨c, q1, q2, by simpa using q3, q4, q5, fun i x hx => ?_⟩
      have hmx : (ys.map (AV.ren s))[i]? = some (x.ren s) := by rw [List.getElem?_map, hx]; rfl
      obtain ⟨r1, r2⟩ := q6 i _ hmx
      rw [cells_ren, List.length_map] at r1
      refine ⟨r1, fun j a ha => ?_⟩
      obtain ⟨y, hy, ho, hr'⟩ := r2 j (a.ren s) (by rw [cells_ren, List.getElem?_map, ha]; rfl)
      have hbo := hsO _ (List.mem_of_getElem? hn)
      exact ⟨y, hy, ho, un hr' (scoped_cells (scopeds_mem hbo x (List.mem_of_getElem? hx)) a (List.mem_of_getElem? ha))⟩
    · exact inj _ _ (hi.sep _ _ _ _ _ _ _ _ (live1 hn) (live1 hn') hb)
  have hr1 : RL I L1 O1 args vs := by
    refine ⟨by simpa using hr.1, fun i a x ha hx => un (hr.2 i _ x (by rw [List.getElem?_map, ha]; rfl) hx) (hsc a (List.mem_of_getElem? ha))⟩
  refine (h.2 I L1 w vs hi1 hr1).mono ?_
  rintro e w' ⟨y, I', L1', rfl, hy, hgd⟩
  have hlen := hgd.ext.len
  open Classical in
  let L'' : Nat → Loc := fun n => if hx : ∃ i, i < O1'.length ∧ s i = n then L1' hx.choose else L n
  have hL1 : ∀ i, i < O1'.length → L'' (s i) = L1' i := by
    intro i hi
    have hx : ∃ j, j < O1'.length ∧ s j = s i := ⟨i, hi, rfl⟩
    show (if hx : ∃ j, j < O1'.length ∧ s j = s i then L1' hx.choose else L (s i)) = _
    rw [dif_pos hx]
    rw [inj _ _ hx.choose_spec.2]
  have hL2 : ∀ n, (∀ i, i < O1'.length → s i ≠ n) → L'' n = L n := by
    intro n hn
    exact dif_neg (by rintro ⟨i, hi, he⟩; exact hn i hi he)
  have hsl : ∀ i, i < O1'.length → s i < O''.length := by
    intro i hi
    by_cases hm : i < O1.length
    · have := hs i hm; omega
    · have := hnew i (by omega); omega
  -- every object behind the call is one of the call's or one that stays
  have cls : ∀ n e k xs, O''[n]? = some (.live e k xs) → (∃ i ys, i < O1'.length ∧ s i = n ∧ O1'[i]? = some (.live e k ys) ∧ xs = ys.map (AV.ren s)) ∨ (n < O.length ∧ (∀ i, i < O1'.length → s i ≠ n) ∧ O[n]? = some (.live e k xs)) := by
    intro n e k xs hn
    by_cases hx : ∃ i, i < O1'.length ∧ s i = n
    · obtain ⟨i, hi, rfl⟩ := hx
      rw [h1 i hi, Option.map_eq_some_iff] at hn
      obtain ⟨ob, q1, q2⟩ := hn
      cases ob with
      | dead => cases q2
      | own a => cases q2
      | nil => cases q2
      | live e' k' ys => cases q2; exact .inl ⟨i, ys, hi, rfl, q1, rfl⟩
    · have hno : ∀ i, i < O1'.length → s i ≠ n := fun i hi he => hx ⟨i, hi, he⟩
      have hlt : n < O.length := by
        have := (List.getElem?_eq_some_iff.1 hn).1
        rcases Nat.lt_or_ge n O.length with h' | h'
        · exact h'
        · exact absurd (hnew (O1.length + (n - O.length)) (by omega)) (fun he => hno (O1.length + (n - O.length)) (by omega) (by omega))
      rw [h2 n hlt (fun i hi => hno i (by omega))] at hn
      exact .inr ⟨hlt, hno, hn⟩
  have lb1 : ∀ {b}, LB L1 O1 b → LB L O b := by
    rintro b (⟨n, e, k, ys, hn, hb⟩ | ⟨n, a, o, v, hn, hb⟩)
    · exact .inl ⟨s n, e, k, _, live1 hn, hb⟩
    · exact .inr ⟨s n, a, o, v, own1 hn, hb⟩
  have old : ∀ {n e k xs}, O[n]? = some (.live e k xs) → (∀ i, i < O1'.length → s i ≠ n) → ¬ LB L1 O1 (L n).blk ∧ (L n).blk < w.heap.size := by
    intro n e k xs hn hno
    refine ⟨?_, ?_⟩
    · rintro (⟨i, e', k', ys, hi', hb⟩ | ⟨i, a, o, v, hi', hb⟩)
      · have := hi.sep _ _ _ _ _ _ _ _ (live1 hi') hn hb
        exact hno i (by have := (List.getElem?_eq_some_iff.1 hi').1; omega) this
      · exact hi.ow.live _ a (own1 hi') _ o v hb _ _ _ _ hn rfl
    · obtain ⟨c, q1, _⟩ := hi.obj n e k xs hn
      exact (Array.getElem?_eq_some_iff.1 q1).1
  have oldo : ∀ {n : Nat} {a : AV} {b o : Nat} {v : Value}, O[n]? = some (.own a) → (∀ i, i < O1'.length → s i ≠ n) → (L n).mem b o = some v → ¬ LB L1 O1 b ∧ b < w.heap.size := by
    intro n a b o v hn hno hv
    refine ⟨?_, cell_block (hi.ow.cell n a hn b o v hv)⟩
    rintro (⟨i, e', k', ys, hi', hb⟩ | ⟨i, c, o', v', hi', hb⟩)
    · exact hi.ow.live n a hn b o v hv _ _ _ _ (live1 hi') hb
    · have := hi.ow.sep _ _ c a (own1 hi') hn b o' o v' v hb hv
      exact hno i (by have := (List.getElem?_eq_some_iff.1 hi').1; omega) this
  have clso : ∀ (n : Nat) (a : AV), O''[n]? = some (.own a) → (∃ i, i < O1'.length ∧ s i = n ∧ O1'[i]? = some (.own a)) ∨ (n < O.length ∧ (∀ i, i < O1'.length → s i ≠ n) ∧ O[n]? = some (.own a)) := by
    intro n a hn
    by_cases hx : ∃ i, i < O1'.length ∧ s i = n
    · obtain ⟨i, hi, rfl⟩ := hx
      rw [h1 i hi, Option.map_eq_some_iff] at hn
      obtain ⟨ob, q1, q2⟩ := hn
      cases ob with
      | dead => cases q2
      | live => cases q2
      | nil => cases q2
      | own c => cases q2; exact .inl ⟨i, hi, rfl, q1⟩
    · have hno : ∀ i, i < O1'.length → s i ≠ n := fun i hi he => hx ⟨i, hi, he⟩
      have hlt : n < O.length := by
        have := (List.getElem?_eq_some_iff.1 hn).1
        rcases Nat.lt_or_ge n O.length with h' | h'
        · exact h'
        · exact absurd (hnew (O1.length + (n - O.length)) (by omega)) (fun he => hno (O1.length + (n - O.length)) (by omega) (by omega))
      rw [h2 n hlt (fun i hi => hno i (by omega))] at hn
      exact .inr ⟨hlt, hno, hn⟩
  have ext : Ext I L O I' L'' O'' := by
    refine ⟨hgd.ext.imm, by omega, fun n hn e k xs hx => ?_, fun n hn e k hx => ?_, fun n hn a hx => ?_⟩
    rotate_left 2
    · rcases clso n a hx with ⟨i, hi', rfl, q1⟩ | ⟨hlt, hno, q1⟩
      · have him : i < O1.length := by
          rcases Nat.lt_or_ge i O1.length with h' | h'
          · exact h'
          · have := hnew i h'; omega
        obtain ⟨⟨b, hb⟩, hv⟩ := hgd.ext.own i him a q1
        exact ⟨⟨b, own1 hb⟩, by rw [hL1 i hi']; exact hv⟩
      · exact ⟨⟨a, q1⟩, by rw [hL2 n hno]⟩
    rotate_left
    · by_cases hex : ∃ i, i < O1'.length ∧ s i = n
      · obtain ⟨i, hi', rfl⟩ := hex
        rw [h1 i hi', Option.map_eq_some_iff] at hx
        obtain ⟨ob, q1, q2⟩ := hx
        cases ob with
        | dead => cases q2
        | own a => cases q2
        | live => cases q2
        | nil =>
          cases q2
          have him : i < O1.length := by
            rcases Nat.lt_or_ge i O1.length with h' | h'
            · exact h'
            · have := hnew i h'; omega
          rw [hg i him, hgd.ext.nil i him e k q1]; rfl
      · rwa [h2 n hn (fun i hi' he => hex ⟨i, by omega, he⟩)] at hx
    rcases cls n e k xs hx with ⟨i, ys, hi', rfl, q1, rfl⟩ | ⟨hlt, hno, q1⟩
    · have him : i < O1.length := by
        rcases Nat.lt_or_ge i O1.length with h' | h'
        · exact h'
        · have := hnew i h'; omega
      rcases hgd.ext.obj i him e k ys q1 with ⟨zs, z1, z2, z3⟩ | ⟨z1, z2⟩
      · refine .inl ⟨_, live1 z1, by simpa using z2, fun he => ?_⟩
        rw [hL1 i hi', z3 (by simpa using he)]
      · exact .inr ⟨by rw [hg i him, z1]; rfl, by simpa using z2⟩
    · exact .inl ⟨xs, q1, Nat.le_refl _, fun _ => hL2 n hno⟩
  have fwd : ∀ {a : AV} {x : Value}, R I' L1' O1' a x → R I' L'' O'' (a.ren s) x := fun hr => hr.ren hsl h1 hL1
  have how : Own I' L'' O'' w' := by
    have immo : ∀ {n : Nat} {a : AV}, O[n]? = some (.own a) → (∀ i, i < O1'.length → s i ≠ n) → ∀ {b o v}, (L n).mem b o = some v → ∀ o', I' b o' = none := by
      intro n a hn hno b o v hv o'
      obtain ⟨o1, o2⟩ := oldo hn hno hv
      cases hx : I' b o' with
      | none => rfl
      | some u =>
        rcases hgd.immNew _ _ _ hx with h' | h' | h'
        · rw [hi.ow.imm _ _ hn b o v hv] at h'; cases h'
        · exact (o1 h').elim
        · omega
    refine ⟨fun n a hn => ?_, fun n a hn b o v hv => ?_, fun n a hn b o v hv o' => ?_, fun n a hn b o v hv m e k xs hm hb => ?_, fun n m a c hn hm b o o' v v' hv hv' => ?_, fun n a hn => ?_⟩
    · rcases clso n a hn with ⟨i, hi', rfl, q1⟩ | ⟨hlt, hno, q1⟩
      · rw [hL1 i hi']; exact hgd.inv.ow.tree _ _ q1
      · rw [hL2 n hno]; exact hi.ow.tree _ _ q1
    · rcases clso n a hn with ⟨i, hi', rfl, q1⟩ | ⟨hlt, hno, q1⟩
      · rw [hL1 i hi'] at hv; exact hgd.inv.ow.cell _ _ q1 b o v hv
      · rw [hL2 n hno] at hv
        obtain ⟨o1, o2⟩ := oldo q1 hno hv
        rw [← hi.ow.cell _ _ q1 b o v hv]
        exact World.cell?_of_block (a := ⟨b, o, none⟩) (hgd.frm.block _ o2 o1)
    · rcases clso n a hn with ⟨i, hi', rfl, q1⟩ | ⟨hlt, hno, q1⟩
      · rw [hL1 i hi'] at hv; exact hgd.inv.ow.imm _ _ q1 b o v hv o'
      · rw [hL2 n hno] at hv; exact immo q1 hno hv o'
    · rcases clso n a hn with ⟨i, hi', rfl, q1⟩ | ⟨hlt, hno, q1⟩ <;> rcases cls m e k xs hm with ⟨i', ys', hi'', rfl, q1', rfl⟩ | ⟨hlt', hno', q1'⟩
      · rw [hL1 i' hi''] at hb
        rw [hL1 i hi'] at hv
        exact hgd.inv.ow.live _ _ q1 b o v hv _ _ _ _ q1' hb
      · rw [hL2 m hno'] at hb
        rw [hL1 i hi'] at hv
        obtain ⟨o1, o2⟩ := old q1' hno'
        rw [hb] at o1 o2
        rcases hgd.lb b (.inr ⟨i, a, o, v, q1, hv⟩) with h' | h'
        · exact o1 h'
        · omega
      · rw [hL1 i' hi''] at hb
        rw [hL2 n hno] at hv
        obtain ⟨o1, o2⟩ := oldo q1 hno hv
        rcases hgd.lb b (.inl ⟨i', _, _, _, q1', hb⟩) with h' | h'
        · exact o1 h'
        · omega
      · rw [hL2 m hno'] at hb
        rw [hL2 n hno] at hv
        exact hi.ow.live _ _ q1 b o v hv _ _ _ _ q1' hb
    · rcases clso n a hn with ⟨i, hi', rfl, q1⟩ | ⟨hlt, hno, q1⟩ <;> rcases clso m c hm with ⟨i', hi'', rfl, q1'⟩ | ⟨hlt', hno', q1'⟩
      · rw [hL1 i hi'] at hv
        rw [hL1 i' hi''] at hv'
        rw [hgd.inv.ow.sep _ _ _ _ q1 q1' b o o' v v' hv hv']
      · rw [hL1 i hi'] at hv
        rw [hL2 m hno'] at hv'
        obtain ⟨o1, o2⟩ := oldo q1' hno' hv'
        rcases hgd.lb b (.inr ⟨i, a, o, v, q1, hv⟩) with h' | h'
        · exact (o1 h').elim
        · omega
      · rw [hL2 n hno] at hv
        rw [hL1 i' hi''] at hv'
        obtain ⟨o1, o2⟩ := oldo q1 hno hv
        rcases hgd.lb b (.inr ⟨i', c, o', v', q1', hv'⟩) with h' | h'
        · exact (o1 h').elim
        · omega
      · rw [hL2 n hno] at hv
        rw [hL2 m hno'] at hv'
        exact hi.ow.sep _ _ _ _ q1 q1' b o o' v v' hv hv'
    · rcases clso n a hn with ⟨i, hi', rfl, q1⟩ | ⟨hlt, hno, q1⟩
      · rw [hL1 i hi']; exact hgd.inv.ow.deep _ _ q1
      · rw [hL2 n hno]
        obtain ⟨S, p1, p2⟩ := hi.ow.deep _ _ q1
        refine ⟨S, p1.congr fun b hb => ?_, p2⟩
        obtain ⟨o, v, hv⟩ := (p2 b).1 hb
        obtain ⟨o1, o2⟩ := oldo q1 hno hv
        exact hgd.frm.block _ o2 o1
  refine ⟨y, I', L'', rfl, fwd hy, ⟨⟨hgd.inv.imm, fun n e k xs hn => ?_, fun n n' e k xs e' k' xs' hn hn' hb => ?_, fun n e k xs o hn => ?_, hgd.inv.fix, hgd.inv.blk, how⟩, ext, ⟨hgd.frm.os, hgd.frm.tape, hgd.frm.output, hgd.frm.size, fun b hb hno => hgd.frm.block b hb fun hc => hno (lb1 hc)⟩, ?_, fun b o x hx => ?_⟩⟩
  · rcases cls n e k xs hn with ⟨i, ys, hi', rfl, q1, rfl⟩ | ⟨hlt, hno, q1⟩
    · obtain ⟨c, q1, q2, q3, q4, q5, q6⟩ := hgd.inv.obj _ _ _ _ q1
      rw [hL1 i hi']
      refine ⟨c, q1, q2, by simpa using q3, q4, q5, fun j x hx => ?_⟩
      obtain ⟨z, hz, rfl⟩ := map_get hx
      rw [cells_ren]
      refine ⟨by rw [List.length_map]; exact (q6 j z hz).1, fun l a ha => ?_⟩
      obtain ⟨b, hb, rfl⟩ := map_get ha
      obtain ⟨v, hv, ho, hr'⟩ := (q6 j z hz).2 l b hb
      exact ⟨v, hv, ho, fwd hr'⟩
    · obtain ⟨o1, o2⟩ := old q1 hno
      rw [hL2 n hno]
      obtain ⟨c, q1, q2, q3, q4, q5, q6⟩ := hi.obj _ _ _ _ q1
      refine ⟨c, by rw [hgd.frm.block _ o2 o1]; exact q1, q2, q3, q4, q5, fun j x hx => ⟨(q6 j x hx).1, fun l a ha => ?_⟩⟩
      obtain ⟨v, hv, ho, hr'⟩ := (q6 j x hx).2 l a ha
      exact ⟨v, hv, ho, hr'.mono ext⟩
  · rcases cls n e k xs hn with ⟨i, ys, hi', rfl, q1, rfl⟩ | ⟨hlt, hno, q1⟩ <;> rcases cls n' e' k' xs' hn' with ⟨i', ys', hi'', rfl, q1', rfl⟩ | ⟨hlt', hno', q1'⟩
    · rw [hL1 i hi', hL1 i' hi''] at hb
      rw [hgd.inv.sep _ _ _ _ _ _ _ _ q1 q1' hb]
    · rw [hL1 i hi', hL2 n' hno'] at hb
      obtain ⟨o1, o2⟩ := old q1' hno'
      rcases hgd.lb _ (.inl ⟨i, _, _, _, q1, hb⟩) with h' | h'
      · exact (o1 h').elim
      · omega
    · rw [hL1 i' hi'', hL2 n hno] at hb
      obtain ⟨o1, o2⟩ := old q1 hno
      rcases hgd.lb _ (.inl ⟨i', _, _, _, q1', hb.symm⟩) with h' | h'
      · exact (o1 h').elim
      · omega
    · rw [hL2 n hno, hL2 n' hno'] at hb
      exact hi.sep _ _ _ _ _ _ _ _ q1 q1' hb
  · rcases cls n e k xs hn with ⟨i, ys, hi', rfl, q1, rfl⟩ | ⟨hlt, hno, q1⟩
    · rw [hL1 i hi']; exact hgd.inv.immSep _ _ _ _ o q1
    · rw [hL2 n hno]
      obtain ⟨o1, o2⟩ := old q1 hno
      cases hx : I' (L n).blk o with
      | none => rfl
      | some x =>
        rcases hgd.immNew _ _ _ hx with h' | h' | h'
        · rw [hi.immSep _ _ _ _ o q1] at h'; cases h'
        · exact (o1 h').elim
        · omega
  · rintro b (⟨n, e, k, xs, hn, hb⟩ | ⟨n, a, o, v, hn, hb⟩)
    · rcases cls n e k xs hn with ⟨i, ys, hi', rfl, q1, rfl⟩ | ⟨hlt, hno, q1⟩
      · rw [hL1 i hi'] at hb
        rcases hgd.lb b (.inl ⟨i, _, _, _, q1, hb⟩) with h' | h'
        · exact .inl (lb1 h')
        · exact .inr h'
      · rw [hL2 n hno] at hb
        exact .inl (.inl ⟨n, _, _, _, q1, hb⟩)
    · rcases clso n a hn with ⟨i, hi', rfl, q1⟩ | ⟨hlt, hno, q1⟩
      · rw [hL1 i hi'] at hb
        rcases hgd.lb b (.inr ⟨i, a, o, v, q1, hb⟩) with h' | h'
        · exact .inl (lb1 h')
        · exact .inr h'
      · rw [hL2 n hno] at hb
        exact .inl (.inr ⟨n, a, o, v, q1, hb⟩)
  · rcases hgd.immNew b o x hx with h' | h' | h'
    · exact .inl h'
    · exact .inr (.inl (lb1 h'))
    · exact .inr (.inr h')
/-- a call that makes objects, among whatever objects -/
theorem Con.fresh {P : Program} {f : FuncId} {args : List AV} {res : AV} {O1' : List AObj} (h : Con P f args [] res O1') (hn : AV.norefs args = true) (O : List AObj) :
    Con P f args O (res.ren fun n => O.length + n) (O ++ O1'.map (AObj.ren fun n => O.length + n)) := by
  have := h.frame (O := O) (O'' := O ++ O1'.map (AObj.ren fun n => O.length + n)) (fun n => O.length + n) (by simp) (by simp) (by simp) (by simp) (fun a ha => noref_scoped a (norefs_mem hn a ha)) (by simp) (by simp)
    (fun i hi => by rw [List.getElem?_append_right (by omega), List.getElem?_map, show O.length + i - O.length = i by omega]) (fun n hn _ => by rw [List.getElem?_append_left hn])
  rwa [← rens_eq, norefs_rens args hn] at this
theorem one_ren {n : Nat} {s : Nat → Nat} (h : s 0 = n) {a : AV} (ha : a.one = true) : a.ren s = a.ren fun _ => n := by
  cases a <;> simp only [AV.one] at ha
  case row m l => have : m = 0 := by simpa using ha
                  subst this; simp only [AV.ren, h]
  case ptr m l i f => have : m = 0 := by simpa using ha
                      subst this; simp only [AV.ren, h]
  case own m => have : m = 0 := by simpa using ha
                subst this; simp only [AV.ren, h]
  all_goals rw [noref_ren _ ha, noref_ren _ ha]
theorem one_scoped {a : AV} (ha : a.one = true) : a.inScope 1 = true := by
  cases a <;> simp only [AV.one] at ha
  case row m l => have : m = 0 := by simpa using ha
                  subst this; rfl
  case ptr m l i f => have : m = 0 := by simpa using ha
                      subst this; rfl
  case own m => have : m = 0 := by simpa using ha
                subst this; rfl
  all_goals exact noref_scoped _ ha
theorem obj_norefs_ren {s : Nat → Nat} {ob : AObj} (h : ob.norefs = true) : ob.ren s = ob := by
  cases ob <;> try rfl
  simp only [AObj.norefs] at h
  simp only [AObj.ren]
  rw [← rens_eq, norefs_rens _ h]
theorem obj_norefs_scoped {k : Nat} {ob : AObj} (h : ob.norefs = true) : ob.inScope k = true := by
  cases ob <;> try rfl
  exact norefs_scopeds _ h
/-- a call that reaches one object and makes none -/
theorem Con.one' {P : Program} {f : FuncId} {a0 : List AV} {res : AV} {ob ob' : AObj} (h : Con P f a0 [ob] res [ob']) (ha : a0.all AV.one = true) (hx : ob.norefs = true) (hy : ob'.norefs = true) (hr : res.noref = true)
    {O : List AObj} (k : Nat) (hk : O[k]? = some ob) : Con P f (a0.map (AV.ren fun _ => k)) O res (O.set k ob') := by
  have hlt : k < O.length := (List.getElem?_eq_some_iff.1 hk).1
  have := h.frame (O := O) (O'' := O.set k ob') (fun n => if n = 0 then k else O.length + (n - 1))
    (by intro i hi; simp at hi; subst hi; simpa using hlt) (by intro i hi; simp at hi; subst hi; simp [hk, obj_norefs_ren hx]) (by intro i j hi hj _; simp at hi hj; omega)
    (by intro i hi; simp at hi; simp; omega) (fun a h' => one_scoped (List.all_eq_true.1 ha a h')) (by intro b ho; simp at ho; subst ho; exact obj_norefs_scoped hx) (by simp)
    (by intro i hi; simp at hi; subst hi; simp [hlt, obj_norefs_ren hy]) (by intro n hn hno; have := hno 0 (by simp); simp at this; rw [List.getElem?_set_ne this])
  rw [noref_ren _ hr] at this
  have he : a0.map (AV.ren fun n => if n = 0 then k else O.length + (n - 1)) = a0.map (AV.ren fun _ => k) := List.map_congr_left fun a h' => one_ren (by simp) (List.all_eq_true.1 ha a h')
  rwa [he] at this
/- AN OBJECT GETS A NAME THAT WAS KEPT FOR IT -/
mutual
theorem scoped_of_cells {k : Nat} : ∀ (x : AV), (∀ c ∈ x.cells, c.inScope k = true) → x.inScope k = true
  | .agg cs, h => by simp only [AV.inScope]; exact scopeds_of cs h
  | .top, _ | .v _, _ | .nils, _ | .ifc, _ => rfl
  | .sl xs, h => h (.sl xs) (by simp [AV.cells])
  | .iptr x f, h => h (.iptr x f) (by simp [AV.cells])
  | .row n l, h => h (.row n l) (by simp [AV.cells])
  | .ptr n l i f, h => h (.ptr n l i f) (by simp [AV.cells])
  | .fn f cs, h => h (.fn f cs) (by simp [AV.cells])
  | .tup vs, h => h (.tup vs) (by simp [AV.cells])
  | .own x, h => h (.own x) (by simp [AV.cells])
theorem scopeds_of {k : Nat} : ∀ (xs : List AV), (∀ c ∈ xs, c.inScope k = true) → AV.scopeds k xs = true
  | [], _ => rfl
  | x :: xs, h => by simp only [AV.scopeds, h x (by simp), scopeds_of xs fun c hc => h c (by simp [hc])]; rfl
end
theorem R.inScope {I : Imm} {L : Nat → Loc} {O : List AObj} {a : AV} {x : Value} (hr : R I L O a x) : a.inScope O.length = true := by
  have ix : ∀ {xs : List AV} {vs : Array Value}, xs.length = vs.size → (∀ (i : Nat) c x, xs[i]? = some c → vs[i]? = some x → c.inScope O.length = true) → AV.scopeds O.length xs = true := by
    intro xs vs hl h
    refine scopeds_of xs fun c hc => ?_
    obtain ⟨i, hi⟩ := List.getElem?_of_mem hc
    have hlt := (List.getElem?_eq_some_iff.1 hi).1
    exact h i c _ hi (by rw [Array.getElem?_eq_getElem (show i < vs.size by omega)])
  induction hr with
  | top x => rfl
  | v x _ => rfl
  | nils => rfl
  | ifc => rfl
  | sl0 a cap => rfl
  | sl xs blk off cap s vals h1 h2 h3 h4 _ ih =>
    refine scopeds_of xs fun x hx => scoped_of_cells x fun c hc => ?_
    obtain ⟨i, hi⟩ := List.getElem?_of_mem hx
    obtain ⟨j, hj⟩ := List.getElem?_of_mem hc
    exact ih i x j c hi hj
  | iptr x f blk base vals h1 _ ih =>
    refine scoped_of_cells x fun c hc => ?_
    obtain ⟨j, hj⟩ := List.getElem?_of_mem hc
    exact ih j c hj
  | rowLive n len e s xs hn hl => exact decide_eq_true (List.getElem?_eq_some_iff.1 hn).1
  | rowNil n e s hn => exact decide_eq_true (List.getElem?_eq_some_iff.1 hn).1
  | rowDead n len x hn => exact decide_eq_true hn
  | ptrLive n len i f e s xs hn hl => exact decide_eq_true (List.getElem?_eq_some_iff.1 hn).1
  | ptrDead n len i f x hn => exact decide_eq_true hn
  | fn f caps vs h1 _ ih => exact ix h1 ih
  | agg cs vs h1 _ ih => exact ix h1 ih
  | tup cs vs h1 _ ih => exact ix h1 ih
  | ownLive n a hn => exact decide_eq_true (List.getElem?_eq_some_iff.1 hn).1
  | ownDead n x hn => exact decide_eq_true hn
section
variable {I I' : Imm} {L L' : Nat → Loc} {O : List AObj} {w w' : World} {t s k : Nat} {xs : List AV}
def moveL (L : Nat → Loc) (k N : Nat) : Nat → Loc := fun n => if n = k then L N else L n
theorem R.move (hk : O[k]? = some (.nil t s)) (hne : xs ≠ []) {a : AV} {x : Value} (hr : R I' L' (O ++ [.live t s xs]) a x) (h : a.inScope O.length = true) : R I' (moveL L' k O.length) (O.set k (.live t s xs)) a x := by
  have hkl := (List.getElem?_eq_some_iff.1 hk).1
  have old : ∀ {n : Nat}, n < O.length → (O ++ [AObj.live t s xs])[n]? = O[n]? := fun {n} hn => List.getElem?_append_left hn
  have oth : ∀ {n : Nat}, n ≠ k → (O.set k (.live t s xs))[n]? = O[n]? := fun {n} hn => List.getElem?_set_ne (fun he => hn he.symm)
  have self : (O.set k (.live t s xs))[k]? = some (.live t s xs) := List.getElem?_set_self hkl
  have hL : ∀ {n : Nat}, n ≠ k → moveL L' k O.length n = L' n := fun {n} hn => if_neg hn
  induction hr with
  | top x => exact .top x
  | v x hx => exact .v x hx
  | nils => exact .nils
  | ifc t x => exact .ifc t x
  | sl0 a cap => exact .sl0 a cap
  | sl xs blk off cap s vals h1 h2 h3 h4 _ ih =>
    refine .sl xs blk off cap s vals h1 h2 h3 h4 fun i x j c hi hj => ih i x j c hi hj ?_
    exact scoped_cells (scopeds_mem (by simpa [AV.inScope] using h) x (List.mem_of_getElem? hi)) c (List.mem_of_getElem? hj)
  | iptr x f blk base vals h1 _ ih =>
    refine .iptr x f blk base vals h1 fun j c hj => ih j c hj ?_
    exact scoped_cells (by simpa [AV.inScope] using h) c (List.mem_of_getElem? hj)
  | rowLive n len e s' ys hn hl =>
    have hlt : n < O.length := by simpa [AV.inScope] using h
    rw [old hlt] at hn
    have hne : n ≠ k := by rintro rfl; rw [hk] at hn; cases hn
    rw [← hL hne]
    exact .rowLive n len e s' ys (by rw [oth hne]; exact hn) hl
  | rowNil n e s' hn =>
    have hlt : n < O.length := by simpa [AV.inScope] using h
    rw [old hlt] at hn
    by_cases hnk : n = k
    · subst hnk
      exact .rowDead n 0 _ (by simpa using hlt) (fun e s he => by rw [self] at he; cases he) (fun e s ys hy => by rw [self] at hy; cases hy; exact List.length_pos_iff.2 hne) rfl
    · exact .rowNil n e s' (by rw [oth hnk]; exact hn)
  | rowDead n len x hlt' hnn hs hx =>
    have hlt : n < O.length := by simpa [AV.inScope] using h
    have hnk : n ≠ k := by rintro rfl; exact hnn t s (by rw [old hlt]; exact hk)
    exact .rowDead n len x (by simpa using hlt) (fun e s' he => hnn e s' (by rw [old hlt]; rwa [oth hnk] at he)) (fun e s' ys hy => hs e s' ys (by rw [old hlt]; rwa [oth hnk] at hy)) hx
  | ptrLive n len i f e s' ys hn hl =>
    have hlt : n < O.length := by simpa [AV.inScope] using h
    rw [old hlt] at hn
    have hne : n ≠ k := by rintro rfl; rw [hk] at hn; cases hn
    rw [← hL hne]
    exact .ptrLive n len i f e s' ys (by rw [oth hne]; exact hn) hl
  | ptrDead n len i f x hlt' hnn hs hx =>
    have hlt : n < O.length := by simpa [AV.inScope] using h
    have hnk : n ≠ k := by rintro rfl; exact hnn t s (by rw [old hlt]; exact hk)
    exact .ptrDead n len i f x (by simpa using hlt) (fun e s' he => hnn e s' (by rw [old hlt]; rwa [oth hnk] at he)) (fun e s' ys hy => hs e s' ys (by rw [old hlt]; rwa [oth hnk] at hy)) hx
  | fn f caps vs h1 _ ih => exact .fn f caps vs h1 fun i c x hi hx => ih i c x hi hx (scopeds_mem (by simpa [AV.inScope] using h) c (List.mem_of_getElem? hi))
  | agg cs vs h1 _ ih => exact .agg cs vs h1 fun i c x hi hx => ih i c x hi hx (scopeds_mem (by simpa [AV.inScope] using h) c (List.mem_of_getElem? hi))
  | tup cs vs h1 _ ih => exact .tup cs vs h1 fun i c x hi hx => ih i c x hi hx (scopeds_mem (by simpa [AV.inScope] using h) c (List.mem_of_getElem? hi))
  | ownLive n a hn h1 =>
    have hlt : n < O.length := by simpa [AV.inScope] using h
    rw [old hlt] at hn
    have hne : n ≠ k := by rintro rfl; rw [hk] at hn; cases hn
    rw [← hL hne] at h1 ⊢
    exact .ownLive n a (by rw [oth hne]; exact hn) h1
  | ownDead n x hlt' hno h1 =>
    have hlt : n < O.length := by simpa [AV.inScope] using h
    refine .ownDead n x (by simpa using hlt) (fun a ha => ?_) h1
    by_cases hnk : n = k
    · subst hnk; rw [self] at ha; cases ha
    · exact hno a (by rw [old hlt]; rwa [oth hnk] at ha)
theorem Good.move (hi : Inv I L O w) (hk : O[k]? = some (.nil t s)) (hne : xs ≠ []) (hsc : ∀ x ∈ xs, ∀ c ∈ x.cells, c.inScope O.length = true) (hg : Good I L O w I' L' (O ++ [.live t s xs]) w') :
    Good I L O w I' (moveL L' k O.length) (O.set k (.live t s xs)) w' := by
  have hkl := (List.getElem?_eq_some_iff.1 hk).1
  have old : ∀ {n : Nat}, n < O.length → (O ++ [AObj.live t s xs])[n]? = O[n]? := fun {n} hn => List.getElem?_append_left hn
  have oth : ∀ {n : Nat}, n ≠ k → (O.set k (.live t s xs))[n]? = O[n]? := fun {n} hn => List.getElem?_set_ne (fun he => hn he.symm)
  have self : (O.set k (.live t s xs))[k]? = some (.live t s xs) := List.getElem?_set_self hkl
  have hnew : (O ++ [AObj.live t s xs])[O.length]? = some (.live t s xs) := by simp
  -- where an object was
  have src : ∀ {n e k' ys}, (O.set k (.live t s xs))[n]? = some (.live e k' ys) → ∃ m, (O ++ [AObj.live t s xs])[m]? = some (.live e k' ys) ∧ moveL L' k O.length n = L' m ∧ (∀ x ∈ ys, ∀ c ∈ x.cells, c.inScope O.length = true) ∧ ((n = k ∧ m = O.length) ∨ (n ≠ k ∧ m = n ∧ n < O.length)) := by
    intro n e k' ys hn
    by_cases hnk : n = k
    · subst hnk
      rw [self] at hn
      cases hn
      exact ⟨O.length, hnew, if_pos rfl, hsc, .inl ⟨rfl, rfl⟩⟩
    · rw [oth hnk] at hn
      have hlt := (List.getElem?_eq_some_iff.1 hn).1
      refine ⟨n, by rw [old hlt]; exact hn, if_neg hnk, fun x hx c hc => ?_, .inr ⟨hnk, rfl, hlt⟩⟩
      obtain ⟨_, _, _, _, _, _, q⟩ := hi.obj n e k' ys hn
      obtain ⟨i, hix⟩ := List.getElem?_of_mem hx
      obtain ⟨j, hjc⟩ := List.getElem?_of_mem hc
      obtain ⟨_, _, _, hr⟩ := (q i x hix).2 j c hjc
      exact hr.inScope
  have srco : ∀ {n : Nat} {a : AV}, (O.set k (.live t s xs))[n]? = some (.own a) → (O ++ [AObj.live t s xs])[n]? = some (.own a) ∧ moveL L' k O.length n = L' n := by
    intro n a hn
    by_cases hnk : n = k
    · subst hnk
      rw [self] at hn; cases hn
    · rw [oth hnk] at hn
      rw [old (List.getElem?_eq_some_iff.1 hn).1]; exact ⟨hn, if_neg hnk⟩
  refine ⟨⟨hg.inv.imm, fun n e k' ys hn => ?_, fun n m e k' ys e' k'' ys' hn hm hb => ?_, fun n e k' ys o hn => ?_, hg.inv.fix, hg.inv.blk, hg.inv.ow.same (fun n a hn => srco hn) (fun b o v hv => .inl ⟨o, v, hv⟩) (fun m e k' ys hm => by obtain ⟨m1, h1, h2, _⟩ := src hm; rw [h2]; exact .inl ⟨m1, _, _, _, h1, rfl⟩) rfl⟩, ⟨hg.ext.imm, by simp, fun n hn e k' ys hx => ?_, fun n hn e k' hx => ?_, fun n hn a hx => by obtain ⟨q1, q2⟩ := srco hx; rw [q2]; exact hg.ext.own n hn a q1⟩, hg.frm, ?_, hg.immNew⟩
  · obtain ⟨m, h1, h2, h3, _⟩ := src hn
    rw [h2]
    obtain ⟨c, q1, q2, q3, q4, q5, q6⟩ := hg.inv.obj m e k' ys h1
    refine ⟨c, q1, q2, q3, q4, q5, fun i x hx => ⟨(q6 i x hx).1, fun j a ha => ?_⟩⟩
    obtain ⟨y, hy, ho, hr⟩ := (q6 i x hx).2 j a ha
    exact ⟨y, hy, ho, hr.move hk hne (h3 x (List.mem_of_getElem? hx) a (List.mem_of_getElem? ha))⟩
  · obtain ⟨m1, h1, h2, _, h4⟩ := src hn
    obtain ⟨m2, k1, k2, _, k4⟩ := src hm
    rw [h2, k2] at hb
    have := hg.inv.sep m1 m2 _ _ _ _ _ _ h1 k1 hb
    rcases h4 with ⟨a1, a2⟩ | ⟨a1, a2, a3⟩ <;> rcases k4 with ⟨b1, b2⟩ | ⟨b1, b2, b3⟩ <;> omega
  · obtain ⟨m, h1, h2, _⟩ := src hn
    rw [h2]; exact hg.inv.immSep m e k' ys o h1
  · by_cases hnk : n = k
    · subst hnk
      rw [self] at hx
      cases hx
      exact .inr ⟨hk, hne⟩
    · rw [oth hnk] at hx
      rcases hg.ext.obj n hn e k' ys (by rw [old hn]; exact hx) with ⟨zs, z1, z2, z3⟩ | h
      · exact .inl ⟨zs, z1, z2, fun he => by rw [show moveL L' k O.length n = L' n from if_neg hnk]; exact z3 he⟩
      · exact .inr h
  · by_cases hnk : n = k
    · subst hnk
      rw [self] at hx; cases hx
    · rwa [oth hnk] at hx
  · rintro b (⟨n, e, k', ys, hn, hb⟩ | ⟨n, a, o, v, hn, hb⟩)
    · obtain ⟨m, h1, h2, _⟩ := src hn
      rw [h2] at hb
      exact hg.lb b (.inl ⟨m, e, k', ys, h1, hb⟩)
    · obtain ⟨q1, q2⟩ := srco hn
      rw [q2] at hb
      exact hg.lb b (.inr ⟨n, a, o, v, q1, hb⟩)
end
end Go.Ab
/-
  APPEND OF A STRING's BYTES.
-/
namespace Go.Ab
/-- a string's bytes -/
def ysS (s : ByteArray) : List AV := s.data.toList.map fun c => .v (.int .u8 c.toNat)
def newsS (s : ByteArray) : List Value := s.data.toList.map fun c => .int .u8 c.toNat
theorem ysS_len (s : ByteArray) : (ysS s).length = s.size := by simp [ysS]
theorem newsS_len (s : ByteArray) : (newsS s).length = s.size := by simp [newsS]
theorem newsS_arr (s : ByteArray) : (newsS s).toArray = s.data.map fun b => Value.int .u8 b.toNat := by
  apply Array.ext'; simp [newsS]
section
variable {P : Program} {I : Imm} {L : Nat → Loc} {O : List AObj} {w : World} {K : AV → List AObj → Prop} {e : Env} {a : Act}
theorem newsS_spec {sb : ByteArray} {s : Nat} (h : s = 1) : (newsS sb).length = (ysS sb).length * s ∧ (∀ u ∈ newsS sb, u.oneCell' = true) ∧ RRow I L O s (ysS sb) (newsS sb).toArray := by
  subst h
  refine ⟨by simp [newsS_len, ysS_len], fun u hu => ?_, fun i x hx => ?_⟩
  · obtain ⟨c, _, rfl⟩ := List.mem_map.1 hu; rfl
  · simp only [ysS, List.getElem?_map, Option.map_eq_some_iff] at hx
    obtain ⟨c, hc, rfl⟩ := hx
    refine ⟨rfl, fun j d hj => ?_⟩
    cases j with
    | zero =>
      simp [AV.cells] at hj
      subst hj
      exact ⟨.int .u8 c.toNat, by simp [newsS, hc], rfl, .v _ rfl⟩
    | succ j => simp [AV.cells] at hj
theorem run_firstCells_s (size : Nat) (s : ByteArray) (w : World) : (Builtin.firstCells size s.size (.string s)).run P w = .ok (newsS s).toArray w := by
  have hx : (s.extract 0 s.size).data = s.data := by simp [ByteArray.extract_zero_size]
  simp [Builtin.firstCells, newsS_arr, hx]
theorem run_append_nil_s (w : World) (t u ty e : TypeId) (i : TypeInfo) (z : Value) (ht : P.underlying t = some (.slice e)) (hu : P.underlying u = some .string) (hi : P.info? e = some i) (hz : i.zero = some z)
    (s : ByteArray) (h0 : 0 < (ysS s).length) (h63 : ((ysS s).length : Int) ≤ 9223372036854775807) (h48 : (ysS s).length * i.bytes ≤ 281474976710656) :
    (Builtin.append_ #[t, u] ty #[.slice none 0 0, .string s]).run P w =
      .ok (.slice (some ⟨w.heap.size, 0, none⟩) (ysS s).length (grownCap w (ysS s).length 0 e)) (w.drew.alloc (.cells ((newsS s).toArray ++ Builtin.zeroCells z.cells (grownCap w (ysS s).length 0 e - (ysS s).length)) e)) := by
  rw [ysS_len] at *
  rw [newsS_arr]
  exact run_append_nil_string w t u ty e i z ht hu hi hz s h0 h63 h48
theorem run_append_room_s (w : World) (t u ty e : TypeId) (i : TypeInfo) (ht : P.underlying t = some (.slice e)) (hu : P.underlying u = some .string) (hi : P.info? e = some i)
    (g sLen sCap : Nat) (cur : Array Value) (hg : w.heap[g]? = some (.cells cur e (0, 0)))
    (s : ByteArray) (h1 : ∀ u ∈ newsS s, u.oneCell' = true)
    (hroom : sLen + (ysS s).length ≤ sCap) (hfit : sLen * i.size + (newsS s).length ≤ cur.size) :
    (Builtin.append_ #[t, u] ty #[.slice (some ⟨g, 0, none⟩) sLen sCap, .string s]).run P w =
      .ok (.slice (some ⟨g, 0, none⟩) (sLen + (ysS s).length) sCap) (w.setRow g (cur.toList.take (sLen * i.size) ++ newsS s ++ cur.toList.drop (sLen * i.size + (newsS s).length)).toArray) := by
  have hst := run_storeCells_at P g (sLen * i.size) e (newsS s) 0 cur w hg (by simpa using hfit) h1
  simp only [Nat.add_zero] at hst
  rw [ysS_len] at *
  simp [Builtin.append_, run_underlying ht, run_underlying hu, sizeOf, typeInfo, hi, Builtin.lenOf, hroom, run_firstCells_s, Addr.add_lit, hst]
theorem run_append_grow_s (w : World) (t u ty e : TypeId) (i : TypeInfo) (z : Value) (ht : P.underlying t = some (.slice e)) (hu : P.underlying u = some .string) (hi : P.info? e = some i) (hz : i.zero = some z)
    (b : Addr) (sLen sCap : Nat) (olds : List Value) (hlo : olds.length = sLen * i.size) (holds : ∀ j v, olds[j]? = some v → w.cell? (b.add j) = some v)
    (s : ByteArray)
    (hg : sCap < sLen + (ysS s).length) (h63 : ((sLen + (ysS s).length : Nat) : Int) ≤ 9223372036854775807) (hfit : Builtin.nextslicecap (sLen + (ysS s).length) sCap * i.bytes ≤ 281474976710656) :
    (Builtin.append_ #[t, u] ty #[.slice (some b) sLen sCap, .string s]).run P w =
      .ok (.slice (some ⟨w.heap.size, 0, none⟩) (sLen + (ysS s).length) (grownCap w (sLen + (ysS s).length) sCap e))
        (w.drew.alloc (.cells (olds.toArray ++ (newsS s).toArray ++ Builtin.zeroCells z.cells (grownCap w (sLen + (ysS s).length) sCap e - (sLen + (ysS s).length))) e)) := by
  rw [ysS_len] at *
  have hn : ¬ (sLen + s.size ≤ sCap) := by omega
  have h63' : ¬ (9223372036854775807 < ((sLen : Int) + (s.size : Int))) := by omega
  have h48' : ¬ (281474976710656 < Builtin.nextslicecap (sLen + s.size) sCap * i.bytes) := by omega
  have hf := fun w => run_firstCells_s (P := P) i.size s w
  have hfo := run_firstCells_some (P := P) w.drew i.size sLen b sLen sCap olds hlo (by simpa using holds)
  simp [Builtin.append_, run_underlying ht, run_underlying hu, sizeOf, typeInfo, zeroValue, hi, hz, Builtin.lenOf, hn, h63', h48', Question.forced, hf, hfo, newRow, grownCap]
  congr 2
  apply Array.ext'
  simp [List.append_assoc]
theorem append_zero_s {t u ty el : TypeId} {i : TypeInfo} (ht : P.underlying t = some (.slice el)) (hu : P.underlying u = some .string) (hi : P.info? el = some i) (b : Option Addr) (n cap : Nat) (hn : n ≤ cap) {s : ByteArray} (hs : s.size = 0) (w : World) :
    (Builtin.append_ #[t, u] ty #[.slice b n cap, .string s]).run P w = .ok (.slice b n cap) w := by
  have hf : (Builtin.firstCells i.size 0 (.string s)).run P w = .ok #[] w := by
    have := run_firstCells_s (P := P) i.size s w
    rw [hs] at this
    rw [this, List.eq_nil_of_length_eq_zero (by rw [newsS_len, hs] : (newsS s).length = 0)]
  cases b <;> simp [Builtin.append_, run_underlying ht, run_underlying hu, sizeOf, typeInfo, hi, Builtin.lenOf, hs, hn, hf, storeCells]
theorem apps_nil {t u ty el : Nat} {i : TypeInfo} {z0 : Value} (ht : P.underlying t = some (.slice el)) (hu : P.underlying u = some .string) {sb : ByteArray} (hi : P.info? el = some i) (hz : i.zero = some z0) (h0 : 0 < i.size) (hzs : z0.cells.size = i.size)
    (hinv : Inv I L O w) (h1s : i.size = 1) (hne : (ysS sb) ≠ [])
    (h48 : (ysS sb).length * i.bytes ≤ 140737488355328) (hmx : (ysS sb).length ≤ maxLen) :
    ∃ y' I' L' w', Good I L O w I' L' (O ++ [.live el i.size (ysS sb)]) w' ∧ R I' L' (O ++ [.live el i.size (ysS sb)]) (.row O.length (ysS sb).length) y' ∧
      (Builtin.append_ #[t, u] ty #[.slice none 0 0, .string sb]).run P w = .ok y' w' := by
  obtain ⟨h1, h3, h4⟩ := newsS_spec (I := I) (L := L) (O := O) (sb := sb) h1s
  have hpos : 0 < (ysS sb).length := List.length_pos_iff.2 hne
  have hm : (ysS sb).length ≤ 9223372036854775807 := by simpa [maxLen] using hmx
  have hrun := run_append_nil_s (P := P) w t u ty el i z0 ht hu hi hz sb hpos (by omega) (by omega)
  have hge := grownCap_ge w (ysS sb).length 0 el
  have hle := grownCap_le_maxLen w (ysS sb).length 0 el hmx
  generalize grownCap w (ysS sb).length 0 el = cap at *
  have hgood := (Good.drawn hinv (w.drawn + 1))
  have hrow := RRow.append (I := I) (L := L) (O := O) (s := i.size) (xs := []) (ys := (ysS sb)) (c := #[]) (d := (newsS sb).toArray) (fun i x hx => by simp at hx) h4 (Builtin.zeroCells z0.cells (cap - (ysS sb).length)).toList [] (by simp) (by simp)
  have hnew := hgood.inv.new (e := el) (s := i.size) (xs := (ysS sb)) ((newsS sb).toArray ++ Builtin.zeroCells z0.cells (cap - (ysS sb).length)) cap
    (by rw [Array.size_append, size_zeroCells, hzs]; simp only [List.size_toArray, h1]; rw [← Nat.add_mul]; congr 1; omega) hge hle h0 (by
      have : RRow I L O i.size (ysS sb) ((newsS sb).toArray ++ Builtin.zeroCells z0.cells (cap - (ysS sb).length)) := by simpa using RRow.of_append hrow
      exact this)
  refine ⟨_, _, _, _, hgood.trans hnew, ?_, hrun⟩
  have := R.rowLive (I := I) (L := fun k => if k = O.length then Loc.at w.heap.size (cap) else L k) (O := O ++ [.live el i.size (ysS sb)]) O.length (ysS sb).length el i.size (ysS sb) (by simp) rfl
  simpa using this
theorem run_append_nil_z (w : World) (t u ty e : TypeId) (i : TypeInfo) (z : Value) (ki : IntKind) (ht : P.underlying t = some (.slice e)) (hu : P.underlying u = some (.int ki)) (hi : P.info? e = some i) (hz : i.zero = some z) (h0 : 0 < i.size)
    (k : Nat) (hk : 0 < k) (h63 : (k : Int) ≤ 9223372036854775807) (h48 : k * i.bytes ≤ 281474976710656) :
    (Builtin.append_ #[t, u] ty #[.slice none 0 0, .int .i64 k]).run P w =
      .ok (.slice (some ⟨w.heap.size, 0, none⟩) k (grownCap w k 0 e)) (w.drew.alloc (.cells (Builtin.zeroCells z.cells k ++ Builtin.zeroCells z.cells (grownCap w k 0 e - k)) e)) := by
  have hn : k ≠ 0 := by omega
  have h63' : ¬ (9223372036854775807 < (k : Int)) := by omega
  have h48' : ¬ (281474976710656 < Builtin.nextslicecap k 0 * i.bytes) := by rw [nextslicecap_zero hk]; omega
  have hw : IntKind.i64.wrap (k : Int) = k := by
    simp [IntKind.wrap, IntKind.signed, IntKind.bits]
    split <;> omega
  have h48i : ¬ (281474976710656 < (k : Int) * (i.bytes : Int)) := by
    have : ((k * i.bytes : Nat) : Int) ≤ 281474976710656 := by omega
    rw [Int.natCast_mul] at this; omega
  have hlt : ¬ ((k : Int) < 0) := by omega
  have hs : ¬ (k * i.size = 0) := Nat.mul_ne_zero hn (by omega)
  simp [Builtin.append_, run_underlying ht, run_underlying hu, sizeOf, typeInfo, zeroValue, hi, hz, asInt, asIntOf, hw, hlt, h48i, Builtin.firstCells, hn, hs, h63', h48', Question.forced, newRow, grownCap]
theorem appz_nil {t u ty el : Nat} {i : TypeInfo} {z0 : Value} {z : AV} {ki : IntKind} (ht : P.underlying t = some (.slice el)) (hu : P.underlying u = some (.int ki)) {k : Nat} (hi : P.info? el = some i) (hz : i.zero = some z0) (hz0 : absV z0 = some z) (h0 : 0 < i.size) (hzs : z0.cells.size = i.size)
    (hst : z.storable = true) (hzl : z.cells.length = i.size) (hinv : Inv I L O w) (hk : 0 < k) (h48 : k * i.bytes ≤ 281474976710656) (hmx : k ≤ maxLen) :
    ∃ y' I' L' w', Good I L O w I' L' (O ++ [.live el i.size (List.replicate k z)]) w' ∧ R I' L' (O ++ [.live el i.size (List.replicate k z)]) (.row O.length k) y' ∧
      (Builtin.append_ #[t, u] ty #[.slice none 0 0, .int .i64 k]).run P w = .ok y' w' := by
  have hm : k ≤ 9223372036854775807 := by simpa [maxLen] using hmx
  have hrun := run_append_nil_z (P := P) w t u ty el i z0 ki ht hu hi hz h0 k hk (by omega) h48
  have hge := grownCap_ge w k 0 el
  have hle := grownCap_le_maxLen w k 0 el hmx
  generalize grownCap w k 0 el = cap at *
  have hgood := (Good.drawn hinv (w.drawn + 1))
  have h4 : RRow I L O i.size (List.replicate k z) (Builtin.zeroCells z0.cells k) := by
    have := RRow.made (I := I) (L := L) (O := O) (cap := k) (n := k) (absV_sound hz0) hst hzl h0 (Nat.le_refl _)
    unfold Builtin.zeroCells
    rw [hzs] at this ⊢
    exact this
  have hsz : (Builtin.zeroCells z0.cells k).size = k * i.size := by rw [size_zeroCells, hzs]
  have hrow := RRow.append (I := I) (L := L) (O := O) (s := i.size) (xs := []) (ys := List.replicate k z) (c := #[]) (d := Builtin.zeroCells z0.cells k) (fun i x hx => by simp at hx) h4 (Builtin.zeroCells z0.cells (cap - k)).toList [] (by simp) (by simp)
  have hnew := hgood.inv.new (e := el) (s := i.size) (xs := List.replicate k z) (Builtin.zeroCells z0.cells k ++ Builtin.zeroCells z0.cells (cap - k)) cap
    (by rw [Array.size_append, size_zeroCells, size_zeroCells, hzs, ← Nat.add_mul]; congr 1; omega) (by simpa using hge) hle h0 (by
      have : RRow I L O i.size (List.replicate k z) (Builtin.zeroCells z0.cells k ++ Builtin.zeroCells z0.cells (cap - k)) := by simpa using RRow.of_append hrow
      exact this)
  refine ⟨_, _, _, _, hgood.trans hnew, ?_, hrun⟩
  have := R.rowLive (I := I) (L := fun m => if m = O.length then Loc.at w.heap.size (cap) else L m) (O := O ++ [.live el i.size (List.replicate k z)]) O.length k el i.size (List.replicate k z) (by simp) (by simp)
  simpa using this
theorem apps_first {t u ty el : Nat} {i : TypeInfo} {z0 : Value} (ht : P.underlying t = some (.slice el)) (hu : P.underlying u = some .string) {sb : ByteArray} (hi : P.info? el = some i) (hz : i.zero = some z0) (h0 : 0 < i.size) (hzs : z0.cells.size = i.size)
    (hinv : Inv I L O w) {n : Nat} (hn : O[n]? = some (.nil el i.size)) (h1s : i.size = 1) (hne : (ysS sb) ≠ [])
    (h48 : (ysS sb).length * i.bytes ≤ 140737488355328) (hmx : (ysS sb).length ≤ maxLen) :
    ∃ y' I' L' w', Good I L O w I' L' (O.set n (.live el i.size (ysS sb))) w' ∧ R I' L' (O.set n (.live el i.size (ysS sb))) (.row n (ysS sb).length) y' ∧
      (Builtin.append_ #[t, u] ty #[.slice none 0 0, .string sb]).run P w = .ok y' w' := by
  have hnlt : n < O.length := (List.getElem?_eq_some_iff.1 hn).1
  obtain ⟨h1, h3, h4⟩ := newsS_spec (I := I) (L := L) (O := O) (sb := sb) h1s
  have hpos : 0 < (ysS sb).length := List.length_pos_iff.2 hne
  have hm : (ysS sb).length ≤ 9223372036854775807 := by simpa [maxLen] using hmx
  have hrun := run_append_nil_s (P := P) w t u ty el i z0 ht hu hi hz sb hpos (by omega) (by omega)
  have hge := grownCap_ge w (ysS sb).length 0 el
  have hle := grownCap_le_maxLen w (ysS sb).length 0 el hmx
  generalize grownCap w (ysS sb).length 0 el = cap at *
  have hgood := (Good.drawn hinv (w.drawn + 1))
  have hrow := RRow.append (I := I) (L := L) (O := O) (s := i.size) (xs := []) (ys := (ysS sb)) (c := #[]) (d := (newsS sb).toArray) (fun i x hx => by simp at hx) h4 (Builtin.zeroCells z0.cells (cap - (ysS sb).length)).toList [] (by simp) (by simp)
  have hnew := hgood.inv.put (n := n) (l := Loc.at w.heap.size (cap)) (e := el) (s := i.size) (xs := (ysS sb)) (O' := O.set n (.live el i.size (ysS sb)))
    (w' := w.drew.alloc (.cells ((newsS sb).toArray ++ Builtin.zeroCells z0.cells (cap - (ysS sb).length)) el))
    (set_get hnlt _) (by simp) (fun b' hb' _ => heap_alloc_old w.drew _ b' hb') rfl rfl rfl (by rw [World.size_alloc]; exact Nat.le_succ _) (.inl (Nat.le_refl _))
    ⟨_, heap_alloc_new w.drew _, by rw [Array.size_append, size_zeroCells, hzs]; simp only [List.size_toArray, h1]; rw [← Nat.add_mul]; congr 1; omega, hge, hle, h0, by
      have : RRow I L O i.size (ysS sb) ((newsS sb).toArray ++ Builtin.zeroCells z0.cells (cap - (ysS sb).length)) := by simpa using RRow.of_append hrow
      exact this⟩
    (fun _ => .inr ⟨hn, hne⟩)
  refine ⟨_, _, _, _, hgood.trans hnew, ?_, hrun⟩
  have := R.rowLive (I := I) (L := fun k => if k = n then Loc.at w.heap.size (cap) else L k) (O := O.set n (.live el i.size (ysS sb))) n (ysS sb).length el i.size (ysS sb) (by simp [hnlt]) rfl
  simpa using this
theorem apps_room {t u ty el : Nat} {i : TypeInfo} (ht : P.underlying t = some (.slice el)) (hu : P.underlying u = some .string) {sb : ByteArray} (hi : P.info? el = some i)
    (hinv : Inv I L O w) {n : Nat} {xs : List AV} (h1s : i.size = 1) (hn : O[n]? = some (.live el i.size xs))
    (hroom : xs.length + (ysS sb).length ≤ (L n).cap) :
    ∃ y' I' L' w', Good I L O w I' L' (O.set n (.live el i.size (xs ++ (ysS sb)))) w' ∧ R I' L' (O.set n (.live el i.size (xs ++ (ysS sb)))) (.row n (xs.length + (ysS sb).length)) y' ∧
      (Builtin.append_ #[t, u] ty #[.slice (some ⟨(L n).blk, 0, none⟩) xs.length (L n).cap, .string sb]).run P w = .ok y' w' := by
  obtain ⟨h1, h3, h4⟩ := newsS_spec (I := I) (L := L) (O := O) (sb := sb) h1s
  obtain ⟨cur, g1, g2, g3, g4, g5, g6⟩ := hinv.obj n _ _ xs hn
  have hnlt : n < O.length := (List.getElem?_eq_some_iff.1 hn).1
  have hmul : xs.length * i.size + (ysS sb).length * i.size ≤ (L n).cap * i.size := by rw [← Nat.add_mul]; exact Nat.mul_le_mul_right _ hroom
  have hfit : xs.length * i.size + (newsS sb).length ≤ cur.size := by
    rw [h1, g2]; exact hmul
  have hrun := run_append_room_s (P := P) w t u ty el i ht hu hi (L n).blk xs.length (L n).cap cur g1 sb h3 hroom hfit
  have hrow := RRow.append (I := I) (L := L) (O := O) (s := i.size) (xs := xs) (ys := (ysS sb)) (c := cur) (d := (newsS sb).toArray) g6 h4 (cur.toList.drop (xs.length * i.size + (newsS sb).length)) (cur.toList.take (xs.length * i.size))
    (by simp only [List.length_take, Array.length_toList]; omega) (fun k hk => by rw [List.getElem?_take, if_pos hk, Array.getElem?_toList])
  have hgood := hinv.put (n := n) (l := L n) (e := el) (s := i.size) (xs := xs ++ (ysS sb)) (O' := O.set n (.live el i.size (xs ++ (ysS sb)))) (w' := w.setRow (L n).blk (cur.toList.take (xs.length * i.size) ++ newsS sb ++ cur.toList.drop (xs.length * i.size + (newsS sb).length)).toArray)
    (set_get hnlt _) (by simp) (fun b' _ hb' => setRow_other w _ _ _ hb') rfl rfl rfl (by simp) (.inr ⟨_, _, _, hn, rfl⟩)
    ⟨_, setRow_heap w _ cur _ _ _ g1, by simp only [List.size_toArray, List.length_append, List.length_take, List.length_drop, Array.length_toList]; omega, by simpa using hroom, g4, g5, hrow⟩
    (fun _ => .inl ⟨xs, hn, by simp, fun _ => rfl⟩)
  refine ⟨_, _, _, _, hgood, ?_, hrun⟩
  have := R.rowLive (I := I) (L := fun k => if k = n then L n else L k) (O := O.set n (.live el i.size (xs ++ (ysS sb)))) n (xs.length + (ysS sb).length) el i.size (xs ++ (ysS sb)) (by simp [hnlt]) (by simp)
  simpa using this
theorem apps_grow {t u ty el : Nat} {i : TypeInfo} {z0 : Value} (ht : P.underlying t = some (.slice el)) (hu : P.underlying u = some .string) {sb : ByteArray} (hi : P.info? el = some i) (hz : i.zero = some z0) (hzs : z0.cells.size = i.size)
    (hinv : Inv I L O w) {n : Nat} {xs : List AV} (h1s : i.size = 1) (hn : O[n]? = some (.live el i.size xs)) (hne : (ysS sb) ≠ [])
    (h48 : (xs.length + (ysS sb).length) * i.bytes ≤ 140737488355328) (hmx : xs.length + (ysS sb).length ≤ maxLen) (hroom : (L n).cap < xs.length + (ysS sb).length) :
    ∃ y' I' L' w', Good I L O w I' L' (O.set n (.live el i.size (xs ++ (ysS sb)))) w' ∧ R I' L' (O.set n (.live el i.size (xs ++ (ysS sb)))) (.row n (xs.length + (ysS sb).length)) y' ∧
      (Builtin.append_ #[t, u] ty #[.slice (some ⟨(L n).blk, 0, none⟩) xs.length (L n).cap, .string sb]).run P w = .ok y' w' := by
  obtain ⟨h1, h3, h4⟩ := newsS_spec (I := I) (L := L) (O := O) (sb := sb) h1s
  obtain ⟨cur, g1, g2, g3, g4, g5, g6⟩ := hinv.obj n _ _ xs hn
  have hnlt : n < O.length := (List.getElem?_eq_some_iff.1 hn).1
  have hm : xs.length + (ysS sb).length ≤ 9223372036854775807 := by simpa [maxLen] using hmx
  have hpos : 0 < (ysS sb).length := List.length_pos_iff.2 hne
  have holds : (cur.toList.take (xs.length * i.size)).length = xs.length * i.size := by
    simp only [List.length_take, Array.length_toList, g2]
    exact Nat.min_eq_left (Nat.mul_le_mul_right _ g3)
  have hrun := run_append_grow_s (P := P) w t u ty el i z0 ht hu hi hz ⟨(L n).blk, 0, none⟩ xs.length (L n).cap (cur.toList.take (xs.length * i.size)) holds (fun j v hv => by
      rw [add_lit, Nat.zero_add, cell_cells g1]
      rw [List.getElem?_take] at hv
      split at hv
      · simpa using hv
      · cases hv) sb (by omega) (by omega) (growslice_fits (by omega) h48)
  have hge := grownCap_ge w (xs.length + (ysS sb).length) (L n).cap el
  have hle := grownCap_le_maxLen w (xs.length + (ysS sb).length) (L n).cap el hmx
  generalize grownCap w (xs.length + (ysS sb).length) (L n).cap el = cap at *
  have hrow := RRow.append (I := I) (L := L) (O := O) (s := i.size) (xs := xs) (ys := (ysS sb)) (c := cur) (d := (newsS sb).toArray) g6 h4 (Builtin.zeroCells z0.cells (cap - (xs.length + (ysS sb).length))).toList (cur.toList.take (xs.length * i.size))
    holds (fun k hk => by rw [List.getElem?_take, if_pos hk, Array.getElem?_toList])
  have hgood0 := (Good.drawn hinv (w.drawn + 1))
  have hgood := hgood0.inv.put (n := n) (l := Loc.at w.heap.size (cap)) (e := el) (s := i.size) (xs := xs ++ (ysS sb)) (O' := O.set n (.live el i.size (xs ++ (ysS sb))))
    (w' := w.drew.alloc (.cells ((cur.toList.take (xs.length * i.size)).toArray ++ (newsS sb).toArray ++ Builtin.zeroCells z0.cells (cap - (xs.length + (ysS sb).length))) el))
    (set_get hnlt _) (by simp) (fun b' hb' _ => heap_alloc_old w.drew _ b' hb') rfl rfl rfl (by rw [World.size_alloc]; exact Nat.le_succ _) (.inl (Nat.le_refl _))
    ⟨_, heap_alloc_new w.drew _, by
        simp only [Array.size_append, size_zeroCells, hzs, List.size_toArray, holds, h1]
        rw [← Nat.add_mul, ← Nat.add_mul]; congr 1; omega, by simpa using hge, hle, g5, RRow.of_append hrow⟩
    (fun _ => .inl ⟨xs, hn, by simp, fun he => by simp at he; exact (hne he).elim⟩)
  refine ⟨_, _, _, _, hgood0.trans hgood, ?_, hrun⟩
  have := R.rowLive (I := I) (L := fun k => if k = n then Loc.at w.heap.size (cap) else L k) (O := O.set n (.live el i.size (xs ++ (ysS sb)))) n (xs.length + (ysS sb).length) el i.size (xs ++ (ysS sb)) (by simp [hnlt]) (by simp)
  simpa using this
theorem apps_ran {t u ty el s by_ : Nat} {z : AV} (ht : P.underlying t = some (.slice el)) (hu : P.underlying u = some .string) (hel : cElem P el = some (s, by_, z)) {x : AV} {vx : Value} {sb : ByteArray}
    (hinv : Inv I L O w) (hx : R I L O x vx) (hs1 : s = 1) (hk : appK O x el s by_ (ysS sb) K) :
    ∃ x' O' y' I' L' w', K x' O' ∧ Good I L O w I' L' O' w' ∧ R I' L' O' x' y' ∧ (Builtin.append_ #[t, u] ty #[vx, .string sb]).run P w = .ok y' w' := by
  obtain ⟨i, z0, hi, hz, hz0, hsz, hby, hzl, h0, hzs, hst⟩ := cElem_inv hel
  subst hsz; subst hby
  have hlen0 : ysS sb = [] → sb.size = 0 := fun h => by have := ysS_len sb; rw [h] at this; simpa using this.symm
  cases x
  case nils =>
    obtain ⟨h48, hmx, hk0, hk1⟩ := hk
    cases hx
    by_cases hne : ysS sb = []
    · exact ⟨_, O, _, I, L, w, hk0 hne, .refl hinv, .nils, append_zero_s ht hu hi none 0 0 (Nat.le_refl _) (hlen0 hne) w⟩
    · obtain ⟨y', I', L', w', q1, q2, q3⟩ := apps_nil ht hu hi hz h0 hzs hinv hs1 hne h48 hmx
      exact ⟨_, _, y', I', L', w', hk1 hne, q1, q2, q3⟩
  case row n len =>
    cases hn : O[n]? with
    | none => simp only [appK, hn] at hk
    | some ob =>
      cases ob with
      | dead => simp only [appK, hn] at hk
      | own a => simp only [appK, hn] at hk
      | nil t' s' =>
        simp only [appK, hn] at hk
        obtain ⟨rfl, rfl, rfl, h48, hmx, hk0, hk1⟩ := hk
        obtain ⟨rfl, _⟩ := hx.row_nil hn
        by_cases hne : ysS sb = []
        · exact ⟨_, O, _, I, L, w, hk0 hne, .refl hinv, .rowNil n _ _ hn, append_zero_s ht hu hi none 0 0 (Nat.le_refl _) (hlen0 hne) w⟩
        · obtain ⟨y', I', L', w', q1, q2, q3⟩ := apps_first ht hu hi hz h0 hzs hinv hn hs1 hne h48 hmx
          exact ⟨_, _, y', I', L', w', hk1 hne, q1, q2, q3⟩
      | live t' s' xs =>
        simp only [appK, hn] at hk
        obtain ⟨rfl, rfl, hlen, h48, hmx, hk⟩ := hk
        have hv := hx.row_live hn hlen
        subst hv
        subst hlen
        have hnlt : n < O.length := (List.getElem?_eq_some_iff.1 hn).1
        by_cases hne : ysS sb = []
        · obtain ⟨cur, g1, g2, g3, g4, g5, g6⟩ := hinv.obj n _ _ xs hn
          have hO : O.set n (.live t' i.size (xs ++ ysS sb)) = O := by
            rw [hne, List.append_nil]; apply List.ext_getElem?; intro k; rw [set_get hnlt]; split
            · rename_i hk'; rw [hk', hn]
            · rfl
          rw [hO, hne] at hk
          exact ⟨_, O, _, I, L, w, hk, .refl hinv, by simpa using hx, append_zero_s ht hu hi _ xs.length _ g3 (hlen0 hne) w⟩
        · by_cases hroom : xs.length + (ysS sb).length ≤ (L n).cap
          · obtain ⟨y', I', L', w', q1, q2, q3⟩ := apps_room ht hu hi hinv hs1 hn hroom
            exact ⟨_, _, y', I', L', w', hk, q1, q2, q3⟩
          · obtain ⟨y', I', L', w', q1, q2, q3⟩ := apps_grow ht hu hi hz hzs hinv hs1 hn hne h48 hmx (by omega)
            exact ⟨_, _, y', I', L', w', hk, q1, q2, q3⟩
  all_goals exact hk.elim
end
end Go.Ab
/-
  ONE OPERATION IN THE MODEL's WALK.
-/
namespace Go.Ab
def AOp.strip : AOp → AOp
  | .pcall f args => .call f args
  | .pcallv x args => .callv x args
  | .qcall f args => .call f args
  | .qcallv x args => .callv x args
  | .rcall f args => .call f args
  | .fcall _ _ _ f args => .call f args
  | .scall _ f args => .call f args
  | .scall1 _ f args => .call f args
  | .lcall _ f args => .call f args
  | .kcall _ f args => .call f args
  | .allocAt _ t s z => .alloc t s z
  | .boxAt _ t s x => .box t s x
  | .buildAt _ t s l z ps => .buildSlice t s l z ps
  | .buildF t s l z ps => .buildSlice t s l z ps
  | .cut s x l h => .sliceL s x l h
  | o => o
section
variable {P : Program} {I : Imm} {L : Nat → Loc} {O : List AObj} {w : World} {K : AV → List AObj → Prop} {e : Env} {a : Act}
theorem Ran.wp {o : Oper} (h : Ran P I L O w (execOp a.eval o) K) {next : Act → World → Prop} {Q : Exit → Act → World → Prop}
    (hn : ∀ x O' y I' L' w', K x O' → Good I L O w I' L' O' w' → R I' L' O' x y → next (a.put o.dst y) w') : o.wp P a w next Q := by
  obtain ⟨x, O', y, I', L', w', hk, hg, hr, h | ⟨h, rfl⟩⟩ := h
  · unfold Oper.wp; rw [h]; exact hn _ _ _ _ _ _ hk hg hr
  · unfold Oper.wp; rw [h]; exact hn _ _ _ _ _ _ hk hg hr
theorem call_wp {o : Oper} {f : FuncId} {vs : Array Value} {next : Act → World → Prop} {Q : Exit → Act → World → Prop} {M : Value → World → Prop}
    (hrun : (execOp a.eval o).run P w = .ok (.enter f vs) w) (hc : Calls P f vs w fun e w' => ∃ y, e = .returned y ∧ M y w') (hn : ∀ y w', M y w' → next (a.put o.dst y) w') : o.wp P a w next Q := by
  unfold Oper.wp
  rw [hrun]
  show Calls P f vs w _
  refine hc.mono fun e w' ⟨y, he, hm⟩ => ?_
  subst he
  exact hn y w' hm
theorem run_callFunc {f : FuncId} (h : Enters P f) (vs : Array Value) (w : World) : (callFunc f vs).run P w = .ok (.enter f vs) w := by
  obtain ⟨fn, h1, h2, h3⟩ := h
  obtain ⟨b, hb⟩ := Option.isSome_iff_exists.1 h2
  have h4 : ¬ fn.name = "runtime.NumGoroutine" := by simpa using h3
  simp [callFunc, h1, h4, hb]
theorem run_callOp {c : Call} {fv : Operand} (hcal : c.callee = .value fv) {f : FuncId} {caps : Array Value} (hfv : a.eval fv = .func (.func f) #[] caps) (he : Enters P f) {d : Option Tmp} {ty : TypeId} {pos : String} {af : Array Edge} {g : Option (Nat × Bool)} :
    (execOp a.eval ⟨d, .call c, ty, pos, af, g⟩).run P w = .ok (.enter f (c.args.map a.eval ++ caps)) w := by
  simp only [execOp, resolve, hcal, hfv, Deferred.ofValue]
  simp [invoke, run_callFunc he]
def AOp.isAt : AOp → Bool
  | .allocAt _ _ _ _ | .boxAt _ _ _ _ | .buildAt _ _ _ _ _ _ | .cut _ _ _ _ => true
  | _ => false
theorem strip_eq {ao b : AOp} (ha : ao.isAt = false) (h : b = ao.strip) (hb : b.isCall = false) (hs : ∀ t s l z ps, b ≠ .buildSlice t s l z ps) : ao = b := by
  subst h
  cases ao <;> first | rfl | (simp [AOp.strip, AOp.isCall] at hb; done) | (simp [AOp.isAt] at ha; done) | (exact (hs _ _ _ _ _ rfl).elim)
theorem op1_ran {d : Option Tmp} {op : Op} {ty : TypeId} {pos : String} {af : Array Edge} {g : Option (Nat × Bool)} {ao : AOp} (hc : cOp1 P ty op = some ao) (hi : Inv I L O w) (he : ∀ t, R I L O (e t) (a.tmps.getD t undef)) (hk : wpOp P ao e O K) :
    Ran P I L O w (execOp a.eval ⟨d, op, ty, pos, af, g⟩) K := by
  cases op
  case move => exact ran_mov hi he hc hk
  case assign => exact ran_assign hi he hc hk
  case pick => exact ran_pick hi he hc hk
  case alloc => exact ran_alloc hi hc hk
  case box => exact ran_box hi he hc hk
  case build => exact ran_build hi he hc hk
  case buildSlice => exact ran_buildSlice hi he hc hk
  case load => exact ran_load hi he hc hk
  case store => exact ran_store hi he hc hk
  case nilCheck => exact ran_nilc hi he hc hk
  case binOp => exact ran_bin hi he hc hk
  case unOp => exact ran_un hi he hc hk
  case convert => exact ran_convert hi he hc hk
  case fieldAddr => exact ran_faddr hi he hc hk
  case field => exact ran_fld hi he hc hk
  case indexAddr => exact ran_iaddr hi he hc hk
  case index => exact ran_index hi he hc hk
  case slice => exact ran_slice hi he hc hk
  case makeSlice => exact ran_makeSlice hi he hc hk
  case extract => exact ran_ext hi he hc hk
  case makeFunc => exact ran_mkfn hi he hc hk
  all_goals cases hc
theorem aft_nil (O : List AObj) (res : AV) : aft O [] res = O := by simp [aft]
theorem callop_sound {c : Call} {ao : AOp} {d : Option Tmp} {ty : TypeId} {pos : String} {af : Array Edge} {g : Option (Nat × Bool)} (hc : cCall P c = some ao.strip) (hi : Inv I L O w) (he : ∀ t, R I L O (e t) (a.tmps.getD t undef)) (hk : wpOp P ao e O K) {next : Act → World → Prop} {Q : Exit → Act → World → Prop}
    (hn : ∀ x O' y I' L' w', K x O' → Good I L O w I' L' O' w' → R I' L' O' x y → next (a.put d y) w') : Oper.wp P ⟨d, .call c, ty, pos, af, g⟩ a w next Q := by
  unfold cCall at hc
  split at hc
  · rename_i fv hcal
    have hrl : ∀ {args}, cOpds c.args = some args → RL I L O (args.map (Opd.ev e)) (c.args.map a.eval) := by
      intro args h
      have := cOpds_sound (I := I) (L := L) (O := O) (e := e) (a := a) h he
      have h2 : (List.map a.eval c.args.toList).toArray = Array.map a.eval c.args := by apply Array.ext'; simp
      rwa [h2] at this
    split at hc
    · rename_i f args hf hargs
      have rf := cOpd_sound hf he
      have hv : a.eval fv = .func (.func f) #[] #[] := by
        generalize a.eval fv = X at rf
        cases rf with
        | fn _ _ vs h1 h2 => congr 1; exact (Array.eq_empty_of_size_eq_zero h1.symm)
      have hra := hrl hargs
      simp only [Option.some.injEq] at hc
      cases ao <;> simp only [AOp.strip] at hc <;> first | (cases hc; done) | skip
      case call f' args' =>
        cases hc
        obtain ⟨res, O', hcon, hk⟩ := hk
        refine call_wp (a := a) (run_callOp hcal hv hcon.1) (M := fun y w' => ∃ I' L', R I' L' O' res y ∧ Good I L O w I' L' O' w') ?_ fun y w' ⟨I', L', h1, h2⟩ => hn _ _ _ _ _ _ hk h2 h1
        refine (hcon.2 I L w _ hi (by simpa using hra)).mono ?_
        rintro e' w' ⟨y, I', L', rfl, h1, h2⟩
        exact ⟨y, rfl, I', L', h1, h2⟩
      case pcall f' args' =>
        cases hc
        obtain ⟨res, hnr, hcon, hk⟩ := hk
        have := pcall_sound (as := args.map (Opd.ev e)) (caps := []) (vs := c.args.map a.eval) hi (by simpa using hra) (by simpa [Function.comp_def] using hnr) (by simpa [Function.comp_def] using hcon)
        refine call_wp (a := a) (run_callOp hcal hv hcon.1) (M := fun y w' => ∃ I' L', R I' L' (aft O (args.map (Opd.ev e)) res) res y ∧ Good I L O w I' L' (aft O (args.map (Opd.ev e)) res) w') ?_ fun y w' ⟨I', L', h1, h2⟩ => hn _ _ _ _ _ _ hk h2 h1
        simp only [Array.append_empty]
        refine this.mono ?_
        rintro e' w' ⟨y, I', L', rfl, h1, h2⟩
        exact ⟨y, rfl, I', L', h1, h2⟩
      case qcall f' args' =>
        cases hc
        obtain ⟨res, hnr, hcon, hk⟩ := hk
        have := pcall_sound (as := []) (caps := args.map (Opd.ev e)) (vs := c.args.map a.eval) hi (by simpa using hra) (by simpa using hnr) (by simpa using hcon)
        rw [aft_nil] at this
        refine call_wp (a := a) (run_callOp hcal hv hcon.1) (M := fun y w' => ∃ I' L', R I' L' O res y ∧ Good I L O w I' L' O w') ?_ fun y w' ⟨I', L', h1, h2⟩ => hn _ _ _ _ _ _ hk h2 h1
        simp only [Array.append_empty]
        refine this.mono ?_
        rintro e' w' ⟨y, I', L', rfl, h1, h2⟩
        exact ⟨y, rfl, I', L', h1, h2⟩
      case scall gs f' args' =>
        cases hc
        obtain ⟨res, O', hcon, hk⟩ := hk
        refine call_wp (a := a) (run_callOp hcal hv hcon.1) (M := fun y w' => ∃ I' L', R I' L' O' res y ∧ Good I L O w I' L' O' w') ?_ fun y w' ⟨I', L', h1, h2⟩ => hn _ _ _ _ _ _ hk h2 h1
        refine (hcon.2 I L w _ hi (by simpa using hra)).mono ?_
        rintro e' w' ⟨y, I', L', rfl, h1, h2⟩
        exact ⟨y, rfl, I', L', h1, h2⟩
      case scall1 gs f' args' =>
        cases hc
        obtain ⟨n, a0, ob, res, ob', q1, q2, q3, q4, q5, q6, q7, q8, hk⟩ := hk
        have hcon := q8.one' q2 q5 q7 q6 n q4
        rw [← q1] at hcon
        refine call_wp (a := a) (run_callOp hcal hv hcon.1) (M := fun y w' => ∃ I' L', R I' L' (O.set n ob') res y ∧ Good I L O w I' L' (O.set n ob') w') ?_ fun y w' ⟨I', L', h1, h2⟩ => hn _ _ _ _ _ _ hk h2 h1
        refine (hcon.2 I L w _ hi (by simpa using hra)).mono ?_
        rintro e' w' ⟨y, I', L', rfl, h1, h2⟩
        exact ⟨y, rfl, I', L', h1, h2⟩
      case lcall rd' f' args' =>
        cases hc
        obtain ⟨res, ob, hcon0, hk⟩ := hk
        have hcon := hcon0 O rfl fun _ _ => rfl
        refine call_wp (a := a) (run_callOp hcal hv hcon.1) (M := fun y w' => ∃ I' L', R I' L' (O ++ [ob]) res y ∧ Good I L O w I' L' (O ++ [ob]) w') ?_ fun y w' ⟨I', L', h1, h2⟩ => hn _ _ _ _ _ _ hk h2 h1
        refine (hcon.2 I L w _ hi (by simpa using hra)).mono ?_
        rintro e' w' ⟨y, I', L', rfl, h1, h2⟩
        exact ⟨y, rfl, I', L', h1, h2⟩
      case kcall rd' f' args' =>
        cases hc
        obtain ⟨res, hcon0, hk⟩ := hk
        have hcon := hcon0 O fun _ _ => rfl
        refine call_wp (a := a) (run_callOp hcal hv hcon.1) (M := fun y w' => ∃ I' L', R I' L' O res y ∧ Good I L O w I' L' O w') ?_ fun y w' ⟨I', L', h1, h2⟩ => hn _ _ _ _ _ _ hk h2 h1
        refine (hcon.2 I L w _ hi (by simpa using hra)).mono ?_
        rintro e' w' ⟨y, I', L', rfl, h1, h2⟩
        exact ⟨y, rfl, I', L', h1, h2⟩
      case fcall nl' t' s' f' args' =>
        cases hc
        obtain ⟨res, ob, hno, hcon0, hk⟩ := hk
        have hcon := hcon0.fresh hno O
        refine call_wp (a := a) (run_callOp hcal hv hcon.1) (M := fun y w' => ∃ I' L', R I' L' (O ++ [ob.ren fun n => O.length + n]) (res.ren fun n => O.length + n) y ∧ Good I L O w I' L' (O ++ [ob.ren fun n => O.length + n]) w') ?_ fun y w' ⟨I', L', h1, h2⟩ => hn _ _ _ _ _ _ hk h2 h1
        refine (hcon.2 I L w _ hi (by simpa using hra)).mono ?_
        rintro e' w' ⟨y, I', L', rfl, h1, h2⟩
        exact ⟨y, rfl, I', L', h1, h2⟩
      case rcall f' args' =>
        cases hc
        obtain ⟨res, hfl, hnr, hcon, hk⟩ := hk
        have haft : aft O (args.map (Opd.ev e)) res = O := if_pos hfl
        have := pcall_sound (as := args.map (Opd.ev e)) (caps := []) (vs := c.args.map a.eval) hi (by simpa using hra) (by simpa [Function.comp_def] using hnr) (by simpa [Function.comp_def] using hcon)
        rw [haft] at this
        refine call_wp (a := a) (run_callOp hcal hv hcon.1) (M := fun y w' => ∃ I' L', R I' L' O res y ∧ Good I L O w I' L' O w') ?_ fun y w' ⟨I', L', h1, h2⟩ => hn _ _ _ _ _ _ hk h2 h1
        simp only [Array.append_empty]
        refine this.mono ?_
        rintro e' w' ⟨y, I', L', rfl, h1, h2⟩
        exact ⟨y, rfl, I', L', h1, h2⟩
    · rename_i x args hne hf hargs
      have rf := cOpd_sound hf he
      have hra := hrl hargs
      simp only [Option.some.injEq] at hc
      cases ao <;> simp only [AOp.strip] at hc <;> first | (cases hc; done) | skip
      case callv x' args' =>
        cases hc
        simp only [wpOp] at hk
        generalize hA : x.ev e = A at rf hk
        cases A <;> simp only at hk
        rename_i f caps
        obtain ⟨res, O', hcon, hk⟩ := hk
        generalize hX : a.eval fv = X at rf
        cases rf with
        | fn _ _ vs h1 h2 =>
          refine call_wp (a := a) (run_callOp hcal hX hcon.1) (M := fun y w' => ∃ I' L', R I' L' O' res y ∧ Good I L O w I' L' O' w') ?_ fun y w' ⟨I', L', h1, h2⟩ => hn _ _ _ _ _ _ hk h2 h1
          refine (hcon.2 I L w _ hi ?_).mono ?_
          · refine ⟨by simp only [List.length_append, Array.size_append, h1, hra.1], fun i b y hb hy => ?_⟩
            by_cases hlt : i < (args.map (Opd.ev e)).length
            · rw [List.getElem?_append_left hlt] at hb
              rw [Array.getElem?_append_left (by rw [← hra.1]; exact hlt)] at hy
              exact hra.2 i b y hb hy
            · rw [List.getElem?_append_right (by omega)] at hb
              rw [Array.getElem?_append_right (by rw [← hra.1]; omega), ← hra.1] at hy
              exact h2 _ b y hb hy
          · rintro e' w' ⟨y, I', L', rfl, h1, h2⟩
            exact ⟨y, rfl, I', L', h1, h2⟩
      case pcallv x' args' =>
        cases hc
        simp only [wpOp] at hk
        generalize hA : x.ev e = A at rf hk
        cases A <;> simp only at hk
        rename_i f caps
        obtain ⟨res, hnr, hcon, hk⟩ := hk
        generalize hX : a.eval fv = X at rf
        cases rf with
        | fn _ _ vs h1 h2 =>
          have := pcall_sound (as := args.map (Opd.ev e)) (caps := caps) (vs := c.args.map a.eval ++ vs) hi (by
            refine ⟨by simp only [List.length_append, Array.size_append, h1, hra.1], fun i b y hb hy => ?_⟩
            by_cases hlt : i < (args.map (Opd.ev e)).length
            · rw [List.getElem?_append_left hlt] at hb
              rw [Array.getElem?_append_left (by rw [← hra.1]; exact hlt)] at hy
              exact hra.2 i b y hb hy
            · rw [List.getElem?_append_right (by omega)] at hb
              rw [Array.getElem?_append_right (by rw [← hra.1]; omega), ← hra.1] at hy
              exact h2 _ b y hb hy) (by simpa [Function.comp_def] using hnr) (by simpa [Function.comp_def] using hcon)
          refine call_wp (a := a) (run_callOp hcal hX hcon.1) (M := fun y w' => ∃ I' L', R I' L' (aft O (args.map (Opd.ev e)) res) res y ∧ Good I L O w I' L' (aft O (args.map (Opd.ev e)) res) w') ?_ fun y w' ⟨I', L', h1, h2⟩ => hn _ _ _ _ _ _ hk h2 h1
          refine this.mono ?_
          rintro e' w' ⟨y, I', L', rfl, h1, h2⟩
          exact ⟨y, rfl, I', L', h1, h2⟩
      case qcallv x' args' =>
        cases hc
        simp only [wpOp] at hk
        generalize hA : x.ev e = A at rf hk
        cases A <;> simp only at hk
        rename_i f caps
        obtain ⟨res, hnr, hcon, hk⟩ := hk
        generalize hX : a.eval fv = X at rf
        cases rf with
        | fn _ _ vs h1 h2 =>
          have := pcall_sound (as := []) (caps := args.map (Opd.ev e) ++ caps) (vs := c.args.map a.eval ++ vs) hi (by
            refine ⟨by simp only [List.nil_append, List.length_append, Array.size_append, h1, hra.1], fun i b y hb hy => ?_⟩
            rw [List.nil_append] at hb
            by_cases hlt : i < (args.map (Opd.ev e)).length
            · rw [List.getElem?_append_left hlt] at hb
              rw [Array.getElem?_append_left (by rw [← hra.1]; exact hlt)] at hy
              exact hra.2 i b y hb hy
            · rw [List.getElem?_append_right (by omega)] at hb
              rw [Array.getElem?_append_right (by rw [← hra.1]; omega), ← hra.1] at hy
              exact h2 _ b y hb hy) (by simpa using hnr) (by simpa using hcon)
          rw [aft_nil] at this
          refine call_wp (a := a) (run_callOp hcal hX hcon.1) (M := fun y w' => ∃ I' L', R I' L' O res y ∧ Good I L O w I' L' O w') ?_ fun y w' ⟨I', L', h1, h2⟩ => hn _ _ _ _ _ _ hk h2 h1
          refine this.mono ?_
          rintro e' w' ⟨y, I', L', rfl, h1, h2⟩
          exact ⟨y, rfl, I', L', h1, h2⟩
    · cases hc
  · rename_i hcal
    split at hc
    · rename_i t x hts has
      have hat : c.argTypes = #[t] := by apply Array.ext'; simpa using hts
      have haa : c.args = #[x] := by apply Array.ext'; simpa using has
      split at hc
      · rename_i ht
        simp only [Option.map_eq_some_iff] at hc
        obtain ⟨ax, hx, hc⟩ := hc
        have := strip_eq (by cases ao <;> first | rfl | (simp [AOp.strip] at hc; done)) hc rfl (by simp)
        subst this
        obtain ⟨x', y, h1, h2, h3⟩ := ran_lenS (ty := ty) hi he ht hx hk
        refine Ran.wp (Ran.same hi h1 h2 ?_) hn
        simp only [execOp, resolve, hcal, hat, haa]
        simp [invoke, builtin, h3]
      · rename_i el ht
        simp only [Option.map_eq_some_iff] at hc
        obtain ⟨ax, hx, hc⟩ := hc
        have := strip_eq (by cases ao <;> first | rfl | (simp [AOp.strip] at hc; done)) hc rfl (by simp)
        subst this
        obtain ⟨x', y, h1, h2, h3⟩ := ran_lenL (ty := ty) hi he ht hx hk
        refine Ran.wp (Ran.same hi h1 h2 ?_) hn
        simp only [execOp, resolve, hcal, hat, haa]
        simp [invoke, builtin, h3]
      · cases hc
    · cases hc
  · rename_i hcal
    split at hc
    · rename_i t u x y hts has
      split at hc
      · rename_i htu
        subst htu
        have hat : c.argTypes = #[t, t] := by apply Array.ext'; simpa using hts
        have haa : c.args = #[x, y] := by apply Array.ext'; simpa using has
        simp only [Option.bind_eq_bind, Option.bind_eq_some_iff, Option.some.injEq] at hc
        obtain ⟨el, hel, ⟨s, b, z⟩, hz, ax, hx, ay, hy, hc⟩ := hc
        have := strip_eq (by cases ao <;> first | rfl | (simp [AOp.strip] at hc; done)) hc rfl (by simp)
        subst this
        obtain ⟨x', O', y', I', L', w', h1, h2, h3, h4⟩ := app_ran (ty := ty) (cSlice_inv hel) hz hi (cOpd_sound hx he) (cOpd_sound hy he) hk
        refine Ran.wp ⟨x', O', y', I', L', w', h1, h2, h3, .inl ?_⟩ hn
        simp only [execOp, resolve, hcal, hat, haa]
        simp [invoke, builtin, h4]
      · cases hc
    · cases hc
  · cases hc
theorem cOp1_buildSlice {ty : TypeId} {op : Op} {t s l : Nat} {z : AV} {ps : List (Nat × Opd)} (h : cOp1 P ty op = some (.buildSlice t s l z ps)) : ∃ t len parts, op = .buildSlice t len parts := by
  cases op <;> simp only [cOp1] at h
  case buildSlice t len parts => exact ⟨t, len, parts, rfl⟩
  all_goals (repeat' split at h)
  all_goals first
    | (simp [Option.bind_eq_some_iff] at h; done)
    | (rename_i heq; cases heq; done)
    | (exfalso; simp_all; done)
theorem lent_inv (hi : Inv I L O w) (as : List AV) : Inv (lent I L O w as) L [] w := by
  refine ⟨fun b o x hx => ?_, by simp, by simp, by simp, fun p hp => lent_le hi as _ _ _ (hi.fix p hp), hi.blk_imm (lent_le hi as), .no (by simp)⟩
  unfold lent at hx
  split at hx
  · exact hx
  · exact hi.imm b o x hx
theorem isSl_inv {t : TypeId} (h : isSl P t = true) : ∃ el, P.underlying t = some (.slice el) := by
  unfold isSl at h; split at h
  · rename_i x hx; exact ⟨_, hx⟩
  · cases h
theorem isPtr_inv {t : TypeId} (h : isPtr P t = true) : ∃ el, P.underlying t = some (.pointer el) := by
  unfold isPtr at h; split at h
  · rename_i x hx; exact ⟨_, hx⟩
  · cases h
theorem isIfc_inv {t : TypeId} (h : isIfc P t = true) : ∃ el, P.underlying t = some (.interface el) := by
  unfold isIfc at h; split at h
  · rename_i x hx; exact ⟨_, hx⟩
  · cases h
theorem isU8_inv {t : TypeId} (h : isU8 P t = true) : P.underlying t = some (.int .u8) := by
  unfold isU8 at h; split at h
  · rename_i hx; exact hx
  · cases h
theorem isInt_inv {t : TypeId} (h : isInt P t = true) : ∃ k, P.underlying t = some (.int k) := by
  unfold isInt at h; split at h
  · rename_i k hx; exact ⟨k, hx⟩
  · cases h
theorem isStr_inv {t : TypeId} (h : isStr P t = true) : P.underlying t = some .string := by
  unfold isStr at h; split at h
  · rename_i hx; exact hx
  · cases h
/-- a read value -/
theorem pu_read (hi : Inv I L O w) {v : AV} {x : Value} (hr : R I L O v x) (hn : (frz O v).noref = true) (as : List AV) (hm : v ∈ as) : R (lent I L O w as) L [] (frz O v) x := frz_sound hi hm hr hn
theorem u8s_spec : ∀ {xs : List AV} {l : List UInt8}, u8s xs = some l → ∃ ns : List Int, xs = ns.map (fun n => .v (.int .u8 n)) ∧ l = ns.map fun n => UInt8.ofNat n.toNat
  | [], l, h => by simp [u8s] at h; subst h; exact ⟨[], rfl, rfl⟩
  | x :: r, l, h => by
    unfold u8s at h
    split at h
    · rename_i hx; cases hx
    · rename_i n r' hx
      cases hx
      simp only [Option.map_eq_some_iff] at h
      obtain ⟨l', h1, rfl⟩ := h
      obtain ⟨ns, rfl, rfl⟩ := u8s_spec h1
      exact ⟨n :: ns, rfl, rfl⟩
    · cases h
theorem b2s_run {s d el : TypeId} (hs : P.underlying s = some (.slice el)) (he : P.underlying el = some (.int .u8)) (hd : P.underlying d = some .string) {I' : Imm} {L' : Nat → Loc} (hinv : Inv I' L' [] w) {v : AV} {x : Value} {y : AV} (hr : R I' L' [] v x) (hp : puF .b2s [v] = some y) :
    ∃ z, y = .v z ∧ z.oneCell' = true ∧ (convert s d x).run P w = .ok z w := by
  unfold puF at hp
  split at hp <;> first | (rename_i ho hv; cases ho; done) | (rename_i ho; cases ho; done) | skip
  · rename_i ys ho hv
    cases hv
    simp only [Option.map_eq_some_iff] at hp
    obtain ⟨l, hl, rfl⟩ := hp
    obtain ⟨ns, rfl, rfl⟩ := u8s_spec hl
    generalize hX : (ns.map fun n => AV.v (.int .u8 n)) = X at hr
    cases hr with
    | sl0 a cap =>
      have hn : ns = [] := by simpa using hX
      subst hn
      refine ⟨_, rfl, rfl, ?_⟩
      rw [run_convert_bytes_string w s d el a 0 cap hs he hd]
      cases a with
      | none => simp [Conv.bytesToString]; rfl
      | some a => simp [Conv.bytesToString, loadCells, loadCellsFrom]; rfl
    | sl xs blk off cap s' vals h1 h2 h3 h4 h5 =>
      subst hX
      refine ⟨_, rfl, rfl, ?_⟩
      have hlen : ns.length = (ns.map fun n => AV.v (.int .u8 n)).length := by simp
      have := run_convert_bytes_arg (P := P) w s el hs he blk off (ns.map fun n => AV.v (.int .u8 n)).length cap ns hlen (fun i hi => ?_) d hd
      · rw [this]; rfl
      · have hi' : i < ns.length := by simpa using hi
        have hx : (ns.map fun n => AV.v (.int .u8 n))[i]? = some (.v (.int .u8 ns[i])) := by simp [hi']
        have hs1 : s' = 1 := by have := h3 i _ hx; simpa [AV.cells] using this.symm
        subst hs1
        have hc0 : (AV.v (.int .u8 ns[i])).cells[0]? = some (.v (.int .u8 ns[i])) := rfl
        have hcell := (h4 i _ 0 _ hx hc0).1
        have hval := (h5 i _ 0 _ hx hc0).exact
        rw [hval] at hcell
        have := hinv.imm _ _ _ hcell
        simp only [Nat.mul_one, Nat.add_zero] at this
        rw [this]
        simp [List.getD, hi']
  · rename_i ho hv
    cases hv
    simp only [Option.some.injEq] at hp
    subst hp
    cases hr
    refine ⟨_, rfl, rfl, ?_⟩
    rw [run_convert_bytes_string w s d el none 0 0 hs he hd]
    simp [Conv.bytesToString]; rfl
  · cases hp
theorem eq_ops {op : BinOp} (h : isEqOp op = true) : op = .eql ∨ op = .neq := by
  cases op <;> simp [isEqOp] at h <;> simp
theorem equal_red {t : TypeId} {x y : Value} {b : Bool} {op : BinOp} (ho : op = .eql ∨ op = .neq) (ht : (Op.equalIn (9999 + 1) t x y).run P w = .ok b w) (ox oy : Operand)
    (hb : ∀ op : BinOp, op = .eql ∨ op = .neq → (eqGuard op t ox oy x y).run P w = .ok () w) (h2 : ∀ op : BinOp, op = .eql → binOp op t x y = do pure (.bool (← Op.equal t x y))) (h3 : ∀ op : BinOp, op = .neq → binOp op t x y = do pure (.bool (!(← Op.equal t x y)))) :
    (do eqGuard op t ox oy x y; binOp op t x y : Sem Value).run P w = .ok (.bool (isNeq op != b)) w := by
  have e1 : (Op.equal t x y).run P w = .ok b w := ht
  rcases ho with rfl | rfl
  · rw [Sem.run_bind, hb _ (.inl rfl), h2 _ rfl]; simp [e1, isNeq]
  · rw [Sem.run_bind, hb _ (.inr rfl), h3 _ rfl]; simp [e1, isNeq]
theorem isNilS_run {t el : TypeId} (ht : P.underlying t = some (.slice el)) {op : BinOp} (ho : isEqOp op = true) {I' : Imm} {L' : Nat → Loc} {v : AV} {x : Value} {y : AV} (hr : R I' L' [] v x) (hp : puF (.isNilS (isNeq op)) [v] = some y) (ox oy : Operand) :
    ∃ z, y = .v z ∧ z.oneCell' = true ∧ (do eqGuard op t ox oy x (.slice none 0 0); binOp op t x (.slice none 0 0) : Sem Value).run P w = .ok z w := by
  have ho := eq_ops ho
  unfold puF at hp
  split at hp <;> first | (rename_i h1 h2; cases h1; done) | (rename_i h1; cases h1; done) | skip
  · rename_i neg h1 h2
    cases h1; cases h2
    cases hr
    simp only [Option.some.injEq] at hp; subst hp
    refine ⟨_, rfl, rfl, equal_red (b := true) ho ?_ ox oy (fun op ho => ?_) (fun op ho => ?_) (fun op ho => ?_)⟩
    · rw [Op.equalIn]; simp [run_underlying ht]
    · rcases ho with rfl | rfl <;> simp [eqGuard]
    · subst ho; rfl
    · subst ho; rfl
  · rename_i neg a l h1 h2
    cases h1; cases h2
    simp only [Option.some.injEq] at hp; subst hp
    cases hr with
    | sl xs blk off cap s' vals h1 h2 h3 h4 h5 =>
      refine ⟨_, rfl, rfl, equal_red (b := false) ho ?_ ox oy (fun op ho => ?_) (fun op ho => ?_) (fun op ho => ?_)⟩
      · rw [Op.equalIn]; simp [run_underlying ht]
      · rcases ho with rfl | rfl <;> simp [eqGuard]
      · subst ho; rfl
      · subst ho; rfl
  · cases hp
theorem isNilP_run {t el : TypeId} (ht : P.underlying t = some (.pointer el)) {op : BinOp} (ho : isEqOp op = true) {I' : Imm} {L' : Nat → Loc} {v : AV} {x : Value} {y : AV} (hr : R I' L' [] v x) (hp : puF (.isNilP (isNeq op)) [v] = some y) (ox oy : Operand) :
    ∃ z, y = .v z ∧ z.oneCell' = true ∧ (do eqGuard op t ox oy x (.pointer none); binOp op t x (.pointer none) : Sem Value).run P w = .ok z w := by
  have ho := eq_ops ho
  unfold puF at hp
  split at hp <;> first | (rename_i h1 h2; cases h1; done) | (rename_i h1; cases h1; done) | skip
  · rename_i neg h1 h2
    cases h1; cases h2
    have := hr.exact
    subst this
    simp only [Option.some.injEq] at hp; subst hp
    refine ⟨_, rfl, rfl, equal_red (b := true) ho ?_ ox oy (fun op ho => ?_) (fun op ho => ?_) (fun op ho => ?_)⟩
    · rw [Op.equalIn]; simp [run_underlying ht]
    · rcases ho with rfl | rfl <;> simp [eqGuard]
    · subst ho; rfl
    · subst ho; rfl
  · rename_i neg a l h1 h2
    cases h1; cases h2
    simp only [Option.some.injEq] at hp; subst hp
    cases hr
    refine ⟨_, rfl, rfl, equal_red (b := false) ho ?_ ox oy (fun op ho => ?_) (fun op ho => ?_) (fun op ho => ?_)⟩
    · rw [Op.equalIn]; simp [run_underlying ht]
    · rcases ho with rfl | rfl <;> simp [eqGuard]
    · subst ho; rfl
    · subst ho; rfl
  · cases hp
theorem isNilI_run {t : TypeId} {el : Array (String × TypeId)} (ht : P.underlying t = some (.interface el)) {op : BinOp} (ho : isEqOp op = true) {I' : Imm} {L' : Nat → Loc} {v : AV} {x : Value} {y : AV} (hr : R I' L' [] v x) (hp : puF (.isNilI (isNeq op)) [v] = some y) (ox : Operand) :
    ∃ z, y = .v z ∧ z.oneCell' = true ∧ (do eqGuard op t ox (.const .nilIface) x .nilIface; binOp op t x .nilIface : Sem Value).run P w = .ok z w := by
  have ho := eq_ops ho
  unfold puF at hp
  split at hp <;> first | (rename_i h1 h2; cases h1; done) | (rename_i h1; cases h1; done) | skip
  · rename_i neg h1 h2
    cases h1; cases h2
    have := hr.exact
    subst this
    simp only [Option.some.injEq] at hp; subst hp
    refine ⟨_, rfl, rfl, equal_red (b := true) ho ?_ ox (.const .nilIface) (fun op ho => ?_) (fun op ho => ?_) (fun op ho => ?_)⟩
    · rw [Op.equalIn]; simp [run_underlying ht]
    · rcases ho with rfl | rfl <;> simp [eqGuard]
    · subst ho; rfl
    · subst ho; rfl
  · rename_i neg h1 h2
    cases h1; cases h2
    simp only [Option.some.injEq] at hp; subst hp
    cases hr
    refine ⟨_, rfl, rfl, equal_red (b := false) ho ?_ ox (.const .nilIface) (fun op ho => ?_) (fun op ho => ?_) (fun op ho => ?_)⟩
    · rw [Op.equalIn]; simp [run_underlying ht]
    · rcases ho with rfl | rfl <;> simp [eqGuard]
    · subst ho; rfl
    · subst ho; rfl
  · cases hp
theorem min_run {I' : Imm} {L' : Nat → Loc} {u v : AV} {x x' : Value} {y : AV} (hr : R I' L' [] u x) (hr' : R I' L' [] v x') (hp : puF .min [u, v] = some y) (ts : Array TypeId) (ty : TypeId) :
    ∃ z, y = .v z ∧ z.oneCell' = true ∧ (Builtin.min_ ts ty #[x, x']).run P w = .ok z w := by
  unfold puF at hp
  split at hp <;> first | (rename_i h1 h2; cases h1; done) | (rename_i h1; cases h1; done) | skip
  · rename_i k a k' b h1 h2
    cases h2
    have e1 := hr.exact
    have e2 := hr'.exact
    subst e1; subst e2
    split at hp
    · rename_i hk; subst hk
      simp only [Option.some.injEq] at hp; subst hp
      exact ⟨_, rfl, rfl, by simp [Builtin.min_, Builtin.min2]⟩
    · cases hp
  · cases hp
theorem max_run {I' : Imm} {L' : Nat → Loc} {u v : AV} {x x' : Value} {y : AV} (hr : R I' L' [] u x) (hr' : R I' L' [] v x') (hp : puF .max [u, v] = some y) (ts : Array TypeId) (ty : TypeId) :
    ∃ z, y = .v z ∧ z.oneCell' = true ∧ (Builtin.max_ ts ty #[x, x']).run P w = .ok z w := by
  unfold puF at hp
  split at hp <;> first | (rename_i h1 h2; cases h1; done) | (rename_i h1; cases h1; done) | skip
  · rename_i k a k' b h1 h2
    cases h2
    have e1 := hr.exact
    have e2 := hr'.exact
    subst e1; subst e2
    split at hp
    · rename_i hk; subst hk
      simp only [Option.some.injEq] at hp; subst hp
      exact ⟨_, rfl, rfl, by simp [Builtin.max_, Builtin.max2]⟩
    · cases hp
  · cases hp
theorem capN_run {I' : Imm} {L' : Nat → Loc} {v : AV} {x : Value} {y : AV} (hr : R I' L' [] v x) (hp : puF .capN [v] = some y) :
    ∃ z, y = .v z ∧ z.oneCell' = true ∧ x = .slice none 0 0 ∧ z = .int .i64 0 := by
  unfold puF at hp
  split at hp <;> first | (rename_i h1 h2; cases h1; done) | (rename_i h1; cases h1; done) | skip
  · rename_i h1 h2
    cases h2
    cases hr
    simp only [Option.some.injEq] at hp; subst hp
    exact ⟨_, rfl, rfl, rfl, rfl⟩
  · cases hp
theorem puK_inv {o : PU} {xs : List AV} {M : AV → Prop} (h : puK o xs M) : ∃ y, puF o xs = some y ∧ M y := by
  unfold puK at h; split at h
  · rename_i v hv; exact ⟨v, hv, h⟩
  · exact h.elim
theorem opX_ran {d : Option Tmp} {op : Op} {ty : TypeId} {pos : String} {af : Array Edge} {g : Option (Nat × Bool)} {ao : AOp} (hc : cOpX P op = some ao) (hi : Inv I L O w) (he : ∀ t, R I L O (e t) (a.tmps.getD t undef)) (hk : wpOp P ao e O K) :
    Ran P I L O w (execOp a.eval ⟨d, op, ty, pos, af, g⟩) K := by
  unfold cOpX at hc
  split at hc
  · rename_i op t x u
    split at hc
    · rename_i hb
      simp only [Option.bind_eq_bind, Option.bind_eq_some_iff, Option.some.injEq] at hc
      obtain ⟨ax, hx, rfl⟩ := hc
      obtain ⟨el, ht⟩ := isSl_inv hb.2
      obtain ⟨hn, hk⟩ := hk
      simp only [List.map_cons, List.map_nil] at hn hk
      obtain ⟨y, hy, hk⟩ := puK_inv hk
      have rx := pu_read hi (cOpd_sound hx he) (by simpa [AV.norefs] using hn) [ax.ev e] (by simp)
      obtain ⟨z, rfl, hz, hrun⟩ := isNilS_run (P := P) (w := w) ht hb.1 rx hy x (.const (.slice none 0 0))
      refine Ran.same hi hk (.v z hz) ?_
      simp only [execOp]
      have : a.eval (.const (.slice none 0 0)) = .slice none 0 0 := rfl
      rw [this, Sem.run_bind, hrun]; rfl
    · cases hc
  · rename_i op t x u
    split at hc
    · rename_i hb
      simp only [Option.bind_eq_bind, Option.bind_eq_some_iff, Option.some.injEq] at hc
      obtain ⟨ax, hx, rfl⟩ := hc
      obtain ⟨el, ht⟩ := isPtr_inv hb.2
      obtain ⟨hn, hk⟩ := hk
      simp only [List.map_cons, List.map_nil] at hn hk
      obtain ⟨y, hy, hk⟩ := puK_inv hk
      have rx := pu_read hi (cOpd_sound hx he) (by simpa [AV.norefs] using hn) [ax.ev e] (by simp)
      obtain ⟨z, rfl, hz, hrun⟩ := isNilP_run (P := P) (w := w) ht hb.1 rx hy x (.const (.pointer none))
      refine Ran.same hi hk (.v z hz) ?_
      simp only [execOp]
      have : a.eval (.const (.pointer none)) = .pointer none := rfl
      rw [this, Sem.run_bind, hrun]; rfl
    · cases hc
  · rename_i op t x u
    split at hc
    · rename_i hb
      simp only [Option.bind_eq_bind, Option.bind_eq_some_iff, Option.some.injEq] at hc
      obtain ⟨ax, hx, rfl⟩ := hc
      obtain ⟨el, ht⟩ := isIfc_inv hb.2
      obtain ⟨hn, hk⟩ := hk
      simp only [List.map_cons, List.map_nil] at hn hk
      obtain ⟨y, hy, hk⟩ := puK_inv hk
      have rx := pu_read hi (cOpd_sound hx he) (by simpa [AV.norefs] using hn) [ax.ev e] (by simp)
      obtain ⟨z, rfl, hz, hrun⟩ := isNilI_run (P := P) (w := w) ht hb.1 rx hy x
      refine Ran.same hi hk (.v z hz) ?_
      simp only [execOp]
      have : a.eval (.const .nilIface) = .nilIface := rfl
      rw [this, Sem.run_bind, hrun]; rfl
    · cases hc
  · rename_i s d' x
    simp only [Option.bind_eq_bind, Option.bind_eq_some_iff] at hc
    obtain ⟨el, hel, hc⟩ := hc
    split at hc
    · rename_i hb
      simp only [Option.bind_eq_some_iff, Option.some.injEq] at hc
      obtain ⟨ax, hx, rfl⟩ := hc
      obtain ⟨hn, hk⟩ := hk
      simp only [List.map_cons, List.map_nil] at hn hk
      obtain ⟨y, hy, hk⟩ := puK_inv hk
      have rx := pu_read hi (cOpd_sound hx he) (by simpa [AV.norefs] using hn) [ax.ev e] (by simp)
      obtain ⟨z, rfl, hz, hrun⟩ := b2s_run (P := P) (cSlice_inv hel) (isU8_inv hb.1) (isStr_inv hb.2) (lent_inv hi [ax.ev e]) rx hy
      refine Ran.same hi hk (.v z hz) ?_
      simp only [execOp]
      rw [Sem.run_bind, hrun]; rfl
    · cases hc
  · rename_i c
    split at hc
    · rename_i t u x y hcal hts has
      have hat : c.argTypes = #[t, u] := by apply Array.ext'; simpa using hts
      have haa : c.args = #[x, y] := by apply Array.ext'; simpa using has
      split at hc
      · rename_i hu
        simp only [Option.bind_eq_bind, Option.bind_eq_some_iff] at hc
        obtain ⟨el, hel, ⟨s, b, z⟩, hz, hc⟩ := hc
        split at hc
        · simp only [Option.bind_eq_some_iff, Option.some.injEq] at hc
          obtain ⟨ax, hx, ay, hy, rfl⟩ := hc
          simp only [wpOp] at hk
          split at hk
          · rename_i sb hsb
            have ry := cOpd_sound (I := I) (L := L) (O := O) hy he
            rw [hsb] at ry
            have hv := ry.exact
            obtain ⟨x', O', y', I', L', w', h1, h2, h3, h4⟩ := apps_ran (ty := ty) (cSlice_inv hel) (isStr_inv hu) hz hi (cOpd_sound hx he) hk.1 hk.2
            refine ⟨x', O', y', I', L', w', h1, h2, h3, .inl ?_⟩
            simp only [execOp, resolve, hcal, hat, haa]
            simp [invoke, builtin, hv, h4]
          · exact hk.elim
        · cases hc
      · split at hc
        · rename_i hin
          obtain ⟨ki, hu⟩ := isInt_inv hin
          simp only [Option.bind_eq_bind, Option.bind_eq_some_iff, Option.some.injEq] at hc
          obtain ⟨el, hel, ⟨s, b, z⟩, hz, ax, hx, ay, hy, rfl⟩ := hc
          simp only [wpOp] at hk
          have rx := cOpd_sound (I := I) (L := L) (O := O) hx he
          have ry := cOpd_sound (I := I) (L := L) (O := O) hy he
          split at hk
          · rename_i k hA hB
            rw [hA] at rx
            rw [hB] at ry
            have e2 := ry.exact
            obtain ⟨k0, k1, k2, hk⟩ := hk
            obtain ⟨n, rfl⟩ : ∃ n : Nat, k = n := ⟨k.toNat, by omega⟩
            obtain ⟨i, z0, h1, h2, h3, rfl, rfl, h4, h5, h6, h7⟩ := cElem_inv hz
            have k1' : n * i.bytes ≤ 281474976710656 := by
              have : ((i.bytes * n : Nat) : Int) ≤ 281474976710656 := by rw [Int.natCast_mul]; omega
              rw [Nat.mul_comm]; omega
            obtain ⟨y', I', L', w', g1, g2, g3⟩ := appz_nil (P := P) (w := w) (t := t) (u := u) (ty := ty) (cSlice_inv hel) hu h1 h2 h3 h5 h6 h7 h4 hi (by omega) k1' (by omega)
            simp only [Int.toNat_natCast] at hk
            refine ⟨_, _, y', I', L', w', hk, g1, g2, .inl ?_⟩
            have e1 : a.eval x = .slice none 0 0 := by generalize a.eval x = X at rx; cases rx; rfl
            simp only [execOp, resolve, hcal, hat, haa]
            simp [invoke, builtin, e1, e2, g3]
          · exact hk.elim
        · cases hc
    · rename_i t x hcal hts has
      have hat : c.argTypes = #[t] := by apply Array.ext'; simpa using hts
      have haa : c.args = #[x] := by apply Array.ext'; simpa using has
      split at hc
      · rename_i hsl
        obtain ⟨el, ht⟩ := isSl_inv hsl
        simp only [Option.bind_eq_bind, Option.bind_eq_some_iff, Option.some.injEq] at hc
        obtain ⟨ax, hx, rfl⟩ := hc
        obtain ⟨hn, hk⟩ := hk
        simp only [List.map_cons, List.map_nil] at hn hk
        simp only [AV.norefs, Bool.and_true] at hn
        obtain ⟨v, hv, hk⟩ := puK_inv hk
        have rx := pu_read hi (cOpd_sound hx he) hn [ax.ev e] (by simp)
        obtain ⟨z, rfl, hz, hX, rfl⟩ := capN_run rx hv
        refine Ran.same hi hk (.v _ hz) ?_
        simp only [execOp, resolve, hcal, hat, haa]
        simp [invoke, builtin, hX, Builtin.cap_, run_underlying ht]
        rfl
      · cases hc
    · rename_i t u x y hcal hts has
      have hat : c.argTypes = #[t, u] := by apply Array.ext'; simpa using hts
      have haa : c.args = #[x, y] := by apply Array.ext'; simpa using has
      simp only [Option.bind_eq_bind, Option.bind_eq_some_iff, Option.some.injEq] at hc
      obtain ⟨ax, hx, ay, hy, rfl⟩ := hc
      obtain ⟨hn, hk⟩ := hk
      simp only [List.map_cons, List.map_nil] at hn hk
      simp only [AV.norefs, Bool.and_true, Bool.and_eq_true] at hn
      obtain ⟨v, hv, hk⟩ := puK_inv hk
      have rx := pu_read hi (cOpd_sound hx he) hn.1 [ax.ev e, ay.ev e] (by simp)
      have ry := pu_read hi (cOpd_sound hy he) hn.2 [ax.ev e, ay.ev e] (by simp)
      obtain ⟨z, rfl, hz, hrun⟩ := min_run (P := P) (w := w) rx ry hv #[t, u] ty
      refine Ran.same hi hk (.v z hz) ?_
      simp only [execOp, resolve, hcal, hat, haa]
      simp [invoke, builtin, hrun]
    · rename_i t u x y hcal hts has
      have hat : c.argTypes = #[t, u] := by apply Array.ext'; simpa using hts
      have haa : c.args = #[x, y] := by apply Array.ext'; simpa using has
      simp only [Option.bind_eq_bind, Option.bind_eq_some_iff, Option.some.injEq] at hc
      obtain ⟨ax, hx, ay, hy, rfl⟩ := hc
      obtain ⟨hn, hk⟩ := hk
      simp only [List.map_cons, List.map_nil] at hn hk
      simp only [AV.norefs, Bool.and_true, Bool.and_eq_true] at hn
      obtain ⟨v, hv, hk⟩ := puK_inv hk
      have rx := pu_read hi (cOpd_sound hx he) hn.1 [ax.ev e, ay.ev e] (by simp)
      have ry := pu_read hi (cOpd_sound hy he) hn.2 [ax.ev e, ay.ev e] (by simp)
      obtain ⟨z, rfl, hz, hrun⟩ := max_run (P := P) (w := w) rx ry hv #[t, u] ty
      refine Ran.same hi hk (.v z hz) ?_
      simp only [execOp, resolve, hcal, hat, haa]
      simp [invoke, builtin, hrun]
    · cases hc
  · cases hc
theorem op_sound0 {o : Oper} {b ao : AOp} (hat : ao.isAt = false) (hc : cOp0 P o.type o.op = some b) (hab : b = ao.strip) (hi : Inv I L O w) (he : ∀ t, R I L O (e t) (a.tmps.getD t undef)) (hk : wpOp P ao e O K) {next : Act → World → Prop} {Q : Exit → Act → World → Prop}
    (hn : ∀ x O' y I' L' w', K x O' → Good I L O w I' L' O' w' → R I' L' O' x y → next (a.put o.dst y) w') : o.wp P a w next Q := by
  obtain ⟨dst, op, ty, pos, af, g⟩ := o
  subst hab
  unfold cOp0 at hc
  simp only at hc
  split at hc
  · exact callop_sound hc hi he hk hn
  · simp only [Option.bind_eq_some_iff] at hc
    obtain ⟨b, hb, hc⟩ := hc
    split at hc
    · cases hc
    · rename_i hnc
      simp only [Option.some.injEq] at hc
      by_cases hbs : ∃ t s l z ps, b = .buildSlice t s l z ps
      · obtain ⟨t, s, l, z, ps, rfl⟩ := hbs
        obtain ⟨t', len, parts, rfl⟩ := cOp1_buildSlice hb
        cases ao <;> simp only [AOp.strip] at hc <;> first | (cases hc; done) | (simp [AOp.isAt] at hat; done) | skip
        case buildSlice => cases hc; exact (op1_ran hb hi he hk).wp hn
        case buildF => cases hc; exact (ran_buildF hi he hb hk).wp hn
      · have := strip_eq hat hc (by simpa using hnc) (fun t s l z ps h => hbs ⟨t, s, l, z, ps, h⟩)
        subst this
        exact (op1_ran hb hi he hk).wp hn
theorem cOpX_plain {op : Op} {b : AOp} (h : cOpX P op = some b) : (∃ o as, b = .pu o as) ∨ (∃ t s by_ x y, b = .appS t s by_ x y) ∨ ∃ t s by_ z x y, b = .appZ t s by_ z x y := by
  unfold cOpX at h
  split at h
  · split at h
    · simp only [Option.bind_eq_bind, Option.bind_eq_some_iff, Option.some.injEq] at h; obtain ⟨_, _, rfl⟩ := h; exact .inl ⟨_, _, rfl⟩
    · cases h
  · split at h
    · simp only [Option.bind_eq_bind, Option.bind_eq_some_iff, Option.some.injEq] at h; obtain ⟨_, _, rfl⟩ := h; exact .inl ⟨_, _, rfl⟩
    · cases h
  · split at h
    · simp only [Option.bind_eq_bind, Option.bind_eq_some_iff, Option.some.injEq] at h; obtain ⟨_, _, rfl⟩ := h; exact .inl ⟨_, _, rfl⟩
    · cases h
  · simp only [Option.bind_eq_bind, Option.bind_eq_some_iff] at h
    obtain ⟨_, _, h⟩ := h
    split at h
    · simp only [Option.bind_eq_some_iff, Option.some.injEq] at h; obtain ⟨_, _, rfl⟩ := h; exact .inl ⟨_, _, rfl⟩
    · cases h
  · split at h
    · split at h
      · simp only [Option.bind_eq_bind, Option.bind_eq_some_iff] at h
        obtain ⟨_, _, _, _, h⟩ := h
        split at h
        · simp only [Option.bind_eq_some_iff, Option.some.injEq] at h; obtain ⟨_, _, _, _, rfl⟩ := h; exact .inr (.inl ⟨_, _, _, _, _, rfl⟩)
        · cases h
      · split at h
        · simp only [Option.bind_eq_bind, Option.bind_eq_some_iff, Option.some.injEq] at h
          obtain ⟨_, _, _, _, _, _, _, _, rfl⟩ := h
          exact .inr (.inr ⟨_, _, _, _, _, _, rfl⟩)
        · cases h
    · split at h
      · simp only [Option.bind_eq_bind, Option.bind_eq_some_iff, Option.some.injEq] at h; obtain ⟨_, _, rfl⟩ := h; exact .inl ⟨_, _, rfl⟩
      · cases h
    · simp only [Option.bind_eq_bind, Option.bind_eq_some_iff, Option.some.injEq] at h; obtain ⟨_, _, _, _, rfl⟩ := h; exact .inl ⟨_, _, rfl⟩
    · simp only [Option.bind_eq_bind, Option.bind_eq_some_iff, Option.some.injEq] at h; obtain ⟨_, _, _, _, rfl⟩ := h; exact .inl ⟨_, _, rfl⟩
    · cases h
  · cases h
theorem op_sound1 {o : Oper} {ao : AOp} (hat : ao.isAt = false) (hc : cOp P o.type o.op = some ao.strip) (hi : Inv I L O w) (he : ∀ t, R I L O (e t) (a.tmps.getD t undef)) (hk : wpOp P ao e O K) {next : Act → World → Prop} {Q : Exit → Act → World → Prop}
    (hn : ∀ x O' y I' L' w', K x O' → Good I L O w I' L' O' w' → R I' L' O' x y → next (a.put o.dst y) w') : o.wp P a w next Q := by
  unfold cOp cOpS at hc
  simp only [Option.some.injEq] at hc
  split at hc
  · rename_i b hb
    have hx := cOpX_plain hb
    have hab : ao = b := by
      refine strip_eq hat hc ?_ ?_
      · rcases hx with ⟨_, _, rfl⟩ | ⟨_, _, _, _, _, rfl⟩ | ⟨_, _, _, _, _, _, rfl⟩ <;> rfl
      · rcases hx with ⟨_, _, rfl⟩ | ⟨_, _, _, _, _, rfl⟩ | ⟨_, _, _, _, _, _, rfl⟩ <;> simp
    subst hab
    obtain ⟨dst, op, ty, pos, af, g⟩ := o
    exact (opX_ran hb hi he hk).wp hn
  · cases h0 : cOp0 P o.type o.op with
    | some b => rw [h0] at hc; exact op_sound0 hat h0 hc hi he hk hn
    | none =>
      rw [h0] at hc
      simp only [Option.getD_none] at hc
      cases ao <;> simp only [AOp.strip] at hc <;> first | (cases hc; done) | (simp [AOp.isAt] at hat; done) | exact hk.elim
theorem Opd.scoped_of (he : ∀ t, R I L O (e t) (a.tmps.getD t undef)) {x : Opd} (h : x.okc = true) : (x.ev e).inScope O.length = true := by
  cases x with
  | t n => exact (he n).inScope
  | c y => exact noref_scoped y h
theorem rowK_scoped (he : ∀ t, R I L O (e t) (a.tmps.getD t undef)) {s : Nat} : ∀ (ps : List (Nat × Opd)) (zs : List AV) {M : List AV → Prop}, ps.all (fun p => p.2.okc) = true → (∀ x ∈ zs, ∀ c ∈ x.cells, c.inScope O.length = true) → rowK e s zs ps M →
    rowK e s zs ps fun xs => (∀ x ∈ xs, ∀ c ∈ x.cells, c.inScope O.length = true) ∧ M xs
  | [], zs, M, _, hz, h => ⟨hz, h⟩
  | (i, x) :: ps, zs, M, hp, hz, h => by
    simp only [List.all_cons, Bool.and_eq_true] at hp
    obtain ⟨h1, h2, h3, h4⟩ := h
    refine ⟨h1, h2, h3, rowK_scoped he ps _ hp.2 (fun y hy c hc => ?_) h4⟩
    rcases List.mem_or_eq_of_mem_set hy with hy | rfl
    · exact hz y hy c hc
    · exact scoped_cells (Opd.scoped_of he hp.1) c hc
/-- a slice of one's own is cut to nothing: it gets another name -/
theorem Good.cut (hi : Inv I L O w) {n t s : Nat} {xs : List AV} (hO : O[n]? = some (.live t s xs)) :
    Good I L O w I (fun k => if k = O.length then L n else L k) (O.set n .dead ++ [.live t s []]) w ∧ R I (fun k => if k = O.length then L n else L k) (O.set n .dead ++ [.live t s []]) (.row O.length 0) (.slice (some ⟨(L n).blk, 0, none⟩) 0 (L n).cap) := by
  have hlt := (List.getElem?_eq_some_iff.1 hO).1
  have hget : ∀ {m e k ys}, (O.set n .dead ++ [AObj.live t s []])[m]? = some (.live e k ys) → (m = O.length ∧ e = t ∧ k = s ∧ ys = []) ∨ (m < O.length ∧ m ≠ n ∧ O[m]? = some (.live e k ys)) := by
    intro m e k ys hm
    by_cases hml : m < O.length
    · rw [List.getElem?_append_left (by simpa using hml)] at hm
      by_cases hmn : m = n
      · subst hmn; rw [List.getElem?_set_self hlt] at hm; cases hm
      · rw [List.getElem?_set_ne (fun h => hmn h.symm)] at hm
        exact .inr ⟨hml, hmn, hm⟩
    · rw [List.getElem?_append_right (by simp; omega), List.length_set] at hm
      have : m - O.length = 0 := by
        rcases Nat.eq_zero_or_pos (m - O.length) with h | h
        · exact h
        · rw [List.getElem?_eq_none (by simp; omega)] at hm; cases hm
      rw [this] at hm
      simp at hm
      obtain ⟨rfl, rfl, rfl⟩ := hm
      exact .inl ⟨by omega, rfl, rfl, rfl⟩
  have hgeto : ∀ {m : Nat} {a : AV}, (O.set n .dead ++ [AObj.live t s []])[m]? = some (.own a) → O[m]? = some (.own a) ∧ (if m = O.length then L n else L m) = L m := by
    intro m a hm
    by_cases hml : m < O.length
    · rw [List.getElem?_append_left (by simpa using hml)] at hm
      by_cases hmn : m = n
      · subst hmn; rw [List.getElem?_set_self hml] at hm; cases hm
      · rw [List.getElem?_set_ne (fun h => hmn h.symm)] at hm
        exact ⟨hm, if_neg (by omega)⟩
    · rw [List.getElem?_append_right (by simp; omega)] at hm
      cases hq : m - (O.set n .dead).length with
      | zero => rw [hq] at hm; cases hm
      | succ q => rw [hq] at hm; simp at hm
  have hnew : (O.set n .dead ++ [AObj.live t s []])[O.length]? = some (.live t s []) := by
    rw [List.getElem?_append_right (by simp)]; simp
  have hL : ∀ {m}, m < O.length → (if m = O.length then L n else L m) = L m := fun {m} hm => if_neg (by omega)
  have hext : Ext I L O I (fun k => if k = O.length then L n else L k) (O.set n .dead ++ [.live t s []]) := by
    refine ⟨fun _ _ _ h => h, by simp, fun m hm e k ys hx => ?_, fun m hm e k hx => ?_, fun m hm a hx => by obtain ⟨q1, q2⟩ := hgeto hx; exact ⟨⟨a, q1⟩, by rw [q2]⟩⟩
    · rcases hget hx with ⟨h1, _⟩ | ⟨_, _, h3⟩
      · omega
      · exact .inl ⟨ys, h3, Nat.le_refl _, fun _ => hL hm⟩
    · rw [List.getElem?_append_left (by simpa using hm)] at hx
      by_cases hmn : m = n
      · subst hmn; rw [List.getElem?_set_self hlt] at hx; cases hx
      · rwa [List.getElem?_set_ne (fun h => hmn h.symm)] at hx
  refine ⟨⟨⟨hi.imm, fun m e k ys hm => ?_, fun m m' e k ys e' k' ys' hm hm' hb => ?_, fun m e k ys o hm => ?_, hi.fix, hi.blk, hi.ow.same (fun m a hm => hgeto hm) (fun b o v hv => .inl ⟨o, v, hv⟩) (fun m e k ys hm => ?_) rfl⟩, hext, Frm.refl _ _, ?_, fun _ _ _ h => .inl h⟩, ?_⟩
  · rcases hget hm with ⟨rfl, rfl, rfl, rfl⟩ | ⟨h1, h2, h3⟩
    · obtain ⟨c, q1, q2, q3, q4, q5, q6⟩ := hi.obj n _ _ _ hO
      simp only [if_true]
      exact ⟨c, q1, q2, Nat.zero_le _, q4, q5, by simp⟩
    · simp only [hL h1]
      exact (hi.obj m _ _ _ h3).congr rfl fun _ _ h => h.mono hext
  · rcases hget hm with ⟨rfl, rfl, rfl, rfl⟩ | ⟨h1, h2, h3⟩ <;> rcases hget hm' with ⟨h4, _, _, _⟩ | ⟨h4, h5, h6⟩
    · exact h4.symm
    · simp only [if_true, hL h4] at hb
      exact (h5 (hi.sep _ _ _ _ _ _ _ _ h6 hO hb.symm)).elim
    · subst h4
      simp only [if_true, hL h1] at hb
      exact (h2 (hi.sep _ _ _ _ _ _ _ _ h3 hO hb)).elim
    · simp only [hL h1, hL h4] at hb
      exact hi.sep _ _ _ _ _ _ _ _ h3 h6 hb
  · rcases hget hm with ⟨rfl, rfl, rfl, rfl⟩ | ⟨h1, h2, h3⟩
    · simp only [if_true]
      exact hi.immSep n _ _ _ o hO
    · simp only [hL h1]
      exact hi.immSep m _ _ _ o h3
  · rcases hget hm with ⟨rfl, rfl, rfl, rfl⟩ | ⟨h1, h2, h3⟩
    · simp only [if_true]
      exact .inl ⟨n, _, _, _, hO, rfl⟩
    · simp only [hL h1]
      exact .inl ⟨m, _, _, _, h3, rfl⟩
  · rintro b (⟨m, e, k, ys, hm, hb⟩ | ⟨m, a, o, v, hm, hb⟩)
    · rcases hget hm with ⟨rfl, rfl, rfl, rfl⟩ | ⟨h1, h2, h3⟩
      · simp only [if_true] at hb
        exact .inl (.inl ⟨n, _, _, _, hO, hb⟩)
      · simp only [hL h1] at hb
        exact .inl (.inl ⟨m, _, _, _, h3, hb⟩)
    · obtain ⟨q1, q2⟩ := hgeto hm
      simp only [q2] at hb
      exact .inl (.inr ⟨m, a, o, v, q1, hb⟩)
  · have := R.rowLive (I := I) (L := fun k => if k = O.length then L n else L k) (O := O.set n .dead ++ [.live t s []]) O.length 0 t s [] hnew rfl
    simpa using this
theorem cOp1_sliceL {ty : TypeId} {op : Op} {s : Nat} {x : Opd} {lo hi : Option Opd} (h : cOp1 P ty op = some (.sliceL s x lo hi)) :
    ∃ t el ox olo ohi, op = .slice t ox olo ohi none ∧ P.underlying t = some (.slice el) ∧ cOpd ox = some x ∧ olo.mapM cOpd = some lo ∧ ohi.mapM cOpd = some hi ∧ (∃ inf, P.info? el = some inf ∧ inf.size = s) := by
  cases op <;> simp only [cOp1] at h
  case slice t ox olo ohi mx =>
    split at h
    · cases h
    · rename_i hmx
      obtain rfl : mx = none := by cases mx <;> simp at hmx ⊢
      split at h
      · simp only [Option.bind_eq_bind, Option.bind_eq_some_iff, Option.some.injEq] at h
        obtain ⟨_, _, _, _, _, _, h⟩ := h
        cases h
      · rename_i el ht
        simp only [Option.bind_eq_bind, Option.bind_eq_some_iff, Option.some.injEq] at h
        obtain ⟨inf, hinf, ax, hx, al, hl, ah, hh, h⟩ := h
        cases h
        exact ⟨t, el, ox, olo, ohi, rfl, ht, hx, hl, hh, inf, hinf, rfl⟩
      · cases h
  all_goals (repeat' split at h)
  all_goals first
    | (simp [Option.bind_eq_some_iff] at h; done)
    | (exfalso; simp_all; done)
theorem cOp_sliceL {ty : TypeId} {op : Op} {s : Nat} {x : Opd} {lo hi : Option Opd} (h : cOp P ty op = some (.sliceL s x lo hi)) : cOp1 P ty op = some (.sliceL s x lo hi) := by
  unfold cOp cOpS at h
  simp only [Option.some.injEq] at h
  split at h
  · rename_i b hb
    rcases cOpX_plain hb with ⟨_, _, rfl⟩ | ⟨_, _, _, _, _, rfl⟩ | ⟨_, _, _, _, _, _, rfl⟩ <;> cases h
  · cases h0 : cOp0 P ty op with
    | none => rw [h0] at h; cases h
    | some b =>
      rw [h0] at h
      simp only [Option.getD_some] at h
      subst h
      unfold cOp0 at h0
      split at h0
      · rename_i c
        exfalso
        unfold cCall at h0
        split at h0
        · split at h0
          · cases h0
          · cases h0
          · cases h0
        · split at h0
          · split at h0
            · simp only [Option.map_eq_some_iff] at h0; obtain ⟨_, _, h⟩ := h0; cases h
            · simp only [Option.map_eq_some_iff] at h0; obtain ⟨_, _, h⟩ := h0; cases h
            · cases h0
          · cases h0
        · split at h0
          · split at h0
            · simp only [Option.bind_eq_bind, Option.bind_eq_some_iff, Option.some.injEq] at h0
              obtain ⟨_, _, _, _, _, _, _, _, h⟩ := h0; cases h
            · cases h0
          · cases h0
        · cases h0
      · rw [Option.bind_eq_some_iff] at h0
        obtain ⟨b', hb, hb'⟩ := h0
        split at hb'
        · cases hb'
        · cases hb'; exact hb
theorem ran_cut (hi : Inv I L O w) (he : ∀ t, R I L O (e t) (a.tmps.getD t undef)) {ty : TypeId} {op : Op} {d : Option Tmp} {pos : String} {af : Array Edge} {g : Option (Nat × Bool)} {s : Nat} {x : Opd} {lo hi' : Option Opd} (hc : cOp1 P ty op = some (.sliceL s x lo hi')) (hk : wpOp P (.cut s x lo hi') e O K) :
    Ran P I L O w (execOp a.eval ⟨d, op, ty, pos, af, g⟩) K := by
  obtain ⟨t, el, ox, olo, ohi, rfl, ht, hx, hl, hh, inf, hinf, rfl⟩ := cOp1_sliceL hc
  have rx := cOpd_sound hx he
  simp only [wpOp] at hk
  generalize x.ev e = A at rx hk
  generalize hX : a.eval ox = X at rx
  cases A
  case nils =>
    obtain ⟨l, hk, hlo⟩ := bound_run hl he hk
    obtain ⟨h, hk, hhi⟩ := bound_run hh he hk
    obtain ⟨rfl, rfl, hk⟩ := hk
    cases rx
    have hb := run_sliceBounds (P := P) (sl := true) (len := 0) (cap := 0) (Nat.zero_le _) hlo (by simpa using hhi) (Int.le_refl _) (Int.le_refl _) (by simp) w
    refine Ran.same hi hk (y := .slice none 0 0) .nils ?_
    simp only [execOp, hX]
    simp at hb
    simp [Instr.sliceAt, Instr.slice, run_underlying ht, hb, sizeOf, typeInfo, hinf]
  case row n len =>
    simp only at hk
    split at hk
    · rename_i t' s' xs hO
      obtain ⟨hlen, rfl, hk⟩ := hk
      obtain ⟨l, hk, hlo⟩ := bound_run hl he hk
      obtain ⟨h, hk, hhi⟩ := bound_run hh he hk
      obtain ⟨rfl, rfl, hk⟩ := hk
      have hv := rx.row_live hO hlen
      subst hv
      obtain ⟨c, q1, q2, q3, q4, q5, q6⟩ := hi.obj n _ _ _ hO
      have hb := run_sliceBounds (P := P) (sl := true) (len := len) (cap := (L n).cap) (by omega) hlo hhi (Int.le_refl _) (Int.le_refl _) (by omega) w
      obtain ⟨hg, hr⟩ := Good.cut hi hO
      refine ⟨_, _, _, _, _, _, hk, hg, hr, .inl ?_⟩
      simp only [execOp, hX]
      simp at hb
      simp [Instr.sliceAt, Instr.slice, run_underlying ht, hb, sizeOf, typeInfo, hinf, add_lit]
    · exact hk.elim
  all_goals exact hk.elim
theorem op_sound {o : Oper} {ao : AOp} (hc : cOp P o.type o.op = some ao.strip) (hi : Inv I L O w) (he : ∀ t, R I L O (e t) (a.tmps.getD t undef)) (hk : wpOp P ao e O K) {next : Act → World → Prop} {Q : Exit → Act → World → Prop}
    (hn : ∀ x O' y I' L' w', K x O' → Good I L O w I' L' O' w' → R I' L' O' x y → next (a.put o.dst y) w') : o.wp P a w next Q := by
  cases hat : ao.isAt with
  | false => exact op_sound1 hat hc hi he hk hn
  | true =>
    cases ao <;> first | (simp [AOp.isAt] at hat; done) | skip
    case cut s x lo hi' =>
      obtain ⟨dst, op, ty, pos, af, g⟩ := o
      exact (ran_cut hi he (cOp_sliceL hc) hk).wp hn
    case allocAt k t s z =>
      obtain ⟨hz, hO, hK⟩ := hk
      refine op_sound1 (ao := .alloc t s z) rfl hc hi he (K := fun x O' => x = .ptr O.length 1 0 0 ∧ O' = O ++ [.live t s [z]]) ⟨rfl, rfl⟩ ?_
      rintro x O' y I' L' w' ⟨rfl, rfl⟩ hg hr
      have hv := hr.ptr_live (show _ = _ from by rw [List.getElem?_append_right (Nat.le_refl _), Nat.sub_self]; rfl) rfl
      refine hn _ _ y _ _ w' hK (hg.move hi hO (by simp) (fun x hx c hcc => ?_)) ?_
      · simp at hx; subst hx; exact scoped_cells (noref_scoped _ hz) c hcc
      · rw [hv]
        have := R.ptrLive (I := I') (L := moveL L' k O.length) (O := O.set k (.live t s [z])) k 1 0 0 t s [z] (List.getElem?_set_self (List.getElem?_eq_some_iff.1 hO).1) rfl
        simpa [moveL] using this
    case boxAt k t s x =>
      obtain ⟨hx, hO, h1, h2, hK⟩ := hk
      refine op_sound1 (ao := .box t s x) rfl hc hi he (K := fun y O' => y = .ptr O.length 1 0 0 ∧ O' = O ++ [.live t s [x.ev e]]) ⟨h1, h2, rfl, rfl⟩ ?_
      rintro x' O' y I' L' w' ⟨rfl, rfl⟩ hg hr
      have hv := hr.ptr_live (show _ = _ from by rw [List.getElem?_append_right (Nat.le_refl _), Nat.sub_self]; rfl) rfl
      refine hn _ _ y _ _ w' hK (hg.move hi hO (by simp) (fun z hz c hcc => ?_)) ?_
      · simp at hz; subst hz; exact scoped_cells (Opd.scoped_of he hx) c hcc
      · rw [hv]
        have := R.ptrLive (I := I') (L := moveL L' k O.length) (O := O.set k (.live t s [x.ev e])) k 1 0 0 t s [x.ev e] (List.getElem?_set_self (List.getElem?_eq_some_iff.1 hO).1) rfl
        simpa [moveL] using this
    case buildAt k t s len z ps =>
      obtain ⟨hz, hp, hrow⟩ := hk
      have hrow := rowK_scoped he ps _ hp (fun x hx c hc => by
        rw [List.mem_replicate] at hx
        rw [hx.2] at hc
        exact scoped_cells (noref_scoped _ hz) c hc) hrow
      have hlen : ∀ (ps : List (Nat × Opd)) (zs : List AV) {M : List AV → Prop}, rowK e s zs ps M → rowK e s zs ps fun xs => xs.length = zs.length ∧ M xs := by
        intro ps
        induction ps with
        | nil => intro zs M h; exact ⟨rfl, h⟩
        | cons p ps ih =>
          intro zs M h
          obtain ⟨h1, h2, h3, h4⟩ := h
          have := ih _ h4
          rw [List.length_set] at this
          exact ⟨h1, h2, h3, this⟩
      have hrow := hlen ps _ hrow
      rw [List.length_replicate] at hrow
      refine op_sound1 (ao := .buildSlice t s len z ps) rfl hc hi he (K := fun y O' => ∃ xs, (xs.length = len ∧ (∀ x ∈ xs, ∀ c ∈ x.cells, c.inScope O.length = true) ∧ O[k]? = some (.nil t s) ∧ xs ≠ [] ∧ K (.row k len) (O.set k (.live t s xs))) ∧ y = .row O.length len ∧ O' = O ++ [.live t s xs]) ?_ ?_
      · have hmono : ∀ (ps : List (Nat × Opd)) (zs : List AV) {M M' : List AV → Prop}, (∀ xs, M xs → M' xs) → rowK e s zs ps M → rowK e s zs ps M' := by
          intro ps
          induction ps with
          | nil => intro zs M M' hm h; exact hm _ h
          | cons p ps ih => intro zs M M' hm h; obtain ⟨h1, h2, h3, h4⟩ := h; exact ⟨h1, h2, h3, ih _ hm h4⟩
        exact hmono ps _ (fun xs h => ⟨xs, h, rfl, rfl⟩) hrow
      · rintro x' O' y I' L' w' ⟨xs, ⟨hl, hsc, hO, hne, hK⟩, rfl, rfl⟩ hg hr
        have hv := hr.row_live (show _ = _ from by rw [List.getElem?_append_right (Nat.le_refl _), Nat.sub_self]; rfl) hl
        refine hn _ _ y _ _ w' hK (hg.move hi hO hne hsc) ?_
        rw [hv]
        have := R.rowLive (I := I') (L := moveL L' k O.length) (O := O.set k (.live t s xs)) k len t s xs (List.getElem?_set_self (List.getElem?_eq_some_iff.1 hO).1) hl
        simpa [moveL] using this
end
end Go.Ab
/-
  CODE: regions, control, what a function gives back.
-/
namespace Go.Ab
structure AOper where
  guard : Option (Nat × Bool)
  dst : Option Nat
  op : AOp
def AOper.strip (o : AOper) : AOper := { o with op := o.op.strip }
def setD (e : Env) (d : Option Nat) (a : AV) : Env :=
  match d with
  | some t => e.set t a
  | none => e
def wpOps (P : Program) : List AOper → Env → List AObj → (Env → List AObj → Prop) → Prop
  | [], e, O, K => K e O
  | o :: r, e, O, K =>
    match o.guard with
    | none => wpOp P o.op e O fun x O' => wpOps P r (setD e o.dst x) O' K
    | some (t, want) =>
      match e t with
      | .v (.bool b) =>
        (b = want → wpOp P o.op (e.set t (.v (.bool want))) O fun x O' => wpOps P r (setD (e.set t (.v (.bool want))) o.dst x) O' K) ∧
        (b = !want → wpOps P r (setD (e.set t (.v (.bool (!want)))) o.dst (.tup [])) O K)
      | .tup [] => wpOps P r (setD e o.dst (.tup [])) O K
      | _ => False
/- what an operation may look at and may turn: for regions that draw their order -/
/-- what it turns: nothing, an object, one more object, anything -/
inductive EK where
  | nop
  | set (n : Nat)
  | push (n : Nat)
  | any
structure Lab where
  rd : List Nat
  k : EK
instance : Inhabited Lab := ⟨⟨[], .any⟩⟩
/-- rf: the objects that an operand names; N: the next object -/
def labG (o : AOp) (rf : Opd → List Nat) (N : Nat) : Lab :=
  match o with
  | .buildF _ _ _ _ _ | .mov _ | .pick _ _ _ | .build _ _ | .bin _ _ _ | .beq _ _ _ | .un _ _ | .convInt _ _ | .fld _ _ _ | .idxS _ _ | .sliceS _ _ _ | .sliceL _ _ _ _ | .ext _ _ | .mkfn _ _ | .lenS _ | .qcall _ _ | .qcallv _ _ => ⟨[], .nop⟩
  | .load _ x | .faddr _ x | .nilc x | .lenL x => ⟨rf x, .nop⟩
  | .iaddr _ x _ | .aaddr _ _ x _ => ⟨rf x, .nop⟩
  | .pu _ as | .rcall _ as => ⟨as.flatMap rf, .nop⟩
  | .alloc _ _ _ | .box _ _ _ | .buildSlice _ _ _ _ _ | .mk _ _ _ _ _ _ | .fcall _ _ _ _ _ => ⟨[], .push N⟩
  | .allocAt k _ _ _ | .boxAt k _ _ _ | .buildAt k _ _ _ _ _ => ⟨[k], .set k⟩
  | .lcall rd _ _ => ⟨rd, .push N⟩
  | .kcall rd _ _ => ⟨rd, .nop⟩
  | .scall1 _ _ as => match as.flatMap rf with
    | [n] => ⟨[n], .set n⟩
    | _ => ⟨[], .any⟩
  | .store _ x _ => match rf x with
    | [n] => ⟨[n], .set n⟩
    | _ => ⟨[], .any⟩
  | .app _ _ _ x y => match rf x with
    | [n] => ⟨n :: rf y, .set n⟩
    | _ => ⟨[], .any⟩
  | .appS _ _ _ x y => match rf x with
    | [n] => ⟨n :: rf y, .set n⟩
    | _ => ⟨[], .any⟩
  | _ => ⟨[], .any⟩
def labOf (o : AOp) (e : Env) (N : Nat) : Lab := labG o (fun x => refs (x.ev e)) N
def Lab.pure (l : Lab) : Bool := l.rd.isEmpty && (match l.k with | .nop => true | _ => false)
def EK.hits : EK → List Nat → Bool
  | .nop, _ => false
  | .set n, rd => rd.contains n
  | .push n, rd => rd.contains n
  | .any, _ => true
def EK.isAny : EK → Bool
  | .any => true
  | _ => false
def EK.isPush : EK → Bool
  | .push _ => true
  | _ => false
/-- two that stand side by side may change places -/
def pairOk (p i : Lab) : Bool :=
  if p.k.isAny = true then i.pure else if i.k.isAny = true then p.pure else
    !(p.k.hits i.rd) && !(i.k.hits p.rd) && !(p.k.isPush && i.k.isPush)
def Opd.rd : Opd → List Nat
  | .t n => [n]
  | .c _ => []
def optRd : Option Opd → List Nat
  | some x => x.rd
  | none => []
def AOp.reads : AOp → List Nat
  | .stuck => []
  | .buildF _ _ _ _ ps => ps.flatMap fun p => p.2.rd
  | .pu _ as => as.flatMap Opd.rd
  | .mov x | .box _ _ x | .load _ x | .un _ x | .convInt _ x | .faddr _ x | .fld _ _ x | .lenS x | .lenL x | .ext x _ | .nilc x => x.rd
  | .alloc _ _ _ | .allocAt _ _ _ _ => []
  | .boxAt _ _ _ x => x.rd
  | .buildAt _ _ _ _ _ ps => ps.flatMap fun p => p.2.rd
  | .pick c a b => c.rd ++ a.rd ++ b.rd
  | .build _ ps => ps.flatMap fun p => p.2.2.rd
  | .buildSlice _ _ _ _ ps => ps.flatMap fun p => p.2.rd
  | .store _ x y | .bin _ x y | .beq _ x y | .iaddr _ x y | .aaddr _ _ x y | .idxS x y | .app _ _ _ x y | .appS _ _ _ x y | .appZ _ _ _ _ x y | .mk _ _ _ _ x y => x.rd ++ y.rd
  | .sliceS x l h | .sliceL _ x l h | .cut _ x l h => x.rd ++ optRd l ++ optRd h
  | .mkfn _ cs => cs.flatMap Opd.rd
  | .call _ as | .pcall _ as | .qcall _ as | .rcall _ as | .fcall _ _ _ _ as | .scall _ _ as | .scall1 _ _ as | .lcall _ _ as | .kcall _ _ as => as.flatMap Opd.rd
  | .callv x as | .pcallv x as | .qcallv x as => x.rd ++ as.flatMap Opd.rd
def AOper.reads (o : AOper) : List Nat := (match o.guard with | some (t, _) => [t] | none => []) ++ o.op.reads
/-- may p, which stands ahead of i in the text, be carried out behind it? -/
def indepL (p i : AOper × Lab) : Bool :=
  (match p.1.dst with
    | some t => !(i.1.reads.contains t) && !(i.1.dst == some t)
    | none => true) &&
  (match i.1.dst with
    | some t => !(p.1.reads.contains t)
    | none => true) && pairOk p.2 i.2
/-- row n: the operations that stand ahead of operation n by the edges, as bits -/
def cloN (rows : List (List Nat)) : Nat → List Nat
  | 0 => []
  | n + 1 => let acc := cloN rows n; acc ++ [(rows.getD n []).foldl (fun s j => s ||| (2 ^ j ||| acc.getD j 0)) 0]
def drawOkL (rows : List (List Nat)) (al : List (AOper × Lab)) : Bool :=
  let c := cloN rows al.length
  (List.range al.length).all fun i => (rows.getD i []).all (· < i) &&
    (List.range i).all fun p => (c.getD i 0).testBit p || (match al[p]?, al[i]? with | some x, some y => indepL x y | _, _ => false)
/-- the same as wpOps; what each operation looks at and turns is noted -/
def wpOpsL (P : Program) : List AOper → List Lab → Env → List AObj → (List Lab → Env → List AObj → Prop) → Prop
  | [], acc, e, O, K => K acc e O
  | o :: r, acc, e, O, K =>
    match o.guard with
    | none => wpOp P o.op e O fun x O' => wpOpsL P r (acc ++ [labOf o.op e O.length]) (setD e o.dst x) O' K
    | some (t, want) =>
      match e t with
      | .v (.bool b) =>
        (b = want → wpOp P o.op (e.set t (.v (.bool want))) O fun x O' => wpOpsL P r (acc ++ [labOf o.op (e.set t (.v (.bool want))) O.length]) (setD (e.set t (.v (.bool want))) o.dst x) O' K) ∧
        (b = !want → wpOpsL P r (acc ++ [⟨[], .nop⟩]) (setD (e.set t (.v (.bool (!want)))) o.dst (.tup [])) O K)
      | .tup [] => wpOpsL P r (acc ++ [⟨[], .nop⟩]) (setD e o.dst (.tup [])) O K
      | _ => False
inductive AX where
  | normal
  | exit (id : Nat)
  | ret
inductive ACode where
  | skip
  | region (rows : Option (List (List Nat))) (ops : List AOper)
  | seq (a b : ACode)
  | cond (c : Opd) (t f : ACode)
  | block (id : Nat) (b : ACode)
  | loop (b : ACode)
  | exit (id : Nat)
  | ret
  | keep (live : List Nat) (c : ACode)
  | weak (c : ACode)
  /-- a region without a drawn order, in which less may be known ahead of each operation -/
  | regionW (ops : List AOper)
def ACode.strip : ACode → ACode
  | .region d ops => .region d (ops.map AOper.strip)
  | .seq a b => .seq a.strip b.strip
  | .cond c t f => .cond c t.strip f.strip
  | .block id b => .block id b.strip
  | .loop b => .loop b.strip
  | .keep _ c => c.strip
  | .weak c => c.strip
  | .regionW ops => .region none (ops.map AOper.strip)
  | c => c
/-- only these slots are remembered -/
def keepE (live : List Nat) (e : Env) : Env := fun t => if live.contains t then e t else .top
/-- Less may be known: whatever holds before, holds so behind it. -/
def WK (n0 : Nat) (e : Env) (O : List AObj) (e' : Env) (O' : List AObj) : Prop :=
  ∀ (I0 : Imm) (L0 : Nat → Loc) (O0 : List AObj) (w0 : World) (I : Imm) (L : Nat → Loc) (w : World) (f : Nat → Value), O0.length = n0 → Good I0 L0 O0 w0 I L O w → (∀ t, R I L O (e t) (f t)) →
    ∃ I' L', Good I0 L0 O0 w0 I' L' O' w ∧ ∀ t, R I' L' O' (e' t) (f t)
theorem WK.refl (n0 : Nat) (e : Env) (O : List AObj) : WK n0 e O e O := fun _ _ _ _ I L _ _ _ h k => ⟨I, L, h, k⟩
theorem WK.trans {n0 : Nat} {e e' e'' : Env} {O O' O'' : List AObj} (h : WK n0 e O e' O') (k : WK n0 e' O' e'' O'') : WK n0 e O e'' O'' := by
  intro I0 L0 O0 w0 I L w f h0 hg hr
  obtain ⟨I1, L1, g1, r1⟩ := h I0 L0 O0 w0 I L w f h0 hg hr
  exact k I0 L0 O0 w0 I1 L1 w f h0 g1 r1
def wpOpsW (P : Program) (n0 : Nat) : List AOper → Env → List AObj → (Env → List AObj → Prop) → Prop
  | [], e, O, K => ∃ e' O', WK n0 e O e' O' ∧ K e' O'
  | o :: r, e0, O0, K => ∃ e O, WK n0 e0 O0 e O ∧
    match o.guard with
    | none => wpOp P o.op e O fun x O' => wpOpsW P n0 r (setD e o.dst x) O' K
    | some (t, want) =>
      match e t with
      | .v (.bool b) =>
        (b = want → wpOp P o.op (e.set t (.v (.bool want))) O fun x O' => wpOpsW P n0 r (setD (e.set t (.v (.bool want))) o.dst x) O' K) ∧
        (b = !want → wpOpsW P n0 r (setD (e.set t (.v (.bool (!want)))) o.dst (.tup [])) O K)
      | .tup [] => wpOpsW P n0 r (setD e o.dst (.tup [])) O K
      | _ => False
def wpC (P : Program) (n0 : Nat) : ACode → (AX → Env → List AObj → Prop) → Env → List AObj → Prop
  | .skip, Q, e, O => Q .normal e O
  | .region none ops, Q, e, O => wpOps P ops e O (Q .normal)
  | .region (some rows) ops, Q, e, O => ∃ al, al.map AOper.strip = ops.map AOper.strip ∧ wpOpsL P al [] e O fun labs e O => drawOkL rows (al.zip labs) = true ∧ Q .normal e O
  | .seq a b, Q, e, O => wpC P n0 a (fun x e O => match x with | .normal => wpC P n0 b Q e O | x => Q x e O) e O
  | .cond c t f, Q, e, O => match c.ev e with
    | .v (.bool b) => (b = true → wpC P n0 t Q e O) ∧ (b = false → wpC P n0 f Q e O)
    | _ => False
  | .block id b, Q, e, O => wpC P n0 b (fun x e O => match x with | .exit i => if i = id then Q .normal e O else Q (.exit i) e O | x => Q x e O) e O
  | .loop b, Q, e, O => ∃ (J : Nat → Env → List AObj → Prop) (n : Nat), (∃ e' O', WK n0 e O e' O' ∧ J n e' O') ∧
      ∀ n e O, J n e O → wpC P n0 b (fun x e O => match x with | .normal => ∃ m e' O', m < n ∧ WK n0 e O e' O' ∧ J m e' O' | x => Q x e O) e O
  | .exit id, Q, e, O => Q (.exit id) e O
  | .ret, Q, e, O => Q .ret e O
  | .keep live c, Q, e, O => wpC P n0 c (fun x e O => match x with | .normal => Q .normal (keepE live e) O | x => Q x e O) e O
  | .weak c, Q, e, O => ∃ e' O', WK n0 e O e' O' ∧ wpC P n0 c Q e' O'
  | .regionW ops, Q, e, O => wpOpsW P n0 ops e O (Q .normal)
/- what a function gives back -/
inductive ARes where
  | tmp (t : Nat)
  | cell (t : Nat) (n : Option Nat)
def ARes.get (e : Env) (O : List AObj) (r : ARes) (K : AV → Prop) : Prop :=
  match r with
  | .tmp t => K (e t)
  | .cell t n => match e t with
    | .ptr k 1 0 0 => match O[k]? with
      | some (.live _ _ [x]) => n.getD 1 ≤ x.cells.length ∧ K (loadC n x 0)
      | _ => False
    | _ => False
def resK (e : Env) (O : List AObj) : List ARes → List AV → (List AV → Prop) → Prop
  | [], acc, K => K acc.reverse
  | r :: rs, acc, K => r.get e O fun x => resK e O rs (x :: acc) K
def packR : List AV → AV
  | [x] => x
  | xs => .tup xs
/-- behind the body: the results, and what is owned -/
def retK (n0 : Nat) (rs : List ARes) (res : AV) (O' : List AObj) (x : AX) (e : Env) (O : List AObj) : Prop :=
  match x with
  | .exit _ => False
  | _ => resK e O rs [] fun xs => ∃ e', WK n0 (fun t => if t = 0 then packR xs else .top) O e' O' ∧ e' 0 = res
/- FROM THE MODEL's CODE -/
def cGuard (ops : Array Oper) (nt : Nat) (g : Option (Nat × Bool)) : Option (Option (Nat × Bool)) :=
  match g with
  | none => some none
  | some (j, b) => match (ops[j]?).bind (·.dst) with
    | some t => if t < nt then some (some (t, b)) else none
    | none => none
/-- the edges of a region that draws its order -/
def rowsOf (ops : Array Oper) : List (List Nat) := ops.toList.map fun o => (o.after.toList.filter (Region.binds .any)).map (·.on)
def cOper (P : Program) (nt : Nat) (ops : Array Oper) (o : Oper) : Option AOper :=
  match cOp P o.type o.op, cGuard ops nt o.guard with
  | some op, some g => if o.dst.all (· < nt) = true then some ⟨g, o.dst, op⟩ else none
  | _, _ => none
def cCode (P : Program) (nt : Nat) : Code → Option ACode
  | .skip => some .skip
  | .region _ ops false => (ops.toList.mapM (cOper P nt ops)).map (.region none)
  | .region _ ops true => if Region.departs ops = true ∧ P.follows .mixedOrders = false then none else (ops.toList.mapM (cOper P nt ops)).map (.region (some (rowsOf ops)))
  | .seq a b => match cCode P nt a, cCode P nt b with
    | some a, some b => some (.seq a b)
    | _, _ => none
  | .cond c t f => match cOpd c, cCode P nt t, cCode P nt f with
    | some c, some t, some f => some (.cond c t f)
    | _, _, _ => none
  | .block id b => (cCode P nt b).map (.block id)
  | .loop b => (cCode P nt b).map .loop
  | .exit id => some (.exit id)
  | .ret => some .ret
  | _ => none
def cRes (P : Program) (r : ResultVar) : Option ARes :=
  match r with
  | .tmp t => some (.tmp t)
  | .cell t ty => (cWidth P ty).map (.cell t)
/-- THE WHOLE FUNCTION: number of slots, code, results -/
structure AFn where
  nargs : Nat
  nt : Nat
  code : ACode
  res : List ARes
def entryE (args : List AV) : Env := fun t => args.getD t (.tup [])
end Go.Ab
/-
  REGIONS THAT DRAW THEIR ORDER (1): which operations may change places, and that they may.
-/
namespace Go.Ab
/-- 0: hangs on its operands alone · 1: reads what is owned · 2: makes an object · 3: any -/
def AOp.cls : AOp → Nat
  | .buildF _ _ _ _ _ | .mov _ | .pick _ _ _ | .build _ _ | .bin _ _ _ | .beq _ _ _ | .un _ _ | .convInt _ _ | .fld _ _ _ | .idxS _ _ | .sliceS _ _ _ | .sliceL _ _ _ _ | .ext _ _ | .mkfn _ _ | .lenS _ | .qcall _ _ | .qcallv _ _ => 0
  | .load _ _ | .faddr _ _ | .nilc _ | .iaddr _ _ _ | .aaddr _ _ _ _ | .lenL _ | .pu _ _ | .rcall _ _ => 1
  | .alloc _ _ _ | .box _ _ _ | .buildSlice _ _ _ _ _ | .mk _ _ _ _ _ _ | .fcall _ _ _ _ _ => 2
  | _ => 3
def agree (l : List Nat) (e e' : Env) : Prop := ∀ t ∈ l, e t = e' t
theorem agree.ev {x : Opd} {e e' : Env} {l : List Nat} (h : agree l e e') (hx : ∀ t ∈ x.rd, t ∈ l) : x.ev e = x.ev e' := by
  cases x with
  | t n => exact h n (hx n (by simp [Opd.rd]))
  | c a => rfl
theorem agree.evs {xs : List Opd} {e e' : Env} {l : List Nat} (h : agree l e e') (hx : ∀ t ∈ xs.flatMap Opd.rd, t ∈ l) : xs.map (Opd.ev e) = xs.map (Opd.ev e') := by
  apply List.map_congr_left
  intro x hm
  exact h.ev fun t ht => hx t (List.mem_flatMap.2 ⟨x, hm, ht⟩)
theorem boundK_congr {d : Int} {e e' : Env} {x : Option Opd} {l : List Nat} (h : agree l e e') (hx : ∀ t ∈ optRd x, t ∈ l) (K : Int → Prop) : boundK d e x K = boundK d e' x K := by
  cases x with
  | none => rfl
  | some o => simp only [boundK]; rw [h.ev hx]
theorem buildK_congr {e e' : Env} {l : List Nat} (h : agree l e e') : ∀ (ps : List (Nat × Nat × Opd)) (z : List AV) (K : AV → Prop), (∀ t ∈ ps.flatMap (fun p => p.2.2.rd), t ∈ l) → buildK e z ps K = buildK e' z ps K
  | [], _, _, _ => rfl
  | (off, size, x) :: r, z, K, hx => by
    simp only [buildK]
    rw [h.ev (x := x) fun t ht => hx t (by simp [ht]), buildK_congr h r _ K fun t ht => hx t (by simp only [List.flatMap_cons, List.mem_append]; exact .inr ht)]
theorem rowK_congr {e e' : Env} {l : List Nat} (h : agree l e e') (s : Nat) : ∀ (ps : List (Nat × Opd)) (z : List AV) (K : List AV → Prop), (∀ t ∈ ps.flatMap (fun p => p.2.rd), t ∈ l) → rowK e s z ps K = rowK e' s z ps K
  | [], _, _, _ => rfl
  | (i, x) :: r, z, K, hx => by
    simp only [rowK]
    rw [h.ev (x := x) fun t ht => hx t (by simp [ht]), rowK_congr h s r _ K fun t ht => hx t (by simp only [List.flatMap_cons, List.mem_append]; exact .inr ht)]
theorem wpOp_congr {P : Program} {o : AOp} {e e' : Env} (h : agree o.reads e e') (O : List AObj) (K : AV → List AObj → Prop) : wpOp P o e O K = wpOp P o e' O K := by
  cases o <;> simp only [AOp.reads] at h <;> simp only [wpOp]
  case mov x => rw [h.ev fun t ht => ht]
  case pick c a b => rw [h.ev (x := c) (by simp +contextual), h.ev (x := a) (by simp +contextual), h.ev (x := b) (by simp +contextual)]
  case box t s x => rw [h.ev fun t ht => ht]
  case build z ps => exact buildK_congr h ps z _ fun t ht => ht
  case buildSlice t s len z ps => exact rowK_congr h s ps _ _ fun t ht => ht
  case buildF t s len z ps => exact rowK_congr h s ps _ _ fun t ht => ht
  case pu o as =>
    have hm : (as.map fun x => frz O (x.ev e)) = as.map fun x => frz O (x.ev e') := List.map_congr_left fun x hx => by rw [h.ev (x := x) fun t ht => List.mem_flatMap.2 ⟨x, hx, ht⟩]
    rw [hm]
  case appS t s b x y => rw [h.ev (x := x) (by simp +contextual), h.ev (x := y) (by simp +contextual)]
  case load n x => rw [h.ev fun t ht => ht]
  case store m x y => rw [h.ev (x := x) (by simp +contextual), h.ev (x := y) (by simp +contextual)]
  case bin op x y => rw [h.ev (x := x) (by simp +contextual), h.ev (x := y) (by simp +contextual)]
  case beq neg x y => rw [h.ev (x := x) (by simp +contextual), h.ev (x := y) (by simp +contextual)]
  case un op x => rw [h.ev fun t ht => ht]
  case convInt k x => rw [h.ev fun t ht => ht]
  case faddr k x => rw [h.ev fun t ht => ht]
  case fld k n x => rw [h.ev fun t ht => ht]
  case iaddr s x y => rw [h.ev (x := x) (by simp +contextual), h.ev (x := y) (by simp +contextual)]
  case aaddr m s x y => rw [h.ev (x := x) (by simp +contextual), h.ev (x := y) (by simp +contextual)]
  case idxS x y => rw [h.ev (x := x) (by simp +contextual), h.ev (x := y) (by simp +contextual)]
  case sliceS x lo hi =>
    have e1 := fun d K => boundK_congr (d := d) (x := lo) h (by simp +contextual) K
    have e2 := fun d K => boundK_congr (d := d) (x := hi) h (by simp +contextual) K
    rw [h.ev (x := x) (by simp +contextual)]
    simp only [e1, e2]
  case sliceL s x lo hi =>
    have e1 := fun d K => boundK_congr (d := d) (x := lo) h (by simp +contextual) K
    have e2 := fun d K => boundK_congr (d := d) (x := hi) h (by simp +contextual) K
    rw [h.ev (x := x) (by simp +contextual)]
    simp only [e1, e2]
  case appZ t s b z x y => rw [h.ev (x := x) (by simp +contextual), h.ev (x := y) (by simp +contextual)]
  case cut s x lo hi =>
    have e1 := fun d K => boundK_congr (d := d) (x := lo) h (by simp +contextual) K
    have e2 := fun d K => boundK_congr (d := d) (x := hi) h (by simp +contextual) K
    rw [h.ev (x := x) (by simp +contextual)]
    simp only [e1, e2]
  case mk t s b z x y => rw [h.ev (x := x) (by simp +contextual), h.ev (x := y) (by simp +contextual)]
  case lenS x => rw [h.ev fun t ht => ht]
  case lenL x => rw [h.ev fun t ht => ht]
  case app t s b x y => rw [h.ev (x := x) (by simp +contextual), h.ev (x := y) (by simp +contextual)]
  case ext x i => rw [h.ev fun t ht => ht]
  case nilc x => rw [h.ev fun t ht => ht]
  case mkfn f cs => rw [h.evs fun t ht => ht]
  case call f as => rw [h.evs fun t ht => ht]
  case callv x as => rw [h.ev (x := x) (by simp +contextual), h.evs (xs := as) (by simp +contextual)]
  case pcall f as =>
    have hm : (as.map fun x => frz O (x.ev e)) = as.map fun x => frz O (x.ev e') := List.map_congr_left fun x hx => by rw [h.ev (x := x) fun t ht => List.mem_flatMap.2 ⟨x, hx, ht⟩]
    rw [hm, h.evs fun t ht => ht]
  case pcallv x as =>
    have hm : (as.map fun x => frz O (x.ev e)) = as.map fun x => frz O (x.ev e') := List.map_congr_left fun x hx => by rw [h.ev (x := x) fun t ht => List.mem_append_right _ (List.mem_flatMap.2 ⟨x, hx, ht⟩)]
    rw [hm, h.ev (x := x) (by simp +contextual), h.evs (xs := as) (by simp +contextual)]
  case qcall f as => rw [h.evs fun t ht => ht]
  case rcall f as =>
    have hm : (as.map fun x => frz O (x.ev e)) = as.map fun x => frz O (x.ev e') := List.map_congr_left fun x hx => by rw [h.ev (x := x) fun t ht => List.mem_flatMap.2 ⟨x, hx, ht⟩]
    rw [hm]
  case fcall nl t s f as => rw [h.evs fun t ht => ht]
  case lcall rd f as => rw [h.evs fun t ht => ht]
  case kcall rd f as => rw [h.evs fun t ht => ht]
  case boxAt k t s x => rw [h.ev fun t ht => ht]
  case buildAt k t s len z ps =>
    have := rowK_congr h s ps (List.replicate len z) (fun xs => O[k]? = some (.nil t s) ∧ xs ≠ [] ∧ K (.row k len) (O.set k (.live t s xs))) fun t ht => ht
    rw [this]
  case scall gs f as => rw [h.evs fun t ht => ht]
  case scall1 gs f as =>
    have hm : (as.flatMap fun x => refs (x.ev e)) = as.flatMap fun x => refs (x.ev e') := by
      simp only [← List.flatMap_map (Opd.ev e) refs, ← List.flatMap_map (Opd.ev e') refs]
      rw [h.evs fun t ht => ht]
    rw [h.evs fun t ht => ht, hm]
  case qcallv x as => rw [h.ev (x := x) (by simp +contextual), h.evs (xs := as) (by simp +contextual)]
/-- what an operation gives, for whoever goes on -/
def Ex (P : Program) (o : AOp) (e : Env) (O : List AObj) (x : AV) (O' : List AObj) : Prop := ∀ K : AV → List AObj → Prop, K x O' → wpOp P o e O K
theorem buildK_ex {e : Env} : ∀ (ps : List (Nat × Nat × Opd)) (z : List AV) {K : AV → Prop}, buildK e z ps K → ∃ x, K x ∧ ∀ K' : AV → Prop, K' x → buildK e z ps K'
  | [], _, _, h => ⟨_, h, fun _ h => h⟩
  | (off, size, x) :: r, z, K, h => by
    obtain ⟨h1, h2, h3, h4⟩ := h
    obtain ⟨y, h5, h6⟩ := buildK_ex r _ h4
    exact ⟨y, h5, fun K' h => ⟨h1, h2, h3, h6 K' h⟩⟩
theorem rowK_ex {e : Env} {s : Nat} : ∀ (ps : List (Nat × Opd)) (z : List AV) {K : List AV → Prop}, rowK e s z ps K → ∃ x, K x ∧ ∀ K' : List AV → Prop, K' x → rowK e s z ps K'
  | [], _, _, h => ⟨_, h, fun _ h => h⟩
  | (i, x) :: r, z, K, h => by
    obtain ⟨h1, h2, h3, h4⟩ := h
    obtain ⟨y, h5, h6⟩ := rowK_ex r _ h4
    exact ⟨y, h5, fun K' h => ⟨h1, h2, h3, h6 K' h⟩⟩
theorem boundK_ex {d : Int} {e : Env} {x : Option Opd} {K : Int → Prop} (h : boundK d e x K) : ∃ i, K i ∧ ∀ K' : Int → Prop, K' i → boundK d e x K' := by
  cases x with
  | none => exact ⟨_, h, fun _ h => h⟩
  | some o =>
    simp only [boundK] at h ⊢
    split at h
    · exact ⟨_, h, fun _ h => h⟩
    · exact h.elim
/-- what hangs on its operands alone -/
theorem ex0 {P : Program} {o : AOp} (hc : o.cls = 0) {e : Env} {O : List AObj} {K : AV → List AObj → Prop} (h : wpOp P o e O K) :
    ∃ x, K x O ∧ ∀ O', Ex P o e O' x O' := by
  cases o <;> simp only [AOp.cls] at hc <;> first | (cases hc; done) | skip
  case mov x => exact ⟨_, h, fun O' K' h' => h'⟩
  case pick c a b =>
    simp only [wpOp] at h
    split at h
    · rename_i t ht; exact ⟨_, h, fun O' K' h' => by simp only [wpOp, ht]; exact h'⟩
    · exact h.elim
  case build z ps =>
    obtain ⟨x, h1, h2⟩ := buildK_ex ps z h
    exact ⟨x, h1, fun O' K' h' => h2 (fun a => K' a O') h'⟩
  case buildF t s len z ps =>
    obtain ⟨xs, ⟨hno, h1⟩, h2⟩ := rowK_ex ps _ h
    exact ⟨_, h1, fun O' K' h' => h2 (fun xs => AV.norefs xs = true ∧ K' (.sl xs) O') ⟨hno, h'⟩⟩
  case beq neg x y =>
    simp only [wpOp] at h
    split at h
    · rename_i a b ha hb
      exact ⟨_, h, fun O' K' h' => by simp only [wpOp, ha, hb]; exact h'⟩
    · exact h.elim
  case bin op x y =>
    simp only [wpOp] at h
    split at h
    · rename_i a b ha hb
      split at h
      · rename_i z hz; exact ⟨_, h, fun O' K' h' => by simp only [wpOp, ha, hb, hz]; exact h'⟩
      · exact h.elim
    · exact h.elim
  case un op x =>
    simp only [wpOp] at h
    split at h
    · rename_i a ha
      split at h
      · rename_i z hz; exact ⟨_, h, fun O' K' h' => by simp only [wpOp, ha, hz]; exact h'⟩
      · exact h.elim
    · exact h.elim
  case convInt k x =>
    simp only [wpOp] at h
    split at h
    · rename_i k' n ha; exact ⟨_, h, fun O' K' h' => by simp only [wpOp, ha]; exact h'⟩
    · exact h.elim
  case fld off n x => exact ⟨_, h.2.2, fun O' K' h' => ⟨h.1, h.2.1, h'⟩⟩
  case idxS x i =>
    simp only [wpOp] at h
    split at h
    · rename_i s k j ha hb; exact ⟨_, h.2.2, fun O' K' h' => by simp only [wpOp, ha, hb]; exact ⟨h.1, h.2.1, h'⟩⟩
    · exact h.elim
  case sliceS x lo hi =>
    simp only [wpOp] at h
    split at h
    · rename_i s ha
      obtain ⟨l, h1, h2⟩ := boundK_ex h
      obtain ⟨u, h3, h4⟩ := boundK_ex h1
      exact ⟨_, h3.2.2.2, fun O' K' h' => by simp only [wpOp, ha]; exact h2 _ (h4 _ ⟨h3.1, h3.2.1, h3.2.2.1, h'⟩)⟩
    · exact h.elim
  case sliceL s x lo hi =>
    simp only [wpOp] at h
    split at h
    · rename_i s ha
      obtain ⟨l, h1, h2⟩ := boundK_ex h
      obtain ⟨u, h3, h4⟩ := boundK_ex h1
      exact ⟨_, h3.2.2.2.2, fun O' K' h' => by simp only [wpOp, ha]; exact h2 _ (h4 _ ⟨h3.1, h3.2.1, h3.2.2.1, h3.2.2.2.1, h'⟩)⟩
    · exact h.elim
  case lenS x =>
    simp only [wpOp] at h
    split at h
    · rename_i s ha; exact ⟨_, h, fun O' K' h' => by simp only [wpOp, ha]; exact h'⟩
    · exact h.elim
  case ext x i =>
    simp only [wpOp] at h
    split at h
    · rename_i vs ha; exact ⟨_, h.2, fun O' K' h' => by simp only [wpOp, ha]; exact ⟨h.1, h'⟩⟩
    · exact h.elim
  case mkfn f cs => exact ⟨_, h, fun O' K' h' => h'⟩
  case qcall f as =>
    obtain ⟨r, h1, h2, h3⟩ := h
    exact ⟨r, h3, fun O' K' h' => ⟨r, h1, h2, h'⟩⟩
  case qcallv x as =>
    simp only [wpOp] at h
    split at h
    · rename_i f caps ha
      obtain ⟨r, h1, h2, h3⟩ := h
      exact ⟨r, h3, fun O' K' h' => by simp only [wpOp, ha]; exact ⟨r, h1, h2, h'⟩⟩
    · exact h.elim
/-- the same objects, where they are looked at -/
def agreeO (rd : List Nat) (O O' : List AObj) : Prop := ∀ n ∈ rd, O'[n]? = O[n]?
theorem frz_agree {O O' : List AObj} {a : AV} (h : agreeO (refs a) O O') : frz O' a = frz O a := by
  cases a with
  | row n len => simp only [frz, h n (by simp [refs])]
  | own n => simp only [frz, h n (by simp [refs])]
  | _ => rfl
theorem frzs_agree {O O' : List AObj} {e : Env} {as : List Opd} (h : agreeO (as.flatMap fun x => refs (x.ev e)) O O') : (as.map fun x => frz O' (x.ev e)) = as.map fun x => frz O (x.ev e) :=
  List.map_congr_left fun x hx => frz_agree fun n hn => h n (List.mem_flatMap.2 ⟨x, hx, hn⟩)
/-- what reads -/
theorem ex1 {P : Program} {o : AOp} (hc : o.cls = 1) {e : Env} {O : List AObj} {K : AV → List AObj → Prop} (h : wpOp P o e O K) :
    ∃ x, K x O ∧ ∀ O' N, agreeO (labOf o e N).rd O O' → Ex P o e O' x O' := by
  cases o <;> simp only [AOp.cls] at hc <;> first | (cases hc; done) | skip
  case pu o as =>
    obtain ⟨hn, hk⟩ := h
    unfold puK at hk
    split at hk
    · rename_i v hv
      refine ⟨v, hk, fun O' N ha K' h' => ?_⟩
      have hm := frzs_agree (O := O) (O' := O') (e := e) (as := as) ha
      exact ⟨by rw [hm]; exact hn, by rw [hm]; unfold puK; rw [hv]; exact h'⟩
    · exact hk.elim
  case rcall f as =>
    obtain ⟨r, h1, h2, h3, h4⟩ := h
    refine ⟨r, h4, fun O' N ha K' h' => ?_⟩
    have hm := frzs_agree (O := O) (O' := O') (e := e) (as := as) ha
    exact ⟨r, h1, by rw [hm]; exact h2, by rw [hm]; exact h3, h'⟩
  case load n x =>
    simp only [wpOp] at h
    split at h
    · rename_i y f ha; exact ⟨_, h.2, fun O' N hg K' h' => by simp only [wpOp, ha]; exact ⟨h.1, h'⟩⟩
    · rename_i k len i f ha
      split at h
      · rename_i t s xs hO
        obtain ⟨h1, h2, h3, h4⟩ := h
        exact ⟨_, h4, fun O' N hg K' h' => by
          have hO' := hg k (by simp [labOf, labG, ha, refs])
          simp only [wpOp, ha, hO', hO]; exact ⟨h1, h2, h3, h'⟩⟩
      · exact h.elim
    · exact h.elim
  case faddr off x =>
    simp only [wpOp] at h
    split at h
    · rename_i y f ha; exact ⟨_, h, fun O' N hg K' h' => by simp only [wpOp, ha]; exact h'⟩
    · rename_i k len i f ha
      split at h
      · rename_i t s xs hO
        exact ⟨_, h.2, fun O' N hg K' h' => by
          have hO' := hg k (by simp [labOf, labG, ha, refs])
          simp only [wpOp, ha, hO', hO]; exact ⟨h.1, h'⟩⟩
      · exact h.elim
    · exact h.elim
  case nilc x =>
    simp only [wpOp] at h
    split at h
    · rename_i y f ha; exact ⟨_, h, fun O' N hg K' h' => by simp only [wpOp, ha]; exact h'⟩
    · rename_i y f ha; exact ⟨_, h, fun O' N hg K' h' => by simp only [wpOp, ha]; exact h'⟩
    · rename_i k len i f ha
      split at h
      · rename_i t s xs hO
        exact ⟨_, h.2, fun O' N hg K' h' => by
          have hO' := hg k (by simp [labOf, labG, ha, refs])
          simp only [wpOp, ha, hO', hO]; exact ⟨h.1, h'⟩⟩
      · exact h.elim
    · exact h.elim
  case iaddr s x y =>
    simp only [wpOp] at h
    split at h
    · rename_i xs k i ha hb
      obtain ⟨h1, h2, h3, h4⟩ := h
      exact ⟨_, h4, fun O' N hg K' h' => by simp only [wpOp, ha, hb]; exact ⟨h1, h2, h3, h'⟩⟩
    · rename_i n len k i ha hb
      split at h
      · rename_i t s' xs hO
        obtain ⟨h1, h2, h3, h4, h5⟩ := h
        exact ⟨_, h5, fun O' N hg K' h' => by
          have hO' := hg n (by simp [labOf, labG, ha, refs])
          simp only [wpOp, ha, hb, hO', hO]; exact ⟨h1, h2, h3, h4, h'⟩⟩
      · exact h.elim
    · exact h.elim
  case aaddr m s x y =>
    simp only [wpOp] at h
    split at h
    · rename_i b f k i ha hb
      obtain ⟨h1, h2, h3⟩ := h
      exact ⟨_, h3, fun O' N hg K' h' => by simp only [wpOp, ha, hb]; exact ⟨h1, h2, h'⟩⟩
    · rename_i n len j f k i ha hb
      split at h
      · rename_i t s' xs hO
        obtain ⟨h1, h2, h3, h4⟩ := h
        exact ⟨_, h4, fun O' N hg K' h' => by
          have hO' := hg n (by simp [labOf, labG, ha, refs])
          simp only [wpOp, ha, hb, hO', hO]; exact ⟨h1, h2, h3, h'⟩⟩
      · exact h.elim
    · exact h.elim
  case lenL x =>
    simp only [wpOp] at h
    split at h
    · rename_i ha; exact ⟨_, h, fun O' N hg K' h' => by simp only [wpOp, ha]; exact h'⟩
    · rename_i xs ha; exact ⟨_, h, fun O' N hg K' h' => by simp only [wpOp, ha]; exact h'⟩
    · rename_i k len ha
      have hO' : ∀ O' N, agreeO (labOf (.lenL x) e N).rd O O' → O'[k]? = O[k]? := fun O' N hg => hg k (by simp [labOf, labG, ha, refs])
      split at h
      · rename_i t s xs hO
        exact ⟨_, h.2, fun O' N hg K' h' => by simp only [wpOp, ha, hO' O' N hg, hO]; exact ⟨h.1, h'⟩⟩
      · rename_i t s hO
        exact ⟨_, h.2, fun O' N hg K' h' => by simp only [wpOp, ha, hO' O' N hg, hO]; exact ⟨h.1, h'⟩⟩
      · exact h.elim
    · exact h.elim
/-- what makes an object -/
theorem ex2 {P : Program} {o : AOp} (hc : o.cls = 2) {e : Env} {O : List AObj} {K : AV → List AObj → Prop} (h : wpOp P o e O K) :
    ∃ x b, K x (O ++ [b]) ∧ ∀ O', O'.length = O.length → Ex P o e O' x (O' ++ [b]) := by
  cases o <;> simp only [AOp.cls] at hc <;> first | (cases hc; done) | skip
  case alloc t s z => exact ⟨_, _, h, fun O' hl K' h' => by simp only [wpOp, hl]; exact h'⟩
  case box t s x => exact ⟨_, _, h.2.2, fun O' hl K' h' => by simp only [wpOp, hl]; exact ⟨h.1, h.2.1, h'⟩⟩
  case buildSlice t s len z ps =>
    obtain ⟨xs, h1, h2⟩ := rowK_ex ps _ h
    exact ⟨.row O.length len, .live t s xs, h1, fun O' hl K' h' => by simp only [wpOp]; exact h2 (fun ys => K' (.row O'.length len) (O' ++ [AObj.live t s ys])) (by rw [hl]; exact h')⟩
  case fcall nl t s f as =>
    obtain ⟨res, ob, h1, h2, h3⟩ := h
    exact ⟨_, _, h3, fun O' hl K' h' => ⟨res, ob, h1, h2, by rw [hl]; exact h'⟩⟩
  case mk t s b z x y =>
    simp only [wpOp] at h
    split at h
    · rename_i n c ha hb
      obtain ⟨h1, h2, h3, h4, h5⟩ := h
      exact ⟨_, _, h5, fun O' hl K' h' => by simp only [wpOp, ha, hb, hl]; exact ⟨h1, h2, h3, h4, h'⟩⟩
    · exact h.elim
theorem srcK_ex {O : List AObj} {y : AV} {K : List AV → Prop} (h : srcK O y K) : ∃ ys, K ys ∧ ∀ K' : List AV → Prop, K' ys → srcK O y K' := by
  unfold srcK at h
  split at h
  · exact ⟨_, h, fun K' h' => h'⟩
  · exact ⟨_, h, fun K' h' => h'⟩
  · rename_i n len
    split at h
    · rename_i t s xs hO; exact ⟨_, h.2, fun K' h' => by simp only [srcK, hO]; exact ⟨h.1, h'⟩⟩
    · rename_i t s hO; exact ⟨_, h.2, fun K' h' => by simp only [srcK, hO]; exact ⟨h.1, h'⟩⟩
    · exact h.elim
  · exact h.elim
theorem appK_ex {O : List AObj} {x : AV} {t s b : Nat} {ys : List AV} {K : AV → List AObj → Prop} (h : appK O x t s b ys K) : ∃ r O', K r O' ∧ ∀ K' : AV → List AObj → Prop, K' r O' → appK O x t s b ys K' := by
  unfold appK at h
  split at h
  · obtain ⟨h1, h2, h3, h4⟩ := h
    by_cases hy : ys = []
    · exact ⟨_, _, h3 hy, fun K' h' => ⟨h1, h2, fun _ => h', fun hn => (hn hy).elim⟩⟩
    · exact ⟨_, _, h4 hy, fun K' h' => ⟨h1, h2, fun hn => (hy hn).elim, fun _ => h'⟩⟩
  · rename_i n len
    split at h
    · rename_i t' s' xs hO
      obtain ⟨h1, h2, h3, h4, h5, h6⟩ := h
      exact ⟨_, _, h6, fun K' h' => by simp only [appK, hO]; exact ⟨h1, h2, h3, h4, h5, h'⟩⟩
    · rename_i t' s' hO
      obtain ⟨h1, h2, h3, h4, h5, h6, h7⟩ := h
      by_cases hy : ys = []
      · exact ⟨_, _, h6 hy, fun K' h' => by simp only [appK, hO]; exact ⟨h1, h2, h3, h4, h5, fun _ => h', fun hn => (hn hy).elim⟩⟩
      · exact ⟨_, _, h7 hy, fun K' h' => by simp only [appK, hO]; exact ⟨h1, h2, h3, h4, h5, fun hn => (hy hn).elim, fun _ => h'⟩⟩
    · exact h.elim
  · exact h.elim
/-- any operation -/
theorem exAny {P : Program} {o : AOp} {e : Env} {O : List AObj} {K : AV → List AObj → Prop} (h : wpOp P o e O K) : ∃ x O', K x O' ∧ Ex P o e O x O' := by
  by_cases h0 : o.cls = 0
  · obtain ⟨x, h1, h2⟩ := ex0 h0 h; exact ⟨x, O, h1, h2 O⟩
  by_cases h1 : o.cls = 1
  · obtain ⟨x, h1, h2⟩ := ex1 h1 h; exact ⟨x, O, h1, h2 O 0 fun _ _ => rfl⟩
  by_cases h2 : o.cls = 2
  · obtain ⟨x, b, h1, h2⟩ := ex2 h2 h; exact ⟨x, _, h1, h2 O rfl⟩
  cases o <;> first | (exact (h0 rfl).elim) | (exact (h1 rfl).elim) | (exact (h2 rfl).elim) | skip
  case stuck => exact h.elim
  case appZ t s b z x y =>
    simp only [wpOp] at h
    split at h
    · rename_i k ha hb
      exact ⟨_, _, h.2.2.2, fun K' h' => by simp only [wpOp, ha, hb]; exact ⟨h.1, h.2.1, h.2.2.1, h'⟩⟩
    · exact h.elim
  case cut s x lo hi =>
    simp only [wpOp] at h
    split at h
    · rename_i ha
      obtain ⟨l, h1, h2⟩ := boundK_ex h
      obtain ⟨u, h3, h4⟩ := boundK_ex h1
      exact ⟨_, _, h3.2.2, fun K' h' => by simp only [wpOp, ha]; exact h2 _ (h4 _ ⟨h3.1, h3.2.1, h'⟩)⟩
    · rename_i n len ha
      split at h
      · rename_i t s' xs hO
        obtain ⟨q1, q2, h⟩ := h
        obtain ⟨l, h1, h2⟩ := boundK_ex h
        obtain ⟨u, h3, h4⟩ := boundK_ex h1
        exact ⟨_, _, h3.2.2, fun K' h' => by simp only [wpOp, ha, hO]; exact ⟨q1, q2, h2 _ (h4 _ ⟨h3.1, h3.2.1, h'⟩)⟩⟩
      · exact h.elim
    · exact h.elim
  case appS t s b x y =>
    simp only [wpOp] at h
    split at h
    · rename_i sb hsb
      obtain ⟨r, O', h1, h2⟩ := appK_ex h.2
      exact ⟨r, O', h1, fun K' h' => by simp only [wpOp, hsb]; exact ⟨h.1, h2 K' h'⟩⟩
    · exact h.elim
  case store m x y =>
    simp only [wpOp] at h
    split at h
    · rename_i k len i f ha
      split at h
      · rename_i t s xs hO
        obtain ⟨q1, q2, q3, q4, q5, q6⟩ := h
        exact ⟨_, _, q6, fun K' h' => by simp only [wpOp, ha, hO]; exact ⟨q1, q2, q3, q4, q5, h'⟩⟩
      · exact h.elim
    · exact h.elim
  case app t s b x y =>
    simp only [wpOp] at h
    obtain ⟨ys, q1, q2⟩ := srcK_ex h
    obtain ⟨r, O', q3, q4⟩ := appK_ex q1.2
    exact ⟨r, O', q3, fun K' h' => by simp only [wpOp]; exact q2 _ ⟨q1.1, q4 K' h'⟩⟩
  case call f as =>
    obtain ⟨r, O', q1, q2⟩ := h
    exact ⟨r, O', q2, fun K' h' => ⟨r, O', q1, h'⟩⟩
  case allocAt k t s z => exact ⟨_, _, h.2.2, fun K' h' => ⟨h.1, h.2.1, h'⟩⟩
  case boxAt k t s x => exact ⟨_, _, h.2.2.2.2, fun K' h' => ⟨h.1, h.2.1, h.2.2.1, h.2.2.2.1, h'⟩⟩
  case buildAt k t s len z ps =>
    obtain ⟨xs, ⟨h1, h2, h3⟩, h4⟩ := rowK_ex ps _ h.2.2
    exact ⟨_, _, h3, fun K' h' => ⟨h.1, h.2.1, h4 (fun xs => O[k]? = some (.nil t s) ∧ xs ≠ [] ∧ K' (.row k len) (O.set k (AObj.live t s xs))) ⟨h1, h2, h'⟩⟩⟩
  case scall gs f as =>
    obtain ⟨r, O', q1, q2⟩ := h
    exact ⟨r, O', q2, fun K' h' => ⟨r, O', q1, h'⟩⟩
  case lcall rd f as =>
    obtain ⟨r, ob, q1, q2⟩ := h
    exact ⟨r, _, q2, fun K' h' => ⟨r, ob, q1, h'⟩⟩
  case kcall rd f as =>
    obtain ⟨r, q1, q2⟩ := h
    exact ⟨r, _, q2, fun K' h' => ⟨r, q1, h'⟩⟩
  case scall1 gs f as =>
    obtain ⟨n, a0, ob, r, ob', q1, q2, q3, q4, q5, q6, q7, q8, q9⟩ := h
    exact ⟨r, _, q9, fun K' h' => ⟨n, a0, ob, r, ob', q1, q2, q3, q4, q5, q6, q7, q8, h'⟩⟩
  case callv x as =>
    simp only [wpOp] at h
    split at h
    · rename_i f caps ha
      obtain ⟨r, O', q1, q2⟩ := h
      exact ⟨r, O', q2, fun K' h' => by simp only [wpOp, ha]; exact ⟨r, O', q1, h'⟩⟩
    · exact h.elim
  case pcall f as =>
    obtain ⟨r, q1, q2, q3⟩ := h
    exact ⟨r, _, q3, fun K' h' => ⟨r, q1, q2, h'⟩⟩
  case pcallv x as =>
    simp only [wpOp] at h
    split at h
    · rename_i f caps ha
      obtain ⟨r, q1, q2, q3⟩ := h
      exact ⟨r, _, q3, fun K' h' => by simp only [wpOp, ha]; exact ⟨r, q1, q2, h'⟩⟩
    · exact h.elim
/-- appends to an object: the same, wherever that object and what is appended are the same -/
theorem srcK_ex' {O : List AObj} {y : AV} {K : List AV → Prop} (h : srcK O y K) : ∃ ys, K ys ∧ ∀ O', agreeO (refs y) O O' → ∀ K' : List AV → Prop, K' ys → srcK O' y K' := by
  unfold srcK at h
  split at h
  · exact ⟨_, h, fun O' _ K' h' => h'⟩
  · exact ⟨_, h, fun O' _ K' h' => h'⟩
  · rename_i n len
    have hg : ∀ O', agreeO (refs (.row n len)) O O' → O'[n]? = O[n]? := fun O' hg => hg n (by simp [refs])
    split at h
    · rename_i t s xs hO; exact ⟨_, h.2, fun O' ha K' h' => by simp only [srcK, hg O' ha, hO]; exact ⟨h.1, h'⟩⟩
    · rename_i t s hO; exact ⟨_, h.2, fun O' ha K' h' => by simp only [srcK, hg O' ha, hO]; exact ⟨h.1, h'⟩⟩
    · exact h.elim
  · exact h.elim
inductive Eff where
  | nop
  | set (n : Nat) (b : AObj)
  | push (b : AObj)
def Eff.app : Eff → List AObj → List AObj
  | .nop, O => O
  | .set n b, O => O.set n b
  | .push b, O => O ++ [b]
/-- an effect is of a kind, at these objects -/
def Fit : EK → Eff → List AObj → Prop
  | .nop, .nop, _ => True
  | .set _, .nop, _ => True
  | .set n, .set m _, O => m = n ∧ n < O.length
  | .push N, .push _, O => O.length = N
  | _, _, _ => False
theorem appK_ex' {O : List AObj} {n len : Nat} {t s b : Nat} {ys : List AV} {K : AV → List AObj → Prop} (h : appK O (.row n len) t s b ys K) :
    ∃ r eff, Fit (.set n) eff O ∧ K r (eff.app O) ∧ ∀ O', O'[n]? = O[n]? → ∀ K' : AV → List AObj → Prop, K' r (eff.app O') → appK O' (.row n len) t s b ys K' := by
  simp only [appK] at h
  split at h
  · rename_i t' s' xs hO
    obtain ⟨h1, h2, h3, h4, h5, h6⟩ := h
    exact ⟨_, .set n _, ⟨rfl, (List.getElem?_eq_some_iff.1 hO).1⟩, h6, fun O' ho K' h' => by simp only [appK, ho, hO]; exact ⟨h1, h2, h3, h4, h5, h'⟩⟩
  · rename_i t' s' hO
    obtain ⟨h1, h2, h3, h4, h5, h6, h7⟩ := h
    by_cases hy : ys = []
    · exact ⟨_, .nop, trivial, h6 hy, fun O' ho K' h' => by simp only [appK, ho, hO]; exact ⟨h1, h2, h3, h4, h5, fun _ => h', fun hn => (hn hy).elim⟩⟩
    · exact ⟨_, .set n _, ⟨rfl, (List.getElem?_eq_some_iff.1 hO).1⟩, h7 hy, fun O' ho K' h' => by simp only [appK, ho, hO]; exact ⟨h1, h2, h3, h4, h5, fun hn => (hy hn).elim, fun _ => h'⟩⟩
  · exact h.elim
theorem refs_row {a : AV} {n : Nat} (h : refs a = [n]) : (∃ len, a = .row n len) ∨ (∃ len i f, a = .ptr n len i f) ∨ a = .own n := by
  cases a <;> simp [refs] at h
  · subst h; exact .inl ⟨_, rfl⟩
  · subst h; exact .inr (.inl ⟨_, _, _, rfl⟩)
  · subst h; exact .inr (.inr rfl)
/-- WHAT AN OPERATION DOES, by its label: the same wherever what it looks at is the same -/
theorem lab_sound {P : Program} {o : AOp} {e : Env} {O : List AObj} {K : AV → List AObj → Prop} (hk : (labOf o e O.length).k.isAny = false) (h : wpOp P o e O K) :
    ∃ x eff, Fit (labOf o e O.length).k eff O ∧ (∀ n, (labOf o e O.length).k = .set n → n ∈ (labOf o e O.length).rd) ∧ K x (eff.app O) ∧
      ∀ O', agreeO (labOf o e O.length).rd O O' → ((labOf o e O.length).k.isPush = true → O'.length = O.length) → Ex P o e O' x (eff.app O') := by
  by_cases h0 : o.cls = 0
  · have hl : labOf o e O.length = ⟨[], .nop⟩ := by cases o <;> first | (simp [AOp.cls] at h0; done) | rfl
    obtain ⟨x, h1, h2⟩ := ex0 h0 h
    exact ⟨x, .nop, by rw [hl]; trivial, by rw [hl]; simp, h1, fun O' _ _ => h2 O'⟩
  by_cases h1 : o.cls = 1
  · have hl : (labOf o e O.length).k = .nop := by cases o <;> first | (simp [AOp.cls] at h1; done) | rfl
    obtain ⟨x, h2, h3⟩ := ex1 h1 h
    exact ⟨x, .nop, by rw [hl]; trivial, by rw [hl]; simp, h2, fun O' ha _ => h3 O' _ ha⟩
  by_cases h2 : o.cls = 2
  · have hl : labOf o e O.length = ⟨[], .push O.length⟩ := by cases o <;> first | (simp [AOp.cls] at h2; done) | rfl
    obtain ⟨x, b, h3, h4⟩ := ex2 h2 h
    exact ⟨x, .push b, by rw [hl]; exact rfl, by rw [hl]; simp, h3, fun O' _ hp => h4 O' (hp (by rw [hl]; rfl))⟩
  cases o <;> first | (exact (h0 rfl).elim) | (exact (h1 rfl).elim) | (exact (h2 rfl).elim) | (simp [labOf, labG, EK.isAny] at hk; done) | skip
  case allocAt k t s z =>
    obtain ⟨h1, h2, h3⟩ := h
    exact ⟨_, .set k _, ⟨rfl, (List.getElem?_eq_some_iff.1 h2).1⟩, by simp [labOf, labG], h3, fun O' ha _ K' h' => ⟨h1, by rw [ha k (by simp [labOf, labG])]; exact h2, h'⟩⟩
  case boxAt k t s x =>
    obtain ⟨h0, h2, h3, h4, h5⟩ := h
    exact ⟨_, .set k _, ⟨rfl, (List.getElem?_eq_some_iff.1 h2).1⟩, by simp [labOf, labG], h5, fun O' ha _ K' h' => ⟨h0, by rw [ha k (by simp [labOf, labG])]; exact h2, h3, h4, h'⟩⟩
  case buildAt k t s len z ps =>
    obtain ⟨h0, hp, h⟩ := h
    obtain ⟨xs, ⟨h1, h2, h3⟩, h4⟩ := rowK_ex ps _ h
    exact ⟨_, .set k (.live t s xs), ⟨rfl, (List.getElem?_eq_some_iff.1 h1).1⟩, by simp [labOf, labG], h3, fun O' ha _ K' h' => ⟨h0, hp, h4 (fun xs => O'[k]? = some (.nil t s) ∧ xs ≠ [] ∧ K' (.row k len) (O'.set k (AObj.live t s xs))) ⟨by rw [ha k (by simp [labOf, labG])]; exact h1, h2, h'⟩⟩⟩
  case lcall rd f as =>
    obtain ⟨res, ob, h1, h2⟩ := h
    exact ⟨res, .push ob, rfl, by simp [labOf, labG], h2, fun O' ha hp K' h' => ⟨res, ob, fun O'' hl hr => h1 O'' (hl.trans (hp rfl)) fun n hn => (hr n hn).trans (ha n hn), h'⟩⟩
  case kcall rd f as =>
    obtain ⟨res, h1, h2⟩ := h
    exact ⟨res, .nop, trivial, by simp [labOf, labG], h2, fun O' ha _ K' h' => ⟨res, fun O'' hr => h1 O'' fun n hn => (hr n hn).trans (ha n hn), h'⟩⟩
  case scall1 gs f as =>
    simp only [labOf, labG] at hk ⊢
    obtain ⟨n, a0, ob, r, ob', q1, q2, q3, q4, q5, q6, q7, q8, q9⟩ := h
    simp only [q3]
    exact ⟨r, .set n ob', ⟨rfl, (List.getElem?_eq_some_iff.1 q4).1⟩, by simp, q9, fun O' ha _ K' h' => ⟨n, a0, ob, r, ob', q1, q2, q3, by rw [ha n (by simp)]; exact q4, q5, q6, q7, q8, h'⟩⟩
  case store m x y =>
    simp only [labOf, labG] at hk ⊢
    split at hk
    · rename_i n hn
      simp only [hn]
      rcases refs_row hn with ⟨len, hx⟩ | ⟨len, i, f, hx⟩ | hx
      rotate_left 2
      · simp only [wpOp, hx] at h
      · simp only [wpOp, hx] at h
      · simp only [wpOp, hx] at h
        split at h
        · rename_i t s xs hO
          obtain ⟨q1, q2, q3, q4, q5, q6⟩ := h
          exact ⟨_, .set n _, ⟨rfl, (List.getElem?_eq_some_iff.1 hO).1⟩, by simp, q6, fun O' ha _ K' h' => by
            simp only [wpOp, hx, ha n (by simp), hO]; exact ⟨q1, q2, q3, q4, q5, h'⟩⟩
        · exact h.elim
    · simp [EK.isAny] at hk
  case app t s b x y =>
    simp only [labOf, labG] at hk ⊢
    split at hk
    · rename_i n hn
      simp only [hn]
      simp only [wpOp] at h
      obtain ⟨ys, ⟨q0, q1⟩, q2⟩ := srcK_ex' h
      rcases refs_row hn with ⟨len, hx⟩ | ⟨len, i, f, hx⟩ | hx
      · rw [hx] at q1
        obtain ⟨r, eff, q3, q4, q5⟩ := appK_ex' q1
        exact ⟨r, eff, q3, by simp, q4, fun O' ha _ K' h' => by
          simp only [wpOp, hx]
          exact q2 O' (fun m hm => ha m (by simp [hm])) _ ⟨q0, q5 O' (ha n (by simp)) K' h'⟩⟩
      · rw [hx] at q1; exact q1.elim
      · rw [hx] at q1; exact q1.elim
    · simp [EK.isAny] at hk
  case appS t s b x y =>
    simp only [labOf, labG] at hk ⊢
    split at hk
    · rename_i n hn
      simp only [hn]
      simp only [wpOp] at h
      split at h
      · rename_i sb hsb
        obtain ⟨q0, q1⟩ := h
        rcases refs_row hn with ⟨len, hx⟩ | ⟨len, i, f, hx⟩ | hx
        · rw [hx] at q1
          obtain ⟨r, eff, q3, q4, q5⟩ := appK_ex' q1
          exact ⟨r, eff, q3, by simp, q4, fun O' ha _ K' h' => by
            simp only [wpOp, hsb, hx]
            exact ⟨q0, q5 O' (ha n (by simp)) K' h'⟩⟩
        · rw [hx] at q1; exact q1.elim
        · rw [hx] at q1; exact q1.elim
      · exact h.elim
    · simp [EK.isAny] at hk
end Go.Ab
/-
  REGIONS THAT DRAW THEIR ORDER (2): a run in the text's order is a run in every order that the edges allow.
-/
namespace Go.Ab
/-- one operation of a region: carried out, or left out -/
inductive Step (P : Program) (o : AOper) (e : Env) (O : List AObj) : Env → List AObj → Prop
  | run (x : AV) (O' : List AObj) : (∀ t want, o.guard = some (t, want) → e t = .v (.bool want)) → Ex P o.op e O x O' → Step P o e O (setD e o.dst x) O'
  | skip (t : Nat) (want : Bool) : o.guard = some (t, want) → (e t = .v (.bool (!want)) ∨ e t = .tup []) → Step P o e O (setD e o.dst (.tup [])) O
inductive Run (P : Program) : List AOper → Env → List AObj → Env → List AObj → Prop
  | nil (e : Env) (O : List AObj) : Run P [] e O e O
  | cons {o : AOper} {l : List AOper} {e e1 e2 : Env} {O O1 O2 : List AObj} : Step P o e O e1 O1 → Run P l e1 O1 e2 O2 → Run P (o :: l) e O e2 O2
theorem set_self {e : Env} {t : Nat} {a : AV} (h : e t = a) : e.set t a = e := by
  funext k; unfold Env.set; split
  · rename_i hk; subst hk; exact h.symm
  · rfl
theorem setD_comm {e : Env} {d d' : Option Nat} {a b : AV} (h : d = none ∨ d ≠ d') : setD (setD e d a) d' b = setD (setD e d' b) d a := by
  cases d <;> cases d' <;> simp only [setD]
  rename_i t t'
  have hne : t ≠ t' := by
    rcases h with h | h
    · cases h
    · intro he; exact h (by rw [he])
  funext k
  simp only [Env.set]
  by_cases h1 : k = t
  · subst h1
    rw [if_neg hne, if_pos rfl, if_pos rfl]
  · rw [if_neg h1, if_neg h1]
theorem agree_setD {l : List Nat} {e : Env} {d : Option Nat} {a : AV} (h : ∀ t, d = some t → t ∉ l) : agree l (setD e d a) e := by
  intro t ht
  cases d with
  | none => rfl
  | some d =>
    simp only [setD, Env.set]
    rw [if_neg]
    intro he; subst he; exact h _ rfl ht
theorem Ex.congr {P : Program} {o : AOp} {e e' : Env} {O O' : List AObj} {x : AV} (h : Ex P o e O x O') (ha : agree o.reads e' e) : Ex P o e' O x O' := by
  intro K hk
  rw [wpOp_congr ha]
  exact h K hk
/-- a step with its label -/
inductive StepL (P : Program) (o : AOper) (l : Lab) (e : Env) (O : List AObj) : Env → List AObj → Prop
  | any (x : AV) (O' : List AObj) : l.k.isAny = true → (∀ t want, o.guard = some (t, want) → e t = .v (.bool want)) → Ex P o.op e O x O' → StepL P o l e O (setD e o.dst x) O'
  | lab (x : AV) (eff : Eff) : l.k.isAny = false → Fit l.k eff O → (∀ n, l.k = .set n → n ∈ l.rd) → (∀ t want, o.guard = some (t, want) → e t = .v (.bool want)) →
      (∀ O', agreeO l.rd O O' → (l.k.isPush = true → O'.length = O.length) → Ex P o.op e O' x (eff.app O')) → StepL P o l e O (setD e o.dst x) (eff.app O)
  | skip (t : Nat) (want : Bool) : o.guard = some (t, want) → (e t = .v (.bool (!want)) ∨ e t = .tup []) → StepL P o l e O (setD e o.dst (.tup [])) O
theorem StepL.step {P : Program} {o : AOper} {l : Lab} {e e' : Env} {O O' : List AObj} (h : StepL P o l e O e' O') : Step P o e O e' O' := by
  cases h with
  | any x _ _ hg hx => exact .run x _ hg hx
  | lab x eff _ _ _ hg hx => exact .run x _ hg (hx O (fun _ _ => rfl) fun _ => rfl)
  | skip t want hg hb => exact .skip t want hg hb
inductive RunL (P : Program) : List (AOper × Lab) → Env → List AObj → Env → List AObj → Prop
  | nil (e : Env) (O : List AObj) : RunL P [] e O e O
  | cons {o : AOper × Lab} {l : List (AOper × Lab)} {e e1 e2 : Env} {O O1 O2 : List AObj} : StepL P o.1 o.2 e O e1 O1 → RunL P l e1 O1 e2 O2 → RunL P (o :: l) e O e2 O2
theorem RunL.run {P : Program} {l : List (AOper × Lab)} {e e' : Env} {O O' : List AObj} (h : RunL P l e O e' O') : Run P (l.map (·.1)) e O e' O' := by
  induction h with
  | nil => exact .nil _ _
  | cons hs _ ih => exact .cons hs.step ih
theorem stepL_of {P : Program} {o : AOper} {e : Env} {O : List AObj} {K : AV → List AObj → Prop} (hg : ∀ t want, o.guard = some (t, want) → e t = .v (.bool want)) (h : wpOp P o.op e O K) :
    ∃ x O', K x O' ∧ StepL P o (labOf o.op e O.length) e O (setD e o.dst x) O' := by
  cases hk : (labOf o.op e O.length).k.isAny with
  | true =>
    obtain ⟨x, O', h1, h2⟩ := exAny h
    exact ⟨x, O', h1, .any x O' hk hg h2⟩
  | false =>
    obtain ⟨x, eff, h1, h2, h3, h4⟩ := lab_sound hk h
    exact ⟨x, _, h3, .lab x eff hk h1 h2 hg h4⟩
theorem runL_of_wp {P : Program} : ∀ (l : List AOper) {acc : List Lab} {e : Env} {O : List AObj} {K : List Lab → Env → List AObj → Prop}, wpOpsL P l acc e O K → ∃ labs e' O', labs.length = l.length ∧ RunL P (l.zip labs) e O e' O' ∧ K (acc ++ labs) e' O'
  | [], acc, e, O, K, h => ⟨[], e, O, rfl, .nil e O, by rw [List.append_nil]; exact h⟩
  | o :: l, acc, e, O, K, h => by
    simp only [wpOpsL] at h
    cases hg : o.guard with
    | none =>
      rw [hg] at h
      obtain ⟨x, O', h1, h2⟩ := stepL_of (fun t want h => by rw [hg] at h; cases h) h
      obtain ⟨labs, e2, O2, h0, h3, h4⟩ := runL_of_wp l h1
      exact ⟨labOf o.op e O.length :: labs, e2, O2, by simp [h0], .cons h2 h3, by rw [List.append_assoc] at h4; exact h4⟩
    | some g =>
      obtain ⟨t, want⟩ := g
      rw [hg] at h
      simp only at h
      split at h
      · rename_i b hb
        by_cases hbw : b = want
        · have hs : e.set t (.v (.bool want)) = e := set_self (by rw [hb, hbw])
          rw [hs] at h
          obtain ⟨x, O', h1, h2⟩ := stepL_of (fun t' want' h => by rw [hg] at h; cases h; rw [hb, hbw]) (h.1 hbw)
          obtain ⟨labs, e2, O2, h0, h3, h4⟩ := runL_of_wp l h1
          exact ⟨labOf o.op e O.length :: labs, e2, O2, by simp [h0], .cons h2 h3, by rw [List.append_assoc] at h4; exact h4⟩
        · have hbn : b = !want := by cases b <;> cases want <;> simp_all
          have hs : e.set t (.v (.bool (!want))) = e := set_self (by rw [hb, hbn])
          rw [hs] at h
          obtain ⟨labs, e2, O2, h0, h3, h4⟩ := runL_of_wp l (h.2 hbn)
          exact ⟨⟨[], .nop⟩ :: labs, e2, O2, by simp [h0], .cons (.skip t want hg (.inl (by rw [hb, hbn]))) h3, by rw [List.append_assoc] at h4; exact h4⟩
      · rename_i hb
        obtain ⟨labs, e2, O2, h0, h3, h4⟩ := runL_of_wp l h
        exact ⟨⟨[], .nop⟩ :: labs, e2, O2, by simp [h0], .cons (.skip t want hg (.inr hb)) h3, by rw [List.append_assoc] at h4; exact h4⟩
      · exact h.elim
theorem indepL_inv {p i : AOper × Lab} (h : indepL p i = true) :
    (∀ t, p.1.dst = some t → t ∉ i.1.reads) ∧ (p.1.dst = none ∨ p.1.dst ≠ i.1.dst) ∧ (∀ t, i.1.dst = some t → t ∉ p.1.reads) ∧ pairOk p.2 i.2 = true := by
  unfold indepL at h
  simp only [Bool.and_eq_true] at h
  obtain ⟨⟨h1, h2⟩, h3⟩ := h
  refine ⟨fun t ht => ?_, ?_, fun t ht => ?_, h3⟩
  · rw [ht] at h1; simp at h1; exact h1.1
  · cases hp : p.1.dst with
    | none => exact .inl rfl
    | some t => rw [hp] at h1; simp at h1; exact .inr fun he => h1.2 he.symm
  · rw [ht] at h2; simpa using h2
theorem pure_inv {l : Lab} (h : l.pure = true) : l.rd = [] ∧ l.k = .nop := by
  unfold Lab.pure at h
  simp only [Bool.and_eq_true, List.isEmpty_iff] at h
  refine ⟨h.1, ?_⟩
  have := h.2
  split at this
  · assumption
  · cases this
/-- what an effect does not hit stays -/
theorem eff_agree {k : EK} {eff : Eff} {O : List AObj} (hf : Fit k eff O) {rd : List Nat} (h : k.hits rd = false) : agreeO rd O (eff.app O) := by
  intro n hn
  cases k <;> cases eff <;> simp only [Fit] at hf <;> simp only [EK.hits] at h <;> simp only [Eff.app]
  · rename_i k m b
    obtain ⟨rfl, hlt⟩ := hf
    have : n ≠ m := by rintro rfl; simp at h; exact h hn
    rw [List.getElem?_set_ne (fun he => this he.symm)]
  · rename_i N b
    have : n ≠ N := by rintro rfl; simp at h; exact h hn
    by_cases hlt : n < O.length
    · rw [List.getElem?_append_left hlt]
    · rw [List.getElem?_eq_none (l := O ++ [b]) (by simp; omega), List.getElem?_eq_none (by omega)]
theorem eff_len {k : EK} {eff : Eff} {O : List AObj} (hf : Fit k eff O) (h : k.isPush = false) : ∀ O' : List AObj, (eff.app O').length = O'.length := by
  intro O'
  cases k <;> cases eff <;> simp only [Fit] at hf <;> simp [Eff.app]
  simp [EK.isPush] at h
/-- two effects change places -/
theorem eff_comm {kp ki : EK} {p i : Eff} {O : List AObj} (hp : Fit kp p O) (hi : Fit ki i (p.app O)) (hpush : (kp.isPush && ki.isPush) = false) (hset : ∀ n m, kp = .set n → ki = .set m → n ≠ m) (hps : ∀ n m, kp = .push n → ki = .set m → n ≠ m) :
    Fit ki i O ∧ Fit kp p (i.app O) ∧ i.app (p.app O) = p.app (i.app O) := by
  cases kp <;> cases p <;> simp only [Fit] at hp <;> cases ki <;> cases i <;> simp only [Fit] at hi <;> simp only [Fit, Eff.app, true_and, and_true] <;> (try simp only [Eff.app] at hi) <;> try trivial
  case set.set.set.set n _ b m _ c =>
    obtain ⟨rfl, h1⟩ := hp
    obtain ⟨rfl, h2⟩ := hi
    have := hset _ _ rfl rfl
    refine ⟨⟨rfl, by simpa using h2⟩, ⟨rfl, by simpa using h1⟩, List.set_comm _ _ (fun he => this he)⟩
  case set.set.push.push n _ b m c =>
    obtain ⟨rfl, h1⟩ := hp
    refine ⟨by simpa using hi, ⟨rfl, by simp; omega⟩, ?_⟩
    rw [List.set_append_left _ _ h1]
  case push.push.set.set =>
    obtain ⟨rfl, h2⟩ := hi
    have := hps _ _ rfl rfl
    have hlt : _ < O.length := Nat.lt_of_le_of_ne (by simp at h2; omega) (fun he => this (hp.symm.trans he.symm))
    refine ⟨⟨rfl, hlt⟩, by simpa using hp, ?_⟩
    rw [List.set_append_left _ _ hlt]
  all_goals simp [EK.isPush] at hpush
theorem stepL_swap {P : Program} {p i : AOper × Lab} (hd : indepL p i = true) {e e1 e2 : Env} {O O1 O2 : List AObj} (h1 : StepL P p.1 p.2 e O e1 O1) (h2 : StepL P i.1 i.2 e1 O1 e2 O2) :
    ∃ e1' O1', StepL P i.1 i.2 e O e1' O1' ∧ StepL P p.1 p.2 e1' O1' e2 O2 := by
  obtain ⟨p, lp⟩ := p
  obtain ⟨i, li⟩ := i
  obtain ⟨d1, d2, d3, d4⟩ := indepL_inv hd
  simp only at d1 d2 d3 d4 h1 h2 ⊢
  have gi : ∀ {t want a}, i.guard = some (t, want) → setD e p.dst a t = e t := by
    intro t want a hg
    exact agree_setD (l := i.reads) d1 t (by simp [AOper.reads, hg])
  have gp : ∀ {t want} {e' : Env} {a}, p.guard = some (t, want) → setD e' i.dst a t = e' t := by
    intro t want e' a hg
    exact agree_setD (l := p.reads) d3 t (by simp [AOper.reads, hg])
  have ri : ∀ {a}, agree i.op.reads e (setD e p.dst a) := fun {a} t ht => (agree_setD (l := i.reads) d1 t (by simp [AOper.reads, ht])).symm
  have rp : ∀ {e' a}, agree p.op.reads (setD e' i.dst a) e' := fun {e' a} t ht => agree_setD (l := p.reads) d3 t (by simp [AOper.reads, ht])
  have hpair : (lp.k.isAny = true ∧ li.pure = true) ∨ (lp.k.isAny = false ∧ li.k.isAny = true ∧ lp.pure = true) ∨ (lp.k.isAny = false ∧ li.k.isAny = false ∧ lp.k.hits li.rd = false ∧ li.k.hits lp.rd = false ∧ (lp.k.isPush && li.k.isPush) = false) := by
    unfold pairOk at d4
    split at d4
    · rename_i h; exact .inl ⟨h, d4⟩
    · rename_i h
      split at d4
      · rename_i h'; exact .inr (.inl ⟨by simpa using h, h', d4⟩)
      · rename_i h'
        simp only [Bool.and_eq_true, Bool.not_eq_true'] at d4
        exact .inr (.inr ⟨by simpa using h, by simpa using h', d4.1.1, d4.1.2, d4.2⟩)
  -- a step of i behind p, without p
  cases h1 with
  | skip t want hg hb =>
    have hp' : ∀ {e' : Env} {O' : List AObj} {y : AV}, e' = setD e i.dst y → StepL P p lp e' O' (setD e' p.dst (.tup [])) O' := by
      rintro e' O' y rfl
      exact .skip t want hg (by rw [gp hg]; exact hb)
    cases h2 with
    | skip t' want' hg' hb' =>
      rw [gi hg'] at hb'
      refine ⟨_, _, .skip t' want' hg' hb', ?_⟩
      rw [setD_comm d2]; exact hp' rfl
    | any y _ ha hq hy =>
      refine ⟨_, _, .any y O2 ha (fun t' want' hg' => by rw [← gi hg']; exact hq t' want' hg') (hy.congr ri), ?_⟩
      rw [setD_comm d2]; exact hp' rfl
    | lab y eff ha hf hm hq hy =>
      refine ⟨_, _, .lab y eff ha hf hm (fun t' want' hg' => by rw [← gi hg']; exact hq t' want' hg') (fun O' h1 h2 => (hy O' h1 h2).congr ri), ?_⟩
      rw [setD_comm d2]; exact hp' rfl
  | any x _ hap hqp hx =>
    have hp' : ∀ {e' : Env} {y : AV}, e' = setD e i.dst y → StepL P p lp e' O (setD e' p.dst x) O1 := by
      rintro e' y rfl
      exact .any x O1 hap (fun t want hg => by rw [gp hg]; exact hqp t want hg) (hx.congr rp)
    have hpu : li.pure = true := by
      rcases hpair with ⟨_, h⟩ | ⟨h, _⟩ | ⟨h, _⟩
      · exact h
      · rw [hap] at h; cases h
      · rw [hap] at h; cases h
    obtain ⟨hrd, hkn⟩ := pure_inv hpu
    cases h2 with
    | skip t' want' hg' hb' =>
      rw [gi hg'] at hb'
      refine ⟨_, _, .skip t' want' hg' hb', ?_⟩
      rw [setD_comm d2]; exact hp' rfl
    | any y _ ha hq hy => rw [hkn] at ha; cases ha
    | lab y eff ha hf hm hq hy =>
      have he : eff = .nop := by rw [hkn] at hf; cases eff <;> simp [Fit] at hf; rfl
      subst he
      refine ⟨_, _, .lab y .nop ha (by rw [hkn]; trivial) hm (fun t' want' hg' => by rw [← gi hg']; exact hq t' want' hg') (fun O' h1 h2 => (hy O' (by rw [hrd]; simp [agreeO]) (by rw [hkn]; simp [EK.isPush])).congr ri), ?_⟩
      rw [setD_comm d2]; exact hp' rfl
  | lab x effp hap hfp hmp hqp hx =>
    cases h2 with
    | skip t' want' hg' hb' =>
      rw [gi hg'] at hb'
      refine ⟨_, _, .skip t' want' hg' hb', ?_⟩
      rw [setD_comm d2]
      exact .lab x effp hap hfp hmp (fun t want hg => by rw [gp hg]; exact hqp t want hg) (fun O' h1 h2 => (hx O' h1 h2).congr rp)
    | any y _ ha hq hy =>
      have hpu : lp.pure = true := by
        rcases hpair with ⟨h, _⟩ | ⟨_, _, h⟩ | ⟨_, h, _⟩
        · rw [hap] at h; cases h
        · exact h
        · rw [ha] at h; cases h
      obtain ⟨hrd, hkn⟩ := pure_inv hpu
      have he : effp = .nop := by rw [hkn] at hfp; cases effp <;> simp [Fit] at hfp; rfl
      subst he
      refine ⟨_, _, .any y O2 ha (fun t' want' hg' => by rw [← gi hg']; exact hq t' want' hg') (hy.congr ri), ?_⟩
      rw [setD_comm d2]
      exact .lab x .nop hap (by rw [hkn]; trivial) hmp (fun t want hg => by rw [gp hg]; exact hqp t want hg) (fun O' h1 h2 => (hx O' (by rw [hrd]; simp [agreeO]) (by rw [hkn]; simp [EK.isPush])).congr rp)
    | lab y effi ha hf hm hq hy =>
      have hh : lp.k.hits li.rd = false ∧ li.k.hits lp.rd = false ∧ (lp.k.isPush && li.k.isPush) = false := by
        rcases hpair with ⟨h, _⟩ | ⟨_, h, _⟩ | ⟨_, _, h⟩
        · rw [hap] at h; cases h
        · rw [ha] at h; cases h
        · exact h
      obtain ⟨hh1, hh2, hh3⟩ := hh
      have hset : ∀ n m, lp.k = .set n → li.k = .set m → n ≠ m := by
        rintro n m hn hm' rfl
        have := hm n hm'
        rw [hn] at hh1; simp [EK.hits] at hh1; exact hh1 this
      have hps : ∀ n m, lp.k = .push n → li.k = .set m → n ≠ m := by
        rintro n m hn hm' rfl
        have := hm n hm'
        rw [hn] at hh1; simp [EK.hits] at hh1; exact hh1 this
      obtain ⟨c1, c2, c3⟩ := eff_comm hfp hf hh3 hset hps
      have a1 := eff_agree hfp hh1
      have a2 := eff_agree c1 hh2
      refine ⟨_, _, .lab y effi ha c1 hm (fun t' want' hg' => by rw [← gi hg']; exact hq t' want' hg') (fun O' h1 h2 => (hy O' (fun n hn => (h1 n hn).trans (a1 n hn).symm) fun hpu => ?_).congr ri), ?_⟩
      · rw [h2 hpu, eff_len hfp (by cases hlp : lp.k.isPush with | false => rfl | true => rw [hlp, hpu] at hh3; cases hh3)]
      · rw [setD_comm d2, c3]
        refine .lab x effp hap c2 hmp (fun t want hg => by rw [gp hg]; exact hqp t want hg) (fun O' h1 h2 => (hx O' (fun n hn => (h1 n hn).trans (a2 n hn)) fun hpu => ?_).congr rp)
        rw [h2 hpu, eff_len c1 (by cases hli : li.k.isPush with | false => rfl | true => rw [hli, hpu] at hh3; cases hh3)]
theorem runL_front {P : Program} {i : AOper × Lab} {post : List (AOper × Lab)} : ∀ (pre : List (AOper × Lab)), (∀ p ∈ pre, indepL p i = true) → ∀ {e e2 : Env} {O O2 : List AObj}, RunL P (pre ++ i :: post) e O e2 O2 → RunL P (i :: (pre ++ post)) e O e2 O2
  | [], _, _, _, _, _, h => h
  | p :: pre, hp, e, e2, O, O2, h => by
    cases h with
    | cons hs hr =>
      have := runL_front pre (fun q hq => hp q (by simp [hq])) hr
      cases this with
      | cons hi hr' =>
        obtain ⟨e1', O1', s1, s2⟩ := stepL_swap (hp p (by simp)) hs hi
        exact .cons s1 (.cons s2 hr')
end Go.Ab
/-
  REGIONS THAT DRAW THEIR ORDER (3): the model's schedules.
-/
namespace Go.Ab
theorem cloN_length (rows : List (List Nat)) (n : Nat) : (cloN rows n).length = n := by
  induction n with
  | zero => rfl
  | succ n ih => simp [cloN, ih]
theorem cloN_get (rows : List (List Nat)) {i n : Nat} (h : i < n) : (cloN rows n).getD i 0 = (rows.getD i []).foldl (fun s j => s ||| (2 ^ j ||| (cloN rows i).getD j 0)) 0 := by
  induction n with
  | zero => omega
  | succ n ih =>
    simp only [cloN]
    by_cases hi : i < n
    · rw [List.getD, List.getElem?_append_left (by rw [cloN_length]; exact hi)]
      exact ih hi
    · obtain rfl : i = n := by omega
      rw [List.getD, List.getElem?_append_right (by rw [cloN_length]; exact Nat.le_refl _)]
      simp [cloN_length]
theorem cloN_stable (rows : List (List Nat)) {i n m : Nat} (h : i < n) (h' : i < m) : (cloN rows n).getD i 0 = (cloN rows m).getD i 0 := by
  rw [cloN_get rows h, cloN_get rows h']
theorem testBit_fold (f : Nat → Nat) (p : Nat) : ∀ (l : List Nat) (s : Nat), (l.foldl (fun s j => s ||| (2 ^ j ||| f j)) s).testBit p = true → s.testBit p = true ∨ ∃ j ∈ l, p = j ∨ (f j).testBit p = true
  | [], s, h => .inl h
  | j :: l, s, h => by
    rcases testBit_fold f p l _ h with h1 | ⟨k, hk, h1⟩
    · rw [Nat.testBit_or, Nat.testBit_or] at h1
      simp only [Bool.or_eq_true] at h1
      rcases h1 with h1 | h1 | h1
      · exact .inl h1
      · rw [Nat.testBit_two_pow] at h1
        exact .inr ⟨j, by simp, .inl (by simpa using (of_decide_eq_true h1).symm)⟩
      · exact .inr ⟨j, by simp, .inr h1⟩
    · exact .inr ⟨k, by simp [hk], h1⟩
/-- what stands ahead is in every set that the edges close -/
theorem clo_in {rows : List (List Nat)} {n : Nat} {S : Nat → Prop} (hrows : ∀ i, i < n → ∀ d ∈ rows.getD i [], d < i) (hS : ∀ j, j < n → S j → ∀ d ∈ rows.getD j [], S d) :
    ∀ i, i < n → (∀ d ∈ rows.getD i [], S d) → ∀ p, ((cloN rows n).getD i 0).testBit p = true → S p := by
  intro i
  induction i using Nat.strongRecOn with
  | _ i ih =>
    intro hi hd p hp
    rw [cloN_get rows hi] at hp
    rcases testBit_fold _ p _ _ hp with h | ⟨j, hj, h⟩
    · simp at h
    · have hji := hrows i hi j hj
      rcases h with rfl | h
      · exact hd p hj
      · exact ih j hji (by omega) (hS j (by omega) (hd j hj)) p (by rw [cloN_stable rows (show j < n by omega) hji]; exact h)
section
variable {P : Program} {ops : Array Oper} {al : List (AOper × Lab)}
theorem rows_get {i : Nat} {o : Oper} (h : ops[i]? = some o) : (rowsOf ops).getD i [] = (o.after.toList.filter (Region.binds .any)).map (·.on) := by
  have : ops.toList[i]? = some o := by simpa using h
  simp [rowsOf, List.getD, this]
theorem go_run (hlen : al.length = ops.size) (hok : drawOkL (rowsOf ops) al = true) {e2 : Env} {O2 : List AObj} :
    ∀ (fuel t : Nat) (listed : Array Bool) (acc rem : List Nat) (e : Env) (O : List AObj), listed.size = ops.size → rem.length ≤ fuel → rem.Pairwise (· < ·) → (∀ j, j ∈ rem ↔ j < ops.size ∧ listed.getD j true = false) →
      (∀ j, j < ops.size → listed.getD j true = true → ∀ d ∈ (rowsOf ops).getD j [], listed.getD d true = true) →
      RunL P (rem.map fun i => al.getD i (⟨none, none, .mov (.c .top)⟩, ⟨[], .any⟩)) e O e2 O2 →
      ∃ l, Region.linearise.go .any ops fuel t listed acc = acc.reverse ++ l ∧ RunL P (l.map fun i => al.getD i (⟨none, none, .mov (.c .top)⟩, ⟨[], .any⟩)) e O e2 O2 ∧ ∀ i ∈ l, i < ops.size := by
  have hok' : ∀ i, i < ops.size → (∀ d ∈ (rowsOf ops).getD i [], d < i) ∧ ∀ p, p < i → ((cloN (rowsOf ops) ops.size).getD i 0).testBit p = true ∨ indepL (al.getD p (⟨none, none, .mov (.c .top)⟩, ⟨[], .any⟩)) (al.getD i (⟨none, none, .mov (.c .top)⟩, ⟨[], .any⟩)) = true := by
    intro i hi
    unfold drawOkL at hok
    simp only [List.all_eq_true, List.mem_range, Bool.and_eq_true, Bool.or_eq_true, decide_eq_true_eq, hlen] at hok
    obtain ⟨h1, h2⟩ := hok i hi
    refine ⟨h1, fun p hp => ?_⟩
    rcases h2 p hp with h | h
    · exact .inl h
    · refine .inr ?_
      have e1 : al[p]? = some (al.getD p (⟨none, none, .mov (.c .top)⟩, ⟨[], .any⟩)) := by simp [List.getD, show p < al.length by omega]
      have e2 : al[i]? = some (al.getD i (⟨none, none, .mov (.c .top)⟩, ⟨[], .any⟩)) := by simp [List.getD, show i < al.length by omega]
      rw [e1, e2] at h
      exact h
  intro fuel
  induction fuel with
  | zero =>
    intro t listed acc rem e O hsz hf hpw hmem hcl hr
    obtain rfl : rem = [] := List.eq_nil_of_length_eq_zero (by omega)
    exact ⟨[], by simp [Region.linearise.go], hr, by simp⟩
  | succ fuel ih =>
    intro t listed acc rem e O hsz hf hpw hmem hcl hr
    simp only [Region.linearise.go]
    generalize hrs : (List.range ops.size).filter (fun i => !listed.getD i true && ((ops[i]?).map (·.after.all fun e => !Region.binds .any e || listed.getD e.on false)).getD false) = rs
    cases hg : rs[t % rs.length]? with
    | none =>
      have hempty : rs = [] := by
        by_cases h0 : rs.length = 0
        · exact List.eq_nil_of_length_eq_zero h0
        · have := Nat.mod_lt t (Nat.pos_of_ne_zero h0)
          rw [List.getElem?_eq_getElem this] at hg; cases hg
      have hrem : rem = [] := by
        cases rem with
        | nil => rfl
        | cons i r =>
          exfalso
          obtain ⟨hi, hli⟩ := (hmem i).1 (by simp)
          have hmin : ∀ d, d < i → listed.getD d true = true := by
            intro d hdi
            cases hld : listed.getD d true with
            | true => rfl
            | false =>
              have hm := (hmem d).2 ⟨by omega, hld⟩
              rcases List.mem_cons.1 hm with rfl | hm
              · omega
              · have := List.rel_of_pairwise_cons hpw hm; omega
          have : i ∈ rs := by
            rw [← hrs, List.mem_filter]
            refine ⟨List.mem_range.2 hi, ?_⟩
            have ho : ops[i]? = some ops[i] := by simp [hi]
            simp only [hli, Bool.not_false, Bool.true_and, ho, Option.map_some, Option.getD_some, Array.all_eq_true, Bool.or_eq_true]
            intro j hj
            by_cases hbj : Region.binds .any (ops[i].after[j]) = true
            rotate_left
            · exact .inl (by simpa using hbj)
            refine .inr ?_
            have hdi : (ops[i].after[j]).on < i := (hok' i hi).1 _ (by rw [rows_get ho]; exact List.mem_map.2 ⟨_, List.mem_filter.2 ⟨Array.getElem_mem_toList hj, hbj⟩, rfl⟩)
            have := hmin _ hdi
            have hlt : (ops[i].after[j]).on < listed.size := by omega
            simp [Array.getD, hlt] at this ⊢
            exact this
          rw [hempty] at this; cases this
      subst hrem
      exact ⟨[], by simp, hr, by simp⟩
    | some i =>
      have hmi : i ∈ rs := List.mem_of_getElem? hg
      rw [← hrs, List.mem_filter] at hmi
      obtain ⟨hi, hprop⟩ := hmi
      have hi : i < ops.size := List.mem_range.1 hi
      have ho : ops[i]? = some ops[i] := by simp [hi]
      simp only [ho, Option.map_some, Option.getD_some, Bool.and_eq_true, Bool.not_eq_true', Array.all_eq_true, Bool.or_eq_true] at hprop
      obtain ⟨hli, hall⟩ := hprop
      have hdeps : ∀ d ∈ (rowsOf ops).getD i [], listed.getD d true = true := by
        intro d hdm
        rw [rows_get ho] at hdm
        obtain ⟨ed, hed0, rfl⟩ := List.mem_map.1 hdm
        obtain ⟨hed, hbe⟩ := List.mem_filter.1 hed0
        obtain ⟨j, hj⟩ := List.getElem?_of_mem hed
        obtain ⟨hjl, hje⟩ := List.getElem?_eq_some_iff.1 hj
        have hjl' : j < ops[i].after.size := by simpa using hjl
        have hje' : ops[i].after[j] = ed := by simpa using hje
        rcases hall j hjl' with h | h
        · rw [hje', hbe] at h; simp at h
        · rw [hje'] at h
          by_cases hlt : ed.on < listed.size
          · simp [Array.getD, hlt] at h ⊢; exact h
          · simp [Array.getD, hlt] at h
      have hirem : i ∈ rem := (hmem i).2 ⟨hi, hli⟩
      obtain ⟨pre, post, rfl⟩ := List.append_of_mem hirem
      have hpw' := List.pairwise_append.1 hpw
      have hpre : ∀ p ∈ pre, p < i := fun p hp => hpw'.2.2 p hp i (by simp)
      have hpost : ∀ p ∈ post, i < p := fun p hp => List.rel_of_pairwise_cons hpw'.2.1 hp
      have hfront := runL_front (P := P) (i := al.getD i (⟨none, none, .mov (.c .top)⟩, ⟨[], .any⟩)) (post := post.map fun i => al.getD i (⟨none, none, .mov (.c .top)⟩, ⟨[], .any⟩)) (pre.map fun i => al.getD i (⟨none, none, .mov (.c .top)⟩, ⟨[], .any⟩)) (by
        intro q hq
        obtain ⟨p, hp, rfl⟩ := List.mem_map.1 hq
        rcases (hok' i hi).2 p (hpre p hp) with h | h
        · exfalso
          have := clo_in (S := fun j => listed.getD j true = true) (fun j hj => (hok' j hj).1) hcl i hi hdeps p h
          have hpm := ((hmem p).1 (by simp [hp])).2
          rw [hpm] at this; cases this
        · exact h) (by simpa using hr)
      cases hfront with
      | cons hs hrest =>
        have hne : ∀ j, j ∈ pre ++ post → j ≠ i := by
          intro j hj he
          subst he
          rcases List.mem_append.1 hj with h | h
          · have := hpre j h; omega
          · have := hpost j h; omega
        have hset : ∀ j, (listed.setIfInBounds i true).getD j true = if j = i then true else listed.getD j true := by
          intro j
          simp only [Array.getD_eq_getD_getElem?, Array.getElem?_setIfInBounds]
          by_cases hji : i = j
          · subst hji; simp [hsz, hi]
          · rw [if_neg hji, if_neg (fun h => hji h.symm)]
        obtain ⟨l, h1, h2, h3⟩ := ih (t / rs.length) (listed.setIfInBounds i true) (i :: acc) (pre ++ post) _ _ (by simp [hsz]) (by simp at hf ⊢; omega)
          (List.pairwise_append.2 ⟨hpw'.1, (List.pairwise_cons.1 hpw'.2.1).2, fun x hx y hy => hpw'.2.2 x hx y (by simp [hy])⟩)
          (by
            intro j
            rw [hset]
            constructor
            · intro hj
              rw [if_neg (hne j hj)]
              exact (hmem j).1 (by rcases List.mem_append.1 hj with h | h <;> simp [h])
            · rintro ⟨hj1, hj2⟩
              by_cases hji : j = i
              · rw [if_pos hji] at hj2; cases hj2
              · rw [if_neg hji] at hj2
                have := (hmem j).2 ⟨hj1, hj2⟩
                simp only [List.mem_append, List.mem_cons] at this ⊢
                rcases this with h | h | h
                · exact .inl h
                · exact (hji h).elim
                · exact .inr h)
          (by
            intro j hj hlj d hd
            rw [hset] at hlj ⊢
            split
            · rfl
            · by_cases hji : j = i
              · subst hji; exact hdeps d hd
              · rw [if_neg hji] at hlj; exact hcl j hj hlj d hd)
          (by simpa using hrest)
        refine ⟨i :: l, by simp [h1], ?_, fun j hj => ?_⟩
        · exact .cons hs h2
        · rcases List.mem_cons.1 hj with rfl | h
          · exact hi
          · exact h3 j h
theorem schedule_run {mixed : Bool} (hd : Region.departs ops = false ∨ mixed = true) (hlen : al.length = ops.size) (hok : drawOkL (rowsOf ops) al = true) {e e2 : Env} {O O2 : List AObj} (hr : RunL P al e O e2 O2) (t : Nat) :
    RunL P ((Region.schedule mixed ops t).map fun i => al.getD i (⟨none, none, .mov (.c .top)⟩, ⟨[], .any⟩)) e O e2 O2 ∧ ∀ i ∈ Region.schedule mixed ops t, i < ops.size := by
  have hs : Region.schedule mixed ops t = Region.linearise .any ops t := by rcases hd with hd | hd <;> simp [Region.schedule, hd]
  rw [hs]
  have hall : (List.range ops.size).map (fun i => al.getD i (⟨none, none, .mov (.c .top)⟩, ⟨[], .any⟩)) = al := by
    apply List.ext_getElem
    · simp [hlen]
    · intro i h1 h2
      simp [List.getD, h2]
  obtain ⟨l, h1, h2, h3⟩ := go_run (P := P) hlen hok ops.size t (Array.replicate ops.size false) [] (List.range ops.size) e O (by simp) (by simp) List.pairwise_lt_range
    (fun j => by
      rw [List.mem_range]
      constructor
      · intro h; exact ⟨h, by simp [Array.getD, h]⟩
      · exact fun h => h.1)
    (fun j hj h => by simp [Array.getD, hj] at h)
    (by rw [hall]; exact hr)
  simp only [Region.linearise]
  rw [h1]
  simpa using ⟨h2, h3⟩
end
end Go.Ab
/-
  THE ABSTRACT WALK IS SOUND: regions without a drawn order, control, a function's contract.
-/
namespace Go.Ab
structure Sat (I0 : Imm) (L0 : Nat → Loc) (O0 : List AObj) (w0 : World) (nt : Nat) (e : Env) (O : List AObj) (a : Act) (w : World) (I : Imm) (L : Nat → Loc) : Prop where
  good : Good I0 L0 O0 w0 I L O w
  env : ∀ t, R I L O (e t) (a.tmps.getD t undef)
  size : nt ≤ a.tmps.size
  defers : a.defers = []
section
variable {P : Program} {I0 : Imm} {L0 : Nat → Loc} {O0 : List AObj} {w0 : World} {nt : Nat}
theorem getD_set (tmps : Array Value) (d : Nat) (v : Value) (hd : d < tmps.size) (t : Nat) : (tmps.setIfInBounds d v).getD t undef = if t = d then v else tmps.getD t undef := by
  simp only [Array.getD_eq_getD_getElem?, Array.getElem?_setIfInBounds]
  by_cases h : d = t
  · subst h; simp [hd]
  · rw [if_neg h, if_neg (fun k => h k.symm)]
theorem Sat.put {e : Env} {O O' : List AObj} {a : Act} {w w' : World} {I I' : Imm} {L L' : Nat → Loc} (h : Sat I0 L0 O0 w0 nt e O a w I L) {d : Option Nat} (hd : d.all (· < nt) = true) {x : AV} {y : Value}
    (hg : Good I L O w I' L' O' w') (hr : R I' L' O' x y) : Sat I0 L0 O0 w0 nt (setD e d x) O' (a.put d y) w' I' L' := by
  refine ⟨h.good.trans hg, fun t => ?_, ?_, ?_⟩
  · cases d with
    | none => exact (h.env t).mono hg.ext
    | some d =>
      have hlt : d < a.tmps.size := by have := h.size; simp at hd; omega
      simp only [setD, Env.set, Act.put]
      rw [getD_set _ _ _ hlt]
      split
      · exact hr
      · exact (h.env t).mono hg.ext
  · cases d <;> simp [Act.put]; exact h.size; exact h.size
  · cases d <;> simp [Act.put]; exact h.defers; exact h.defers
theorem Sat.env_eq {e e' : Env} {O : List AObj} {a : Act} {w : World} {I : Imm} {L : Nat → Loc} (h : Sat I0 L0 O0 w0 nt e O a w I L) (he : ∀ t, R I L O (e' t) (a.tmps.getD t undef)) : Sat I0 L0 O0 w0 nt e' O a w I L :=
  ⟨h.good, he, h.size, h.defers⟩
theorem ops_sound {ops : Array Oper} {K : Env → List AObj → Prop} {Q : Exit → Act → World → Prop} (hq : ∀ e O a w I L, K e O → Sat I0 L0 O0 w0 nt e O a w I L → Q .normal a w) :
    ∀ (l : List Oper) (al : List AOper), l.mapM (cOper P nt ops) = some (al.map AOper.strip) → ∀ e O a w I L, wpOps P al e O K → Sat I0 L0 O0 w0 nt e O a w I L → wpList P ops Q l a w
  | [], al, h, e, O, a, w, I, L, hk, hs => by
    simp at h; subst h
    exact hq _ _ _ _ _ _ hk hs
  | o :: l, al, h, e, O, a, w, I, L, hk, hs => by
    simp only [List.mapM_cons, Option.bind_eq_bind, Option.pure_def, Option.bind_eq_some_iff, Option.some.injEq] at h
    obtain ⟨b, hb, bs, hbs, h⟩ := h
    cases al with
    | nil => simp at h
    | cons ao al =>
      simp only [List.map_cons, List.cons.injEq] at h
      obtain ⟨rfl, rfl⟩ := h
      have ih := ops_sound hq l al hbs
      unfold cOper at hb
      split at hb
      case h_2 => cases hb
      case h_1 op g hop hg =>
        split at hb
        case isFalse => cases hb
        case isTrue hd =>
          simp only [Option.some.injEq, AOper.strip, AOper.mk.injEq] at hb
          obtain ⟨hgu, hdst, hopp⟩ := hb
          subst hopp
          rw [hdst] at hd
          have step : ∀ e1 I1 L1, Sat I0 L0 O0 w0 nt e1 O a w I1 L1 → (wpOp P ao.op e1 O fun x O' => wpOps P al (setD e1 ao.dst x) O' K) → o.wp P a w (wpList P ops Q l) Q := by
            intro e1 I1 L1 hs1 hk1
            refine op_sound hop hs1.good.inv hs1.env hk1 fun x O' y I' L' w' hk' hg' hr' => ?_
            rw [hdst]
            exact ih _ _ _ _ _ _ hk' (hs1.put hd hg' hr')
          have skip : ∀ e1 I1 L1, Sat I0 L0 O0 w0 nt e1 O a w I1 L1 → wpOps P al (setD e1 ao.dst (.tup [])) O K → wpList P ops Q l (a.put o.dst undef) w := by
            intro e1 I1 L1 hs1 hk1
            rw [hdst]
            exact ih _ _ _ _ _ _ hk1 (hs1.put hd (.refl hs1.good.inv) (.tup [] #[] rfl (by simp)))
          simp only [wpOps] at hk
          unfold wpList
          cases hog : o.guard with
          | none =>
            rw [hog] at hg
            simp only [cGuard, Option.some.injEq] at hg
            subst hg
            rw [← hgu] at hk
            rw [if_pos (by simp [Region.wanted, hog])]
            exact .inl (step _ _ _ hs hk)
          | some jb =>
            obtain ⟨j, want⟩ := jb
            rw [hog] at hg
            simp only [cGuard] at hg
            split at hg
            case h_2 => cases hg
            case h_1 t ht =>
              split at hg
              case isFalse => cases hg
              case isTrue htn =>
                simp only [Option.some.injEq] at hg
                subst hg
                rw [← hgu] at hk
                simp only at hk
                have hlt : t < a.tmps.size := Nat.lt_of_lt_of_le htn hs.size
                have hget : a.tmps[t]? = some (a.tmps.getD t undef) := by simp [Array.getD, hlt]
                have hr := hs.env t
                have hw : Region.wanted o (yielded ops a.tmps) = (yielded ops a.tmps j == some want) := by simp [Region.wanted, hog]
                have hy : yielded ops a.tmps j = match some (a.tmps.getD t undef) with | some (.bool b) => some b | _ => none := by
                  unfold yielded
                  rw [ht]
                  simp only [Option.bind_some]
                  rw [hget]
                  cases a.tmps.getD t undef <;> rfl
                split at hk
                · rename_i b hb
                  rw [hb] at hr
                  have hv := hr.bool
                  rw [hv] at hy
                  simp only at hy
                  rw [hw, hy]
                  have hset : ∀ c, b = c → Sat I0 L0 O0 w0 nt (e.set t (.v (.bool c))) O a w I L := by
                    intro c hc
                    refine hs.env_eq fun t' => ?_
                    unfold Env.set
                    split
                    · rename_i htt; subst htt; rw [hv, hc]; exact .v _ rfl
                    · exact hs.env t'
                  by_cases hbw : b = want
                  · rw [if_pos (by simp [hbw])]
                    exact .inl (step _ _ _ (hset want hbw) (hk.1 hbw))
                  · rw [if_neg (by simpa using hbw)]
                    have hbn : b = !want := by cases b <;> cases want <;> simp_all
                    exact skip _ _ _ (hset (!want) hbn) (hk.2 hbn)
                · rename_i hb
                  rw [hb] at hr
                  have hv : a.tmps.getD t undef = .tuple #[] := by
                    generalize a.tmps.getD t undef = X at hr
                    cases hr with
                    | tup _ vs h1 _ => congr 1; exact Array.eq_empty_of_size_eq_zero h1.symm
                  rw [hv] at hy
                  simp only at hy
                  rw [hw, hy, if_neg (by simp)]
                  exact skip _ _ _ hs hk
                · exact hk.elim
def AX.to : AX → Exit
  | .normal => .normal
  | .exit id => .exit id
  | .ret => .ret
theorem keepE_R {I : Imm} {L : Nat → Loc} {O : List AObj} {e : Env} {f : Nat → Value} (h : ∀ t, R I L O (e t) (f t)) (live : List Nat) : ∀ t, R I L O (keepE live e t) (f t) := by
  intro t
  unfold keepE
  split
  · exact h t
  · exact .top _
theorem Sat.wk {e e' : Env} {O O' : List AObj} {a : Act} {w : World} {I : Imm} {L : Nat → Loc} (h : Sat I0 L0 O0 w0 nt e O a w I L) (hw : WK O0.length e O e' O') : ∃ I' L', Sat I0 L0 O0 w0 nt e' O' a w I' L' := by
  obtain ⟨I', L', hg, hr⟩ := hw I0 L0 O0 w0 I L w _ rfl h.good h.env
  exact ⟨I', L', hg, hr, h.size, h.defers⟩
theorem opsW_sound {ops : Array Oper} {K : Env → List AObj → Prop} {Q : Exit → Act → World → Prop} (hq : ∀ e O a w I L, K e O → Sat I0 L0 O0 w0 nt e O a w I L → Q .normal a w) :
    ∀ (l : List Oper) (al : List AOper), l.mapM (cOper P nt ops) = some (al.map AOper.strip) → ∀ e O a w I L, wpOpsW P O0.length al e O K → Sat I0 L0 O0 w0 nt e O a w I L → wpList P ops Q l a w
  | [], al, h, e, O, a, w, I, L, hk, hs => by
    simp at h; subst h
    obtain ⟨e', O', hw, hk⟩ := hk
    obtain ⟨I', L', hs'⟩ := hs.wk hw
    exact hq _ _ _ _ _ _ hk hs'
  | o :: l, al, h, e00, O00, a, w, I00, L00, hk, hs00 => by
    simp only [List.mapM_cons, Option.bind_eq_bind, Option.pure_def, Option.bind_eq_some_iff, Option.some.injEq] at h
    obtain ⟨b, hb, bs, hbs, h⟩ := h
    cases al with
    | nil => simp at h
    | cons ao al =>
      simp only [List.map_cons, List.cons.injEq] at h
      obtain ⟨rfl, rfl⟩ := h
      simp only [wpOpsW] at hk
      obtain ⟨e, O, hwk, hk⟩ := hk
      obtain ⟨I, L, hs⟩ := hs00.wk hwk
      have ih := opsW_sound hq l al hbs
      unfold cOper at hb
      split at hb
      case h_2 => cases hb
      case h_1 op g hop hg =>
        split at hb
        case isFalse => cases hb
        case isTrue hd =>
          simp only [Option.some.injEq, AOper.strip, AOper.mk.injEq] at hb
          obtain ⟨hgu, hdst, hopp⟩ := hb
          subst hopp
          rw [hdst] at hd
          have step : ∀ e1 I1 L1, Sat I0 L0 O0 w0 nt e1 O a w I1 L1 → (wpOp P ao.op e1 O fun x O' => wpOpsW P O0.length al (setD e1 ao.dst x) O' K) → o.wp P a w (wpList P ops Q l) Q := by
            intro e1 I1 L1 hs1 hk1
            refine op_sound hop hs1.good.inv hs1.env hk1 fun x O' y I' L' w' hk' hg' hr' => ?_
            rw [hdst]
            exact ih _ _ _ _ _ _ hk' (hs1.put hd hg' hr')
          have skip : ∀ e1 I1 L1, Sat I0 L0 O0 w0 nt e1 O a w I1 L1 → wpOpsW P O0.length al (setD e1 ao.dst (.tup [])) O K → wpList P ops Q l (a.put o.dst undef) w := by
            intro e1 I1 L1 hs1 hk1
            rw [hdst]
            exact ih _ _ _ _ _ _ hk1 (hs1.put hd (.refl hs1.good.inv) (.tup [] #[] rfl (by simp)))
          unfold wpList
          cases hog : o.guard with
          | none =>
            rw [hog] at hg
            simp only [cGuard, Option.some.injEq] at hg
            subst hg
            rw [← hgu] at hk
            rw [if_pos (by simp [Region.wanted, hog])]
            exact .inl (step _ _ _ hs hk)
          | some jb =>
            obtain ⟨j, want⟩ := jb
            rw [hog] at hg
            simp only [cGuard] at hg
            split at hg
            case h_2 => cases hg
            case h_1 t ht =>
              split at hg
              case isFalse => cases hg
              case isTrue htn =>
                simp only [Option.some.injEq] at hg
                subst hg
                rw [← hgu] at hk
                simp only at hk
                have hlt : t < a.tmps.size := Nat.lt_of_lt_of_le htn hs.size
                have hget : a.tmps[t]? = some (a.tmps.getD t undef) := by simp [Array.getD, hlt]
                have hr := hs.env t
                have hw : Region.wanted o (yielded ops a.tmps) = (yielded ops a.tmps j == some want) := by simp [Region.wanted, hog]
                have hy : yielded ops a.tmps j = match some (a.tmps.getD t undef) with | some (.bool b) => some b | _ => none := by
                  unfold yielded
                  rw [ht]
                  simp only [Option.bind_some]
                  rw [hget]
                  cases a.tmps.getD t undef <;> rfl
                split at hk
                · rename_i b hb
                  rw [hb] at hr
                  have hv := hr.bool
                  rw [hv] at hy
                  simp only at hy
                  rw [hw, hy]
                  have hset : ∀ c, b = c → Sat I0 L0 O0 w0 nt (e.set t (.v (.bool c))) O a w I L := by
                    intro c hc
                    refine hs.env_eq fun t' => ?_
                    unfold Env.set
                    split
                    · rename_i htt; subst htt; rw [hv, hc]; exact .v _ rfl
                    · exact hs.env t'
                  by_cases hbw : b = want
                  · rw [if_pos (by simp [hbw])]
                    exact .inl (step _ _ _ (hset want hbw) (hk.1 hbw))
                  · rw [if_neg (by simpa using hbw)]
                    have hbn : b = !want := by cases b <;> cases want <;> simp_all
                    exact skip _ _ _ (hset (!want) hbn) (hk.2 hbn)
                · rename_i hb
                  rw [hb] at hr
                  have hv : a.tmps.getD t undef = .tuple #[] := by
                    generalize a.tmps.getD t undef = X at hr
                    cases hr with
                    | tup _ vs h1 _ => congr 1; exact Array.eq_empty_of_size_eq_zero h1.symm
                  rw [hv] at hy
                  simp only at hy
                  rw [hw, hy, if_neg (by simp)]
                  exact skip _ _ _ hs hk
                · exact hk.elim
theorem Sat.drawn {e : Env} {O : List AObj} {a : Act} {w : World} {I : Imm} {L : Nat → Loc} (h : Sat I0 L0 O0 w0 nt e O a w I L) (k : Nat) : Sat I0 L0 O0 w0 nt e O a { w with drawn := k } I L :=
  ⟨h.good.trans (Good.drawn h.good.inv k), h.env, h.size, h.defers⟩
/-- one operation that is carried out or left out -/
theorem step_sound {ops : Array Oper} {o : Oper} {ao : AOper} (hb : cOper P nt ops o = some ao.strip) {e e' : Env} {O O' : List AObj} (hst : Step P ao e O e' O') {a : Act} {w : World} {I : Imm} {L : Nat → Loc} (hs : Sat I0 L0 O0 w0 nt e O a w I L)
    {next : Act → World → Prop} {Q : Exit → Act → World → Prop} (hn : ∀ a w I L, Sat I0 L0 O0 w0 nt e' O' a w I L → next a w) :
    if Region.wanted o (yielded ops a.tmps) = true then o.wp P a w next Q else next (a.put o.dst undef) w := by
  unfold cOper at hb
  split at hb
  case h_2 => cases hb
  case h_1 op g hop hg =>
    split at hb
    case isFalse => cases hb
    case isTrue hd =>
      simp only [Option.some.injEq, AOper.strip, AOper.mk.injEq] at hb
      obtain ⟨hgu, hdst, hopp⟩ := hb
      subst hopp
      rw [hdst] at hd
      have hguard : ∀ t want, ao.guard = some (t, want) → ∃ j, o.guard = some (j, want) ∧ ((ops[j]?).bind (·.dst)) = some t ∧ t < nt := by
        intro t want h
        rw [h] at hgu
        subst hgu
        cases hog : o.guard with
        | none => rw [hog] at hg; simp [cGuard] at hg
        | some jb =>
          obtain ⟨j, b⟩ := jb
          rw [hog] at hg
          simp only [cGuard] at hg
          split at hg
          case h_2 => cases hg
          case h_1 t' ht' =>
            split at hg
            case isFalse => cases hg
            case isTrue htn =>
              simp only [Option.some.injEq, Prod.mk.injEq] at hg
              obtain ⟨rfl, rfl⟩ := hg
              exact ⟨j, rfl, ht', htn⟩
      have hyield : ∀ {j t}, ((ops[j]?).bind (·.dst)) = some t → t < nt → yielded ops a.tmps j = match some (a.tmps.getD t undef) with | some (.bool b) => some b | _ => none := by
        intro j t ht htn
        have hlt : t < a.tmps.size := Nat.lt_of_lt_of_le htn hs.size
        have hget : a.tmps[t]? = some (a.tmps.getD t undef) := by simp [Array.getD, hlt]
        unfold yielded
        rw [ht]
        simp only [Option.bind_some]
        rw [hget]
        cases a.tmps.getD t undef <;> rfl
      cases hst with
      | run x _ hq hx =>
        have hw : Region.wanted o (yielded ops a.tmps) = true := by
          cases hag : ao.guard with
          | none =>
            have : o.guard = none := by
              rw [hag] at hgu; subst hgu
              cases hog : o.guard with
              | none => rfl
              | some jb =>
                obtain ⟨j, b⟩ := jb
                rw [hog] at hg
                simp only [cGuard] at hg
                split at hg
                · split at hg <;> simp at hg
                · cases hg
            simp [Region.wanted, this]
          | some tw =>
            obtain ⟨t, want⟩ := tw
            obtain ⟨j, h1, h2, h3⟩ := hguard t want hag
            have hr := hs.env t
            rw [hq t want hag] at hr
            have hy := hyield h2 h3
            rw [hr.bool] at hy
            simp only at hy
            simp [Region.wanted, h1, hy]
        rw [if_pos hw]
        refine op_sound hop hs.good.inv hs.env (hx (fun x' O'' => x' = x ∧ O'' = O') ⟨rfl, rfl⟩) fun x' O'' y I' L' w' hk' hg' hr' => ?_
        obtain ⟨rfl, rfl⟩ := hk'
        rw [hdst]
        exact hn _ _ _ _ (hs.put hd hg' hr')
      | skip t want hgt hb =>
        obtain ⟨j, h1, h2, h3⟩ := hguard t want hgt
        have hr := hs.env t
        have hy := hyield h2 h3
        have hw : Region.wanted o (yielded ops a.tmps) = false := by
          rcases hb with hb | hb
          · rw [hb] at hr
            rw [hr.bool] at hy
            simp only at hy
            simp [Region.wanted, h1, hy]
          · rw [hb] at hr
            have hv : a.tmps.getD t undef = .tuple #[] := by
              generalize a.tmps.getD t undef = X at hr
              cases hr with
              | tup _ vs h1 _ => congr 1; exact Array.eq_empty_of_size_eq_zero h1.symm
            rw [hv] at hy
            simp only at hy
            simp [Region.wanted, h1, hy]
        rw [if_neg (by simp [hw])]
        rw [hdst]
        exact hn _ _ _ _ (hs.put hd (.refl hs.good.inv) (.tup [] #[] rfl (by simp)))
theorem run_sound {ops : Array Oper} {al : List AOper} (hm : ops.toList.mapM (cOper P nt ops) = some (al.map AOper.strip)) (hlen : al.length = ops.size) {e2 : Env} {O2 : List AObj} {Q : Exit → Act → World → Prop}
    (hq : ∀ a w I L, Sat I0 L0 O0 w0 nt e2 O2 a w I L → Q .normal a w) :
    ∀ (l : List Nat), (∀ i ∈ l, i < ops.size) → ∀ e O a w I L, Run P (l.map fun i => al.getD i ⟨none, none, .mov (.c .top)⟩) e O e2 O2 → Sat I0 L0 O0 w0 nt e O a w I L → Go.wpOps P ops Q l a w
  | [], _, e, O, a, w, I, L, hr, hs => by
    cases hr
    exact hq _ _ _ _ hs
  | i :: l, hl, e, O, a, w, I, L, hr, hs => by
    cases hr with
    | cons hst hr =>
      have hi := hl i (by simp)
      have ho : ops[i]? = some ops[i] := by simp [hi]
      have ha : al[i]? = some (al.getD i ⟨none, none, .mov (.c .top)⟩) := by simp [List.getD, show i < al.length by omega]
      have hc := (mapM_some hm).2 i ops[i] ((al.getD i ⟨none, none, .mov (.c .top)⟩).strip) (by simp) (by rw [List.getElem?_map, ha]; rfl)
      have := step_sound (Q := Q) hc hst hs (next := Go.wpOps P ops Q l) fun a w I L hs' => run_sound hm hlen hq l (fun j hj => hl j (by simp [hj])) _ _ a w I L hr hs'
      simp only [Go.wpOps, ho]
      split
      · rename_i hw; rw [if_pos hw] at this; exact .inl this
      · rename_i hw; rw [if_neg hw] at this; exact this
theorem cCode_cases {code : Code} {c : ACode} (h : cCode P nt code = some c) :
    (code = .skip ∧ c = .skip) ∨ (∃ id ops draw rows aops, code = .region id ops draw ∧ c = .region rows aops ∧ ops.toList.mapM (cOper P nt ops) = some aops ∧ ((draw = false ∧ rows = none) ∨ (draw = true ∧ rows = some (rowsOf ops) ∧ (Region.departs ops = false ∨ P.follows .mixedOrders = true)))) ∨
    (∃ x y ax ay, code = .seq x y ∧ c = .seq ax ay ∧ cCode P nt x = some ax ∧ cCode P nt y = some ay) ∨
    (∃ o x y ao ax ay, code = .cond o x y ∧ c = .cond ao ax ay ∧ cOpd o = some ao ∧ cCode P nt x = some ax ∧ cCode P nt y = some ay) ∨
    (∃ id b ab, code = .block id b ∧ c = .block id ab ∧ cCode P nt b = some ab) ∨ (∃ b ab, code = .loop b ∧ c = .loop ab ∧ cCode P nt b = some ab) ∨
    (∃ id, code = .exit id ∧ c = .exit id) ∨ (code = .ret ∧ c = .ret) := by
  cases code with
  | skip => simp only [cCode, Option.some.injEq] at h; exact .inl ⟨rfl, h.symm⟩
  | region id ops draw =>
    cases draw
    · simp only [cCode, Option.map_eq_some_iff] at h
      obtain ⟨aops, h1, h2⟩ := h
      exact .inr (.inl ⟨id, ops, false, _, aops, rfl, h2.symm, h1, .inl ⟨rfl, rfl⟩⟩)
    · simp only [cCode] at h
      split at h
      · cases h
      · rename_i hd
        simp only [Option.map_eq_some_iff] at h
        obtain ⟨aops, h1, h2⟩ := h
        exact .inr (.inl ⟨id, ops, true, _, aops, rfl, h2.symm, h1, .inr ⟨rfl, rfl, by
          by_cases h : Region.departs ops = true
          · exact .inr (by simpa [h] using hd)
          · exact .inl (by simpa using h)⟩⟩)
  | seq x y =>
    simp only [cCode] at h
    split at h
    · rename_i ax ay h1 h2
      simp only [Option.some.injEq] at h
      exact .inr (.inr (.inl ⟨x, y, ax, ay, rfl, h.symm, h1, h2⟩))
    · cases h
  | cond o x y =>
    simp only [cCode] at h
    split at h
    · rename_i ao ax ay h0 h1 h2
      simp only [Option.some.injEq] at h
      exact .inr (.inr (.inr (.inl ⟨o, x, y, ao, ax, ay, rfl, h.symm, h0, h1, h2⟩)))
    · cases h
  | block id b =>
    simp only [cCode, Option.map_eq_some_iff] at h
    obtain ⟨ab, h1, h2⟩ := h
    exact .inr (.inr (.inr (.inr (.inl ⟨id, b, ab, rfl, h2.symm, h1⟩))))
  | loop b =>
    simp only [cCode, Option.map_eq_some_iff] at h
    obtain ⟨ab, h1, h2⟩ := h
    exact .inr (.inr (.inr (.inr (.inr (.inl ⟨b, ab, rfl, h2.symm, h1⟩)))))
  | exit id => simp only [cCode, Option.some.injEq] at h; exact .inr (.inr (.inr (.inr (.inr (.inr (.inl ⟨id, rfl, h.symm⟩))))))
  | ret => simp only [cCode, Option.some.injEq] at h; exact .inr (.inr (.inr (.inr (.inr (.inr (.inr ⟨rfl, h.symm⟩))))))
  | _ => simp [cCode] at h
theorem code_sound (c : ACode) : ∀ (code : Code), cCode P nt code = some c.strip → ∀ (Q : AX → Env → List AObj → Prop) (QM : Exit → Act → World → Prop),
    (∀ x e O a w I L, Q x e O → Sat I0 L0 O0 w0 nt e O a w I L → QM x.to a w) → ∀ e O a w I L, wpC P O0.length c Q e O → Sat I0 L0 O0 w0 nt e O a w I L → code.wp P QM a w := by
  induction c with
  | skip =>
    intro code hc Q QM hq e O a w I L hk hs
    rcases cCode_cases hc with ⟨rfl, h⟩ | ⟨_, _, _, _, _, _, h, _⟩ | ⟨_, _, _, _, _, h, _⟩ | ⟨_, _, _, _, _, _, _, h, _⟩ | ⟨_, _, _, _, h, _⟩ | ⟨_, _, _, h, _⟩ | ⟨_, _, h⟩ | ⟨_, h⟩ <;> simp only [ACode.strip] at h <;> first | (cases h; done) | skip
    exact wp_skip (hq .normal _ _ _ _ _ _ hk hs)
  | region d ops =>
    intro code hc Q QM hq e O a w I L hk hs
    rcases cCode_cases hc with ⟨_, h⟩ | ⟨id, mops, draw, rows, aops, rfl, h, hm, hdr⟩ | ⟨_, _, _, _, _, h, _⟩ | ⟨_, _, _, _, _, _, _, h, _⟩ | ⟨_, _, _, _, h, _⟩ | ⟨_, _, _, h, _⟩ | ⟨_, _, h⟩ | ⟨_, h⟩ <;> simp only [ACode.strip] at h <;> first | (cases h; done) | skip
    simp only [ACode.region.injEq] at h
    obtain ⟨rfl, rfl⟩ := h
    rcases hdr with ⟨rfl, rfl⟩ | ⟨rfl, rfl, hdep⟩
    case inr =>
      obtain ⟨al, hal, hk⟩ := hk
      rw [← hal] at hm
      obtain ⟨labs, e2, O2, hll, hrun, hok, hK⟩ := runL_of_wp al hk
      rw [List.nil_append] at hok
      refine wp_region_draw fun t => ?_
      have hlen : al.length = mops.size := by have := (mapM_some hm).1; simpa using this
      obtain ⟨h1, h2⟩ := schedule_run hdep (by rw [List.length_zip, hll]; omega) hok hrun t
      have h3 := h1.run
      rw [List.map_map] at h3
      have hget : ((fun x : AOper × Lab => x.1) ∘ fun i => (al.zip labs).getD i (⟨none, none, .mov (.c .top)⟩, ⟨[], .any⟩)) = fun i => al.getD i ⟨none, none, .mov (.c .top)⟩ := by
        funext i
        simp only [Function.comp, List.getD]
        by_cases hi : i < al.length
        · have hi' : i < labs.length := by omega
          have hz : i < (al.zip labs).length := by rw [List.length_zip]; omega
          rw [List.getElem?_eq_getElem hz, List.getElem?_eq_getElem hi]
          simp
        · rw [List.getElem?_eq_none (by rw [List.length_zip]; omega), List.getElem?_eq_none (by omega)]
          rfl
      rw [hget] at h3
      exact run_sound hm hlen (fun a w I L hs => hq .normal _ _ _ _ _ _ hK hs) _ h2 e O a _ I L h3 (hs.drawn _)
    exact wp_region_list (ops_sound (fun e O a w I L h hs => hq .normal e O a w I L h hs) mops.toList ops hm e O a w I L hk hs)
  | seq x y ihx ihy =>
    intro code hc Q QM hq e O a w I L hk hs
    rcases cCode_cases hc with ⟨_, h⟩ | ⟨_, _, _, _, _, _, h, _⟩ | ⟨cx, cy, ax, ay, rfl, h, hx, hy⟩ | ⟨_, _, _, _, _, _, _, h, _⟩ | ⟨_, _, _, _, h, _⟩ | ⟨_, _, _, h, _⟩ | ⟨_, _, h⟩ | ⟨_, h⟩ <;> simp only [ACode.strip] at h <;> first | (cases h; done) | skip
    simp only [ACode.seq.injEq] at h
    obtain ⟨rfl, rfl⟩ := h
    refine wp_seq (ihx cx hx _ _ ?_ e O a w I L hk hs)
    intro z e O a w I L hz hs
    cases z
    case normal => exact ihy cy hy Q QM hq e O a w I L hz hs
    case exit id => exact hq (.exit id) _ _ _ _ _ _ hz hs
    case ret => exact hq .ret _ _ _ _ _ _ hz hs
  | cond c t f iht ihf =>
    intro code hc Q QM hq e O a w I L hk hs
    rcases cCode_cases hc with ⟨_, h⟩ | ⟨_, _, _, _, _, _, h, _⟩ | ⟨_, _, _, _, _, h, _⟩ | ⟨o, x, y, ao, ax, ay, rfl, h, h0, h1, h2⟩ | ⟨_, _, _, _, h, _⟩ | ⟨_, _, _, h, _⟩ | ⟨_, _, h⟩ | ⟨_, h⟩ <;> simp only [ACode.strip] at h <;> first | (cases h; done) | skip
    simp only [ACode.cond.injEq] at h
    obtain ⟨rfl, rfl, rfl⟩ := h
    have rc := cOpd_sound h0 hs.env
    simp only [wpC] at hk
    split at hk
    · rename_i b hb
      rw [hb] at rc
      refine wp_cond (t := b) rc.bool ?_
      cases b
      · exact ihf y h2 Q QM hq e O a w I L (hk.2 rfl) hs
      · exact iht x h1 Q QM hq e O a w I L (hk.1 rfl) hs
    · exact hk.elim
  | block id b ih =>
    intro code hc Q QM hq e O a w I L hk hs
    rcases cCode_cases hc with ⟨_, h⟩ | ⟨_, _, _, _, _, _, h, _⟩ | ⟨_, _, _, _, _, h, _⟩ | ⟨_, _, _, _, _, _, _, h, _⟩ | ⟨id', cb, ab, rfl, h, hb⟩ | ⟨_, _, _, h, _⟩ | ⟨_, _, h⟩ | ⟨_, h⟩ <;> simp only [ACode.strip] at h <;> first | (cases h; done) | skip
    simp only [ACode.block.injEq] at h
    obtain ⟨rfl, rfl⟩ := h
    refine wp_block (ih cb hb _ _ ?_ e O a w I L hk hs)
    intro z e O a w I L hz hs
    cases z
    case normal => exact hq .normal _ _ _ _ _ _ hz hs
    case exit i =>
      simp only [AX.to, Exit.inBlock]
      simp only at hz
      by_cases hi : i = id
      · rw [if_pos hi] at hz ⊢; exact hq .normal _ _ _ _ _ _ hz hs
      · rw [if_neg hi] at hz ⊢; exact hq (.exit i) _ _ _ _ _ _ hz hs
    case ret => exact hq .ret _ _ _ _ _ _ hz hs
  | loop b ih =>
    intro code hc Q QM hq e O a w I L hk hs
    rcases cCode_cases hc with ⟨_, h⟩ | ⟨_, _, _, _, _, _, h, _⟩ | ⟨_, _, _, _, _, h, _⟩ | ⟨_, _, _, _, _, _, _, h, _⟩ | ⟨_, _, _, _, h, _⟩ | ⟨cb, ab, rfl, h, hb⟩ | ⟨_, _, h⟩ | ⟨_, h⟩ <;> simp only [ACode.strip] at h <;> first | (cases h; done) | skip
    simp only [ACode.loop.injEq] at h
    subst h
    obtain ⟨J, n, ⟨e', O', hw, hJ⟩, hround⟩ := hk
    obtain ⟨I', L', hs'⟩ := hs.wk hw
    refine wp_loop_ghost (fun m a w => ∃ e O I L, J m e O ∧ Sat I0 L0 O0 w0 nt e O a w I L) n ⟨e', O', I', L', hJ, hs'⟩ ?_
    rintro m a w ⟨e1, O1, I1, L1, hJ1, hs1⟩
    refine ih cb hb _ _ ?_ e1 O1 a w I1 L1 (hround m e1 O1 hJ1) hs1
    intro z e2 O2 a2 w2 I2 L2 hz hs2
    cases z
    case normal =>
      obtain ⟨m', e3, O3, hlt, hw3, hJ3⟩ := hz
      obtain ⟨I3, L3, hs3⟩ := hs2.wk hw3
      exact ⟨m', hlt, e3, O3, I3, L3, hJ3, hs3⟩
    case exit id => exact hq (.exit id) _ _ _ _ _ _ hz hs2
    case ret => exact hq .ret _ _ _ _ _ _ hz hs2
  | exit id =>
    intro code hc Q QM hq e O a w I L hk hs
    rcases cCode_cases hc with ⟨_, h⟩ | ⟨_, _, _, _, _, _, h, _⟩ | ⟨_, _, _, _, _, h, _⟩ | ⟨_, _, _, _, _, _, _, h, _⟩ | ⟨_, _, _, _, h, _⟩ | ⟨_, _, _, h, _⟩ | ⟨i, rfl, h⟩ | ⟨_, h⟩ <;> simp only [ACode.strip] at h <;> first | (cases h; done) | skip
    simp only [ACode.exit.injEq] at h
    subst h
    exact wp_exit (hq (.exit id) _ _ _ _ _ _ hk hs)
  | ret =>
    intro code hc Q QM hq e O a w I L hk hs
    rcases cCode_cases hc with ⟨_, h⟩ | ⟨_, _, _, _, _, _, h, _⟩ | ⟨_, _, _, _, _, h, _⟩ | ⟨_, _, _, _, _, _, _, h, _⟩ | ⟨_, _, _, _, h, _⟩ | ⟨_, _, _, h, _⟩ | ⟨_, _, h⟩ | ⟨rfl, h⟩ <;> simp only [ACode.strip] at h <;> first | (cases h; done) | skip
    exact wp_ret (hq .ret _ _ _ _ _ _ hk hs)
  | keep live c ih =>
    intro code hc Q QM hq e O a w I L hk hs
    refine ih code hc _ QM ?_ e O a w I L hk hs
    intro x e O a w I L hx hs
    cases x
    case normal => exact hq .normal _ _ _ _ _ _ hx (hs.env_eq (keepE_R hs.env live))
    all_goals exact hq _ _ _ _ _ _ _ hx hs
  | regionW ops =>
    intro code hc Q QM hq e O a w I L hk hs
    rcases cCode_cases hc with ⟨_, h⟩ | ⟨id, mops, draw, rows, aops, rfl, h, hm, hdr⟩ | ⟨_, _, _, _, _, h, _⟩ | ⟨_, _, _, _, _, _, _, h, _⟩ | ⟨_, _, _, _, h, _⟩ | ⟨_, _, _, h, _⟩ | ⟨_, _, h⟩ | ⟨_, h⟩ <;> simp only [ACode.strip] at h <;> first | (cases h; done) | skip
    simp only [ACode.region.injEq] at h
    obtain ⟨rfl, rfl⟩ := h
    rcases hdr with ⟨rfl, h0⟩ | ⟨rfl, h0, hdep⟩
    case inr => cases h0
    exact wp_region_list (opsW_sound (fun e O a w I L h hs => hq .normal e O a w I L h hs) mops.toList ops hm e O a w I L hk hs)
  | weak c ih =>
    intro code hc Q QM hq e O a w I L hk hs
    obtain ⟨e', O', hw, hk⟩ := hk
    obtain ⟨I', L', hs'⟩ := hs.wk hw
    exact ih code hc Q QM hq e' O' a w I' L' hk hs'
/-- one result -/
def getR (a : Act) (r : ResultVar) : Sem Value :=
  match r with
  | .tmp t => pure (a.tmps.getD t undef)
  | .cell b t => do loadVar t (← asAddr (a.tmps.getD b undef))
theorem resK_run {e : Env} {O : List AObj} {a : Act} {w : World} {I : Imm} {L : Nat → Loc} (hi : Inv I L O w) (he : ∀ t, R I L O (e t) (a.tmps.getD t undef)) :
    ∀ (l : List ResultVar) (al : List ARes) (acc : List AV) (M : List AV → Prop), l.mapM (cRes P) = some al → resK e O al acc M →
      ∃ xs vs, M (acc.reverse ++ xs) ∧ xs.length = vs.length ∧ (∀ (i : Nat) x v, xs[i]? = some x → vs[i]? = some v → R I L O x v) ∧
        (l.mapM (getR a)).run P w = .ok vs w
  | [], al, acc, M, h, hk => by
    simp at h; subst h
    exact ⟨[], [], by simpa [resK] using hk, rfl, by simp, by simp⟩
  | r :: l, al, acc, M, h, hk => by
    simp only [List.mapM_cons, Option.bind_eq_bind, Option.pure_def, Option.bind_eq_some_iff, Option.some.injEq] at h
    obtain ⟨b, hb, bs, hbs, rfl⟩ := h
    have key : ∃ x v, resK e O bs (x :: acc) M ∧ R I L O x v ∧ (getR a r).run P w = .ok v w := by
      cases r with
      | tmp t =>
        simp only [cRes, Option.some.injEq] at hb
        subst hb
        exact ⟨_, _, hk, he t, rfl⟩
      | cell t ty =>
        simp only [cRes, Option.map_eq_some_iff] at hb
        obtain ⟨n, hn, rfl⟩ := hb
        simp only [resK, ARes.get] at hk
        split at hk
        · rename_i k hk0
          have hr := he t
          rw [hk0] at hr
          split at hk
          · rename_i t' s x hO
            obtain ⟨hl, hk⟩ := hk
            have hv := hr.ptr_live hO rfl
            obtain ⟨c, g1, g2, g3, g4, g5, g6⟩ := hi.obj k _ _ _ hO
            obtain ⟨g7, g8⟩ := g6 0 x rfl
            have hex : ∀ j, ∃ u, j < n.getD 1 → c[0 * s + j]? = some u ∧ ∀ c', x.cells[j]? = some c' → R I L O c' u := by
              intro j
              by_cases hj : j < n.getD 1
              · have hc' : x.cells[j]? = some (x.cells[j]'(by omega)) := by simp
                obtain ⟨u, hu, _, hr⟩ := g8 j _ hc'
                exact ⟨u, fun _ => ⟨hu, fun c'' h'' => by rw [hc'] at h''; cases h''; exact hr⟩⟩
              · exact ⟨undef, fun h => (hj h).elim⟩
            let vals : Nat → Value := fun j => (hex j).choose
            have hvals : ∀ j, j < n.getD 1 → c[0 * s + j]? = some (vals j) ∧ ∀ c', x.cells[j]? = some c' → R I L O c' (vals j) := fun j hj => (hex j).choose_spec hj
            have hrun := run_loadAt (P := P) (t := ty) hn (L k).blk 0 vals w (fun j hj => by
              rw [cell_cells g1]; have := (hvals j hj).1; rwa [Nat.zero_mul] at this)
            refine ⟨_, _, hk, loadC_sound (vals := vals) (by omega) fun j c' hj hlt' => (hvals j hlt').2 c' (by simpa using hj), ?_⟩
            simp only [getR, hv]
            simp [Instr.loadAt, Instr.sureAddr] at hrun
            simpa [asAddr] using hrun
          · exact hk.elim
        · exact hk.elim
    obtain ⟨x, v, hk', hr, hrun⟩ := key
    obtain ⟨xs, vs, h1, h2, h3, h4⟩ := resK_run hi he l bs (x :: acc) M hbs hk'
    refine ⟨x :: xs, v :: vs, by simpa using h1, by simp [h2], fun i y u hy hu => ?_, ?_⟩
    · cases i with
      | zero => simp at hy hu; subst hy; subst hu; exact hr
      | succ i => simp at hy hu; exact h3 i y u hy hu
    · rw [List.mapM_cons, Sem.run_bind, hrun, Result.andThen_ok, Sem.run_bind, h4]
      rfl
theorem results_run {fn : Func} {e : Env} {O O' : List AObj} {a : Act} {w : World} {I : Imm} {L : Nat → Loc} {rs : List ARes} {res : AV} {x : AX} (hm : fn.results.toList.mapM (cRes P) = some rs) (hs : Sat I0 L0 O0 w0 nt e O a w I L)
    (hk : retK O0.length rs res O' x e O) : ∃ y I' L', (results fn a.tmps).run P w = .ok y w ∧ R I' L' O' res y ∧ Good I0 L0 O0 w0 I' L' O' w := by
  have hk' : resK e O rs [] fun xs => ∃ e', WK O0.length (fun t => if t = 0 then packR xs else .top) O e' O' ∧ e' 0 = res := by
    cases x <;> first | exact hk | exact hk.elim
  obtain ⟨xs, vs, ⟨e', hw, he0⟩, h2, h3, h4⟩ := resK_run hs.good.inv hs.env _ _ _ _ hm hk'
  simp only [List.reverse_nil, List.nil_append] at hw
  let y : Value := if h : vs.toArray.size = 1 then vs.toArray[0] else .tuple vs.toArray
  have hy : R I L O (packR xs) y := by
    unfold packR
    split
    · rename_i x
      have hv : vs.length = 1 := by rw [← h2]; rfl
      have : y = vs[0]'(by omega) := by simp [y, hv]
      rw [this]
      exact h3 0 x _ rfl (by simp [hv])
    · rename_i hne
      have hv : vs.length ≠ 1 := by
        rw [← h2]; intro h1
        obtain ⟨x, hx⟩ := List.length_eq_one_iff.1 h1
        exact hne x hx
      have : y = .tuple vs.toArray := by simp [y, hv]
      rw [this]
      exact .tup _ _ (by simpa using h2) fun i c v hc hv => h3 i c v hc (by simpa using hv)
  obtain ⟨I', L', hg, hr⟩ := hw I0 L0 O0 w0 I L w (fun t => if t = 0 then y else undef) rfl hs.good (fun t => by
    by_cases ht : t = 0
    · subst ht; simpa using hy
    · simp only [if_neg ht]; exact .top _)
  refine ⟨y, I', L', ?_, ?_, hg⟩
  · have hrun : (fn.results.mapM (getR a)).run P w = .ok vs.toArray w := by
      simp [Array.mapM_eq_mapM_toList, h4]
    have hres : results fn a.tmps = (do let vs ← fn.results.mapM (getR a); pure (if h : vs.size = 1 then vs[0] else .tuple vs)) := rfl
    rw [hres, Sem.run_bind, hrun]
    rfl
  · have := hr 0
    rw [he0] at this
    simpa using this
def cFn (P : Program) (f : FuncId) (a : AFn) : Prop :=
  ∃ fn code, P.funcs[f]? = some fn ∧ fn.body = some code ∧ (fn.name == "runtime.NumGoroutine") = false ∧ fn.ntmps = a.nt ∧ a.nargs ≤ a.nt ∧
    cCode P a.nt code = some a.code.strip ∧ fn.results.toList.mapM (cRes P) = some a.res
/-- FROM THE ABSTRACT WALK OF A BODY TO THE CONTRACT OF ITS CALLS. -/
theorem con_of_wp {f : FuncId} {A : AFn} (hf : cFn P f A) {args : List AV} {O O' : List AObj} {res : AV} (hl : args.length = A.nargs)
    (h : wpC P O.length A.code (retK O.length A.res res O') (entryE args) O) : Con P f args O res O' := by
  obtain ⟨fn, code, h1, h2, h3, h4, h5, h6, h7⟩ := hf
  refine ⟨⟨fn, h1, by rw [h2]; rfl, h3⟩, ?_⟩
  intro I L w vs hi hr
  refine calls_of_wp h1 h2 ?_
  have hsz : vs.size = A.nargs := by rw [← hr.1, hl]
  have hsat : Sat I L O w A.nt (entryE args) O { tmps := vs ++ Array.replicate (fn.ntmps - vs.size) undef, defers := [] } w I L := by
    refine ⟨.refl hi, fun t => ?_, ?_, rfl⟩
    · unfold entryE
      by_cases ht : t < vs.size
      · have ha : args[t]? = some (args.getD t (.tup [])) := by simp [List.getD, show t < args.length by rw [hr.1]; exact ht]
        have hv : vs[t]? = some ((vs ++ Array.replicate (fn.ntmps - vs.size) undef).getD t undef) := by
          rw [Array.getD_eq_getD_getElem?, Array.getElem?_append_left ht]; simp [ht]
        exact hr.2 t _ _ ha hv
      · have ha : args.getD t (.tup []) = .tup [] := by simp [List.getD, List.getElem?_eq_none (show args.length ≤ t by rw [hr.1]; omega)]
        have hv : (vs ++ Array.replicate (fn.ntmps - vs.size) undef).getD t undef = .tuple #[] := by
          rw [Array.getD_eq_getD_getElem?, Array.getElem?_append_right (by omega)]
          by_cases h8 : t - vs.size < fn.ntmps - vs.size
          · simp [h8]; rfl
          · simp [h8]; rfl
        rw [ha, hv]
        exact .tup [] #[] rfl (by simp)
    · simp; omega
  refine code_sound A.code code h6 _ _ ?_ (entryE args) O _ w I L h hsat
  intro x e O1 a w' I' L' hq hs
  obtain ⟨y, I2, L2, r1, r2, r3⟩ := results_run h7 hs hq
  cases x with
  | normal => exact ⟨hs.defers, y, r1, y, I2, L2, rfl, r2, r3⟩
  | ret => exact ⟨hs.defers, y, r1, y, I2, L2, rfl, r2, r3⟩
  | exit id => exact hq.elim
end
end Go.Ab
/-
  SLOTS AS LISTS; WEAKENING: what is no longer wanted is forgotten.
-/
namespace Go.Ab
universe u
/-- an equation that the walk uses as such, not by unfolding -/
theorem nr {α : Sort u} {a b : α} (h : a = b) : a = b := h
def envL : List (Nat × AV) → Env
  | [], _ => .top
  | (k, a) :: l, t => if t = k then a else envL l t
theorem set_at (e : Env) (t : Nat) (a : AV) (k : Nat) : (e.set t a) k = if k = t then a else e k := nr rfl
theorem envL_cons (k : Nat) (a : AV) (l : List (Nat × AV)) (t : Nat) : envL ((k, a) :: l) t = if t = k then a else envL l t := nr rfl
theorem entry_at (args : List AV) (t : Nat) : entryE args t = args.getD t (.tup []) := nr rfl
theorem keepE_eq (live : List Nat) (e : Env) : keepE live e = envL (live.map fun t => (t, e t)) := by
  funext t
  induction live with
  | nil => rfl
  | cons k l ih =>
    simp only [List.map_cons, envL_cons]
    unfold keepE at ih ⊢
    by_cases h : t = k
    · subst h; simp
    · rw [if_neg h, ← ih]
      simp [h]
theorem R.take {I : Imm} {L : Nat → Loc} {O : List AObj} {k : Nat} (hk : k ≤ O.length) {a : AV} {x : Value} (hr : R I L O a x) (h : a.inScope k = true) : R I L (O.take k) a x := by
  have hget : ∀ {n : Nat}, n < k → (O.take k)[n]? = O[n]? := fun {n} hn => by rw [List.getElem?_take, if_pos hn]
  have hlen : (O.take k).length = k := by simp; omega
  induction hr with
  | top x => exact .top x
  | v x hx => exact .v x hx
  | nils => exact .nils
  | ifc t x => exact .ifc t x
  | sl0 a cap => exact .sl0 a cap
  | sl xs blk off cap s vals h1 h2 h3 h4 _ ih =>
    refine .sl xs blk off cap s vals h1 h2 h3 h4 fun i x j c hi hj => ih i x j c hi hj ?_
    exact scoped_cells (scopeds_mem (by simpa [AV.inScope] using h) x (List.mem_of_getElem? hi)) c (List.mem_of_getElem? hj)
  | iptr x f blk base vals h1 _ ih =>
    refine .iptr x f blk base vals h1 fun j c hj => ih j c hj ?_
    exact scoped_cells (by simpa [AV.inScope] using h) c (List.mem_of_getElem? hj)
  | rowLive n len e s xs hn hl =>
    have hn' : n < k := by simpa [AV.inScope] using h
    exact .rowLive n len e s xs (by rw [hget hn']; exact hn) hl
  | rowNil n e s hn =>
    have hn' : n < k := by simpa [AV.inScope] using h
    exact .rowNil n e s (by rw [hget hn']; exact hn)
  | rowDead n len x hn hnn hs hx =>
    have hn' : n < k := by simpa [AV.inScope] using h
    exact .rowDead n len x (by omega) (fun e s he => hnn e s (by rwa [hget hn'] at he)) (fun e s xs hxs => hs e s xs (by rwa [hget hn'] at hxs)) hx
  | ptrLive n len i f e s xs hn hl =>
    have hn' : n < k := by simpa [AV.inScope] using h
    exact .ptrLive n len i f e s xs (by rw [hget hn']; exact hn) hl
  | ptrDead n len i f x hn hnn hs hx =>
    have hn' : n < k := by simpa [AV.inScope] using h
    exact .ptrDead n len i f x (by omega) (fun e s he => hnn e s (by rwa [hget hn'] at he)) (fun e s xs hxs => hs e s xs (by rwa [hget hn'] at hxs)) hx
  | fn f caps vs h1 _ ih => exact .fn f caps vs h1 fun i c x hi hx => ih i c x hi hx (scopeds_mem (by simpa [AV.inScope] using h) c (List.mem_of_getElem? hi))
  | agg cs vs h1 _ ih => exact .agg cs vs h1 fun i c x hi hx => ih i c x hi hx (scopeds_mem (by simpa [AV.inScope] using h) c (List.mem_of_getElem? hi))
  | tup cs vs h1 _ ih => exact .tup cs vs h1 fun i c x hi hx => ih i c x hi hx (scopeds_mem (by simpa [AV.inScope] using h) c (List.mem_of_getElem? hi))
  | ownLive n a hn h1 =>
    have hn' : n < k := by simpa [AV.inScope] using h
    exact .ownLive n a (by rw [hget hn']; exact hn) h1
  | ownDead n x hn hno h1 =>
    have hn' : n < k := by simpa [AV.inScope] using h
    exact .ownDead n x (by omega) (fun a ha => hno a (by rwa [hget hn'] at ha)) h1
theorem Good.take {I0 I : Imm} {L0 L : Nat → Loc} {O0 O : List AObj} {w0 w : World} (h : Good I0 L0 O0 w0 I L O w) {k : Nat} (h0 : O0.length ≤ k) (hk : k ≤ O.length) (hb : ∀ ob ∈ O.take k, ob.inScope k = true) :
    Good I0 L0 O0 w0 I L (O.take k) w := by
  have hget : ∀ {n e s xs}, (O.take k)[n]? = some (.live e s xs) → O[n]? = some (.live e s xs) ∧ n < k := by
    intro n e s xs hn
    rw [List.getElem?_take] at hn
    split at hn
    · exact ⟨hn, by assumption⟩
    · cases hn
  have hgetn : ∀ {n e s : Nat}, (O.take k)[n]? = some (AObj.nil e s) → O[n]? = some (AObj.nil e s) := by
    intro n e s hn
    rw [List.getElem?_take] at hn
    split at hn
    · exact hn
    · cases hn
  have hgeto : ∀ {n : Nat} {a : AV}, (O.take k)[n]? = some (AObj.own a) → O[n]? = some (AObj.own a) := by
    intro n a hn
    rw [List.getElem?_take] at hn
    split at hn
    · exact hn
    · cases hn
  refine ⟨⟨h.inv.imm, fun n e s xs hn => ?_, fun n m _ _ _ _ _ _ hn hm => h.inv.sep n m _ _ _ _ _ _ (hget hn).1 (hget hm).1, fun n e s xs o hn => h.inv.immSep n e s xs o (hget hn).1, h.inv.fix, h.inv.blk, h.inv.ow.same (fun n a hn => ⟨hgeto hn, rfl⟩) (fun b o v hv => .inl ⟨o, v, hv⟩) (fun m e s xs hm => .inl ⟨m, _, _, _, (hget hm).1, rfl⟩) rfl⟩, ⟨h.ext.imm, by simp; omega, fun n hn e s xs hx => h.ext.obj n hn e s xs (hget hx).1, fun n hn e s hx => h.ext.nil n hn e s (hgetn hx), fun n hn a hx => h.ext.own n hn a (hgeto hx)⟩, h.frm, ?_, h.immNew⟩
  · obtain ⟨c, h1, h2, h3, h4, h5, h6⟩ := h.inv.obj n e s xs (hget hn).1
    refine ⟨c, h1, h2, h3, h4, h5, fun i x hx => ⟨(h6 i x hx).1, fun j a ha => ?_⟩⟩
    obtain ⟨y, hy, ho, hr⟩ := (h6 i x hx).2 j a ha
    have hbo := hb _ (List.mem_of_getElem? hn)
    exact ⟨y, hy, ho, hr.take hk (scoped_cells (scopeds_mem hbo x (List.mem_of_getElem? hx)) a (List.mem_of_getElem? ha))⟩
  · rintro b (⟨n, e, s, xs, hn, hb⟩ | ⟨n, a, o, v, hn, hb⟩)
    · exact h.lb b (.inl ⟨n, e, s, xs, (hget hn).1, hb⟩)
    · exact h.lb b (.inr ⟨n, a, o, v, hgeto hn, hb⟩)
/-- forget slots, and the objects from k on -/
theorem WK.forget {n0 : Nat} {e e' : Env} {O O' : List AObj} {k : Nat} (hO : O.take k = O') (h0 : n0 ≤ k) (hk : k ≤ O.length) (hb : ∀ ob ∈ O', ob.inScope k = true) (he : ∀ t, e' t = .top ∨ (e' t = e t ∧ (e' t).inScope k = true)) : WK n0 e O e' O' := by
  subst hO
  intro I0 L0 O0 w0 I L w f hl hg hr
  subst hl
  refine ⟨I, L, hg.take h0 hk hb, fun t => ?_⟩
  rcases he t with h | ⟨h, h'⟩
  · rw [h]; exact .top _
  · rw [h] at h' ⊢; exact (hr t).take hk h'
theorem wpOp_mono {P : Program} {o : AOp} {e : Env} {O : List AObj} {K K' : AV → List AObj → Prop} (hk : ∀ x O, K x O → K' x O) (h : wpOp P o e O K) : wpOp P o e O K' := by
  obtain ⟨x, O', h1, h2⟩ := exAny h
  exact h2 K' (hk x O' h1)
theorem wpOps_mono {P : Program} : ∀ (l : List AOper) {e : Env} {O : List AObj} {K K' : Env → List AObj → Prop}, (∀ e O, K e O → K' e O) → wpOps P l e O K → wpOps P l e O K'
  | [], _, _, _, _, hk, h => hk _ _ h
  | o :: l, e, O, K, K', hk, h => by
    simp only [wpOps] at h ⊢
    split at h
    · exact wpOp_mono (fun x O' h => wpOps_mono l hk h) h
    · split at h
      · exact ⟨fun hb => wpOp_mono (fun x O' h => wpOps_mono l hk h) (h.1 hb), fun hb => wpOps_mono l hk (h.2 hb)⟩
      · exact wpOps_mono l hk h
      · exact h.elim
theorem wpOpsL_mono {P : Program} : ∀ (l : List AOper) {acc : List Lab} {e : Env} {O : List AObj} {K K' : List Lab → Env → List AObj → Prop}, (∀ a e O, K a e O → K' a e O) → wpOpsL P l acc e O K → wpOpsL P l acc e O K'
  | [], _, _, _, _, _, hk, h => hk _ _ _ h
  | o :: l, acc, e, O, K, K', hk, h => by
    simp only [wpOpsL] at h ⊢
    split at h
    · exact wpOp_mono (fun x O' h => wpOpsL_mono l hk h) h
    · split at h
      · exact ⟨fun hb => wpOp_mono (fun x O' h => wpOpsL_mono l hk h) (h.1 hb), fun hb => wpOpsL_mono l hk (h.2 hb)⟩
      · exact wpOpsL_mono l hk h
      · exact h.elim
theorem wpOpsW_mono {P : Program} {n0 : Nat} : ∀ (l : List AOper) {e : Env} {O : List AObj} {K K' : Env → List AObj → Prop}, (∀ e O, K e O → K' e O) → wpOpsW P n0 l e O K → wpOpsW P n0 l e O K'
  | [], _, _, _, _, hk, ⟨e', O', hw, h⟩ => ⟨e', O', hw, hk _ _ h⟩
  | o :: l, e, O, K, K', hk, h => by
    simp only [wpOpsW] at h ⊢
    obtain ⟨e', O', hw, h⟩ := h
    refine ⟨e', O', hw, ?_⟩
    split at h
    · exact wpOp_mono (fun x O' h => wpOpsW_mono l hk h) h
    · split at h
      · exact ⟨fun hb => wpOp_mono (fun x O' h => wpOpsW_mono l hk h) (h.1 hb), fun hb => wpOpsW_mono l hk (h.2 hb)⟩
      · exact wpOpsW_mono l hk h
      · exact h.elim
theorem wpC_mono {P : Program} {n0 : Nat} (c : ACode) : ∀ {Q Q' : AX → Env → List AObj → Prop} {e : Env} {O : List AObj}, (∀ x e O, Q x e O → Q' x e O) → wpC P n0 c Q e O → wpC P n0 c Q' e O := by
  induction c with
  | skip => intro Q Q' e O hq h; exact hq _ _ _ h
  | region r ops =>
    intro Q Q' e O hq h
    cases r with
    | none => exact wpOps_mono ops (fun e O h => hq _ _ _ h) h
    | some rows => obtain ⟨al, h1, h2⟩ := h; exact ⟨al, h1, wpOpsL_mono al (fun labs e O h => ⟨h.1, hq _ _ _ h.2⟩) h2⟩
  | regionW ops => intro Q Q' e O hq h; exact wpOpsW_mono ops (fun e O h => hq _ _ _ h) h
  | seq a b iha ihb =>
    intro Q Q' e O hq h
    refine iha (fun x e O h => ?_) h
    cases x
    · exact ihb hq h
    · exact hq _ _ _ h
    · exact hq _ _ _ h
  | cond c t f iht ihf =>
    intro Q Q' e O hq h
    simp only [wpC] at h ⊢
    split at h
    · exact ⟨fun hb => iht hq (h.1 hb), fun hb => ihf hq (h.2 hb)⟩
    · exact h.elim
  | block id b ih =>
    intro Q Q' e O hq h
    refine ih (fun x e O h => ?_) h
    cases x
    · exact hq _ _ _ h
    · simp only at h ⊢
      split
      · rename_i hi; rw [if_pos hi] at h; exact hq _ _ _ h
      · rename_i hi; rw [if_neg hi] at h; exact hq _ _ _ h
    · exact hq _ _ _ h
  | loop b ih =>
    intro Q Q' e O hq h
    obtain ⟨J, n, h0, hr⟩ := h
    refine ⟨J, n, h0, fun n e O hJ => ih (fun x e O h => ?_) (hr n e O hJ)⟩
    cases x
    · exact h
    · exact hq _ _ _ h
    · exact hq _ _ _ h
  | exit id => intro Q Q' e O hq h; exact hq _ _ _ h
  | ret => intro Q Q' e O hq h; exact hq _ _ _ h
  | keep l c ih =>
    intro Q Q' e O hq h
    refine ih (fun x e O h => ?_) h
    cases x <;> exact hq _ _ _ h
  | weak c ih =>
    intro Q Q' e O hq h
    obtain ⟨e', O', hw, h⟩ := h
    exact ⟨e', O', hw, ih hq h⟩
/-- what a round of a loop must come to -/
def roundQ (n0 : Nat) {ι : Type} (D : ι → Prop) (σ : ι → Env) (τ : ι → List AObj) (μ : ι → Nat) (i : ι) (Q : AX → Env → List AObj → Prop) : AX → Env → List AObj → Prop :=
  fun x e O => match x with | .normal => ∃ j, D j ∧ μ j < μ i ∧ WK n0 e O (σ j) (τ j) | x => Q x e O
/-- A LOOP, by a family of states. -/
theorem wpC_loop {P : Program} {n0 : Nat} {b : ACode} {Q : AX → Env → List AObj → Prop} {e : Env} {O : List AObj} {ι : Type} (D : ι → Prop) (σ : ι → Env) (τ : ι → List AObj) (μ : ι → Nat) (i0 : ι)
    (hd : D i0) (h0 : WK n0 e O (σ i0) (τ i0)) (hr : ∀ i, D i → wpC P n0 b (roundQ n0 D σ τ μ i Q) (σ i) (τ i)) : wpC P n0 (.loop b) Q e O := by
  refine ⟨fun n e O => ∃ i, D i ∧ μ i = n ∧ e = σ i ∧ O = τ i, μ i0, ⟨_, _, h0, i0, hd, rfl, rfl, rfl⟩, ?_⟩
  rintro n e O ⟨i, hi, rfl, rfl, rfl⟩
  refine wpC_mono b (fun x e O h => ?_) (hr i hi)
  cases x
  · obtain ⟨j, hj, h1, h2⟩ := h
    exact ⟨μ j, _, _, h1, h2, j, hj, rfl, rfl, rfl⟩
  · exact h
  · exact h
theorem WK.of_eq {n0 : Nat} {e e' : Env} {O O' : List AObj} (he : e = e') (hO : O = O') : WK n0 e O e' O' := by subst he; subst hO; exact .refl _ _ _
/- the equations by which a walk goes on: all but those of loops and weakenings -/
section
variable (P : Program) (n0 : Nat) (Q : AX → Env → List AObj → Prop) (e : Env) (O : List AObj)
theorem wpC_skip : wpC P n0 .skip Q e O = Q .normal e O := nr rfl
theorem wpC_region (ops : List AOper) : wpC P n0 (.region none ops) Q e O = Go.Ab.wpOps P ops e O (Q .normal) := nr rfl
theorem wpC_cond (c : Opd) (t f : ACode) : wpC P n0 (.cond c t f) Q e O = match c.ev e with
    | .v (.bool b) => (b = true → wpC P n0 t Q e O) ∧ (b = false → wpC P n0 f Q e O)
    | _ => False := nr rfl
theorem wpC_exit (id : Nat) : wpC P n0 (.exit id) Q e O = Q (.exit id) e O := nr rfl
theorem wpC_ret : wpC P n0 .ret Q e O = Q .ret e O := nr rfl
theorem wpOps_nil (K : Env → List AObj → Prop) : Go.Ab.wpOps P [] e O K = K e O := nr rfl
theorem wpOps_guard (K : Env → List AObj → Prop) (t : Nat) (want : Bool) (d : Option Nat) (op : AOp) (r : List AOper) :
    Go.Ab.wpOps P (⟨some (t, want), d, op⟩ :: r) e O K = match e t with
      | .v (.bool b) =>
        (b = want → wpOp P op (e.set t (.v (.bool want))) O fun x O' => Go.Ab.wpOps P r (setD (e.set t (.v (.bool want))) d x) O' K) ∧
        (b = !want → Go.Ab.wpOps P r (setD (e.set t (.v (.bool (!want)))) d (.tup [])) O K)
      | .tup [] => Go.Ab.wpOps P r (setD e d (.tup [])) O K
      | _ => False := nr rfl
theorem setD_some (t : Nat) (a : AV) : setD e (some t) a = e.set t a := nr rfl
theorem setD_none (a : AV) : setD e none a = e := nr rfl
theorem ev_t (n : Nat) : (Opd.t n).ev e = e n := nr rfl
theorem ev_c (a : AV) : (Opd.c a).ev e = a := nr rfl
end
end Go.Ab
/-
  THE RULES BY WHICH A WALK GOES ON: operands first, then the operation; what comes behind it is not looked at till then.
-/
namespace Go.Ab
theorem data_toList (a : ByteArray) : a.toList = a.data.toList := ByteArray.toList_eq a
abbrev KT := AV → List AObj → Prop
def k1 (a : AV) (O : List AObj) (K : KT) : Prop := K a O
def pickK (c a b : AV) (O : List AObj) (K : KT) : Prop := match c with
  | .v (.bool t) => K (if t then a else b) O
  | _ => False
theorem pickK_true (a b : AV) (O : List AObj) (K : KT) : pickK (.v (.bool true)) a b O K = k1 a O K := nr rfl
theorem pickK_false (a b : AV) (O : List AObj) (K : KT) : pickK (.v (.bool false)) a b O K = k1 b O K := nr rfl
theorem pickK_bool (t x y : Bool) (O : List AObj) (K : KT) : pickK (.v (.bool t)) (.v (.bool x)) (.v (.bool y)) O K = k1 (.v (.bool (if t = true then x else y))) O K := by cases t <;> rfl
def boxK (t s : Nat) (a : AV) (O : List AObj) (K : KT) : Prop := a.cells.length = s ∧ a.storable = true ∧ K (.ptr O.length 1 0 0) (O ++ [.live t s [a]])
theorem boxK_eq (t s : Nat) (a : AV) (O : List AObj) (K : KT) : boxK t s a O K = (a.cells.length = s ∧ a.storable = true ∧ k1 (.ptr O.length 1 0 0) (O ++ [.live t s [a]]) K) := nr rfl
def bldK (z : List AV) (ps : List (Nat × Nat × AV)) (O : List AObj) (K : KT) : Prop := match ps with
  | [] => K (.agg z) O
  | (off, size, x) :: r => x.cells.length = size ∧ (x.isCell || x.isAgg) = true ∧ off + size ≤ z.length ∧ bldK (z.take off ++ x.cells ++ z.drop (off + size)) r O K
theorem bldK_nil (z : List AV) (O : List AObj) (K : KT) : bldK z [] O K = k1 (.agg z) O K := by simp [bldK, k1]
theorem bldK_cons (z : List AV) (off size : Nat) (x : AV) (r : List (Nat × Nat × AV)) (O : List AObj) (K : KT) :
    bldK z ((off, size, x) :: r) O K = (x.cells.length = size ∧ (x.isCell || x.isAgg) = true ∧ off + size ≤ z.length ∧ bldK (z.take off ++ x.cells ++ z.drop (off + size)) r O K) := by rw [bldK]
theorem buildK_bld {e : Env} {O : List AObj} {K : KT} : ∀ (ps : List (Nat × Nat × Opd)) (z : List AV), buildK e z ps (fun a => K a O) = bldK z (ps.map fun p => (p.1, p.2.1, p.2.2.ev e)) O K
  | [], z => by simp [buildK, bldK]
  | (off, size, x) :: r, z => by simp only [buildK, List.map_cons, bldK, buildK_bld r]
def bslK (t s : Nat) (len : Nat) (xs : List AV) (ps : List (Nat × AV)) (O : List AObj) (K : KT) : Prop := match ps with
  | [] => K (.row O.length len) (O ++ [.live t s xs])
  | (i, x) :: r => x.cells.length = s ∧ x.storable = true ∧ i < xs.length ∧ bslK t s len (xs.set i x) r O K
theorem bslK_nil (t s len : Nat) (z : List AV) (O : List AObj) (K : KT) : bslK t s len z [] O K = k1 (.row O.length len) (O ++ [.live t s z]) K := by simp [bslK, k1]
theorem bslK_cons (t s len : Nat) (z : List AV) (i : Nat) (x : AV) (r : List (Nat × AV)) (O : List AObj) (K : KT) :
    bslK t s len z ((i, x) :: r) O K = (x.cells.length = s ∧ x.storable = true ∧ i < z.length ∧ bslK t s len (z.set i x) r O K) := by rw [bslK]
theorem rowK_bsl {e : Env} {O : List AObj} {K : KT} (t s len : Nat) : ∀ (ps : List (Nat × Opd)) (z : List AV), rowK e s z ps (fun xs => K (.row O.length len) (O ++ [.live t s xs])) = bslK t s len z (ps.map fun p => (p.1, p.2.ev e)) O K
  | [], z => by simp [rowK, bslK]
  | (i, x) :: r, z => by simp only [rowK, List.map_cons, bslK, rowK_bsl t s len r]
/-- an object that is looked up -/
def objK (o : Option AObj) (M : Nat → Nat → List AV → Prop) : Prop := match o with
  | some (.live t s xs) => M t s xs
  | _ => False
/-- an object that is a slice -/
def objN (o : Option AObj) (N : Nat → Nat → Prop) (M : Nat → Nat → List AV → Prop) : Prop := match o with
  | some (.live t s xs) => M t s xs
  | some (.nil t s) => N t s
  | _ => False
theorem objN_live (t s : Nat) (xs : List AV) (N : Nat → Nat → Prop) (M : Nat → Nat → List AV → Prop) : objN (some (.live t s xs)) N M = M t s xs := nr rfl
theorem objN_nil (t s : Nat) (N : Nat → Nat → Prop) (M : Nat → Nat → List AV → Prop) : objN (some (.nil t s)) N M = N t s := nr rfl
theorem objK_live (t s : Nat) (xs : List AV) (M : Nat → Nat → List AV → Prop) : objK (some (.live t s xs)) M = M t s xs := nr rfl
def loadK (n : Option Nat) (a : AV) (O : List AObj) (K : KT) : Prop := match a with
    | .iptr y f => f + n.getD 1 ≤ y.cells.length ∧ K (loadC n y f) O
    | .ptr k len i f => objK O[k]? fun _ _ xs => xs.length = len ∧ i < len ∧ f + n.getD 1 ≤ (xs.getD i .top).cells.length ∧ K (loadC n (xs.getD i .top) f) O
    | _ => False
theorem loadK_iptr (n : Option Nat) (y : AV) (f : Nat) (O : List AObj) (K : KT) : loadK n (.iptr y f) O K = (f + n.getD 1 ≤ y.cells.length ∧ k1 (loadC n y f) O K) := nr rfl
theorem loadK_ptr (n : Option Nat) (k len i f : Nat) (O : List AObj) (K : KT) : loadK n (.ptr k len i f) O K = objK O[k]? fun _ _ xs => xs.length = len ∧ i < len ∧ f + n.getD 1 ≤ (xs.getD i .top).cells.length ∧ k1 (loadC n (xs.getD i .top) f) O K := nr rfl
def storeK (m : Nat) (a b : AV) (O : List AObj) (K : KT) : Prop := match a with
    | .ptr k len i f => objK O[k]? fun t s xs => xs.length = len ∧ i < len ∧ b.cells.length = m ∧ b.storable = true ∧ f + m ≤ (xs.getD i .top).cells.length ∧ K .top (O.set k (.live t s (xs.set i (upd (xs.getD i .top) f b))))
    | _ => False
theorem storeK_ptr (m k len i f : Nat) (b : AV) (O : List AObj) (K : KT) : storeK m (.ptr k len i f) b O K = objK O[k]? fun t s xs => xs.length = len ∧ i < len ∧ b.cells.length = m ∧ b.storable = true ∧ f + m ≤ (xs.getD i .top).cells.length ∧ k1 .top (O.set k (.live t s (xs.set i (upd (xs.getD i .top) f b)))) K := nr rfl
def binK (op : BinOp) (a b : AV) (O : List AObj) (K : KT) : Prop := match a, b with
    | .v x, .v y => match sbin op x y with
      | some z => K (.v z) O
      | none => False
    | _, _ => False
section
variable (k : IntKind) (a b : Int) (O : List AObj) (K : KT)
theorem binK_add : binK .add (.v (.int k a)) (.v (.int k b)) O K = k1 (.v (.int k (k.wrap (a + b)))) O K := by simp [binK, sbin, ibin, BinOp.isShift, k1]
theorem binK_sub : binK .sub (.v (.int k a)) (.v (.int k b)) O K = k1 (.v (.int k (k.wrap (a - b)))) O K := by simp [binK, sbin, ibin, BinOp.isShift, k1]
theorem binK_mul : binK .mul (.v (.int k a)) (.v (.int k b)) O K = k1 (.v (.int k (k.wrap (a * b)))) O K := by simp [binK, sbin, ibin, BinOp.isShift, k1]
theorem binK_and : binK .and (.v (.int k a)) (.v (.int k b)) O K = k1 (.v (.int k (k.wrap (BitVec.ofInt k.bits a &&& BitVec.ofInt k.bits b).toNat))) O K := by simp [binK, sbin, ibin, BinOp.isShift, k1]
theorem binK_or : binK .or (.v (.int k a)) (.v (.int k b)) O K = k1 (.v (.int k (k.wrap (BitVec.ofInt k.bits a ||| BitVec.ofInt k.bits b).toNat))) O K := by simp [binK, sbin, ibin, BinOp.isShift, k1]
theorem binK_xor : binK .xor (.v (.int k a)) (.v (.int k b)) O K = k1 (.v (.int k (k.wrap (BitVec.ofInt k.bits a ^^^ BitVec.ofInt k.bits b).toNat))) O K := by simp [binK, sbin, ibin, BinOp.isShift, k1]
theorem binK_quo : binK .quo (.v (.int k a)) (.v (.int k b)) O K = (b ≠ 0 ∧ k1 (.v (.int k (k.wrap (a.tdiv b)))) O K) := by
  by_cases h : b = 0 <;> simp [binK, sbin, ibin, BinOp.isShift, k1, h]
theorem binK_rem : binK .rem (.v (.int k a)) (.v (.int k b)) O K = (b ≠ 0 ∧ k1 (.v (.int k (a.tmod b))) O K) := by
  by_cases h : b = 0 <;> simp [binK, sbin, ibin, BinOp.isShift, k1, h]
theorem binK_eql : binK .eql (.v (.int k a)) (.v (.int k b)) O K = k1 (.v (.bool (decide (a = b)))) O K := by
  have : (a == b) = decide (a = b) := by by_cases h : a = b <;> simp [h]
  simp [binK, sbin, ibin, BinOp.isShift, k1, this]
theorem binK_neq : binK .neq (.v (.int k a)) (.v (.int k b)) O K = k1 (.v (.bool (!decide (a = b)))) O K := by
  have : (a != b) = !decide (a = b) := by by_cases h : a = b <;> simp [h]
  simp [binK, sbin, ibin, BinOp.isShift, k1, this]
theorem binK_lss : binK .lss (.v (.int k a)) (.v (.int k b)) O K = k1 (.v (.bool (decide (a < b)))) O K := by simp [binK, sbin, ibin, BinOp.isShift, k1]
theorem binK_leq : binK .leq (.v (.int k a)) (.v (.int k b)) O K = k1 (.v (.bool (decide (a ≤ b)))) O K := by simp [binK, sbin, ibin, BinOp.isShift, k1]
theorem binK_gtr : binK .gtr (.v (.int k a)) (.v (.int k b)) O K = k1 (.v (.bool (decide (b < a)))) O K := by simp [binK, sbin, ibin, BinOp.isShift, k1]
theorem binK_geq : binK .geq (.v (.int k a)) (.v (.int k b)) O K = k1 (.v (.bool (decide (b ≤ a)))) O K := by simp [binK, sbin, ibin, BinOp.isShift, k1]
theorem binK_shl (k' : IntKind) : binK .shl (.v (.int k a)) (.v (.int k' b)) O K = (0 ≤ b ∧ k1 (.v (.int k (k.wrap (a * 2 ^ (min b.toNat k.bits))))) O K) := by
  by_cases h : 0 ≤ b <;> simp [binK, sbin, shbin, BinOp.isShift, k1, h]
theorem binK_shr (k' : IntKind) : binK .shr (.v (.int k a)) (.v (.int k' b)) O K = (0 ≤ b ∧ k1 (.v (.int k (a.fdiv (2 ^ (min b.toNat k.bits))))) O K) := by
  by_cases h : 0 ≤ b <;> simp [binK, sbin, shbin, BinOp.isShift, k1, h]
end
theorem toList_beq (a b : ByteArray) : (a.toList == b.toList) = decide (a = b) := by
  rw [data_toList, data_toList]
  by_cases h : a = b
  · simp [h]
  · have : ¬ a.data = b.data := fun h' => h (by cases a; cases b; simpa using h')
    simp [h, this]
section
variable (a b : ByteArray) (O : List AObj) (K : KT)
theorem binK_sadd : binK .add (.v (.string a)) (.v (.string b)) O K = (((a.size + b.size : Nat) : Int) ≤ 9223372036854775807 ∧ k1 (.v (.string (a ++ b))) O K) := by
  have h3 : IntKind.i64.max = 9223372036854775807 := by decide
  by_cases h : ((a.size + b.size : Nat) : Int) ≤ 9223372036854775807
  · simp only [binK, sbin, stbin, k1, h3, if_pos h, h, if_true, true_and]
  · simp only [binK, sbin, stbin, k1, h3, if_neg h, h, if_false, false_and]
theorem binK_seql : binK .eql (.v (.string a)) (.v (.string b)) O K = k1 (.v (.bool (decide (a = b)))) O K := by simp [binK, sbin, stbin, k1, toList_beq]
theorem binK_sneq : binK .neq (.v (.string a)) (.v (.string b)) O K = k1 (.v (.bool (!decide (a = b)))) O K := by simp [binK, sbin, stbin, k1, toList_beq]
end
def unK (op : UnOp) (a : AV) (O : List AObj) (K : KT) : Prop := match a with
    | .v x => match sun op x with
      | some z => K (.v z) O
      | none => False
    | _ => False
theorem unK_not (b : Bool) (O : List AObj) (K : KT) : unK .not (.v (.bool b)) O K = k1 (.v (.bool (!b))) O K := nr rfl
theorem unK_neg (k : IntKind) (n : Int) (O : List AObj) (K : KT) : unK .neg (.v (.int k n)) O K = k1 (.v (.int k (k.wrap (-n)))) O K := by simp [unK, sun, k1]
def convK (k : IntKind) (a : AV) (O : List AObj) (K : KT) : Prop := match a with
    | .v (.int _ n) => K (.v (.int k (k.wrap n))) O
    | _ => False
theorem convK_eq (k k' : IntKind) (n : Int) (O : List AObj) (K : KT) : convK k (.v (.int k' n)) O K = k1 (.v (.int k (k.wrap n))) O K := nr rfl
def faddrK (off : Nat) (a : AV) (O : List AObj) (K : KT) : Prop := match a with
    | .iptr y f => K (.iptr y (f + off)) O
    | .ptr n len i f => objK O[n]? fun _ _ xs => xs.length = len ∧ K (.ptr n len i (f + off)) O
    | _ => False
theorem faddrK_iptr (off : Nat) (y : AV) (f : Nat) (O : List AObj) (K : KT) : faddrK off (.iptr y f) O K = k1 (.iptr y (f + off)) O K := nr rfl
theorem faddrK_ptr (off n len i f : Nat) (O : List AObj) (K : KT) : faddrK off (.ptr n len i f) O K = objK O[n]? fun _ _ xs => xs.length = len ∧ k1 (.ptr n len i (f + off)) O K := nr rfl
def fldK (off : Nat) (n : Option Nat) (a : AV) (O : List AObj) (K : KT) : Prop := a.isAgg = true ∧ off + n.getD 1 ≤ a.cells.length ∧ K (loadC n a off) O
theorem fldK_eq (off : Nat) (n : Option Nat) (a : AV) (O : List AObj) (K : KT) : fldK off n a O K = (a.isAgg = true ∧ off + n.getD 1 ≤ a.cells.length ∧ k1 (loadC n a off) O K) := nr rfl
def iaddrK (s : Nat) (a i : AV) (O : List AObj) (K : KT) : Prop := match a, i with
    | .sl xs, .v (.int _ i) => 0 ≤ i ∧ i < xs.length ∧ (xs.getD i.toNat .top).cells.length = s ∧ K (.iptr (xs.getD i.toNat .top) 0) O
    | .row n len, .v (.int _ i) => objK O[n]? fun _ s' xs => s' = s ∧ xs.length = len ∧ 0 ≤ i ∧ i < len ∧ K (.ptr n len i.toNat 0) O
    | _, _ => False
theorem iaddrK_sl (s : Nat) (xs : List AV) (k : IntKind) (i : Int) (O : List AObj) (K : KT) : iaddrK s (.sl xs) (.v (.int k i)) O K = (0 ≤ i ∧ i < xs.length ∧ (xs.getD i.toNat .top).cells.length = s ∧ k1 (.iptr (xs.getD i.toNat .top) 0) O K) := nr rfl
theorem iaddrK_row (s n len : Nat) (k : IntKind) (i : Int) (O : List AObj) (K : KT) : iaddrK s (.row n len) (.v (.int k i)) O K = objK O[n]? fun _ s' xs => s' = s ∧ xs.length = len ∧ 0 ≤ i ∧ i < len ∧ k1 (.ptr n len i.toNat 0) O K := nr rfl
def idxSK (a i : AV) (O : List AObj) (K : KT) : Prop := match a, i with
    | .v (.string s), .v (.int _ i) => 0 ≤ i ∧ i < s.size ∧ K (.v (.int .u8 (s.data.toList.getD i.toNat 0).toNat)) O
    | _, _ => False
theorem idxSK_eq (s : ByteArray) (k : IntKind) (i : Int) (O : List AObj) (K : KT) : idxSK (.v (.string s)) (.v (.int k i)) O K = (0 ≤ i ∧ i < s.size ∧ k1 (.v (.int .u8 (s.data.toList.getD i.toNat 0).toNat)) O K) := nr rfl
def bnd (d : Int) (x : Option AV) (M : Int → Prop) : Prop := match x with
  | none => M d
  | some (.v (.int _ i)) => M i
  | _ => False
theorem bnd_none (d : Int) (M : Int → Prop) : bnd d none M = M d := nr rfl
theorem bnd_some (d : Int) (k : IntKind) (i : Int) (M : Int → Prop) : bnd d (some (.v (.int k i))) M = M i := nr rfl
theorem boundK_bnd (d : Int) (e : Env) (x : Option Opd) (M : Int → Prop) : boundK d e x M = bnd d (x.map (Opd.ev e)) M := by
  cases x with
  | none => rfl
  | some o =>
    simp only [boundK, bnd, Option.map_some]
    cases o.ev e <;> try rfl
    rename_i v; cases v <;> rfl
def sliceSK (a : AV) (lo hi : Option AV) (O : List AObj) (K : KT) : Prop := match a with
    | .v (.string s) => bnd 0 lo fun l => bnd s.size hi fun h => 0 ≤ l ∧ l ≤ h ∧ h ≤ s.size ∧ K (.v (.string (s.extract l.toNat h.toNat))) O
    | _ => False
theorem sliceSK_eq (s : ByteArray) (lo hi : Option AV) (O : List AObj) (K : KT) : sliceSK (.v (.string s)) lo hi O K = bnd 0 lo fun l => bnd s.size hi fun h => 0 ≤ l ∧ l ≤ h ∧ h ≤ s.size ∧ k1 (.v (.string (s.extract l.toNat h.toNat))) O K := nr rfl
def sliceLK (s : Nat) (a : AV) (lo hi : Option AV) (O : List AObj) (K : KT) : Prop := match a with
    | .sl xs => bnd 0 lo fun l => bnd xs.length hi fun h => 0 ≤ l ∧ l ≤ h ∧ h ≤ xs.length ∧ (∀ y ∈ xs, y.cells.length = s) ∧ K (.sl ((xs.take h.toNat).drop l.toNat)) O
    | _ => False
theorem sliceLK_eq (s : Nat) (xs : List AV) (lo hi : Option AV) (O : List AObj) (K : KT) : sliceLK s (.sl xs) lo hi O K = bnd 0 lo fun l => bnd xs.length hi fun h => 0 ≤ l ∧ l ≤ h ∧ h ≤ xs.length ∧ (∀ y ∈ xs, y.cells.length = s) ∧ k1 (.sl ((xs.take h.toNat).drop l.toNat)) O K := nr rfl
def mkK (t s bytes : Nat) (z a b : AV) (O : List AObj) (K : KT) : Prop := match a, b with
    | .v (.int .i64 n), .v (.int .i64 c) => 0 ≤ n ∧ n ≤ c ∧ bytes * c ≤ 2 ^ 48 ∧ c ≤ maxLen ∧ K (.row O.length n.toNat) (O ++ [.live t s (List.replicate n.toNat z)])
    | _, _ => False
theorem mkK_eq (t s bytes : Nat) (z : AV) (n c : Int) (O : List AObj) (K : KT) : mkK t s bytes z (.v (.int .i64 n)) (.v (.int .i64 c)) O K = (0 ≤ n ∧ n ≤ c ∧ bytes * c ≤ 281474976710656 ∧ c ≤ 9223372036854775807 ∧ k1 (.row O.length n.toNat) (O ++ [.live t s (List.replicate n.toNat z)]) K) := by
  have h1 : ((2 : Int) ^ 48) = 281474976710656 := by decide
  have h2 : ((maxLen : Nat) : Int) = 9223372036854775807 := by decide
  simp only [mkK, h1, h2, k1]
def lenSK (a : AV) (O : List AObj) (K : KT) : Prop := match a with
    | .v (.string s) => K (.v (.int .i64 s.size)) O
    | _ => False
theorem lenSK_eq (s : ByteArray) (O : List AObj) (K : KT) : lenSK (.v (.string s)) O K = k1 (.v (.int .i64 s.size)) O K := nr rfl
def lenLK (a : AV) (O : List AObj) (K : KT) : Prop := match a with
    | .nils => K (.v (.int .i64 0)) O
    | .sl xs => K (.v (.int .i64 xs.length)) O
    | .row n len => objN O[n]? (fun _ _ => len = 0 ∧ K (.v (.int .i64 0)) O) fun _ _ xs => xs.length = len ∧ K (.v (.int .i64 len)) O
    | _ => False
theorem lenLK_nils (O : List AObj) (K : KT) : lenLK .nils O K = k1 (.v (.int .i64 0)) O K := nr rfl
theorem lenLK_sl (xs : List AV) (O : List AObj) (K : KT) : lenLK (.sl xs) O K = k1 (.v (.int .i64 xs.length)) O K := nr rfl
theorem lenLK_row (n len : Nat) (O : List AObj) (K : KT) : lenLK (.row n len) O K = objN O[n]? (fun _ _ => len = 0 ∧ k1 (.v (.int .i64 0)) O K) fun _ _ xs => xs.length = len ∧ k1 (.v (.int .i64 len)) O K := nr rfl
def srcOf (O : List AObj) (y : AV) (M : List AV → Prop) : Prop := match y with
  | .nils => M []
  | .sl ys => M ys
  | .row n len => objN O[n]? (fun _ _ => len = 0 ∧ M []) fun _ _ xs => xs.length = len ∧ M xs
  | _ => False
theorem srcOf_nils (O : List AObj) (M : List AV → Prop) : srcOf O .nils M = M [] := nr rfl
theorem srcOf_sl (O : List AObj) (ys : List AV) (M : List AV → Prop) : srcOf O (.sl ys) M = M ys := nr rfl
theorem srcOf_row (O : List AObj) (n len : Nat) (M : List AV → Prop) : srcOf O (.row n len) M = objN O[n]? (fun _ _ => len = 0 ∧ M []) fun _ _ xs => xs.length = len ∧ M xs := nr rfl
def ontoK (O : List AObj) (x : AV) (t s bytes : Nat) (ys : List AV) (K : KT) : Prop := match x with
  | .nils => ys.length * bytes ≤ 140737488355328 ∧ ys.length ≤ maxLen ∧ (ys = [] → K .nils O) ∧ (ys ≠ [] → K (.row O.length ys.length) (O ++ [.live t s ys]))
  | .row n len => objN O[n]? (fun t' s' => t' = t ∧ s' = s ∧ len = 0 ∧ ys.length * bytes ≤ 140737488355328 ∧ ys.length ≤ maxLen ∧ (ys = [] → K (.row n 0) O) ∧ (ys ≠ [] → K (.row n ys.length) (O.set n (.live t s ys)))) fun t' s' xs => t' = t ∧ s' = s ∧ xs.length = len ∧ (len + ys.length) * bytes ≤ 140737488355328 ∧ len + ys.length ≤ maxLen ∧
        K (.row n (len + ys.length)) (O.set n (.live t s (xs ++ ys)))
  | _ => False
theorem ontoK_nils1 (O : List AObj) (t s bytes : Nat) (y : AV) (ys : List AV) (K : KT) : ontoK O .nils t s bytes (y :: ys) K = ((y :: ys).length * bytes ≤ 140737488355328 ∧ (y :: ys).length ≤ maxLen ∧ k1 (.row O.length (y :: ys).length) (O ++ [.live t s (y :: ys)]) K) := by
  simp [ontoK, k1]
theorem ontoK_nils (O : List AObj) (t s bytes : Nat) (ys : List AV) (K : KT) : ontoK O .nils t s bytes ys K = (ys.length * bytes ≤ 140737488355328 ∧ ys.length ≤ maxLen ∧ (ys = [] → k1 .nils O K) ∧ (ys ≠ [] → k1 (.row O.length ys.length) (O ++ [.live t s ys]) K)) := nr rfl
theorem ontoK_row (O : List AObj) (n len t s bytes : Nat) (ys : List AV) (K : KT) : ontoK O (.row n len) t s bytes ys K = objN O[n]? (fun t' s' => t' = t ∧ s' = s ∧ len = 0 ∧ ys.length * bytes ≤ 140737488355328 ∧ ys.length ≤ maxLen ∧ (ys = [] → k1 (.row n 0) O K) ∧ (ys ≠ [] → k1 (.row n ys.length) (O.set n (.live t s ys)) K)) fun t' s' xs => t' = t ∧ s' = s ∧ xs.length = len ∧ (len + ys.length) * bytes ≤ 140737488355328 ∧ len + ys.length ≤ maxLen ∧
        k1 (.row n (len + ys.length)) (O.set n (.live t s (xs ++ ys))) K := nr rfl
def extK (a : AV) (i : Nat) (O : List AObj) (K : KT) : Prop := match a with
    | .tup vs => i < vs.length ∧ K (vs.getD i .top) O
    | _ => False
theorem extK_eq (vs : List AV) (i : Nat) (O : List AObj) (K : KT) : extK (.tup vs) i O K = (i < vs.length ∧ k1 (vs.getD i .top) O K) := nr rfl
def nilcK (a : AV) (O : List AObj) (K : KT) : Prop := match a with
    | .iptr y f => K (.iptr y f) O
    | .fn f caps => K (.fn f caps) O
    | .ptr n len i f => objK O[n]? fun _ _ xs => xs.length = len ∧ K (.ptr n len i f) O
    | _ => False
theorem nilcK_iptr (y : AV) (f : Nat) (O : List AObj) (K : KT) : nilcK (.iptr y f) O K = k1 (.iptr y f) O K := nr rfl
theorem nilcK_fn (f : FuncId) (cs : List AV) (O : List AObj) (K : KT) : nilcK (.fn f cs) O K = k1 (.fn f cs) O K := nr rfl
theorem nilcK_ptr (n len i f : Nat) (O : List AObj) (K : KT) : nilcK (.ptr n len i f) O K = objK O[n]? fun _ _ xs => xs.length = len ∧ k1 (.ptr n len i f) O K := nr rfl
/- calls: the walk stands still here -/
def callK (P : Program) (f : FuncId) (args : List AV) (O : List AObj) (K : KT) : Prop := ∃ res O', Con P f args O res O' ∧ K res O'
theorem callK_intro {P : Program} {f : FuncId} {args : List AV} {O : List AObj} {K : KT} (res : AV) (O' : List AObj) (h : Con P f args O res O') (k : k1 res O' K) : callK P f args O K := ⟨res, O', h, k⟩
def qcallK (P : Program) (f : FuncId) (args : List AV) (O : List AObj) (K : KT) : Prop := ∃ res, AV.norefs args = true ∧ PCon P f args res ∧ K res O
theorem qcallK_intro {P : Program} {f : FuncId} {args : List AV} {O : List AObj} {K : KT} (res : AV) (h : PCon P f args res) (hn : AV.norefs args = true) (k : k1 res O K) : qcallK P f args O K := ⟨res, hn, h, k⟩
/-- args: as they are; fargs: with what was frozen -/
def pcallK (P : Program) (f : FuncId) (fargs args : List AV) (O : List AObj) (K : KT) : Prop := ∃ res, AV.norefs fargs = true ∧ PCon P f fargs res ∧ K res (aft O args res)
theorem pcallK_intro {P : Program} {f : FuncId} {fargs args : List AV} {O : List AObj} {K : KT} (res : AV) (h : PCon P f fargs res) (hn : AV.norefs fargs = true) (k : k1 res (aft O args res) K) : pcallK P f fargs args O K := ⟨res, hn, h, k⟩
def callvK (P : Program) (x : AV) (args : List AV) (O : List AObj) (K : KT) : Prop := match x with
  | .fn f caps => callK P f (args ++ caps) O K
  | _ => False
theorem callvK_fn (P : Program) (f : FuncId) (caps args : List AV) (O : List AObj) (K : KT) : callvK P (.fn f caps) args O K = callK P f (args ++ caps) O K := nr rfl
def qcallvK (P : Program) (x : AV) (args : List AV) (O : List AObj) (K : KT) : Prop := match x with
  | .fn f caps => qcallK P f (args ++ caps) O K
  | _ => False
theorem qcallvK_fn (P : Program) (f : FuncId) (caps args : List AV) (O : List AObj) (K : KT) : qcallvK P (.fn f caps) args O K = qcallK P f (args ++ caps) O K := nr rfl
def pcallvK (P : Program) (x : AV) (fargs args : List AV) (O : List AObj) (K : KT) : Prop := match x with
  | .fn f caps => pcallK P f (fargs ++ caps) args O K
  | _ => False
theorem pcallvK_fn (P : Program) (f : FuncId) (caps fargs args : List AV) (O : List AObj) (K : KT) : pcallvK P (.fn f caps) fargs args O K = pcallK P f (fargs ++ caps) args O K := nr rfl
section
variable (P : Program) (e : Env) (O : List AObj) (K : KT)
theorem o_mov (x : Opd) : wpOp P (.mov x) e O K = k1 (x.ev e) O K := nr rfl
theorem o_pick (c a b : Opd) : wpOp P (.pick c a b) e O K = pickK (c.ev e) (a.ev e) (b.ev e) O K := nr rfl
theorem o_alloc (t s : Nat) (z : AV) : wpOp P (.alloc t s z) e O K = k1 (.ptr O.length 1 0 0) (O ++ [.live t s [z]]) K := nr rfl
theorem o_box (t s : Nat) (x : Opd) : wpOp P (.box t s x) e O K = boxK t s (x.ev e) O K := nr rfl
theorem o_build (z : List AV) (ps : List (Nat × Nat × Opd)) : wpOp P (.build z ps) e O K = bldK z (ps.map fun p => (p.1, p.2.1, p.2.2.ev e)) O K := buildK_bld ps z
theorem o_buildSlice (t s len : Nat) (z : AV) (ps : List (Nat × Opd)) : wpOp P (.buildSlice t s len z ps) e O K = bslK t s len (List.replicate len z) (ps.map fun p => (p.1, p.2.ev e)) O K := rowK_bsl t s len ps _
theorem o_load (n : Option Nat) (x : Opd) : wpOp P (.load n x) e O K = loadK n (x.ev e) O K := by
  simp only [wpOp, loadK]; cases x.ev e <;> first | rfl | (rename_i k l i f; cases O[k]? with | none => rfl | some o => cases o <;> rfl)
theorem o_store (m : Nat) (x y : Opd) : wpOp P (.store m x y) e O K = storeK m (x.ev e) (y.ev e) O K := by
  simp only [wpOp, storeK]; cases x.ev e <;> first | rfl | (rename_i k l i f; cases O[k]? with | none => rfl | some o => cases o <;> rfl)
theorem o_bin (op : BinOp) (x y : Opd) : wpOp P (.bin op x y) e O K = binK op (x.ev e) (y.ev e) O K := nr rfl
theorem o_un (op : UnOp) (x : Opd) : wpOp P (.un op x) e O K = unK op (x.ev e) O K := nr rfl
theorem o_conv (k : IntKind) (x : Opd) : wpOp P (.convInt k x) e O K = convK k (x.ev e) O K := nr rfl
theorem o_faddr (off : Nat) (x : Opd) : wpOp P (.faddr off x) e O K = faddrK off (x.ev e) O K := by
  simp only [wpOp, faddrK]; cases x.ev e <;> first | rfl | (rename_i k l i f; cases O[k]? with | none => rfl | some o => cases o <;> rfl)
theorem o_fld (off : Nat) (n : Option Nat) (x : Opd) : wpOp P (.fld off n x) e O K = fldK off n (x.ev e) O K := nr rfl
def aaddrK (m s : Nat) (a i : AV) (O : List AObj) (K : KT) : Prop := match a, i with
  | .iptr y f, .v (.int _ i) => 0 ≤ i ∧ i < m ∧ K (.iptr y (f + i.toNat * s)) O
  | .ptr n len j f, .v (.int _ i) => objK O[n]? fun _ _ xs => xs.length = len ∧ 0 ≤ i ∧ i < m ∧ K (.ptr n len j (f + i.toNat * s)) O
  | _, _ => False
theorem aaddrK_iptr (m s : Nat) (y : AV) (f : Nat) (k : IntKind) (i : Int) (O : List AObj) (K : KT) : aaddrK m s (.iptr y f) (.v (.int k i)) O K = (0 ≤ i ∧ i < m ∧ k1 (.iptr y (f + i.toNat * s)) O K) := nr rfl
theorem aaddrK_ptr (m s n len j f : Nat) (k : IntKind) (i : Int) (O : List AObj) (K : KT) : aaddrK m s (.ptr n len j f) (.v (.int k i)) O K = objK O[n]? fun _ _ xs => xs.length = len ∧ 0 ≤ i ∧ i < m ∧ k1 (.ptr n len j (f + i.toNat * s)) O K := nr rfl
theorem o_aaddr (m s : Nat) (x y : Opd) : wpOp P (.aaddr m s x y) e O K = aaddrK m s (x.ev e) (y.ev e) O K := by
  simp only [wpOp, aaddrK]; cases x.ev e <;> cases y.ev e <;> first | rfl | (rename_i v; cases v <;> first | rfl | (rename_i n len _ _ _ _; cases O[n]? with | none => rfl | some o => cases o <;> rfl))
theorem o_iaddr (s : Nat) (x y : Opd) : wpOp P (.iaddr s x y) e O K = iaddrK s (x.ev e) (y.ev e) O K := by
  simp only [wpOp, iaddrK]; cases x.ev e <;> cases y.ev e <;> first | rfl | (rename_i v; cases v <;> first | rfl | (rename_i n len _ _; cases O[n]? with | none => rfl | some o => cases o <;> rfl))
theorem o_idxS (x y : Opd) : wpOp P (.idxS x y) e O K = idxSK (x.ev e) (y.ev e) O K := nr rfl
theorem o_sliceS (x : Opd) (lo hi : Option Opd) : wpOp P (.sliceS x lo hi) e O K = sliceSK (x.ev e) (lo.map (Opd.ev e)) (hi.map (Opd.ev e)) O K := by simp only [wpOp, sliceSK, boundK_bnd]; cases x.ev e <;> first | rfl | (rename_i v; cases v <;> rfl)
theorem o_sliceL (s : Nat) (x : Opd) (lo hi : Option Opd) : wpOp P (.sliceL s x lo hi) e O K = sliceLK s (x.ev e) (lo.map (Opd.ev e)) (hi.map (Opd.ev e)) O K := by simp only [wpOp, sliceLK, boundK_bnd]; cases x.ev e <;> rfl
theorem o_mk (t s b : Nat) (z : AV) (x y : Opd) : wpOp P (.mk t s b z x y) e O K = mkK t s b z (x.ev e) (y.ev e) O K := nr rfl
theorem o_lenS (x : Opd) : wpOp P (.lenS x) e O K = lenSK (x.ev e) O K := nr rfl
theorem o_lenL (x : Opd) : wpOp P (.lenL x) e O K = lenLK (x.ev e) O K := by
  simp only [wpOp, lenLK]; cases x.ev e <;> first | rfl | (rename_i k l; cases O[k]? with | none => rfl | some o => cases o <;> rfl)
theorem o_app (t s b : Nat) (x y : Opd) : wpOp P (.app t s b x y) e O K = srcOf O (y.ev e) fun ys => (∀ y ∈ ys, y.cells.length = s) ∧ ontoK O (x.ev e) t s b ys K := by
  have h : ∀ ys, appK O (x.ev e) t s b ys K = ontoK O (x.ev e) t s b ys K := by
    intro ys; unfold appK ontoK; cases x.ev e <;> first | rfl | (rename_i k l; cases O[k]? with | none => rfl | some o => cases o <;> rfl)
  simp only [wpOp, h]
  unfold srcK srcOf; cases y.ev e <;> first | rfl | (rename_i k l; cases O[k]? with | none => rfl | some o => cases o <;> rfl)
theorem o_ext (x : Opd) (i : Nat) : wpOp P (.ext x i) e O K = extK (x.ev e) i O K := nr rfl
theorem o_nilc (x : Opd) : wpOp P (.nilc x) e O K = nilcK (x.ev e) O K := by
  simp only [wpOp, nilcK]; cases x.ev e <;> first | rfl | (rename_i k l i f; cases O[k]? with | none => rfl | some o => cases o <;> rfl)
theorem o_mkfn (f : FuncId) (cs : List Opd) : wpOp P (.mkfn f cs) e O K = k1 (.fn f (cs.map (Opd.ev e))) O K := nr rfl
theorem o_call (f : FuncId) (as : List Opd) : wpOp P (.call f as) e O K = callK P f (as.map (Opd.ev e)) O K := nr rfl
theorem o_callv (x : Opd) (as : List Opd) : wpOp P (.callv x as) e O K = callvK P (x.ev e) (as.map (Opd.ev e)) O K := nr rfl
theorem o_pcall (f : FuncId) (as : List Opd) : wpOp P (.pcall f as) e O K = pcallK P f (as.map fun x => frz O (x.ev e)) (as.map (Opd.ev e)) O K := nr rfl
theorem o_pcallv (x : Opd) (as : List Opd) : wpOp P (.pcallv x as) e O K = pcallvK P (x.ev e) (as.map fun x => frz O (x.ev e)) (as.map (Opd.ev e)) O K := nr rfl
theorem o_qcall (f : FuncId) (as : List Opd) : wpOp P (.qcall f as) e O K = qcallK P f (as.map (Opd.ev e)) O K := nr rfl
theorem o_qcallv (x : Opd) (as : List Opd) : wpOp P (.qcallv x as) e O K = qcallvK P (x.ev e) (as.map (Opd.ev e)) O K := nr rfl
end
/- what comes behind, by name: nothing of it is looked at before its time -/
def kont (P : Program) (d : Option Nat) (e : Env) (r : List AOper) (Q : Env → List AObj → Prop) : KT := fun x O' => Go.Ab.wpOps P r (setD e d x) O' Q
theorem k1_kont (P : Program) (d : Option Nat) (e : Env) (r : List AOper) (Q : Env → List AObj → Prop) (a : AV) (O : List AObj) : k1 a O (kont P d e r Q) = Go.Ab.wpOps P r (setD e d a) O Q := nr rfl
theorem wpOps_kont (P : Program) (d : Option Nat) (op : AOp) (e : Env) (O : List AObj) (r : List AOper) (Q : Env → List AObj → Prop) : Go.Ab.wpOps P (⟨none, d, op⟩ :: r) e O Q = wpOp P op e O (kont P d e r Q) := nr rfl
def gopK (P : Program) (a : AV) (want : Bool) (t : Nat) (d : Option Nat) (op : AOp) (r : List AOper) (e : Env) (O : List AObj) (Q : Env → List AObj → Prop) : Prop := match a with
  | .v (.bool b) =>
    (b = want → wpOp P op (e.set t (.v (.bool want))) O (kont P d (e.set t (.v (.bool want))) r Q)) ∧
    (b = !want → Go.Ab.wpOps P r (setD (e.set t (.v (.bool (!want)))) d (.tup [])) O Q)
  | .tup [] => Go.Ab.wpOps P r (setD e d (.tup [])) O Q
  | _ => False
section
variable (P : Program) (t : Nat) (d : Option Nat) (op : AOp) (r : List AOper) (e : Env) (O : List AObj) (Q : Env → List AObj → Prop)
theorem c_guard (want : Bool) : Go.Ab.wpOps P (⟨some (t, want), d, op⟩ :: r) e O Q = gopK P (e t) want t d op r e O Q := by
  rw [wpOps_guard]; unfold gopK; cases e t <;> try rfl
theorem gopK_tt : gopK P (.v (.bool true)) true t d op r e O Q = wpOp P op (e.set t (.v (.bool true))) O (kont P d (e.set t (.v (.bool true))) r Q) := by simp [gopK]
theorem gopK_ff : gopK P (.v (.bool false)) false t d op r e O Q = wpOp P op (e.set t (.v (.bool false))) O (kont P d (e.set t (.v (.bool false))) r Q) := by simp [gopK]
theorem gopK_tf : gopK P (.v (.bool true)) false t d op r e O Q = Go.Ab.wpOps P r (setD (e.set t (.v (.bool true))) d (.tup [])) O Q := by simp [gopK]
theorem gopK_ft : gopK P (.v (.bool false)) true t d op r e O Q = Go.Ab.wpOps P r (setD (e.set t (.v (.bool false))) d (.tup [])) O Q := by simp [gopK]
theorem gopK_skip (want : Bool) : gopK P (.tup []) want t d op r e O Q = Go.Ab.wpOps P r (setD e d (.tup [])) O Q := by simp [gopK]
variable {P t d op r e O Q}
end
def condK (P : Program) (n0 : Nat) (a : AV) (t f : ACode) (Q : AX → Env → List AObj → Prop) (e : Env) (O : List AObj) : Prop := match a with
  | .v (.bool b) => (b = true → wpC P n0 t Q e O) ∧ (b = false → wpC P n0 f Q e O)
  | _ => False
def seqQ (P : Program) (n0 : Nat) (b : ACode) (Q : AX → Env → List AObj → Prop) : AX → Env → List AObj → Prop := fun x e O => match x with | .normal => wpC P n0 b Q e O | x => Q x e O
def blockQ (id : Nat) (Q : AX → Env → List AObj → Prop) : AX → Env → List AObj → Prop := fun x e O => match x with | .exit i => if i = id then Q .normal e O else Q (.exit i) e O | x => Q x e O
def keepQ (l : List Nat) (Q : AX → Env → List AObj → Prop) : AX → Env → List AObj → Prop := fun x e O => match x with | .normal => Q .normal (keepE l e) O | x => Q x e O
section
variable (P : Program) (n0 : Nat) (Q : AX → Env → List AObj → Prop) (e : Env) (O : List AObj)
theorem c_cond (c : Opd) (t f : ACode) : wpC P n0 (.cond c t f) Q e O = condK P n0 (c.ev e) t f Q e O := nr rfl
theorem condK_true (t f : ACode) : condK P n0 (.v (.bool true)) t f Q e O = wpC P n0 t Q e O := by simp [condK]
theorem condK_false (t f : ACode) : condK P n0 (.v (.bool false)) t f Q e O = wpC P n0 f Q e O := by simp [condK]
theorem c_seq (a b : ACode) : wpC P n0 (.seq a b) Q e O = wpC P n0 a (seqQ P n0 b Q) e O := nr rfl
theorem c_block (id : Nat) (b : ACode) : wpC P n0 (.block id b) Q e O = wpC P n0 b (blockQ id Q) e O := nr rfl
theorem c_keep (l : List Nat) (c : ACode) : wpC P n0 (.keep l c) Q e O = wpC P n0 c (keepQ l Q) e O := nr rfl
theorem seqQ_n (b : ACode) : seqQ P n0 b Q .normal e O = wpC P n0 b Q e O := nr rfl
theorem seqQ_e (b : ACode) (i : Nat) : seqQ P n0 b Q (.exit i) e O = Q (.exit i) e O := nr rfl
theorem seqQ_r (b : ACode) : seqQ P n0 b Q .ret e O = Q .ret e O := nr rfl
theorem blockQ_n (id : Nat) : blockQ id Q .normal e O = Q .normal e O := nr rfl
theorem blockQ_e (id i : Nat) : blockQ id Q (.exit i) e O = if i = id then Q .normal e O else Q (.exit i) e O := nr rfl
theorem blockQ_r (id : Nat) : blockQ id Q .ret e O = Q .ret e O := nr rfl
theorem keepQ_n (l : List Nat) : keepQ l Q .normal e O = Q .normal (keepE l e) O := nr rfl
theorem keepQ_e (l : List Nat) (i : Nat) : keepQ l Q (.exit i) e O = Q (.exit i) e O := nr rfl
theorem keepQ_r (l : List Nat) : keepQ l Q .ret e O = Q .ret e O := nr rfl
variable {P n0 Q e O}
theorem condK_intro {b : Bool} {t f : ACode} (h : b = true → wpC P n0 t Q e O) (h' : b = false → wpC P n0 f Q e O) : condK P n0 (.v (.bool b)) t f Q e O := ⟨h, h'⟩
end
section
variable {ι : Type} (n0 : Nat) (D : ι → Prop) (σ : ι → Env) (τ : ι → List AObj) (μ : ι → Nat) (i : ι) (Q : AX → Env → List AObj → Prop) (e : Env) (O : List AObj)
theorem roundQ_e (k : Nat) : roundQ n0 D σ τ μ i Q (.exit k) e O = Q (.exit k) e O := nr rfl
theorem roundQ_r : roundQ n0 D σ τ μ i Q .ret e O = Q .ret e O := nr rfl
variable {n0 D σ τ μ i Q e O}
theorem roundQ_intro (j : ι) (h : D j) (h1 : μ j < μ i) (h2 : WK n0 e O (σ j) (τ j)) : roundQ n0 D σ τ μ i Q .normal e O := ⟨j, h, h1, h2⟩
end
def loopK (P : Program) (n0 : Nat) (Q : AX → Env → List AObj → Prop) (e : Env) (O : List AObj) (b : ACode) : Prop := wpC P n0 (.loop b) Q e O
theorem c_loop (P : Program) (n0 : Nat) (Q : AX → Env → List AObj → Prop) (e : Env) (O : List AObj) (b : ACode) : wpC P n0 (.loop b) Q e O = loopK P n0 Q e O b := nr rfl
theorem loopK_intro {P : Program} {n0 : Nat} {b : ACode} {Q : AX → Env → List AObj → Prop} {e : Env} {O : List AObj} {ι : Type} (D : ι → Prop) (σ : ι → Env) (τ : ι → List AObj) (μ : ι → Nat) (i0 : ι)
    (hd : D i0) (h0 : WK n0 e O (σ i0) (τ i0)) (hr : ∀ i, D i → wpC P n0 b (roundQ n0 D σ τ μ i Q) (σ i) (τ i)) : loopK P n0 Q e O b := wpC_loop D σ τ μ i0 hd h0 hr
theorem loadC_whole {m : Nat} {x : AV} (h : x.isAgg = true) (h' : x.cells.length = m) : loadC (some m) x 0 = x := by simp [loadC, h, h']
theorem loadC_none (x : AV) (f : Nat) : loadC none x f = x.cells.getD f .top := nr rfl
theorem upd_whole {x y : AV} (h : y.cells.length = x.cells.length) : upd x 0 y = y := by simp [upd, h]
theorem cells_agg (cs : List AV) : (AV.agg cs).cells = cs := nr rfl
theorem cells_v (x : Value) : (AV.v x).cells = [.v x] := nr rfl
theorem cells_nils : AV.nils.cells = [.nils] := nr rfl
theorem cells_sl (xs : List AV) : (AV.sl xs).cells = [.sl xs] := nr rfl
theorem cells_row (n l : Nat) : (AV.row n l).cells = [.row n l] := nr rfl
theorem cells_ptr (n l i f : Nat) : (AV.ptr n l i f).cells = [.ptr n l i f] := nr rfl
theorem cells_fn (f : FuncId) (cs : List AV) : (AV.fn f cs).cells = [.fn f cs] := nr rfl
theorem isAgg_agg (cs : List AV) : (AV.agg cs).isAgg = true := nr rfl
theorem isCell_v (x : Value) : (AV.v x).isCell = true := nr rfl
theorem isCell_nils : AV.nils.isCell = true := nr rfl
theorem isCell_sl (xs : List AV) : (AV.sl xs).isCell = true := nr rfl
theorem isCell_row (n l : Nat) : (AV.row n l).isCell = true := nr rfl
theorem isCell_ptr (n l i f : Nat) : (AV.ptr n l i f).isCell = true := nr rfl
theorem isCell_fn (f : FuncId) (cs : List AV) : (AV.fn f cs).isCell = true := nr rfl
theorem storable_agg (cs : List AV) : (AV.agg cs).storable = cs.all AV.isCell := nr rfl
theorem storable_v (x : Value) : (AV.v x).storable = true := nr rfl
theorem storable_nils : AV.nils.storable = true := nr rfl
theorem storable_sl (xs : List AV) : (AV.sl xs).storable = true := nr rfl
theorem storable_row (n l : Nat) : (AV.row n l).storable = true := nr rfl
theorem storable_ptr (n l i f : Nat) : (AV.ptr n l i f).storable = true := nr rfl
theorem storable_fn (f : FuncId) (cs : List AV) : (AV.fn f cs).storable = true := nr rfl
theorem frz_noref {O : List AObj} {a : AV} (h : a.noref = true) : frz O a = a := by
  cases a <;> first | rfl | (simp [AV.noref] at h; done)
theorem aft_flat {O : List AObj} {args : List AV} {res : AV} (h : res.flat = true) : aft O args res = O := by simp [aft, h]
theorem aft_norefs {O : List AObj} {args : List AV} {res : AV} (h : AV.norefs args = true) : aft O args res = O := by
  unfold aft
  split
  · rfl
  · induction args with
    | nil => rfl
    | cons a as ih =>
      simp only [AV.norefs, Bool.and_eq_true] at h
      have : killRow O a = O := by cases a <;> first | rfl | (simp [AV.noref] at h; done)
      simp only [List.foldl_cons, this]
      exact ih h.2
theorem flat_v (x : Value) : (AV.v x).flat = true := nr rfl
theorem norefs_nil : AV.norefs [] = true := nr rfl
theorem norefs_cons (x : AV) (xs : List AV) : AV.norefs (x :: xs) = (x.noref && AV.norefs xs) := nr rfl
theorem noref_v (x : Value) : (AV.v x).noref = true := nr rfl
theorem noref_sl (xs : List AV) : (AV.sl xs).noref = AV.norefs xs := nr rfl
theorem noref_agg (xs : List AV) : (AV.agg xs).noref = AV.norefs xs := nr rfl
theorem noref_tup (xs : List AV) : (AV.tup xs).noref = AV.norefs xs := nr rfl
theorem noref_nils : AV.nils.noref = true := nr rfl
theorem noref_fn (f : FuncId) (cs : List AV) : (AV.fn f cs).noref = AV.norefs cs := nr rfl
theorem wrap_id {n : Int} (h : -9223372036854775808 ≤ n) (h' : n ≤ 9223372036854775807) : IntKind.i64.wrap n = n := by
  rw [IntKind.wrap_i64]; omega
/- what a function gives back -/
section
variable (n0 : Nat) (rs : List ARes) (res : AV) (O' : List AObj) (e : Env) (O : List AObj)
end
/-- one result in a slot: the objects that were made are forgotten -/
theorem ret_tmp {n0 t : Nat} {res : AV} {O' : List AObj} {x : AX} (hx : x = .ret ∨ x = .normal) {e : Env} {O : List AObj} (h : e t = res) (hO : O.take n0 = O') (hk : n0 ≤ O.length) (hb : ∀ ob ∈ O', ob.inScope n0 = true) (hs : res.inScope n0 = true) :
    retK n0 [.tmp t] res O' x e O := by
  have : resK e O [.tmp t] [] fun xs => ∃ e', WK n0 (fun t => if t = 0 then packR xs else .top) O e' O' ∧ e' 0 = res := by
    simp only [resK, ARes.get, List.reverse_cons, List.reverse_nil, List.nil_append, packR]
    refine ⟨fun t => if t = 0 then res else .top, WK.forget hO (Nat.le_refl _) hk hb fun t => ?_, rfl⟩
    by_cases ht : t = 0
    · subst ht; exact .inr ⟨by simp [h], by simpa using hs⟩
    · exact .inl (by simp [ht])
  rcases hx with rfl | rfl <;> exact this
/-- a call that touches nothing: nothing was there -/
theorem pret_tmp {t : Nat} {res : AV} {x : AX} (hx : x = .ret ∨ x = .normal) {e : Env} {O : List AObj} (h : e t = res) (hs : res.noref = true) : retK 0 [.tmp t] res [] x e O :=
  ret_tmp hx h rfl (Nat.zero_le _) (by simp) (noref_scoped _ hs)
end Go.Ab
