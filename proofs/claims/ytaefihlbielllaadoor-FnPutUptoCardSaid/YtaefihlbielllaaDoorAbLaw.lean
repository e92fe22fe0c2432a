/-
  FROM A CONTRACT OF A LAW TO ITS STATEMENT: what the arguments read; the law's ending.
-/
import Derived.Test.YtaefihlbielllaaDoorAbM3
import Derived.WideKeyArgs
import Derived.ChangeSame
import Derived.OpenShut
import Derived.JoinedCond
import Derived.ChangeArms
set_option linter.unusedVariables false
set_option linter.unusedSimpArgs false
set_option linter.defProp false
namespace Go.Ab
open Go.ChangeShapes Go.WideShapes
section
variable {H : Type} {enc : TypeId × Value → H} {P : Program}
theorem trodAll_stays (hl : laidOutB P = true) {W W' : World} {sp' : Nat → Bool} : ∀ {ts : List TypeId} {vs : List Value} {ds : List (DataW H)} {ps : List MemPlace}, (∀ t ∈ ts, P.readableRec t = true ∧ t < P.types.size) →
    DataW.TrodAll enc P W 0 (fun _ => true) true ts vs ds ps → (∀ p ∈ ps, W.sameAt W' p) → (∀ p ∈ ps, sp' p.block = true) → DataW.TrodAll enc P W' 0 sp' true ts vs ds ps
  | [], _, _, _, _, h, _, _ => by
    obtain ⟨rfl, rfl, rfl⟩ := trodAll_nil h
    exact trodAll_mk0
  | t :: ts, _, _, _, ht, h, hs, hp => by
    obtain ⟨v, vs, d, ds, p, q, rfl, rfl, rfl, h0, h1⟩ := trodAll_cons h
    obtain ⟨a, b⟩ := ht t List.mem_cons_self
    exact ⟨p, q, WideElems.Trod_stays hl a b h0 (fun x hx => hs x (List.mem_append_left _ hx)) (fun x hx => hp x (List.mem_append_left _ hx)),
      trodAll_stays hl (fun t' h' => ht t' (List.mem_cons_of_mem _ h')) h1 (fun x hx => hs x (List.mem_append_right _ hx)) (fun x hx => hp x (List.mem_append_right _ hx)), rfl⟩
/-- THE END OF A LAW: it says true, and nothing that was there has turned. -/
theorem law_post {f : Func} {s : ChangeSpec} {apart fresh handsOn again : Bool} {W W' : World} {args : Array Value} {ds gs : List (DataW H)} {before : List MemPlace} (hl : laidOutB P = true)
    (hts : ∀ t ∈ f.params.toList, P.readableRec t = true ∧ t < P.types.size) (hv : s.vars = []) (hW : DataW.Whole enc P f.params.toList s.vars apart W args.toList ds gs before) (hb : RowKit.Below W.heap.size W W')
    {t : TypeId} (hr : f.resultTypes = #[t]) (ht : P.underlying t = some .bool) (hfn : s.fn H (ds ++ gs) = { results := [.lit (.bool true)], args := ds }) :
    s.post enc P f apart fresh handsOn again W args (.bool true) W' := by
  have hlt := hW.lt
  have hold : ∀ p ∈ before, (fun b => decide (b < W.heap.size)) p.block = true := fun p hp => by simpa using hlt p hp
  have hW0 := hW
  obtain ⟨p, q, hA, hV, rfl, hz, hn⟩ := hW0
  rw [hv] at hV
  obtain ⟨rfl, rfl⟩ := trodVars_none hV
  have hst : ∀ sp : Nat → Bool, (∀ x ∈ p, sp x.block = true) → DataW.TrodAll enc P W' 0 sp true f.params.toList args.toList ds p := fun sp hsp =>
    trodAll_stays hl hts hA (fun x hx => hb.same (hlt x (List.mem_append_left _ hx))) hsp
  have hres : ∀ (b : Nat) (sp : Nat → Bool) (hd : Bool), DataW.TrodAll enc P W' b sp hd f.resultTypes.toList ((Value.bool true).resultList f.resultTypes.size) [.lit (.bool true)] [] := by
    intro b sp hd
    rw [hr]
    refine trodAll_mk1 ⟨1, ?_⟩
    simp [DataW.trod, ht, Value.cells]
  have hvars : ∀ sp : Nat → Bool, DataW.TrodVars enc P W' sp s.vars [] [] := by
    intro sp
    rw [hv]
    exact rfl
  refine ⟨ds, [], p ++ [], [], p, [], hW, by rw [hfn]; exact hres _ _ _, by rw [hfn]; exact hst _ (fun x hx => hold x (List.mem_append_left _ hx)), by rw [hfn]; exact hvars _, World.keptBut_mono (fun x hx => hx) (hb.frame _), fun _ => ?_⟩
  refine ⟨?_, [.lit (.bool true)] ++ ds, [], ([] ++ p) ++ [], ⟨[] ++ p, [], trodAll_append (hst _ (fun _ _ => rfl)) (hres _ _ _), hvars _, rfl, ?_, ?_⟩, ?_⟩
  · intro j t' r h1 h2
    rw [hr] at h1 h2
    cases j with
    | zero =>
      simp [Value.resultList] at h1 h2
      subst h1; subst h2
      exact RowKit.okWide_bool_mk ht true
    | succ j => simp at h1
  · intro b off hp
    have hp' : MemPlace.cell b off ∈ p ++ [] := by simpa using hp
    rw [hb.frozen (hlt _ hp')]
    exact hz b off hp'
  · intro ha
    have := hn ha
    simpa using this
  · intro x hx _
    simpa using hx
/- WHAT THE ARGUMENTS READ -/
mutual
/-- how many values and letters a reading holds (the statements' own count) -/
def bulk : DataW H → Nat
  | .lit (.string bytes) => bytes.length + 1
  | .lit _ => 1
  | .nil => 1
  | .ptr d => bulk d + 1
  | .slice elems spare => bulkAll elems + bulkAll spare + 1
  | .agg parts => bulkAll parts + 1
  | .iface _ d => bulk d + 1
  | .map _ => 1
  | .held _ => 1
def bulkAll : List (DataW H) → Nat
  | [] => 0
  | d :: r => bulk d + bulkAll r
end
/-- all of memory, as it stands -/
def memI (w : World) : Imm := fun b o => w.cell? ⟨b, o, none⟩
theorem memI_inv (L : Nat → Loc) (w : World) (hf : ∀ p ∈ fixedCells, w.cell? ⟨p.1, p.2.1, none⟩ = some p.2.2) (hq : ∀ q ∈ fixedBlks, blkSize w q.1 = some q.2 ∧ ∃ v, memI w q.1 0 = some v ∧ fixOk q.1 v = true) : Inv (memI w) L [] w := ⟨fun _ _ _ h => h, by simp, by simp, by simp, hf, hq, .no (by simp)⟩
/-- cells and what is said of them -/
def RdC (w : World) (as : List AV) (cs : List Value) : Prop :=
  as.length = cs.length ∧ ∀ (j : Nat) c y, as[j]? = some c → cs[j]? = some y → y.oneCell' = true ∧ ∀ L, R (memI w) L [] c y
theorem RdC.one {w : World} {a : AV} {y : Value} (h : y.oneCell' = true) (hr : ∀ L, R (memI w) L [] a y) : RdC w [a] [y] := by
  refine ⟨rfl, fun j c z hc hz => ?_⟩
  cases j with
  | zero => simp at hc hz; subst hc; subst hz; exact ⟨h, hr⟩
  | succ j => simp at hc
theorem RdC.append {w : World} {as bs : List AV} {cs ds : List Value} (h : RdC w as cs) (k : RdC w bs ds) : RdC w (as ++ bs) (cs ++ ds) := by
  refine ⟨by simp [h.1, k.1], fun j c y hc hy => ?_⟩
  by_cases hj : j < as.length
  · rw [List.getElem?_append_left hj] at hc
    rw [List.getElem?_append_left (by rw [← h.1]; exact hj)] at hy
    exact h.2 j c y hc hy
  · rw [List.getElem?_append_right (by omega)] at hc
    rw [List.getElem?_append_right (by rw [← h.1]; omega), ← h.1] at hy
    exact k.2 _ c y hc hy
/-- a part of the cells, and the rest -/
theorem RdC.part {w : World} {as bs : List AV} {cs : List Value} (o n : Nat) (h : RdC w as ((cs.drop o).take n)) (k : RdC w bs (cs.drop (o + n))) : RdC w (as ++ bs) (cs.drop o) := by
  have := h.append k
  rwa [← List.drop_drop, List.take_append_drop] at this
/-- EVERY READING OF TYPE t IS ONE OF OURS. -/
def Rd (enc : TypeId × Value → H) (P : Program) (w : World) (f : Nat) (t : TypeId) {α : Type} (cells : α → List AV) (wt : α → Nat) (ok : α → Prop) : Prop :=
  ∀ cs x, DataW.trod enc P w 0 (fun _ => true) true f t cs = some x → ∃ y : α, RdC w (cells y) cs ∧ wt y ≤ bulk x.1 ∧ ok y
theorem rd_int {w : World} {f : Nat} {t : TypeId} {k : IntKind} (ht : P.underlying t = some (.int k)) : Rd enc P w f t (fun n : Int => [.v (.int k n)]) (fun _ => 1) (fun n => k.min ≤ n ∧ n ≤ k.max) := by
  intro cs x h
  obtain ⟨n, rfl, rfl, hw⟩ := DataW.trod_int ht h
  exact ⟨n, .one rfl fun L => .v _ rfl, Nat.le_refl _, by simpa [Lit.wf] using hw⟩
theorem bulk_sum {α : Type} {wt : α → Nat} : ∀ {l : List α} {ds : List (DataW H)}, l.length = ds.length → (∀ (i : Nat) a d, l[i]? = some a → ds[i]? = some d → wt a ≤ bulk d) → (l.map wt).sum ≤ bulkAll ds
  | [], [], _, _ => Nat.le_refl _
  | a :: l, d :: ds, hl, h => by
    have h0 := h 0 a d rfl rfl
    have h1 := bulk_sum (l := l) (ds := ds) (by simpa using hl) fun i a d ha hd => h (i + 1) a d ha hd
    simp only [List.map_cons, List.sum_cons, bulkAll]
    omega
  | [], _ :: _, hl, _ => by simp at hl
  | _ :: _, [], hl, _ => by simp at hl
theorem choose_list {α : Type} {n : Nat} {p : Nat → α → Prop} (h : ∀ i, i < n → ∃ a, p i a) : ∃ l : List α, l.length = n ∧ ∀ (i : Nat) a, l[i]? = some a → p i a := by
  induction n with
  | zero => exact ⟨[], rfl, by simp⟩
  | succ n ih =>
    obtain ⟨l, hl, hp⟩ := ih fun i hi => h i (Nat.lt_succ_of_lt hi)
    obtain ⟨a, ha⟩ := h n (Nat.lt_succ_self n)
    refine ⟨l ++ [a], by simp [hl], fun i b hb => ?_⟩
    by_cases hi : i < l.length
    · rw [List.getElem?_append_left hi] at hb; exact hp i b hb
    · rw [List.getElem?_append_right (by omega)] at hb
      have : i = n := by
        have := (List.getElem?_eq_some_iff.1 hb).1
        simp at this; omega
      subst this
      simp [hl] at hb
      subst hb; exact ha
/-- a slice of what is ours. av: an element as one value; its cells are 'cells'. -/
theorem rd_slice {w : World} {f : Nat} {t e : TypeId} {α : Type} {av : α → AV} {wt : α → Nat} {ok : α → Prop} (ht : P.underlying t = some (.slice e)) (hs : 0 < P.cellsOf e) (he : ∀ n, f = n + 1 → Rd enc P w n e (fun a => (av a).cells) wt ok) :
    Rd enc P w f t (fun l : List α => [.sl (l.map av)]) (fun l => (l.map wt).sum + 1) (fun l => ∀ a ∈ l, ok a) := by
  intro cs x h
  rcases DataW.trod_slice ht h with ⟨rfl, rfl⟩ | ⟨a, len, cap, elems, rest, n, rfl, rfl, rfl, hb, hl, hc, hn, hel, _, _⟩
  · exact ⟨[], .one rfl fun L => .sl0 _ _, by simp [bulk], by simp⟩
  · replace he := he n rfl
    have key : ∀ i, i < len → ∃ y : α, ∃ cs d, w.cells? 0 (a.add (i * P.cellsOf e)) (P.cellsOf e) = some cs ∧ elems[i]? = some d ∧ RdC w (av y).cells cs ∧ wt y ≤ bulk d.1 ∧ ok y := by
      intro i hi
      have h1 := hel i hi
      have h2 : elems[i]? = some elems[i] := by simp [hn, hi]
      rw [h2, Option.bind_eq_some_iff] at h1
      obtain ⟨cs, hcs, ht⟩ := h1
      obtain ⟨y, q1, q2, q3⟩ := he cs _ ht
      exact ⟨y, cs, _, hcs, h2, q1, q2, q3⟩
    obtain ⟨l, hll, hp⟩ := choose_list key
    refine ⟨l, .one rfl fun L => ?_, ?_, fun y hy => ?_⟩
    · by_cases h0 : l = []
      · subst h0
        simp at hll
        subst hll
        exact .sl0 _ _
      · obtain ⟨b, off, spot⟩ := a
        have hpos : 0 < len := by
          rw [← hll]
          exact List.length_pos_iff.2 h0
        have hspot : spot = none := by
          obtain ⟨y, cs, d, hcs, _, hr, _⟩ := key 0 hpos
          obtain ⟨_, hlen, hcell⟩ := World.cells?_some hcs
          have h1 := hcell 0 hs
          have h2 : cs[0]? = some cs[0] := by simp [hlen, hs]
          rw [h2] at h1
          simpa [Addr.add] using World.cell?_spot h1
        subst hspot
        have hget : ∀ {i : Nat} {x : AV}, (l.map av)[i]? = some x → ∃ y, l[i]? = some y ∧ x = av y := by
          intro i x hx
          simp only [List.getElem?_map, Option.map_eq_some_iff] at hx
          obtain ⟨y, hy, rfl⟩ := hx
          exact ⟨y, hy, rfl⟩
        have kk : ∀ (i : Nat) (y : α), l[i]? = some y → (av y).cells.length = P.cellsOf e ∧ ∀ (j : Nat) (c : AV), (av y).cells[j]? = some c → ∃ z, w.cell? ⟨b, off + i * P.cellsOf e + j, none⟩ = some z ∧ z.oneCell' = true ∧ ∀ L, R (memI w) L [] c z := by
          intro i y hy
          obtain ⟨cs, d, hcs, _, hr, _⟩ := hp i y hy
          obtain ⟨_, hlen, hcell⟩ := World.cells?_some hcs
          refine ⟨by rw [hr.1, hlen], fun j c hc => ?_⟩
          have hj : j < cs.length := by rw [← hr.1]; exact (List.getElem?_eq_some_iff.1 hc).1
          have h1 := hcell j (by omega)
          have h2 : cs[j]? = some cs[j] := by simp [hj]
          rw [h2] at h1
          obtain ⟨q1, q2⟩ := hr.2 j c _ hc h2
          refine ⟨_, ?_, q1, q2⟩
          rw [add_plain, add_plain] at h1
          exact h1
        rw [show len = (l.map av).length by simp [hll]]
        refine .sl (l.map av) b off cap (P.cellsOf e) (fun i j => (w.cell? ⟨b, off + i * P.cellsOf e + j, none⟩).getD undef) (by simp [hll]; exact hl) (by simpa using h0) (fun i x hx => ?_) (fun i x j c hx hc => ?_) (fun i x j c hx hc => ?_)
        · obtain ⟨y, hy, rfl⟩ := hget hx
          exact (kk i y hy).1
        · obtain ⟨y, hy, rfl⟩ := hget hx
          obtain ⟨z, hz, ho, _⟩ := (kk i y hy).2 j c hc
          unfold memI
          rw [hz]
          exact ⟨rfl, ho⟩
        · obtain ⟨y, hy, rfl⟩ := hget hx
          obtain ⟨z, hz, ho, hr⟩ := (kk i y hy).2 j c hc
          rw [hz]
          exact hr L
    · have : (l.map wt).sum ≤ bulkAll (elems.map (·.1)) := bulk_sum (by simp [hll, hn]) fun i a d ha hd => by
        obtain ⟨cs, d', _, hd', _, hw, _⟩ := hp i a ha
        simp [hd'] at hd
        subst hd; exact hw
      simp only [bulk]
      omega
    · obtain ⟨i, hi⟩ := List.getElem?_of_mem hy
      obtain ⟨_, _, _, _, _, _, h⟩ := hp i y hi
      exact h
/-- one field of a struct -/
theorem fld {w : World} {n : Nat} {cs : List Value} {fs : Array Field} {xs : List (DataW H × List MemPlace)}
    (hf : ∀ (i : Nat) (f : Field), fs[i]? = some f → DataW.trod enc P w 0 (fun _ => true) true n f.type ((cs.drop f.offset).take (P.cellsOf f.type)) = xs[i]?)
    (i : Nat) {f : Field} (h : fs[i]? = some f) {t : TypeId} {o s : Nat} (ht : f.type = t) (ho : f.offset = o) (hs : P.cellsOf t = s) : DataW.trod enc P w 0 (fun _ => true) true n t ((cs.drop o).take s) = xs[i]? := by
  have := hf i f h
  rwa [ht, ho, hs] at this
end
end Go.Ab
