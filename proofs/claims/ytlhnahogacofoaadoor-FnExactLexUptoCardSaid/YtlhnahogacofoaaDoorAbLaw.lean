/-
  FROM A CONTRACT OF A LAW TO ITS STATEMENT: what the arguments read; the law's ending.
-/
import Derived.Test.YtlhnahogacofoaaDoorAbM3
import Derived.WideKeyArgs
import Derived.ChangeSame
import Derived.OpenShut
import Derived.JoinedCond
import Derived.ChangeArms
set_option linter.unusedVariables false
set_option linter.unusedSimpArgs false
set_option linter.defProp false
namespace Go.Ab
open Go.ChangeShapes Go.WideShapes
section
variable {H : Type} {enc : TypeId × Value → H} {P : Program}
theorem trodAll_stays (hl : laidOutB P = true) {W W' : World} {sp' : Nat → Bool} : ∀ {ts : List TypeId} {vs : List Value} {ds : List (DataW H)} {ps : List MemPlace}, (∀ t ∈ ts, P.readableRec t = true ∧ t < P.types.size) →
    DataW.TrodAll enc P W 0 (fun _ => true) true ts vs ds ps → (∀ p ∈ ps, W.sameAt W' p) → (∀ p ∈ ps, sp' p.block = true) → DataW.TrodAll enc P W' 0 sp' true ts vs ds ps
  | [], _, _, _, _, h, _, _ => by
    obtain ⟨rfl, rfl, rfl⟩ := trodAll_nil h
    exact trodAll_mk0
  | t :: ts, _, _, _, ht, h, hs, hp => by
    obtain ⟨v, vs, d, ds, p, q, rfl, rfl, rfl, h0, h1⟩ := trodAll_cons h
    obtain ⟨a, b⟩ := ht t List.mem_cons_self
    exact ⟨p, q, WideElems.Trod_stays hl a b h0 (fun x hx => hs x (List.mem_append_left _ hx)) (fun x hx => hp x (List.mem_append_left _ hx)),
      trodAll_stays hl (fun t' h' => ht t' (List.mem_cons_of_mem _ h')) h1 (fun x hx => hs x (List.mem_append_right _ hx)) (fun x hx => hp x (List.mem_append_right _ hx)), rfl⟩
/-- THE END OF A LAW: it says true, and nothing that was there has turned. -/
theorem law_post {f : Func} {s : ChangeSpec} {apart fresh handsOn again : Bool} {W W' : World} {args : Array Value} {ds gs : List (DataW H)} {before : List MemPlace} (hl : laidOutB P = true)
    (hts : ∀ t ∈ f.params.toList, P.readableRec t = true ∧ t < P.types.size) (hv : s.vars = []) (hW : DataW.Whole enc P f.params.toList s.vars apart W args.toList ds gs before) (hb : RowKit.Below W.heap.size W W')
    {t : TypeId} (hr : f.resultTypes = #[t]) (ht : P.underlying t = some .bool) (hfn : s.fn H (ds ++ gs) = { results := [.lit (.bool true)], args := ds }) :
    s.post enc P f apart fresh handsOn again W args (.bool true) W' := by
  have hlt := hW.lt
  have hold : ∀ p ∈ before, (fun b => decide (b < W.heap.size)) p.block = true := fun p hp => by simpa using hlt p hp
  have hW0 := hW
  obtain ⟨p, q, hA, hV, rfl, hz, hn⟩ := hW0
  rw [hv] at hV
  obtain ⟨rfl, rfl⟩ := trodVars_none hV
  have hst : ∀ sp : Nat → Bool, (∀ x ∈ p, sp x.block = true) → DataW.TrodAll enc P W' 0 sp true f.params.toList args.toList ds p := fun sp hsp =>
    trodAll_stays hl hts hA (fun x hx => hb.same (hlt x (List.mem_append_left _ hx))) hsp
  have hres : ∀ (b : Nat) (sp : Nat → Bool) (hd : Bool), DataW.TrodAll enc P W' b sp hd f.resultTypes.toList ((Value.bool true).resultList f.resultTypes.size) [.lit (.bool true)] [] := by
    intro b sp hd
    rw [hr]
    refine trodAll_mk1 ⟨1, ?_⟩
    simp [DataW.trod, ht, Value.cells]
  have hvars : ∀ sp : Nat → Bool, DataW.TrodVars enc P W' sp s.vars [] [] := by
    intro sp
    rw [hv]
    exact rfl
  refine ⟨ds, [], p ++ [], [], p, [], hW, by rw [hfn]; exact hres _ _ _, by rw [hfn]; exact hst _ (fun x hx => hold x (List.mem_append_left _ hx)), by rw [hfn]; exact hvars _, World.keptBut_mono (fun x hx => hx) (hb.frame _), fun _ => ?_⟩
  refine ⟨?_, [.lit (.bool true)] ++ ds, [], ([] ++ p) ++ [], ⟨[] ++ p, [], trodAll_append (hst _ (fun _ _ => rfl)) (hres _ _ _), hvars _, rfl, ?_, ?_⟩, ?_⟩
  · intro j t' r h1 h2
    rw [hr] at h1 h2
    cases j with
    | zero =>
      simp [Value.resultList] at h1 h2
      subst h1; subst h2
      exact RowKit.okWide_bool_mk ht true
    | succ j => simp at h1
  · intro b off hp
    have hp' : MemPlace.cell b off ∈ p ++ [] := by simpa using hp
    rw [hb.frozen (hlt _ hp')]
    exact hz b off hp'
  · intro ha
    have := hn ha
    simpa using this
  · intro x hx _
    simpa using hx
/- WHAT THE ARGUMENTS READ -/
mutual
/-- how many values and letters a reading holds (the statements' own count) -/
def bulk : DataW H → Nat
  | .lit (.string bytes) => bytes.length + 1
  | .lit _ => 1
  | .nil => 1
  | .ptr d => bulk d + 1
  | .slice elems spare => bulkAll elems + bulkAll spare + 1
  | .agg parts => bulkAll parts + 1
  | .iface _ d => bulk d + 1
  | .map _ => 1
  | .held _ => 1
def bulkAll : List (DataW H) → Nat
  | [] => 0
  | d :: r => bulk d + bulkAll r
end
/-- all of memory, as it stands -/
def memI (w : World) : Imm := fun b o => w.cell? ⟨b, o, none⟩
theorem memI_inv (L : Nat → Loc) (w : World) (hf : ∀ p ∈ fixedCells, w.cell? ⟨p.1, p.2.1, none⟩ = some p.2.2) (hq : ∀ q ∈ fixedBlks, blkSize w q.1 = some q.2 ∧ ∃ v, memI w q.1 0 = some v ∧ fixOk q.1 v = true) : Inv (memI w) L [] w := ⟨fun _ _ _ h => h, by simp, by simp, by simp, hf, hq, .no (by simp)⟩
/-- cells and what is said of them -/
def RdC (w : World) (as : List AV) (cs : List Value) : Prop :=
  as.length = cs.length ∧ ∀ (j : Nat) c y, as[j]? = some c → cs[j]? = some y → y.oneCell' = true ∧ ∀ L, R (memI w) L [] c y
theorem RdC.nil (w : World) : RdC w [] [] := ⟨rfl, by simp⟩
theorem RdC.one {w : World} {a : AV} {y : Value} (h : y.oneCell' = true) (hr : ∀ L, R (memI w) L [] a y) : RdC w [a] [y] := by
  refine ⟨rfl, fun j c z hc hz => ?_⟩
  cases j with
  | zero => simp at hc hz; subst hc; subst hz; exact ⟨h, hr⟩
  | succ j => simp at hc
theorem RdC.append {w : World} {as bs : List AV} {cs ds : List Value} (h : RdC w as cs) (k : RdC w bs ds) : RdC w (as ++ bs) (cs ++ ds) := by
  refine ⟨by simp [h.1, k.1], fun j c y hc hy => ?_⟩
  by_cases hj : j < as.length
  · rw [List.getElem?_append_left hj] at hc
    rw [List.getElem?_append_left (by rw [← h.1]; exact hj)] at hy
    exact h.2 j c y hc hy
  · rw [List.getElem?_append_right (by omega)] at hc
    rw [List.getElem?_append_right (by rw [← h.1]; omega), ← h.1] at hy
    exact k.2 _ c y hc hy
/-- a part of the cells, and the rest -/
theorem RdC.part {w : World} {as bs : List AV} {cs : List Value} (o n : Nat) (h : RdC w as ((cs.drop o).take n)) (k : RdC w bs (cs.drop (o + n))) : RdC w (as ++ bs) (cs.drop o) := by
  have := h.append k
  rwa [← List.drop_drop, List.take_append_drop] at this
/-- EVERY READING OF TYPE t IS ONE OF OURS. -/
def Rd (enc : TypeId × Value → H) (P : Program) (w : World) (f : Nat) (t : TypeId) {α : Type} (cells : α → List AV) (wt : α → Nat) (ok : α → Prop) : Prop :=
  ∀ cs x, DataW.trod enc P w 0 (fun _ => true) true f t cs = some x → ∃ y : α, RdC w (cells y) cs ∧ wt y ≤ bulk x.1 ∧ ok y
theorem rd_string {w : World} {f : Nat} {t : TypeId} (ht : P.underlying t = some .string) : Rd enc P w f t (fun s : ByteArray => [.v (.string s)]) (fun s => s.size + 1) (fun _ => True) := by
  intro cs x h
  obtain ⟨s, rfl, rfl, _⟩ := DataW.trod_string ht h
  refine ⟨s, .one rfl fun L => .v _ rfl, ?_, trivial⟩
  simp only [bulk]
  rw [Array.length_toList]
  exact Nat.le_refl _
/-- one field of a struct -/
theorem fld {w : World} {n : Nat} {cs : List Value} {fs : Array Field} {xs : List (DataW H × List MemPlace)}
    (hf : ∀ (i : Nat) (f : Field), fs[i]? = some f → DataW.trod enc P w 0 (fun _ => true) true n f.type ((cs.drop f.offset).take (P.cellsOf f.type)) = xs[i]?)
    (i : Nat) {f : Field} (h : fs[i]? = some f) {t : TypeId} {o s : Nat} (ht : f.type = t) (ho : f.offset = o) (hs : P.cellsOf t = s) : DataW.trod enc P w 0 (fun _ => true) true n t ((cs.drop o).take s) = xs[i]? := by
  have := hf i f h
  rwa [ht, ho, hs] at this
end
end Go.Ab
