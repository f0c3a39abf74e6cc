/- My own library for walks through the translated code, part Gx3: laws of the model alone, no word of the program. -/
import Derived.Test.YtdfkpjchnndniaaDoorGx2
namespace Gx
open Go Go.RowKit

/-! ### Types -/
def aggD : TypeDesc → Bool
  | .struct _ | .array _ _ => true
  | _ => false
/-- A type: cells, bytes, is it a struct or an array, its zero value. -/
def tyInfo (P : Program) (T : TypeId) : Option (Nat × Nat × Bool × Option Value) :=
  match P.info? T, P.underlying T with
  | some i, some d => some (i.size, i.bytes, aggD d, i.zero)
  | _, _ => none
theorem tyInfo_parts {P : Program} {T : TypeId} {n b : Nat} {g : Bool} {z : Option Value} (h : tyInfo P T = some (n, b, g, z)) :
    ∃ i d, P.info? T = some i ∧ P.underlying T = some d ∧ i.size = n ∧ i.bytes = b ∧ aggD d = g ∧ i.zero = z := by
  unfold tyInfo at h
  split at h
  · rename_i i d hi hd
    simp only [Option.some.injEq, Prod.mk.injEq] at h
    exact ⟨i, d, hi, hd, h.1, h.2.1, h.2.2.1, h.2.2.2⟩
  · cases h

section
variable {P : Program} {w : World}

theorem run_isAgg {T : TypeId} {d : TypeDesc} (hd : P.underlying T = some d) : (isAgg T).run P w = .ok (aggD d) w := by
  simp only [isAgg, Sem.run_bind]
  rw [run_underlying hd]
  simp only [Result.andThen_ok]
  cases d <;> rfl
theorem rn_sizeOf {T : TypeId} {i : TypeInfo} (hi : P.info? T = some i) : (Go.sizeOf T).run P w = Result.ok i.size w := by
  simp [Go.sizeOf, typeInfo, hi, go_sem]

theorem run_loadCellsFrom (a : Addr) : ∀ (l : List Value) (i : Nat) (acc : Array Value), (∀ j u, l[j]? = some u → w.cell? (a.add (i + j)) = some u) →
    (loadCellsFrom a i l.length acc).run P w = .ok (acc ++ l.toArray) w
  | [], i, acc, _ => by simp [loadCellsFrom, go_sem]
  | v :: l, i, acc, h => by
    have h0 := h 0 v rfl
    have ih := run_loadCellsFrom a l (i + 1) (acc.push v) (fun j u hj => by have := h (j + 1) u (by simpa using hj); rwa [show i + 1 + j = i + (j + 1) by omega])
    simp only [List.length_cons, loadCellsFrom, Sem.run_bind]
    rw [show (load (a.add i)).run P w = .ok v w by
      unfold load
      simp only [Nat.add_zero] at h0
      simp only [Sem.run, h0]]
    simp only [Result.andThen_ok]
    rw [ih]
    simp
theorem run_loadCells {a : Addr} {l : List Value} {n : Nat} (hn : l.length = n) (h : ∀ j u, l[j]? = some u → w.cell? (a.add j) = some u) : (loadCells a n).run P w = .ok l.toArray w := by
  subst hn
  unfold loadCells
  rw [run_loadCellsFrom a l 0 #[] (fun j u hj => by rw [Nat.zero_add]; exact h j u hj)]
  simp

/-- The value of cells, by the type's shape. -/
def packV (g : Bool) (cs : List Value) : Value := if g then .agg cs.toArray else cs.headD undef

theorem run_loadVar {T : TypeId} {n b : Nat} {g : Bool} {z : Option Value} {a : Addr} {cs : List Value} (ht : tyInfo P T = some (n, b, g, z)) (hn : cs.length = n) (h1 : g = false → n = 1)
    (h : ∀ j u, cs[j]? = some u → w.cell? (a.add j) = some u) : (loadVar T a).run P w = .ok (packV g cs) w := by
  obtain ⟨i, d, hi, hd, hs, _, hg, _⟩ := tyInfo_parts ht
  simp only [loadVar, Sem.run_bind, run_isAgg hd, Result.andThen_ok, hg]
  cases g with
  | true =>
    simp only [if_true, Sem.run_bind, rn_sizeOf hi, Result.andThen_ok, hs]
    rw [run_loadCells hn h]
    simp [packV, go_sem]
  | false =>
    have hn1 := h1 rfl
    match cs, hn.trans hn1 with
    | [v], _ =>
      have h0 := h 0 v rfl
      have : w.cell? a = some v := by simpa [Addr.add] using h0
      simp [packV, load, Sem.run, this]

/-- A world with one block's cells changed. -/
def putBlock (w : World) (b : Nat) (T : TypeId) (cs : List Value) : World := { w with heap := w.heap.setIfInBounds b (.cells cs.toArray T (0, 0)) }
theorem putBlock_chg (w : World) (b : Nat) (T : TypeId) (cs : List Value) : Chg w (putBlock w b T cs) (fun x => x = b) where
  os := rfl
  tape := rfl
  output := rfl
  size := by simp [putBlock]
  block := fun x _ hn => by
    simp only [putBlock, Array.getElem?_setIfInBounds]
    rw [if_neg (fun e => hn e.symm)]
theorem putBlock_at {b : Nat} (hb : b < w.heap.size) (T : TypeId) (cs : List Value) : (putBlock w b T cs).heap[b]? = some (.cells cs.toArray T (0, 0)) := by
  simp [putBlock, hb]
theorem putBlock_put (w : World) (b : Nat) (T : TypeId) (cs ds : List Value) : putBlock (putBlock w b T cs) b T ds = putBlock w b T ds := by
  simp [putBlock, Array.setIfInBounds_setIfInBounds]
theorem putBlock_size (w : World) (b : Nat) (T : TypeId) (cs : List Value) : (putBlock w b T cs).heap.size = w.heap.size := by simp [putBlock]

theorem setCell_box {b off : Nat} {T : TypeId} {cs : List Value} (hb : w.heap[b]? = some (.cells cs.toArray T (0, 0))) (v : Value) : w.setCell ⟨b, off, none⟩ v = putBlock w b T (cs.set off v) := by
  have hlt : b < w.heap.size := (Array.getElem?_eq_some_iff.1 hb).1
  unfold World.setCell putBlock
  congr 1
  apply Array.ext_getElem?
  intro i
  rw [Array.getElem?_modify, Array.getElem?_setIfInBounds]
  by_cases hi : b = i
  · subst hi
    rw [if_pos rfl, if_pos rfl, hb, if_pos hlt]
    simp
  · rw [if_neg hi, if_neg hi]

theorem cell_box {b off : Nat} {T : TypeId} {cs : List Value} (hb : w.heap[b]? = some (.cells cs.toArray T (0, 0))) : w.cell? ⟨b, off, none⟩ = cs[off]? := by
  simp [World.cell?, hb]
theorem frozen_box {b off : Nat} {T : TypeId} {cs : List Value} (hb : w.heap[b]? = some (.cells cs.toArray T (0, 0))) : w.frozen? ⟨b, off, none⟩ = false := by
  simp [World.frozen?, hb]

theorem run_store_box {b off : Nat} {T : TypeId} {cs : List Value} {v : Value} (hb : w.heap[b]? = some (.cells cs.toArray T (0, 0))) (ho : off < cs.length) (h1 : v.oneCell' = true) :
    (store ⟨b, off, none⟩ v).run P w = .ok () (putBlock w b T (cs.set off v)) := by
  rw [run_store P w _ v _ h1, cell_box hb, List.getElem?_eq_getElem ho]
  simp only [frozen_box hb]
  rw [setCell_box hb]
  rfl

/-- Cells laid over cells. -/
def lput (cs : List Value) (off : Nat) : List Value → List Value
  | [] => cs
  | v :: vs => lput (cs.set off v) (off + 1) vs
theorem lput_length (vs : List Value) : ∀ (cs : List Value) (off : Nat), (lput cs off vs).length = cs.length := by
  induction vs with
  | nil => intro cs off; rfl
  | cons v vs ih => intro cs off; simp [lput, ih]
theorem lput_get (vs : List Value) : ∀ (cs : List Value) (off i : Nat), off + vs.length ≤ cs.length → (lput cs off vs)[i]? = if off ≤ i ∧ i < off + vs.length then vs[i - off]? else cs[i]? := by
  induction vs with
  | nil => intro cs off i h; rw [if_neg (by simp only [List.length_nil]; omega)]; rfl
  | cons v vs ih =>
    intro cs off i h
    simp only [List.length_cons] at h
    simp only [lput]
    rw [ih _ _ _ (by rw [List.length_set]; omega)]
    by_cases h1 : off = i
    · subst h1
      rw [if_neg (by omega), if_pos (by simp), List.getElem?_set_self (by omega)]
      simp
    · by_cases h2 : off + 1 ≤ i ∧ i < off + 1 + vs.length
      · rw [if_pos h2, if_pos (by simp; omega), show i - off = (i - (off + 1)) + 1 by omega, List.getElem?_cons_succ]
      · rw [if_neg h2, if_neg (by simp; omega), List.getElem?_set_ne h1]
theorem lput_eq (vs cs : List Value) (off : Nat) (h : off + vs.length ≤ cs.length) : lput cs off vs = cs.take off ++ vs ++ cs.drop (off + vs.length) := by
  apply List.ext_getElem?
  intro i
  rw [lput_get vs cs off i h]
  simp only [List.getElem?_append, List.length_append, List.length_take, List.getElem?_take, List.getElem?_drop]
  rw [Nat.min_eq_left (by omega)]
  by_cases h1 : i < off
  · rw [if_neg (by omega), if_pos (by omega), if_pos h1, if_pos h1]
  · by_cases h2 : i < off + vs.length
    · rw [if_pos (by omega), if_pos h2, if_neg h1]
    · rw [if_neg (by omega), if_neg h2]
      congr 1
      omega

theorem run_storeCells_box (vs : List Value) : ∀ (w : World) (b off i : Nat) (T : TypeId) (cs : List Value), w.heap[b]? = some (.cells cs.toArray T (0, 0)) → off + i + vs.length ≤ cs.length → (∀ u ∈ vs, u.oneCell' = true) →
    (storeCells ⟨b, off, none⟩ vs i).run P w = .ok () (putBlock w b T (lput cs (off + i) vs)) := by
  induction vs with
  | nil =>
    intro w b off i T cs hb hl h1
    have hlt : b < w.heap.size := (Array.getElem?_eq_some_iff.1 hb).1
    simp only [storeCells, lput]
    have : putBlock w b T cs = w := by
      unfold putBlock
      congr 1
      apply Array.ext_getElem?
      intro x
      rw [Array.getElem?_setIfInBounds]
      split
      · rename_i e; subst e; rw [hb]; try rw [if_pos hlt]
      · rfl
    rw [this]
    rfl
  | cons v vs ih =>
    intro w b off i T cs hb hl h1
    simp only [List.length_cons] at hl
    have hlt : b < w.heap.size := (Array.getElem?_eq_some_iff.1 hb).1
    have hadd : (⟨b, off, none⟩ : Addr).add i = ⟨b, off + i, none⟩ := by unfold Addr.add; split <;> simp_all
    simp only [storeCells, Sem.run_bind]
    rw [hadd, run_store_box hb (by omega) (h1 v (by simp))]
    simp only [Result.andThen_ok]
    rw [ih (putBlock w b T (cs.set (off + i) v)) b off (i + 1) T (cs.set (off + i) v) (putBlock_at hlt _ _) (by simp; omega) (fun u hu => h1 u (by simp [hu]))]
    rw [putBlock_put]
    rfl
theorem run_storeVar_box {b off : Nat} {T E : TypeId} {cs : List Value} {v : Value} {n by' : Nat} {g : Bool} {z : Option Value} (ht : tyInfo P T = some (n, by', g, z)) (hb : w.heap[b]? = some (.cells cs.toArray E (0, 0)))
    (hv : v.cells.size = n) (ho : off + n ≤ cs.length) (h1 : ∀ u ∈ v.cells.toList, u.oneCell' = true) :
    (storeVar T ⟨b, off, none⟩ v).run P w = .ok () (putBlock w b E (lput cs off v.cells.toList)) := by
  obtain ⟨i, d, hi, hd, hs, _, hg, _⟩ := tyInfo_parts ht
  simp only [storeVar, Sem.run_bind, rn_sizeOf hi, Result.andThen_ok]
  rw [if_neg (by rw [hs]; simp [hv])]
  have := run_storeCells_box (P := P) v.cells.toList w b off 0 E cs hb (by simp [hv]; omega) h1
  simpa [go_sem] using this
end
end Gx
