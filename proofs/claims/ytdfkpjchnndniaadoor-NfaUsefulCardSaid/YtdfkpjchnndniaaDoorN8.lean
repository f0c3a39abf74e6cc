/- My own library for walks through the translated code, part N8: laws of the model alone, no word of the program. -/
import Derived.Test.YtdfkpjchnndniaaDoorN7
import Derived.Laws.BytesArg
namespace Gx
open Go Go.RowKit
set_option linter.unusedSimpArgs false
set_option linter.unusedSectionVars false
set_option linter.unusedVariables false

/-! ### Bytes that the sets do not tell apart -/
theorem mem_fold : ∀ (l out : List BSet) (s : BSet), (s ∈ out ∨ s ∈ l) → s ∈ l.foldl addS out
  | [], out, s, h => by rcases h with h | h; exact h; cases h
  | x :: l, out, s, h => by
    refine mem_fold l (addS out x) s ?_
    unfold addS
    rcases h with h | h
    · left; split
      · exact h
      · exact List.mem_append_left _ h
    · rcases List.mem_cons.1 h with e | e
      · subst e; left; split
        · rename_i hx
          obtain ⟨y, hy, hq⟩ := List.any_eq_true.1 hx
          rw [of_decide_eq_true hq]; exact hy
        · simp
      · exact .inr e
theorem spot_set (m : Mach) {i : Nat} (hi : i < m.spots.length) : (at_ m.spots ((i : Nat) : Int)).set ∈ setsM m := by
  unfold setsM
  refine mem_fold _ _ _ (.inr ?_)
  exact List.mem_map.2 ⟨_, at_mem (by omega) (by omega), rfl⟩
def alike (m : Mach) (a b : Int) : Prop := refKey (setsM m) a.toNat = refKey (setsM m) b.toNat
theorem into_alike {m : Mach} {a b : Int} (h : alike m a b) (l : List Bool) : intoP m l a = intoP m l b := by
  unfold intoP
  refine tab_ext fun i hi => ?_
  congr 1
  unfold has
  exact ref_bit (spot_set m hi) h
theorem runTo_alike {m : Mach} {v w : ByteArray} (h : ∀ j : Nat, j < v.size → alike m (byt v ((j : Nat) : Int)) (byt w ((j : Nat) : Int))) : ∀ k, k < v.size → runTo m v k = runTo m w k
  | 0, hk => into_alike (h 0 hk) _
  | k + 1, hk => by
    show intoP m (behindP m (runTo m v k)) (byt v ((k + 1 : Nat) : Int)) = intoP m (behindP m (runTo m w k)) (byt w ((k + 1 : Nat) : Int))
    rw [runTo_alike h k (by omega)]
    exact into_alike (h (k + 1) hk) _
theorem runM_alike {m : Mach} {v w : ByteArray} (hs : v.size = w.size) (h : ∀ j : Nat, j < v.size → alike m (byt v ((j : Nat) : Int)) (byt w ((j : Nat) : Int))) : runM m v = runM m w := by
  unfold runM
  rw [← hs]
  by_cases h0 : v.size = 0
  · rw [if_pos h0, if_pos h0]
  · rw [if_neg h0, if_neg h0, runTo_alike h (v.size - 1) (by omega)]
def bytesL (w : ByteArray) : List Int := w.data.toList.map fun b => ((b.toNat : Nat) : Int)
theorem bytesL_len (w : ByteArray) : (bytesL w).length = w.size := by unfold bytesL; rw [List.length_map, Array.length_toList]; rfl
theorem bytesL_at (w : ByteArray) {j : Int} (h0 : 0 ≤ j) (h1 : j < (w.size : Int)) : at_ (bytesL w) j = byt w j := by
  unfold at_ byt bytesL
  have : j.toNat < w.data.toList.length := by have h2 : (j.toNat : Int) < ((w.data.size : Nat) : Int) := by rw [Int.toNat_of_nonneg h0]; exact h1
                                              rw [Array.length_toList]; omega
  rw [List.getD_eq_getElem?_getD, List.getElem?_map, List.getD_eq_getElem?_getD, List.getElem?_eq_getElem this]; rfl
theorem byt_nums {l : List Int} {j : Int} (h0 : 0 ≤ j) (h1 : j < (l.length : Int)) (hr : 0 ≤ at_ l j ∧ at_ l j < 256) : byt (strOfNums l) j = at_ l j := by
  have h2 := at_some h0 h1
  unfold byt
  rw [strOfNums_data, List.getD_eq_getElem?_getD, List.getElem?_map, h2]
  simp only [Option.map_some, Option.getD_some]
  obtain ⟨n, hn⟩ := Int.eq_ofNat_of_zero_le hr.1
  rw [hn] at hr ⊢
  simp
  omega
structure Alike (m : Mach) (w : ByteArray) (b : List Int) : Prop where
  len : (b.length : Int) = w.size
  is : ∀ j : Int, 0 ≤ j → j < (w.size : Int) → 0 ≤ at_ b j ∧ at_ b j < 256 ∧ alike m (byt w j) (at_ b j)
theorem alike_0 (m : Mach) (w : ByteArray) : Alike m w (bytesL w) where
  len := by rw [bytesL_len]
  is := fun j h0 h1 => by
    rw [bytesL_at w h0 h1]
    have := byt_range w j
    exact ⟨by omega, by omega, rfl⟩
theorem at_put {l : List Int} {t : Int} (h0 : 0 ≤ t) (h1 : t < (l.length : Int)) (v : Int) {i : Int} (hi : 0 ≤ i) : at_ (l.set t.toNat v) i = if i = t then v else at_ l i := by
  unfold at_
  rw [List.getD_eq_getElem?_getD, List.getElem?_set, List.getD_eq_getElem?_getD]
  by_cases h : i = t
  · rw [if_pos h, if_pos (by omega), if_pos (by omega)]; rfl
  · rw [if_neg h, if_neg (by omega)]
theorem alike_step {m : Mach} {w : ByteArray} {b : List Int} (A : Alike m w b) {i v : Int} (h0 : 0 ≤ i) (h1 : i < (b.length : Int)) (hv : 0 ≤ v ∧ v < 256) (hk : alike m (at_ b i) v) : Alike m w (b.set i.toNat v) where
  len := by rw [List.length_set]; exact A.len
  is := fun j hj0 hj1 => by
    rw [at_put h0 h1 v hj0]
    by_cases h : j = i
    · rw [if_pos h]
      subst h
      exact ⟨hv.1, hv.2, (A.is j hj0 hj1).2.2.trans hk⟩
    · rw [if_neg h]; exact A.is j hj0 hj1
theorem alike_end {m : Mach} {w : ByteArray} {b : List Int} (A : Alike m w b) : runM m w = runM m (strOfNums b) := by
  have hl := A.len
  have hs : (strOfNums b).size = b.length := strOfNums_size b
  refine runM_alike (by omega) fun j hj => ?_
  obtain ⟨h0, h1, h2⟩ := A.is ((j : Nat) : Int) (by omega) (by omega)
  rw [byt_nums (by omega) (by omega) ⟨h0, h1⟩]
  exact h2
/-- A byte's class, and what is in it. -/
theorem cls_in (l : List BSet) {c : Int} (h0 : 0 ≤ c) (h1 : c < 256) : 0 ≤ at_ (refineP l).of c ∧ at_ (refineP l).of c < ((setsP (refineP l)).length : Int) := by
  rw [ref_sets_len]
  unfold refineP
  rw [part_at _ h0 h1, part_n]
  have := idx_lt (refKey l) (c := c.toNat) (by omega)
  omega
theorem cls_some_of (l : List BSet) {c : Int} (h0 : 0 ≤ c) (h1 : c < 256) : 0 < ((listOf (at_ (setsP (refineP l)) (at_ (refineP l).of c))).length : Int) := by
  have hc := cls_in l h0 h1
  rw [ref_sets_len] at hc
  have hb : has (at_ (setsP (refineP l)) (at_ (refineP l).of c)) c = true := by rw [has_sets l hc.1 hc.2 h0 h1]; simp
  have hm : at_ (members (words (at_ (setsP (refineP l)) (at_ (refineP l).of c)))) c = true := by rw [← has_mem _ h0 h1]; exact hb
  have h2 := (list_place _ h0 h1 hm).1
  have h3 := num_le (at_ (setsP (refineP l)) (at_ (refineP l).of c)) h0
  omega
theorem cls_alike {m : Mach} {c k : Int} (h0 : 0 ≤ c) (h1 : c < 256) (hk : 0 ≤ k) (hk1 : k < ((listOf (at_ (setsP (refineP (setsM m))) (at_ (refineP (setsM m)).of c))).length : Int)) :
    (0 ≤ at_ (listOf (at_ (setsP (refineP (setsM m))) (at_ (refineP (setsM m)).of c))) k ∧ at_ (listOf (at_ (setsP (refineP (setsM m))) (at_ (refineP (setsM m)).of c))) k < 256) ∧ alike m c (at_ (listOf (at_ (setsP (refineP (setsM m))) (at_ (refineP (setsM m)).of c))) k) := by
  have hc := cls_in (setsM m) h0 h1
  rw [ref_sets_len] at hc
  obtain ⟨g0, g1, g2⟩ := list_get _ hk hk1
  refine ⟨⟨g0, g1⟩, ?_⟩
  rw [has_sets (setsM m) hc.1 hc.2 g0 g1] at g2
  have e := of_decide_eq_true g2
  generalize at_ (listOf (at_ (setsP (refineP (setsM m))) (at_ (refineP (setsM m)).of c))) k = z at g0 g1 e ⊢
  unfold refineP at e
  rw [part_at _ g0 g1, part_at _ h0 h1] at e
  unfold alike
  exact (idx_inj.1 (Int.ofNat.inj e)).symm
end Gx
