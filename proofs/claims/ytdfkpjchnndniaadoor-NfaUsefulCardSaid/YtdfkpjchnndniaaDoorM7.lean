/- My own library for walks through the translated code, part M7: laws of the model alone, no word of the program. -/
import Derived.Test.YtdfkpjchnndniaaDoorM6
namespace Gx
open Go Go.RowKit
set_option linter.unusedSimpArgs false
set_option linter.unusedVariables false
/-- Which bytes the first of some are. -/
def markTo (bs : List Int) (t : Int) : List Bool := (List.range 256).map fun (i : Nat) => decide (((i : Nat) : Int) ∈ bs.take t.toNat)
theorem markTo_0 (bs : List Int) : List.replicate 256 false = markTo bs 0 := by
  unfold markTo
  refine (List.eq_replicate_iff.2 ⟨by simp, ?_⟩).symm
  intro b hb
  obtain ⟨i, _, rfl⟩ := List.mem_map.1 hb
  simp
theorem take_next {α : Type} [Inhabited α] (bs : List α) {t : Int} (h0 : 0 ≤ t) (h1 : t < (bs.length : Int)) : bs.take (t + 1).toNat = bs.take t.toNat ++ [at_ bs t] := by
  rw [show (t + 1).toNat = t.toNat + 1 by omega, List.take_add_one, at_some h0 h1]; rfl
theorem at_map_range {α : Type} [Inhabited α] (f : Nat → α) (n : Nat) {i : Int} (h0 : 0 ≤ i) (h1 : i < (n : Int)) : at_ ((List.range n).map f) i = f i.toNat := by
  unfold at_
  rw [List.getD_eq_getElem?_getD, List.getElem?_map, List.getElem?_range (by omega)]; rfl
theorem list_ext {α : Type} [Inhabited α] {a b : List α} {n : Nat} (ha : a.length = n) (hb : b.length = n) (h : ∀ k : Int, 0 ≤ k → k < (n : Int) → at_ a k = at_ b k) : a = b := by
  apply List.ext_getElem?
  intro j
  by_cases hj : j < n
  · have h1 := at_some (xs := a) (i := ((j : Nat) : Int)) (by omega) (by omega)
    have h2 := at_some (xs := b) (i := ((j : Nat) : Int)) (by omega) (by omega)
    rw [Int.toNat_natCast] at h1 h2
    rw [h1, h2, h _ (by omega) (by omega)]
  · rw [List.getElem?_eq_none (by omega), List.getElem?_eq_none (by omega)]
theorem markTo_step (bs : List Int) {t : Int} (h0 : 0 ≤ t) (h1 : t < (bs.length : Int)) (hc0 : 0 ≤ at_ bs t) (hc1 : at_ bs t ≤ 255) : (markTo bs t).set (at_ bs t).toNat true = markTo bs (t + 1) := by
  have hl : ∀ t, (markTo bs t).length = 256 := fun t => by simp [markTo]
  refine list_ext (n := 256) (by rw [List.length_set]; exact hl t) (hl _) fun k hk hk1 => ?_
  rw [at_set hc0 (by rw [hl]; omega) hk]
  unfold markTo
  rw [at_map_range _ _ hk hk1, at_map_range _ _ hk hk1, take_next bs h0 h1, show ((k.toNat : Nat) : Int) = k by omega]
  by_cases h : k = at_ bs t
  · rw [if_pos h]; simp [h]
  · rw [if_neg h]; simp [h]
theorem pack_of {l : List Bool} {p : Nat → Bool} (h : ∀ i : Nat, i < 256 → at_ l ((i : Nat) : Int) = p i) : ofWords (pack l) = ofPred p := by
  unfold pack
  rw [of_words]
  exact ofPred_congr h
theorem mark_set (bs : List Int) {t : Int} (ht : (bs.length : Int) ≤ t) : setOf bs = ofWords (pack (markTo bs t)) := by
  rw [pack_of (p := fun i => decide ((i : Int) ∈ bs)) fun i hi => ?_]
  · rfl
  · unfold markTo
    rw [at_map_range _ _ (by omega) (by omega), List.take_of_length_le (by omega), Int.toNat_natCast]
/-- The first t answers of a test. -/
def predTo (p : Nat → Bool) (t : Int) : List Bool := (List.range 256).map fun (i : Nat) => decide (((i : Nat) : Int) < t) && p i
theorem predTo_0 (p : Nat → Bool) : List.replicate 256 false = predTo p 0 := by
  unfold predTo
  refine (List.eq_replicate_iff.2 ⟨by simp, ?_⟩).symm
  intro b hb
  obtain ⟨i, _, rfl⟩ := List.mem_map.1 hb
  rw [decide_eq_false (by omega)]; rfl
theorem predTo_step {p : Nat → Bool} {t : Int} {v : Bool} {l : List Bool} (hl : l = predTo p t) (h0 : 0 ≤ t) (h1 : t < 256) (hv : v = p t.toNat) : l.set t.toNat v = predTo p (t + 1) := by
  subst hl
  have hl : ∀ t, (predTo p t).length = 256 := fun t => by simp [predTo]
  refine list_ext (n := 256) (by rw [List.length_set]; exact hl t) (hl _) fun k hk hk1 => ?_
  rw [at_set h0 (by rw [hl]; omega) hk]
  unfold predTo
  rw [at_map_range _ _ hk hk1, at_map_range _ _ hk hk1, show ((k.toNat : Nat) : Int) = k by omega]
  by_cases h : k = t
  · rw [if_pos h, hv, h, decide_eq_true (by omega)]; rfl
  · rw [if_neg h]
    congr 1
    exact decide_eq_decide.2 (by omega)
theorem pack_pred {p : Nat → Bool} {t : Int} {l : List Bool} (hl : l = predTo p t) (ht : 256 ≤ t) {s : BSet} (hs : ∀ i, i < 256 → s.getLsbD i = p i) : s = ofWords (pack l) := by
  subst hl
  rw [pack_of (p := p) fun i hi => ?_]
  · exact set_ext fun i hi => by rw [hs i hi, pred_bit _ hi]
  · unfold predTo
    rw [at_map_range _ _ (by omega) (by omega), decide_eq_true (by omega), Int.toNat_natCast]; rfl
theorem mem_at (a : BSet) {c : Int} (h0 : 0 ≤ c) (h1 : c < 256) : at_ (members (words a)) c = a.getLsbD c.toNat := by
  unfold members
  rw [at_map_range _ _ h0 h1, bit_words a (by omega)]
theorem elemsTo_succ (s : BSet) (n : Nat) : elemsTo s (n + 1) = elemsTo s n ++ (if s.getLsbD n then [n] else []) := by
  unfold elemsTo
  rw [List.range_succ, List.filter_append]
  congr 1
  simp [List.filter_cons]
def num_ (s : BSet) (c : Int) : Int := ((elemsTo s c.toNat).length : Nat)
theorem num_0 (s : BSet) : num_ s 0 = 0 := rfl
theorem num_end (s : BSet) {c : Int} (h : c = 256) : num_ s c = count s := by subst h; rfl
theorem num_le (s : BSet) {c : Int} (h : 0 ≤ c) : 0 ≤ num_ s c ∧ num_ s c ≤ c := by
  unfold num_
  have := elemsTo_le s c.toNat
  omega
theorem num_T (s : BSet) {c : Int} (h0 : 0 ≤ c) (h1 : c < 256) (h : at_ (members (words s)) c = true) : num_ s (c + 1) = num_ s c + 1 := by
  rw [mem_at s h0 h1] at h
  unfold num_
  rw [show (c + 1).toNat = c.toNat + 1 by omega, elemsTo_succ, h]; simp
theorem num_F (s : BSet) {c : Int} (h0 : 0 ≤ c) (h1 : c < 256) (h : at_ (members (words s)) c = false) : num_ s (c + 1) = num_ s c := by
  rw [mem_at s h0 h1] at h
  unfold num_
  rw [show (c + 1).toNat = c.toNat + 1 by omega, elemsTo_succ, h]; simp
def least_ (s : BSet) (c : Int) : Int := match (elemsTo s c.toNat).head? with
  | none => -1
  | some k => ((k : Nat) : Int)
theorem least_0 (s : BSet) : least_ s 0 = -1 := rfl
theorem least_ge (s : BSet) (c : Int) : -1 ≤ least_ s c := by
  unfold least_; split <;> omega
theorem least_lt (s : BSet) {c : Int} (h : 0 ≤ c) : least_ s c ≤ c := by
  unfold least_
  split
  · omega
  · rename_i k hk
    have hm : k ∈ elemsTo s c.toNat := List.mem_of_head? hk
    have : k < c.toNat := by have := (List.mem_filter.1 hm).1; simpa using this
    omega
theorem least_F (s : BSet) {c : Int} (h0 : 0 ≤ c) (h1 : c < 256) (h : at_ (members (words s)) c = false) : least_ s (c + 1) = least_ s c := by
  rw [mem_at s h0 h1] at h
  unfold least_
  rw [show (c + 1).toNat = c.toNat + 1 by omega, elemsTo_succ, h]; simp
theorem least_T1 (s : BSet) {c : Int} (h0 : 0 ≤ c) (h1 : c < 256) (h : at_ (members (words s)) c = true) (hl : least_ s c < 0) : least_ s (c + 1) = c := by
  rw [mem_at s h0 h1] at h
  unfold least_ at *
  rw [show (c + 1).toNat = c.toNat + 1 by omega, elemsTo_succ, h]
  cases he : elemsTo s c.toNat with
  | nil => simp; omega
  | cons a l => rw [he] at hl; simp at hl; omega
theorem least_T2 (s : BSet) {c : Int} (h0 : 0 ≤ c) (h1 : c < 256) (hl : ¬ least_ s c < 0) : least_ s (c + 1) = least_ s c := by
  unfold least_ at *
  rw [show (c + 1).toNat = c.toNat + 1 by omega, elemsTo_succ]
  cases he : elemsTo s c.toNat with
  | nil => rw [he] at hl; simp at hl
  | cons a l => simp
theorem some_count (s : BSet) : someIn s = decide (0 < count s) := by
  unfold someIn count
  cases elems s with
  | nil => rfl
  | cons a l => simp
theorem first_least (s : BSet) (h : someIn s = true) : first s = least_ s 256 := by
  unfold someIn at h
  unfold first least_
  show _ = match (elems s).head? with | none => -1 | some k => ((k : Nat) : Int)
  cases he : elems s with
  | nil => rw [he] at h; simp at h
  | cons a l => rfl
theorem first_zero (s : BSet) (h : someIn s = false) : first s = 0 := by
  unfold someIn at h
  unfold first
  cases he : elems s with
  | nil => rfl
  | cons a l => rw [he] at h; simp at h
/-- The byte's place in the row. -/
theorem list_place (s : BSet) {c : Int} (h0 : 0 ≤ c) (h1 : c < 256) (h : at_ (members (words s)) c = true) : num_ s c < ((listOf s).length : Int) ∧ at_ (listOf s) (num_ s c) = c := by
  rw [mem_at s h0 h1] at h
  obtain ⟨l, hl⟩ := elemsTo_prefix s (a := c.toNat + 1) (b := 256) (by omega)
  rw [elemsTo_succ s c.toNat, h] at hl
  have hL : listOf s = ints (elemsTo s c.toNat) ++ (c :: ints l) := by
    unfold listOf elems
    rw [hl]
    simp [ints]
    omega
  have hn : num_ s c = ((ints (elemsTo s c.toNat)).length : Int) := by simp [num_, ints]
  rw [hL, hn]
  refine ⟨by simp; omega, ?_⟩
  unfold at_
  rw [List.getD_eq_getElem?_getD, Int.toNat_natCast, List.getElem?_append_right (Nat.le_refl _), Nat.sub_self]; rfl
theorem list_len (s : BSet) : ((listOf s).length : Int) = count s := by simp [listOf, ints, count]
/-- A row told to Of is the set. -/
theorem setOf_list (s : BSet) : setOf (listOf s) = s := by
  refine set_ext fun i hi => ?_
  unfold setOf
  rw [pred_bit _ hi]
  unfold listOf ints elems elemsTo
  rw [Bool.eq_iff_iff]
  simp only [decide_eq_true_eq, List.mem_map, List.mem_filter, List.mem_range]
  constructor
  · rintro ⟨j, ⟨_, hj⟩, e⟩
    have : j = i := by omega
    subst this; exact hj
  · intro h; exact ⟨i, ⟨hi, h⟩, rfl⟩
theorem list_get (s : BSet) {i : Int} (h0 : 0 ≤ i) (h1 : i < ((listOf s).length : Int)) : 0 ≤ at_ (listOf s) i ∧ at_ (listOf s) i < 256 ∧ has s (at_ (listOf s) i) = true := by
  have hm : at_ (listOf s) i ∈ listOf s := List.mem_of_getElem? (at_some h0 h1)
  generalize at_ (listOf s) i = z at hm
  unfold listOf ints elems elemsTo at hm
  simp only [List.mem_map, List.mem_filter, List.mem_range] at hm
  obtain ⟨j, ⟨hj, hb⟩, rfl⟩ := hm
  refine ⟨by omega, by omega, ?_⟩
  unfold has
  rw [Int.toNat_natCast]; exact hb
theorem list_rise (s : BSet) {i j : Int} (h0 : 0 ≤ i) (hij : i < j) (h1 : j < ((listOf s).length : Int)) : at_ (listOf s) i < at_ (listOf s) j := by
  have hp : (listOf s).Pairwise (· < ·) := by
    unfold listOf ints
    rw [List.pairwise_map]
    have h : (elems s).Pairwise (· < ·) := List.Pairwise.filter _ List.pairwise_lt_range
    exact h.imp (fun h => by omega)
  have e1 := at_some (xs := listOf s) h0 (by omega)
  have e2 := at_some (xs := listOf s) (i := j) (by omega) h1
  obtain ⟨l1, g1⟩ := List.getElem?_eq_some_iff.1 e1
  obtain ⟨l2, g2⟩ := List.getElem?_eq_some_iff.1 e2
  rw [← g1, ← g2]
  exact List.pairwise_iff_getElem.1 hp _ _ l1 l2 (by omega)
theorem first_list (s : BSet) (h : 0 < ((listOf s).length : Int)) : first s = at_ (listOf s) 0 := by
  unfold first listOf ints at *
  cases he : elems s with
  | nil => rw [he] at h; simp at h
  | cons a l => rfl
theorem some_list (s : BSet) : someIn s = decide (0 < ((listOf s).length : Int)) := by rw [list_len, some_count]
theorem count_add (a b : BSet) : count a + count b = count (a &&& b) + count (a ||| b) := by
  have : ∀ l : List Nat, (l.filter fun i => a.getLsbD i).length + (l.filter fun i => b.getLsbD i).length = (l.filter fun i => (a &&& b).getLsbD i).length + (l.filter fun i => (a ||| b).getLsbD i).length := by
    intro l
    induction l with
    | nil => rfl
    | cons i l ih =>
      simp only [List.filter_cons, BitVec.getLsbD_and, BitVec.getLsbD_or] at ih ⊢
      cases a.getLsbD i <;> cases b.getLsbD i <;> simp <;> omega
  have h := this (List.range 256)
  unfold count elems elemsTo
  omega
theorem has_mem (a : BSet) {c : Int} (h0 : 0 ≤ c) (h1 : c < 256) : has a c = at_ (members (words a)) c := (mem_at a h0 h1).symm
theorem has_and (a b : BSet) (x : Int) : has (a &&& b) x = (has a x && has b x) := by unfold has; exact BitVec.getLsbD_and ..
theorem has_or (a b : BSet) (x : Int) : has (a ||| b) x = (has a x || has b x) := by unfold has; exact BitVec.getLsbD_or ..
theorem has_not (a : BSet) {x : Int} (h0 : 0 ≤ x) (h1 : x < 256) : has (~~~ a) x = !has a x := by
  unfold has
  have : x.toNat < 256 := by omega
  simp [this]
end Gx
