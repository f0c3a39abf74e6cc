/- My own library for walks through the translated code, part N2: laws of the model alone, no word of the program. -/
import Derived.Test.YtdfkpjchnndniaaDoorN1
import Derived.Test.YtdfkpjchnndniaaDoorM7
namespace Gx
open Go Go.RowKit
set_option linter.unusedSimpArgs false
set_option linter.unusedSectionVars false
set_option linter.unusedVariables false

/-! ### The classes of a partition by a key, as sets -/
theorem at_map {α β : Type} [Inhabited α] [Inhabited β] (f : α → β) (l : List α) {i : Int} (h0 : 0 ≤ i) (h1 : i < (l.length : Int)) : at_ (l.map f) i = f (at_ l i) := by
  have h2 := at_some h0 h1
  have h3 : (l.map f)[i.toNat]? = some (at_ (l.map f) i) := at_some h0 (by simpa using h1)
  rw [List.getElem?_map, h2] at h3
  simpa using h3.symm
/-- Is there one among the first? -/
def anyTo (p : Nat → Bool) (c : Int) : Bool := (List.range c.toNat).any p
theorem anyTo_0 (p : Nat → Bool) : false = anyTo p 0 := rfl
theorem anyTo_step (p : Nat → Bool) {c : Int} (h : 0 ≤ c) : anyTo p (c + 1) = (anyTo p c || p c.toNat) := by
  unfold anyTo
  rw [show (c + 1).toNat = c.toNat + 1 by omega, List.range_succ, List.any_append]; simp
theorem anyTo_iff (p : Nat → Bool) (c : Int) : anyTo p c = true ↔ ∃ d : Nat, ((d : Nat) : Int) < c ∧ p d = true := by
  unfold anyTo
  rw [List.any_eq_true]
  constructor
  · rintro ⟨d, h1, h2⟩; exact ⟨d, by have := List.mem_range.1 h1; omega, h2⟩
  · rintro ⟨d, h1, h2⟩; exact ⟨d, List.mem_range.2 (by omega), h2⟩
section
variable {κ : Type} [DecidableEq κ] (key : Nat → κ)
theorem part_n : (partOf key).n = ((reps key 256).length : Nat) := rfl
theorem many_of : many (partOf key) = (reps key 256).length := by
  have := reps_le key 256
  unfold many; rw [part_n]; omega
theorem sets_len : ((setsP (partOf key)).length : Int) = (partOf key).n := by
  have := reps_le key 256
  rw [setsP_len, part_n]; omega
theorem at_sets {k : Int} (h0 : 0 ≤ k) (h1 : k < (partOf key).n) : at_ (setsP (partOf key)) k = ofPred fun c => decide (((idx key c : Nat) : Int) = k) := by
  unfold setsP
  rw [at_map_range _ _ h0 (by rw [many_of]; exact h1)]
  refine ofPred_congr fun c hc => ?_
  rw [part_at key (by omega) (by omega), Int.toNat_of_nonneg h0]; simp
theorem bit_sets {k : Int} (h0 : 0 ≤ k) (h1 : k < (partOf key).n) {c : Nat} (hc : c < 256) : (at_ (setsP (partOf key)) k).getLsbD c = decide (((idx key c : Nat) : Int) = k) := by
  rw [at_sets key h0 h1, pred_bit _ hc]
theorem idx_lt {c : Nat} (hc : c < 256) : idx key c < (reps key 256).length := by
  show (reps key (fst_ key c)).length < _
  exact reps_lt (fst_rep key c) (by have := fst_le key c; omega)
theorem idx_rep {c : Nat} (h : isRep key c = true) : idx key c = (reps key c).length := by
  rw [isRep_iff, Option.isNone_iff_eq_none] at h
  unfold idx; rw [h]; rfl
theorem fst_self {c : Nat} (h : isRep key c = true) : fst_ key c = c := by
  rw [isRep_iff, Option.isNone_iff_eq_none] at h
  unfold fst_; rw [h]; rfl
theorem cls_rep {k : Nat} (hk : k < (reps key 256).length) : ∃ r, r < 256 ∧ isRep key r = true ∧ idx key r = k := by
  obtain ⟨h1, h2, h3⟩ := reps_at key 256 hk
  exact ⟨_, h1, h2, by rw [idx_rep key h2, h3]⟩
theorem rep_lt {a b : Nat} (ha : isRep key a = true) (hb : isRep key b = true) (h : idx key a < idx key b) : a < b := by
  rw [idx_rep key ha, idx_rep key hb] at h
  rcases Nat.lt_or_ge a b with h1 | h1
  · exact h1
  · have := reps_mono key b a h1; omega
theorem least_one {k : Int} (h0 : 0 ≤ k) (h1 : k < ((leastP (partOf key) 1).length : Int)) : (at_ (leastP (partOf key) 1) k).length = 1 ∧ ∃ r : Nat, r < 256 ∧ at_ (at_ (leastP (partOf key) 1) k) 0 = ((r : Nat) : Int) ∧ isRep key r = true ∧ ((idx key r : Nat) : Int) = k := by
  have hl : ((leastP (partOf key) 1).length : Int) = (partOf key).n := by rw [← sets_len]; simp [leastP]
  have hk : k < (partOf key).n := by omega
  have e : at_ (leastP (partOf key) 1) k = leastOf 1 (at_ (setsP (partOf key)) k) := at_map _ _ h0 (by rw [sets_len]; exact hk)
  obtain ⟨r, hr, hrep, hidx⟩ := cls_rep key (k := k.toNat) (by rw [part_n] at hk; omega)
  have hb : (at_ (setsP (partOf key)) k).getLsbD r = true := by rw [bit_sets key h0 hk hr]; simp; omega
  generalize hs : at_ (setsP (partOf key)) k = s at e hb
  have hm : at_ (members (words s)) ((r : Nat) : Int) = true := by rw [mem_at s (by omega) (by omega)]; simpa using hb
  obtain ⟨h2, h3⟩ := list_place s (c := r) (by omega) (by omega) hm
  have hn := num_le s (c := r) (by omega)
  obtain ⟨g0, g1, g2⟩ := list_get s (i := 0) (by omega) (by omega)
  have hx : at_ (listOf s) 0 = r := by
    have hle : at_ (listOf s) 0 ≤ r := by
      rcases Int.lt_or_eq_of_le hn.1 with h | h
      · have := list_rise s (i := 0) (by omega) h h2; omega
      · rw [← h] at h3; omega
    obtain ⟨x, hx⟩ := Int.eq_ofNat_of_zero_le g0
    rw [hx] at g1 g2 hle ⊢
    have hxi : ((idx key x : Nat) : Int) = k := by
      have : s.getLsbD x = true := g2
      rw [← hs, bit_sets key h0 hk (by omega)] at this
      simpa using this
    have := fst_le key x
    rw [fst_eq (idx_inj.1 (show idx key x = idx key r by omega)), fst_self key hrep] at this
    omega
  have ht : (min (max 1 0) ((listOf s).length : Int)).toNat = 1 := by omega
  rw [e]
  unfold leastOf
  rw [ht]
  have hlen : 1 ≤ (listOf s).length := by omega
  refine ⟨by simp; omega, r, hr, ?_, hrep, by omega⟩
  rw [← hx]
  unfold at_
  simp [List.getElem?_take]
end
/-- Some set tells them apart. -/
theorem few_apart (l : List BSet) {a b : Nat} (ha : a < 256) (hb : b < 256) (h : idx (refKey l) a ≠ idx (refKey l) b) : (l.any fun s => decide (has s ((a : Nat) : Int) ≠ has s ((b : Nat) : Int))) = true := by
  cases hc : l.any fun s => decide (has s ((a : Nat) : Int) ≠ has s ((b : Nat) : Int)) with
  | true => rfl
  | false =>
    refine (h (idx_inj.2 ?_)).elim
    unfold refKey
    refine List.map_congr_left fun s hs => ?_
    have := List.any_eq_false.1 hc s hs
    rw [decide_eq_true_eq, Decidable.not_not] at this
    exact this
def apartTo (l : List BSet) (a b : Int) (n : Int) : Bool := (l.take n.toNat).any fun s => decide (has s a ≠ has s b)
theorem apartTo_0 (l : List BSet) (a b : Int) : false = apartTo l a b 0 := rfl
theorem apartTo_step (l : List BSet) (a b : Int) {n : Int} (h0 : 0 ≤ n) (h1 : n < (l.length : Int)) : apartTo l a b (n + 1) = (apartTo l a b n || decide (has (at_ l n) a ≠ has (at_ l n) b)) := by
  unfold apartTo
  rw [take_next l h0 h1, List.any_append]; simp
theorem few_end (l : List BSet) {i k n : Int} (hk : 0 ≤ k) (hki : k < i) (hi : i < ((leastP (refineP l) 1).length : Int)) (hn : (l.length : Int) ≤ n) :
    apartTo l (at_ (at_ (leastP (refineP l) 1) i) 0) (at_ (at_ (leastP (refineP l) 1) k) 0) n = true ∧ at_ (at_ (leastP (refineP l) 1) k) 0 < at_ (at_ (leastP (refineP l) 1) i) 0 := by
  obtain ⟨_, a, ha, ea, ra, ia⟩ := least_one (refKey l) (k := i) (by omega) hi
  obtain ⟨_, b, hb, eb, rb, ib⟩ := least_one (refKey l) (k := k) hk (by unfold refineP at hi; omega)
  unfold refineP
  rw [ea, eb]
  constructor
  · unfold apartTo
    rw [List.take_of_length_le (by omega)]
    exact few_apart l ha hb (by omega)
  · have := rep_lt (refKey l) rb ra (by omega); omega
theorem few_len (l : List BSet) {i : Int} (h0 : 0 ≤ i) (hi : i < ((leastP (refineP l) 1).length : Int)) : ((at_ (leastP (refineP l) 1) i).length : Int) = 1 := by
  have := (least_one (refKey l) h0 hi).1
  unfold refineP; omega
section
variable {κ : Type} [DecidableEq κ] (key : Nat → κ)
theorem cuts_iff (x s : BSet) : cuts x s = false ↔ (∀ i, i < 256 → x.getLsbD i = true → s.getLsbD i = true) ∨ (∀ i, i < 256 → x.getLsbD i = true → s.getLsbD i = false) := by
  unfold cuts
  rw [Bool.and_eq_false_iff, decide_eq_false_iff_not, decide_eq_false_iff_not, Decidable.not_not, Decidable.not_not]
  constructor
  · rintro (h | h)
    · left; intro i hi hx
      have := congrArg (fun z : BSet => z.getLsbD i) h
      simp [hx] at this; exact this
    · right; intro i hi hx
      have := congrArg (fun z : BSet => z.getLsbD i) h
      simpa [hx] using this
  · rintro (h | h)
    · left; refine set_ext fun i hi => ?_
      have := h i hi
      rw [BitVec.getLsbD_and]
      cases hx : x.getLsbD i <;> simp_all
    · right; refine set_ext fun i hi => ?_
      have := h i hi
      rw [BitVec.getLsbD_and]
      cases hx : x.getLsbD i <;> simp_all
theorem splits_no (s : BSet) (h : ∀ i j, i < 256 → j < 256 → key i = key j → s.getLsbD i = s.getLsbD j) : splitsP (partOf key) s = false := by
  unfold splitsP
  rw [List.any_eq_false]
  intro x hx
  obtain ⟨k, hk, rfl⟩ := List.getElem_of_mem hx
  have hk' : ((k : Nat) : Int) < (partOf key).n := by rw [← sets_len]; omega
  have e : (setsP (partOf key))[k] = at_ (setsP (partOf key)) ((k : Nat) : Int) := by simp [at_, List.getD_eq_getElem?_getD, List.getElem?_eq_getElem hk]
  rw [e, Bool.not_eq_true, cuts_iff]
  obtain ⟨r, hr, hrep, hidx⟩ := cls_rep key (k := k) (by rw [part_n] at hk'; omega)
  have key' : ∀ i, i < 256 → (at_ (setsP (partOf key)) ((k : Nat) : Int)).getLsbD i = true → s.getLsbD i = s.getLsbD r := fun i hi hb => by
    rw [bit_sets key (by omega) hk' hi] at hb
    have : idx key i = k := by have := of_decide_eq_true hb; omega
    exact h i r hi hr (idx_inj.1 (by omega))
  cases hs : s.getLsbD r with
  | true => left; intro i hi hb; rw [key' i hi hb, hs]
  | false => right; intro i hi hb; rw [key' i hi hb, hs]
end
theorem ref_bit {l : List BSet} {s : BSet} (hs : s ∈ l) {i j : Nat} (h : refKey l i = refKey l j) : s.getLsbD i = s.getLsbD j := by
  unfold refKey at h
  exact List.map_inj_left.1 h s hs
theorem splits_own {l : List BSet} {s : BSet} (hs : s ∈ l) : splitsP (refineP l) s = false := splits_no _ s fun _ _ _ _ h => ref_bit hs h
theorem at_mem {α : Type} [Inhabited α] {l : List α} {i : Int} (h0 : 0 ≤ i) (h1 : i < (l.length : Int)) : at_ l i ∈ l := List.mem_of_getElem? (at_some h0 h1)
theorem splits_at (l : List BSet) {i : Int} (h0 : 0 ≤ i) (h1 : i < (l.length : Int)) : splitsP (refineP l) (at_ l i) = false := splits_own (at_mem h0 h1)
theorem splits_at2 (l m : List BSet) {i : Int} (h0 : 0 ≤ i) (h1 : i < (l.length : Int)) : splitsP (refineP (l ++ m)) (at_ l i) = false := splits_own (List.mem_append_left _ (at_mem h0 h1))
theorem ref_app {l m : List BSet} {i j : Nat} : refKey (l ++ m) i = refKey (l ++ m) j ↔ refKey l i = refKey l j ∧ refKey m i = refKey m j := by
  unfold refKey
  rw [List.map_append, List.map_append]
  exact ⟨fun h => List.append_inj h (by simp), fun h => by rw [h.1, h.2]⟩
theorem splits_cls (l m : List BSet) {i : Int} (h0 : 0 ≤ i) (h1 : i < ((setsP (refineP l)).length : Int)) : splitsP (refineP (l ++ m)) (at_ (setsP (refineP l)) i) = false := by
  refine splits_no _ _ fun a b ha hb h => ?_
  unfold refineP at h1 ⊢
  rw [sets_len] at h1
  rw [bit_sets _ h0 h1 ha, bit_sets _ h0 h1 hb, idx_inj.2 (ref_app.1 h).1]
theorem more_n (l m : List BSet) : (refineP l).n ≤ (refineP (l ++ m)).n := by
  unfold refineP
  rw [part_n, part_n]
  have : (reps (refKey l) 256).length ≤ (reps (refKey (l ++ m)) 256).length := by
    unfold reps
    rw [← List.countP_eq_length_filter, ← List.countP_eq_length_filter]
    refine List.countP_mono_left fun c _ h => ?_
    unfold isRep at h ⊢
    rw [List.all_eq_true] at h ⊢
    intro j hj
    have h2 := of_decide_eq_true (h j hj)
    exact decide_eq_true fun e => h2 (ref_app.1 e).1
  omega
theorem ref_swap (l m : List BSet) : refineP (m ++ l) = refineP (l ++ m) := partOf_congr fun i j _ _ => by rw [ref_app, ref_app]; exact And.comm
theorem ref_sets (l : List BSet) : refineP (setsP (refineP l)) = refineP l := by
  refine partOf_congr fun i j hi hj => ?_
  constructor
  · intro h
    have hk : ((idx (refKey l) i : Nat) : Int) < (partOf (refKey l)).n := by rw [part_n]; have := idx_lt (refKey l) hi; omega
    have hm : at_ (setsP (refineP l)) ((idx (refKey l) i : Nat) : Int) ∈ setsP (refineP l) := at_mem (by omega) (by unfold refineP; rw [sets_len]; exact hk)
    have := ref_bit hm h
    unfold refineP at this
    rw [bit_sets _ (by omega) hk hi, bit_sets _ (by omega) hk hj] at this
    simp at this
    exact (idx_inj.1 (Int.ofNat.inj this)).symm
  · intro h
    unfold refKey
    refine List.map_congr_left fun s hs => ?_
    obtain ⟨k, hk, rfl⟩ := List.getElem_of_mem hs
    have hk' : ((k : Nat) : Int) < (partOf (refKey l)).n := by rw [← sets_len]; unfold refineP at hk; omega
    have e : (setsP (refineP l))[k] = at_ (setsP (partOf (refKey l))) ((k : Nat) : Int) := by show (setsP (refineP l))[k] = at_ (setsP (refineP l)) _; simp [at_, List.getD_eq_getElem?_getD, List.getElem?_eq_getElem hk]
    rw [e, bit_sets _ (by omega) hk' hi, bit_sets _ (by omega) hk' hj, idx_inj.2 h]
def unionTo (l : List BSet) (i : Int) : BSet := ofPred fun c => decide (((idx (refKey l) c : Nat) : Int) < i)
theorem unionTo_0 (l : List BSet) : (0 : BSet) = unionTo l 0 := by
  refine set_ext fun i hi => ?_
  unfold unionTo
  rw [pred_bit _ hi, decide_eq_false (by omega)]; simp
theorem union_step (l : List BSet) {i : Int} (h0 : 0 ≤ i) (h1 : i < ((setsP (refineP l)).length : Int)) : unionTo l i ||| at_ (setsP (refineP l)) i = unionTo l (i + 1) := by
  unfold refineP at h1 ⊢
  rw [sets_len] at h1
  refine set_ext fun c hc => ?_
  rw [BitVec.getLsbD_or, bit_sets _ h0 h1 hc]
  unfold unionTo
  rw [pred_bit _ hc, pred_bit _ hc]
  rw [Bool.eq_iff_iff]
  simp; omega
theorem union_apart (l : List BSet) {i : Int} (h0 : 0 ≤ i) (h1 : i < ((setsP (refineP l)).length : Int)) : unionTo l i &&& at_ (setsP (refineP l)) i = 0 := by
  unfold refineP at h1 ⊢
  rw [sets_len] at h1
  refine set_ext fun c hc => ?_
  rw [BitVec.getLsbD_and, bit_sets _ h0 h1 hc]
  unfold unionTo
  rw [pred_bit _ hc]
  rw [Bool.eq_iff_iff]
  simp; omega
theorem cls_some (l : List BSet) {i : Int} (h0 : 0 ≤ i) (h1 : i < ((setsP (refineP l)).length : Int)) : at_ (setsP (refineP l)) i ≠ 0 := by
  unfold refineP at h1 ⊢
  rw [sets_len] at h1
  obtain ⟨r, hr, _, hidx⟩ := cls_rep (refKey l) (k := i.toNat) (by rw [part_n] at h1; omega)
  intro h
  have := bit_sets (refKey l) h0 h1 hr
  rw [h] at this
  simp at this; omega
theorem union_end (l : List BSet) {i : Int} (h1 : ((setsP (refineP l)).length : Int) ≤ i) : unionTo l i = ~~~ (0 : BSet) := by
  unfold refineP at h1
  rw [sets_len, part_n] at h1
  refine set_ext fun c hc => ?_
  unfold unionTo
  have := idx_lt (refKey l) hc
  rw [pred_bit _ hc, decide_eq_true (by omega), BitVec.getLsbD_not, decide_eq_true hc]; show true = (true && !(0#256).getLsbD c); rw [BitVec.getLsbD_zero]; rfl
/-! ### Byte by byte -/
theorem has_sets (l : List BSet) {n c : Int} (h0 : 0 ≤ n) (h1 : n < (refineP l).n) (hc : 0 ≤ c) (hc1 : c < 256) : has (at_ (setsP (refineP l)) n) c = decide (at_ (refineP l).of c = n) := by
  unfold refineP at h1 ⊢
  unfold has
  rw [bit_sets _ h0 h1 (by omega), part_at _ hc hc1]
def firstTo (s : BSet) (k c : Int) : List Int := (ints (elemsTo s c.toNat)).take k.toNat
theorem firstTo_0 (s : BSet) (k : Int) : firstTo s k 0 = [] := by simp [firstTo, elemsTo, ints]
theorem firstTo_no (s : BSet) (k : Int) {c : Int} (h : 0 ≤ c) (hb : has s c = false) : firstTo s k (c + 1) = firstTo s k c := by
  unfold firstTo
  rw [show (c + 1).toNat = c.toNat + 1 by omega, elemsTo_succ, show s.getLsbD c.toNat = false from hb]; simp
theorem firstTo_len (s : BSet) (k : Int) {c : Int} (h : 0 ≤ c) : ((firstTo s k c).length : Int) ≤ c := by
  have := num_le s h
  unfold num_ at this
  simp [firstTo, ints]; omega
theorem firstTo_in (s : BSet) (k : Int) {c : Int} (h : 0 ≤ c) (hb : has s c = true) (hk : ((firstTo s k c).length : Int) < k) : firstTo s k (c + 1) = firstTo s k c ++ [c] := by
  unfold firstTo at hk ⊢
  rw [show (c + 1).toNat = c.toNat + 1 by omega, elemsTo_succ, show s.getLsbD c.toNat = true from hb]
  simp only [if_true]
  have e : ints (elemsTo s c.toNat ++ [c.toNat]) = ints (elemsTo s c.toNat) ++ [c] := by simp [ints]; omega
  rw [e]
  generalize ints (elemsTo s c.toNat) = l at hk
  have : l.length < k.toNat := by rw [List.length_take] at hk; omega
  rw [List.take_of_length_le (l := l ++ [c]) (by rw [List.length_append]; simp; omega), List.take_of_length_le (by omega)]
theorem firstTo_out (s : BSet) (k : Int) {c : Int} (h : 0 ≤ c) (hk : ¬ ((firstTo s k c).length : Int) < k) : firstTo s k (c + 1) = firstTo s k c := by
  unfold firstTo at hk ⊢
  rw [show (c + 1).toNat = c.toNat + 1 by omega, elemsTo_succ]
  have e : ints (elemsTo s c.toNat ++ (if s.getLsbD c.toNat then [c.toNat] else [])) = ints (elemsTo s c.toNat) ++ ints (if s.getLsbD c.toNat then [c.toNat] else []) := by simp [ints]
  rw [e]
  generalize ints (elemsTo s c.toNat) = l at hk
  have : k.toNat ≤ l.length := by rw [List.length_take] at hk; omega
  rw [List.take_append_of_le_length this]
theorem least_len (l : List BSet) (k : Int) : ((leastP (refineP l) k).length : Int) = (refineP l).n := by
  unfold leastP refineP
  rw [List.length_map, sets_len]
theorem least_first (l : List BSet) (k : Int) {n c : Int} (h0 : 0 ≤ n) (h1 : n < (refineP l).n) (hc : c = 256) : firstTo (at_ (setsP (refineP l)) n) k c = at_ (leastP (refineP l) k) n := by
  subst hc
  unfold leastP
  rw [at_map _ _ h0 (by unfold refineP at h1 ⊢; rw [sets_len]; exact h1)]
  generalize at_ (setsP (refineP l)) n = s
  unfold leastOf firstTo listOf elems
  show List.take _ (ints (elemsTo s 256)) = _
  generalize ints (elemsTo s 256) = m
  rcases Int.lt_or_le k 0 with h | h
  · rw [show k.toNat = 0 by omega, show (min (max k 0) (m.length : Int)).toNat = 0 by omega]
  · rcases Int.lt_or_le k m.length with h2 | h2
    · rw [show (min (max k 0) (m.length : Int)).toNat = k.toNat by omega]
    · rw [show (min (max k 0) (m.length : Int)).toNat = m.length by omega, List.take_length, List.take_of_length_le (by omega)]
theorem cut_in_out (l : List BSet) (s : BSet) {n c : Int} (h0 : 0 ≤ n) (h1 : n < (refineP l).n) (hc : c = 256) {a b : Bool} (ha : a = anyTo (fun d => decide (at_ (refineP l).of ((d : Nat) : Int) = n) && s.getLsbD d) c) (hb : b = anyTo (fun d => decide (at_ (refineP l).of ((d : Nat) : Int) = n) && !s.getLsbD d) c) : (a && b) = cuts (at_ (setsP (refineP l)) n) s := by
  subst hc
  have hx : ∀ i, i < 256 → (at_ (setsP (refineP l)) n).getLsbD i = decide (at_ (refineP l).of ((i : Nat) : Int) = n) := fun i hi => by
    have := has_sets l h0 h1 (c := ((i : Nat) : Int)) (by omega) (by omega)
    exact this
  rw [Bool.eq_iff_iff, Bool.and_eq_true, ha, hb, anyTo_iff, anyTo_iff, ← Bool.not_eq_false, cuts_iff]
  constructor
  · rintro ⟨⟨i, hi, h2⟩, j, hj, h3⟩ (h | h)
    · rw [Bool.and_eq_true, ← hx j (by omega)] at h3
      have := h j (by omega) h3.1; rw [this] at h3; simp at h3
    · rw [Bool.and_eq_true, ← hx i (by omega)] at h2
      have := h i (by omega) h2.1; rw [this] at h2; simp at h2
  · intro h
    rw [not_or] at h
    obtain ⟨h2, h3⟩ := h
    constructor
    · rcases Classical.em (∃ d : Nat, ((d : Nat) : Int) < 256 ∧ (decide (at_ (refineP l).of ((d : Nat) : Int) = n) && s.getLsbD d) = true) with h4 | h4
      · exact h4
      · refine (h3 fun i hi hb2 => ?_).elim
        cases hs : s.getLsbD i with
        | false => rfl
        | true => exact (h4 ⟨i, by omega, by rw [← hx i hi, hb2, hs]; rfl⟩).elim
    · rcases Classical.em (∃ d : Nat, ((d : Nat) : Int) < 256 ∧ (decide (at_ (refineP l).of ((d : Nat) : Int) = n) && !s.getLsbD d) = true) with h4 | h4
      · exact h4
      · refine (h2 fun i hi hb2 => ?_).elim
        cases hs : s.getLsbD i with
        | true => rfl
        | false => exact (h4 ⟨i, by omega, by rw [← hx i hi, hb2, hs]; rfl⟩).elim
def cutTo (l : List BSet) (s : BSet) (n : Int) : Bool := anyTo (fun d => cuts (at_ (setsP (refineP l)) ((d : Nat) : Int)) s) n
theorem cutTo_0 (l : List BSet) (s : BSet) : false = cutTo l s 0 := rfl
theorem cutTo_step (l : List BSet) (s : BSet) {n : Int} (h : 0 ≤ n) : cutTo l s (n + 1) = (cutTo l s n || cuts (at_ (setsP (refineP l)) n) s) := by
  unfold cutTo
  rw [anyTo_step _ h, Int.toNat_of_nonneg h]
theorem ref_sets_len (l : List BSet) : ((setsP (refineP l)).length : Int) = (refineP l).n := sets_len _
theorem n_nonneg (l : List BSet) : 0 ≤ (refineP l).n := by unfold refineP; rw [part_n]; omega
theorem cut_end (l : List BSet) (s : BSet) {n : Int} (h : n = (refineP l).n) : splitsP (refineP l) s = cutTo l s n := by
  unfold splitsP
  rw [Bool.eq_iff_iff, List.any_eq_true]
  unfold cutTo
  rw [anyTo_iff]
  have hl : ((setsP (refineP l)).length : Int) = n := by rw [h]; exact sets_len _
  constructor
  · rintro ⟨x, hx, hc⟩
    obtain ⟨k, hk, rfl⟩ := List.getElem_of_mem hx
    exact ⟨k, by omega, by simpa [at_, List.getD_eq_getElem?_getD, List.getElem?_eq_getElem hk] using hc⟩
  · rintro ⟨d, hd, hc⟩
    exact ⟨_, at_mem (by omega) (by omega), hc⟩
end Gx
