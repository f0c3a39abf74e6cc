/- My own library for walks through the translated code, part M4: laws of the model alone, no word of the program. -/
import Derived.Test.YtdfkpjchnndniaaDoorM3
namespace Gx
open Go Go.RowKit
set_option linter.unusedSimpArgs false
set_option linter.unusedVariables false

/-! ### Bits of sets -/
def bitAt (ws : List Int) (i : Nat) : Bool := (at_ ws ((i / 64 : Nat) : Int)).toNat.testBit (i % 64)
theorem at_words (s : BSet) {k : Nat} (hk : k < 4) : at_ (words s) (k : Int) = wd s k := by
  match k, hk with
  | 0, _ => rfl
  | 1, _ => rfl
  | 2, _ => rfl
  | 3, _ => rfl
theorem wd_bit (s : BSet) (k : Nat) {j : Nat} (hj : j < 64) : (wd s k).toNat.testBit j = s.getLsbD (64 * k + j) := by
  unfold wd
  rw [Int.toNat_natCast]
  have e : (18446744073709551616 : Nat) = 2 ^ 64 := by decide
  rw [e, Nat.testBit_mod_two_pow, Nat.testBit_div_two_pow]
  simp only [hj, decide_true, Bool.true_and]
  rw [BitVec.testBit_toNat]
  congr 1
  omega
theorem bit_words (s : BSet) {i : Nat} (hi : i < 256) : bitAt (words s) i = s.getLsbD i := by
  unfold bitAt
  rw [at_words s (by omega), wd_bit s _ (by omega)]
  congr 1; omega
theorem bit_of {ws : List Int} (h : okInts .u64 4 ws) {i : Nat} (hi : i < 256) : (ofWords ws).getLsbD i = bitAt ws i := by
  rw [← bit_words _ hi, words_of h]
theorem set_ext {a b : BSet} (h : ∀ i, i < 256 → a.getLsbD i = b.getLsbD i) : a = b := BitVec.eq_of_getLsbD_eq h
theorem of_ext {ws : List Int} (h : okInts .u64 4 ws) {s : BSet} (hb : ∀ i, i < 256 → bitAt ws i = s.getLsbD i) : ofWords ws = s := set_ext fun i hi => by rw [bit_of h hi, hb i hi]
theorem words_ext {ws : List Int} (h : okInts .u64 4 ws) {s : BSet} (hb : ∀ i, i < 256 → bitAt ws i = s.getLsbD i) : ws = words s := by rw [← of_ext h hb, words_of h]
theorem at_set {α : Type} [Inhabited α] {xs : List α} {i j : Int} {v : α} (hi : 0 ≤ i) (hi' : i < (xs.length : Int)) (hj : 0 ≤ j) : at_ (xs.set i.toNat v) j = if j = i then v else at_ xs j := by
  unfold at_
  rw [List.getD_eq_getElem?_getD, List.getD_eq_getElem?_getD, List.getElem?_set]
  by_cases h : j = i
  · subst h; rw [if_pos rfl, if_pos rfl, if_pos (by omega)]; rfl
  · rw [if_neg (by omega), if_neg h]
theorem iand_bit (a b : Int) (j : Nat) : (iand a b).toNat.testBit j = (a.toNat.testBit j && b.toNat.testBit j) := by
  unfold iand; rw [Int.toNat_natCast, Nat.testBit_and]
theorem ior_bit (a b : Int) (j : Nat) : (ior a b).toNat.testBit j = (a.toNat.testBit j || b.toNat.testBit j) := by
  unfold ior; rw [Int.toNat_natCast, Nat.testBit_or]
theorem pow_bit (k j : Nat) : ((2 : Int) ^ k).toNat.testBit j = decide (k = j) := by
  have e : ((2 : Int) ^ k).toNat = 2 ^ k := by
    have : ((2 : Int) ^ k) = (((2 : Nat) ^ k : Nat) : Int) := by simp
    rw [this, Int.toNat_natCast]
  rw [e, Nat.testBit_two_pow]
theorem com_bit {a : Int} (h : inK .u64 a) {j : Nat} (hj : j < 64) : (18446744073709551615 - a).toNat.testBit j = !a.toNat.testBit j := by
  have a0 := u64_lo h; have a1 := u64_hi h
  have e : (18446744073709551615 - a).toNat = 2 ^ 64 - (a.toNat + 1) := by
    have : (2 : Nat) ^ 64 = 18446744073709551616 := by decide
    rw [this]; omega
  rw [e, Nat.testBit_two_pow_sub_succ (by have : (2 : Nat) ^ 64 = 18446744073709551616 := by decide
                                          rw [this]; omega)]
  simp [hj]

def has (s : BSet) (c : Int) : Bool := s.getLsbD c.toNat
theorem iand_pow_ne {a : Int} (ha : 0 ≤ a) (k : Nat) : decide (iand a (2 ^ k) ≠ 0) = a.toNat.testBit k := by
  have e : ((2 : Int) ^ k).toNat = 2 ^ k := by
    have : ((2 : Int) ^ k) = (((2 : Nat) ^ k : Nat) : Int) := by simp
    rw [this, Int.toNat_natCast]
  unfold iand
  rw [e]
  cases hb : a.toNat.testBit k
  · have : a.toNat &&& 2 ^ k = 0 := by
      apply Nat.eq_of_testBit_eq
      intro i
      rw [Nat.testBit_and, Nat.testBit_two_pow, Nat.zero_testBit]
      by_cases h : k = i
      · subst h; simp [hb]
      · simp [h]
    rw [this]; rfl
  · have : (a.toNat &&& 2 ^ k).testBit k = true := by rw [Nat.testBit_and, Nat.testBit_two_pow]; simp [hb]
    have h0 : a.toNat &&& 2 ^ k ≠ 0 := fun h => by rw [h, Nat.zero_testBit] at this; cases this
    exact decide_eq_true (by omega)
theorem has_eq (s : BSet) {c : Int} (h0 : 0 ≤ c) (h1 : c ≤ 255) : decide (iand (at_ (words s) (c / 64)) (2 ^ (c % 64).toNat) ≠ 0) = has s c := by
  obtain ⟨n, rfl⟩ := Int.eq_ofNat_of_zero_le h0
  have e1 : ((n : Int) / 64) = ((n / 64 : Nat) : Int) := by omega
  have e2 : ((n : Int) % 64).toNat = n % 64 := by omega
  rw [e1, e2, at_words s (by omega), iand_pow_ne (u64_lo (wd_in s _)), wd_bit s _ (by omega)]
  unfold has
  congr 1; omega

/-- The set of what meets a test. -/
def ofPred (p : Nat → Bool) : BSet := (List.range 256).foldl (fun s i => if p i then s ||| BitVec.twoPow 256 i else s) 0
theorem fold_bit (p : Nat → Bool) (i : Nat) (hi : i < 256) : ∀ (l : List Nat) (s : BSet), (l.foldl (fun s i => if p i then s ||| BitVec.twoPow 256 i else s) s).getLsbD i = (s.getLsbD i || (decide (i ∈ l) && p i))
  | [], s => by simp
  | j :: l, s => by
    rw [List.foldl_cons, fold_bit p i hi l]
    by_cases hj : p j
    · rw [if_pos hj, BitVec.getLsbD_or, BitVec.getLsbD_twoPow]
      by_cases e : j = i
      · subst e; simp [hj, hi]
      · have e' : ¬ i = j := fun x => e x.symm
        simp [e, e']
    · rw [if_neg hj]
      by_cases e : i = j
      · subst e; simp [hj]
      · simp [e]
theorem pred_bit (p : Nat → Bool) {i : Nat} (hi : i < 256) : (ofPred p).getLsbD i = p i := by
  unfold ofPred
  rw [fold_bit p i hi]
  simp [hi]
theorem ofPred_self (s : BSet) : ofPred (fun i => s.getLsbD i) = s := set_ext fun i hi => pred_bit _ hi
theorem ofPred_congr {p q : Nat → Bool} (h : ∀ i, i < 256 → p i = q i) : ofPred p = ofPred q := set_ext fun i hi => by rw [pred_bit _ hi, pred_bit _ hi, h i hi]

def setOf (bs : List Int) : BSet := ofPred fun i => decide ((i : Int) ∈ bs)
def setRange (a b : Int) : BSet := ofPred fun i => decide (a ≤ (i : Int) ∧ (i : Int) ≤ b)

/-! ### Lists gone through -/
/-- The first k are turned. -/
def mapTo (f : Int → Int) (xs : List Int) (k : Int) : List Int := (xs.take k.toNat).map f ++ xs.drop k.toNat
theorem mapTo_0 (f : Int → Int) (xs : List Int) : xs = mapTo f xs 0 := by simp [mapTo]
theorem mapTo_get (f : Int → Int) (xs : List Int) {k : Int} (h0 : 0 ≤ k) (j : Nat) : (mapTo f xs k)[j]? = if (j : Int) < k then (xs[j]?).map f else xs[j]? := by
  unfold mapTo
  rw [List.getElem?_append]
  simp only [List.length_map, List.length_take]
  by_cases hj : (j : Int) < k
  · rw [if_pos hj]
    by_cases hl : j < xs.length
    · rw [if_pos (by omega), List.getElem?_map, List.getElem?_take, if_pos (by omega)]
    · rw [if_neg (by omega), List.getElem?_drop, List.getElem?_eq_none (by omega), List.getElem?_eq_none (by omega)]; rfl
  · rw [if_neg hj, if_neg (by omega), List.getElem?_drop]
    by_cases hk : k.toNat ≤ xs.length
    · congr 1; omega
    · rw [List.getElem?_eq_none (by omega), List.getElem?_eq_none (by omega)]
theorem at_mapTo (f : Int → Int) (xs : List Int) {k : Int} (h0 : 0 ≤ k) : at_ (mapTo f xs k) k = at_ xs k := by
  unfold at_
  rw [List.getD_eq_getElem?_getD, List.getD_eq_getElem?_getD, mapTo_get f xs h0, if_neg (by omega)]
theorem mapTo_step (f : Int → Int) (xs : List Int) {k : Int} (h0 : 0 ≤ k) (h1 : k < (xs.length : Int)) : (mapTo f xs k).set k.toNat (f (at_ (mapTo f xs k) k)) = mapTo f xs (k + 1) := by
  rw [at_mapTo f xs h0]
  apply List.ext_getElem?
  intro j
  rw [List.getElem?_set, mapTo_get f xs h0, mapTo_get f xs (by omega)]
  have hlen : (mapTo f xs k).length = xs.length := by simp [mapTo]; omega
  rw [hlen]
  by_cases hj : k.toNat = j
  · subst hj
    rw [if_pos rfl, if_pos (by omega), if_pos (by omega), at_some h0 h1]; rfl
  · rw [if_neg hj]
    by_cases h2 : (j : Int) < k
    · rw [if_pos h2, if_pos (by omega)]
    · rw [if_neg h2, if_neg (by omega)]
def zipTo (f : Int → Int → Int) (xs ys : List Int) (k : Int) : List Int := List.zipWith f (xs.take k.toNat) ys ++ xs.drop k.toNat
theorem zipTo_0 (f : Int → Int → Int) (xs ys : List Int) : xs = zipTo f xs ys 0 := by simp [zipTo]
theorem zipTo_get (f : Int → Int → Int) (xs ys : List Int) (hl : xs.length = ys.length) {k : Int} (h0 : 0 ≤ k) {j : Nat} (hj : j < xs.length) : (zipTo f xs ys k)[j]? = some (if (j : Int) < k then f (at_ xs (j : Int)) (at_ ys (j : Int)) else at_ xs (j : Int)) := by
  have ex := at_some (xs := xs) (i := (j : Int)) (by omega) (by omega)
  have ey := at_some (xs := ys) (i := (j : Int)) (by omega) (by omega)
  rw [Int.toNat_natCast] at ex ey
  unfold zipTo
  rw [List.getElem?_append]
  simp only [List.length_zipWith, List.length_take]
  by_cases h : (j : Int) < k
  · rw [if_pos h, if_pos (by omega), List.getElem?_zipWith, List.getElem?_take, if_pos (by omega), ex, ey]
  · rw [if_neg h, if_neg (by omega), List.getElem?_drop, ← ex]
    congr 1; omega
theorem zipTo_len (f : Int → Int → Int) (xs ys : List Int) (hl : xs.length = ys.length) (k : Int) : (zipTo f xs ys k).length = xs.length := by
  simp [zipTo]; omega
theorem at_zipTo (f : Int → Int → Int) (xs ys : List Int) (hl : xs.length = ys.length) {k : Int} (h0 : 0 ≤ k) {j : Int} (hj : 0 ≤ j) (hj1 : j < (xs.length : Int)) : at_ (zipTo f xs ys k) j = if j < k then f (at_ xs j) (at_ ys j) else at_ xs j := by
  obtain ⟨n, rfl⟩ := Int.eq_ofNat_of_zero_le hj
  have := zipTo_get f xs ys hl h0 (j := n) (by omega)
  show (zipTo f xs ys k).getD (n : Int).toNat default = _
  rw [List.getD_eq_getElem?_getD, Int.toNat_natCast, this]; rfl
theorem zipTo_step (f : Int → Int → Int) (xs ys : List Int) (hl : xs.length = ys.length) {k : Int} (h0 : 0 ≤ k) (h1 : k < (xs.length : Int)) : (zipTo f xs ys k).set k.toNat (f (at_ (zipTo f xs ys k) k) (at_ ys k)) = zipTo f xs ys (k + 1) := by
  rw [at_zipTo f xs ys hl h0 h0 h1, if_neg (by omega)]
  apply List.ext_getElem?
  intro j
  rw [List.getElem?_set, zipTo_len f xs ys hl]
  by_cases hjl : j < xs.length
  · rw [zipTo_get f xs ys hl h0 hjl, zipTo_get f xs ys hl (by omega) hjl]
    by_cases hj : k.toNat = j
    · subst hj
      rw [if_pos rfl, if_pos (by omega), if_pos (by omega)]
      rw [show ((k.toNat : Nat) : Int) = k by omega]
    · rw [if_neg hj]
      by_cases h2 : (j : Int) < k
      · rw [if_pos h2, if_pos (by omega)]
      · rw [if_neg h2, if_neg (by omega)]
  · rw [if_neg (by omega), List.getElem?_eq_none (by rw [zipTo_len f xs ys hl]; omega), List.getElem?_eq_none (by rw [zipTo_len f xs ys hl]; omega)]

/-! ### The document's sets -/
def members (ws : List Int) : List Bool := (List.range 256).map fun i => bitAt ws i
def pack (l : List Bool) : List Int := words (ofPred fun i => at_ l (i : Int))
theorem not_words (s : BSet) : ofWords (mapTo (fun x => 18446744073709551615 - x) (words s) 4) = ~~~ s := by
  have hok : okInts .u64 4 (mapTo (fun x => 18446744073709551615 - x) (words s) 4) := ⟨rfl, fun x hx => by
    simp only [mapTo, words, List.mem_append, List.mem_map] at hx
    rcases hx with ⟨y, hy, rfl⟩ | hx
    · have hy' := (okWords s).2 y (by simp only [words]; exact List.mem_of_mem_take hy)
      exact in_u64 (by have := u64_hi hy'; omega) (by have := u64_lo hy'; omega)
    · simp at hx⟩
  refine of_ext hok fun i hi => ?_
  have e : at_ (mapTo (fun x => 18446744073709551615 - x) (words s) 4) ((i / 64 : Nat) : Int) = 18446744073709551615 - at_ (words s) ((i / 64 : Nat) : Int) := by
    have h1 := mapTo_get (fun x => 18446744073709551615 - x) (words s) (k := 4) (by omega) (i / 64)
    rw [if_pos (by omega)] at h1
    have h2 := at_some (xs := words s) (i := ((i / 64 : Nat) : Int)) (by omega) (by simp [words]; omega)
    rw [Int.toNat_natCast] at h2
    rw [h2] at h1
    show (mapTo _ _ 4).getD ((i / 64 : Nat) : Int).toNat default = _
    rw [List.getD_eq_getElem?_getD, Int.toNat_natCast, h1]; rfl
  unfold bitAt
  rw [e, com_bit (okInts_at (okWords s) (by omega) (by omega)) (by omega)]
  show (!bitAt (words s) i) = _
  rw [bit_words s hi, BitVec.getLsbD_not]
  simp [hi]
theorem zip_words (f : Int → Int → Int) (g : Bool → Bool → Bool) (hf : ∀ a b, inK .u64 a → inK .u64 b → inK .u64 (f a b)) (hb : ∀ a b j, (f a b).toNat.testBit j = g (a.toNat.testBit j) (b.toNat.testBit j)) (a b : BSet) {c : BSet} (hc : ∀ i, i < 256 → c.getLsbD i = g (a.getLsbD i) (b.getLsbD i)) : ofWords (zipTo f (words a) (words b) 4) = c := by
  have hat : ∀ i, i < 4 → at_ (zipTo f (words a) (words b) 4) (i : Nat) = f (at_ (words a) (i : Nat)) (at_ (words b) (i : Nat)) := fun i hi => by
    rw [at_zipTo f (words a) (words b) rfl (by omega) (by omega) (by simp [words]; omega), if_pos (by omega)]
  have hok : okInts .u64 4 (zipTo f (words a) (words b) 4) := ⟨rfl, fun x hx => by
    obtain ⟨i, hi, rfl⟩ := List.mem_iff_getElem.1 hx
    have hi4 : i < 4 := hi
    have h1 := zipTo_get f (words a) (words b) rfl (k := 4) (by omega) (j := i) hi4
    rw [List.getElem?_eq_getElem hi] at h1
    injection h1 with h1
    rw [h1, if_pos (by omega)]
    exact hf _ _ (okInts_at (okWords a) (by omega) (by omega)) (okInts_at (okWords b) (by omega) (by omega))⟩
  refine of_ext hok fun i hi => ?_
  unfold bitAt
  rw [hat _ (by omega), hb]
  show g (bitAt (words a) i) (bitAt (words b) i) = _
  rw [bit_words a hi, bit_words b hi, hc i hi]
theorem and_words (a b : BSet) : ofWords (zipTo iand (words a) (words b) 4) = a &&& b :=
  zip_words iand and (fun a b ha _ => iand_in b ha) iand_bit a b fun i _ => BitVec.getLsbD_and ..
theorem or_words (a b : BSet) : ofWords (zipTo ior (words a) (words b) 4) = a ||| b :=
  zip_words ior or (fun a b ha hb => ior_in ha hb) ior_bit a b fun i _ => BitVec.getLsbD_or ..
/-- One byte more. -/
theorem put_words (p : Nat → Bool) {c : Int} (h0 : 0 ≤ c) (h1 : c ≤ 255) : (words (ofPred p)).set (c / 64).toNat (ior (at_ (words (ofPred p)) (c / 64)) (2 ^ (c % 64).toNat)) = words (ofPred fun i => p i || decide ((i : Int) = c)) := by
  have hin : inK .u64 (ior (at_ (words (ofPred p)) (c / 64)) (2 ^ (c % 64).toNat)) := ior_in (okInts_at (okWords _) (by omega) (by omega)) (pow_in (by omega) (by omega))
  refine words_ext (okInts_set (okWords _) _ hin) fun i hi => ?_
  rw [pred_bit _ hi]
  unfold bitAt
  rw [at_set (by omega) (by simp [words]; omega) (by omega)]
  by_cases h : ((i / 64 : Nat) : Int) = c / 64
  · rw [if_pos h, ior_bit, pow_bit, ← h]
    show (bitAt (words (ofPred p)) i || _) = _
    rw [bit_words _ hi, pred_bit _ hi]
    congr 1
    exact decide_eq_decide.2 (by omega)
  · rw [if_neg h]
    show bitAt (words (ofPred p)) i = _
    rw [bit_words _ hi, pred_bit _ hi, decide_eq_false (by omega), Bool.or_false]
theorem set_nil : words (setOf []) = words 0 := by
  have : setOf [] = 0 := set_ext fun i hi => by unfold setOf; rw [pred_bit _ hi]; simp
  rw [this]
theorem words_zero : List.replicate 4 (0 : Int) = words 0 := by rfl
theorem setOf_step (bs : List Int) {t : Int} (h0 : 0 ≤ t) (h1 : t < (bs.length : Int)) (hc0 : 0 ≤ at_ bs t) (hc1 : at_ bs t ≤ 255) :
    (words (setOf (bs.take t.toNat))).set (at_ bs t / 64).toNat (ior (at_ (words (setOf (bs.take t.toNat))) (at_ bs t / 64)) (2 ^ (at_ bs t % 64).toNat)) = words (setOf (bs.take (t + 1).toNat)) := by
  unfold setOf
  rw [put_words _ hc0 hc1]
  congr 1
  refine ofPred_congr fun i hi => ?_
  have e : bs.take (t + 1).toNat = bs.take t.toNat ++ [at_ bs t] := by
    rw [show (t + 1).toNat = t.toNat + 1 by omega, List.take_add_one, at_some h0 h1]; rfl
  rw [e]
  simp only [List.mem_append, List.mem_singleton]
  rw [Bool.eq_iff_iff]; simp
theorem setRange_0 (a : Int) : words 0 = words (setRange a (a - 1)) := by
  congr 1
  refine (set_ext fun i hi => ?_).symm
  unfold setRange
  rw [pred_bit _ hi, decide_eq_false (by omega)]; simp
theorem setRange_step (a : Int) {c : Int} (h0 : 0 ≤ c) (h1 : c ≤ 255) (hac : a ≤ c) : (words (setRange a (c - 1))).set (c / 64).toNat (ior (at_ (words (setRange a (c - 1))) (c / 64)) (2 ^ (c % 64).toNat)) = words (setRange a (c + 1 - 1)) := by
  unfold setRange
  rw [put_words _ h0 h1]
  congr 1
  refine ofPred_congr fun i hi => ?_
  rw [Bool.eq_iff_iff]; simp; omega
theorem setRange_end {a b c : Int} (h : b < c ∧ (c ≤ b + 1 ∨ c = a)) : setRange a b = setRange a (c - 1) := by
  unfold setRange
  refine ofPred_congr fun i hi => ?_
  exact decide_eq_decide.2 (by omega)
theorem at_set_self {α : Type} [Inhabited α] {xs : List α} {i : Int} {v : α} (h0 : 0 ≤ i) (h1 : i < (xs.length : Int)) : at_ (xs.set i.toNat v) i = v := by rw [at_set h0 h1 h0, if_pos rfl]
end Gx
