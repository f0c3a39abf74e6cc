/- My own library for walks through the translated code, part M5: laws of the model alone, no word of the program. -/
import Derived.Test.YtdfkpjchnndniaaDoorM4
import Derived.Lib.TrailingZeros
namespace Gx
open Go Go.RowKit
set_option linter.unusedSimpArgs false
set_option linter.unusedVariables false

/-! ### What is in a set, one behind the other -/
def elemsTo (s : BSet) (n : Nat) : List Nat := (List.range n).filter fun i => s.getLsbD i
def elems (s : BSet) : List Nat := elemsTo s 256
def ints (l : List Nat) : List Int := l.map fun (i : Nat) => ((i : Nat) : Int)
def listOf (s : BSet) : List Int := ints (elems s)
def count (s : BSet) : Int := ((elems s).length : Nat)
def someIn (s : BSet) : Bool := !(elems s).isEmpty
def first (s : BSet) : Int := ((elems s).head?.getD 0 : Nat)
def wbits (x : Nat) : List Nat := (List.range 64).filter fun i => x.testBit i
theorem range_add (a b : Nat) : List.range (a + b) = List.range a ++ (List.range b).map (a + ·) := by
  induction b with
  | zero => simp
  | succ b ih => rw [← Nat.add_assoc, List.range_succ, ih, List.range_succ]; simp
theorem elemsTo_word (s : BSet) (k : Nat) : elemsTo s (64 * (k + 1)) = elemsTo s (64 * k) ++ (wbits (wd s k).toNat).map (64 * k + ·) := by
  unfold elemsTo wbits
  rw [Nat.mul_add, Nat.mul_one, range_add, List.filter_append, List.filter_map]
  congr 2
  apply List.filter_congr
  intro j hj
  rw [wd_bit s k (by simpa using hj)]; rfl
theorem elems_words (s : BSet) : elems s = elemsTo s (64 * 4) := rfl
theorem ints_app (a b : List Nat) : ints (a ++ b) = ints a ++ ints b := by simp [ints]
theorem mem_wbits {x i : Nat} : i ∈ wbits x ↔ i < 64 ∧ x.testBit i = true := by simp [wbits]
theorem wbits_nil {x : Nat} (hx : x < 18446744073709551616) : wbits x = [] ↔ x = 0 := by
  constructor
  · intro h
    apply Nat.eq_of_testBit_eq
    intro i
    rw [Nat.zero_testBit]
    by_cases hi : i < 64
    · cases hb : x.testBit i
      · rfl
      · have : i ∈ wbits x := mem_wbits.2 ⟨hi, hb⟩
        rw [h] at this; cases this
    · apply Nat.testBit_lt_two_pow
      have h64 : (2 : Nat) ^ 64 = 18446744073709551616 := by decide
      have : (2 : Nat) ^ 64 ≤ 2 ^ i := Nat.pow_le_pow_right (by omega) (by omega)
      omega
  · rintro rfl
    unfold wbits
    rw [List.filter_eq_nil_iff]
    intro i _
    simp
theorem ctz_at {x : Nat} (h0 : x ≠ 0) (hx : x < 18446744073709551616) : ∃ m, x = 2 ^ Lib.ctz 64 x * (2 * m + 1) ∧ Lib.ctz 64 x < 64 := by
  have h64 : (2 : Nat) ^ 64 = 18446744073709551616 := by decide
  obtain ⟨m, hm, hk⟩ := Lib.ctzFrom_spec 64 x (by omega) (by omega)
  have e : Lib.ctz 64 x = Lib.ctzFrom 64 x := by simp [Lib.ctz, h0]
  rw [e]
  exact ⟨m, hm, hk⟩
theorem filter_head {p : Nat → Bool} {n k : Nat} (hk : k < n) (hp : p k = true) (hl : ∀ i, i < k → p i = false) : (List.range n).filter p = k :: ((List.range n).filter fun i => p i && decide (i ≠ k)) := by
  obtain ⟨d, rfl⟩ : ∃ d, n = k + (1 + d) := ⟨n - k - 1, by omega⟩
  rw [range_add, range_add]
  simp only [List.filter_append, List.filter_map, List.map_append]
  have e1 : (List.range k).filter p = [] := by
    rw [List.filter_eq_nil_iff]; intro i hi; rw [hl i (by simpa using hi)]; simp
  have e2 : (List.range k).filter (fun i => p i && decide (i ≠ k)) = [] := by
    rw [List.filter_eq_nil_iff]; intro i hi; rw [hl i (by simpa using hi)]; simp
  rw [e1, e2]
  have e3 : List.range 1 = [0] := rfl
  rw [e3]
  simp only [List.map_cons, List.map_nil, List.nil_append, Function.comp_def, List.filter_cons, List.filter_nil, Nat.add_zero, hp, if_true]
  simp only [Bool.true_and, ne_eq, not_true_eq_false, decide_false, Bool.false_eq_true, if_false, List.map_nil, List.nil_append, List.cons_append, List.map_cons, Nat.add_zero]
  congr 2
  congr 1
  apply List.filter_congr
  intro j hj
  simp
theorem wbits_step {x : Nat} (h0 : x ≠ 0) (hx : x < 18446744073709551616) : wbits x = Lib.ctz 64 x :: wbits (x &&& (x - 1)) := by
  obtain ⟨m, hm, hk⟩ := ctz_at h0 hx
  generalize Lib.ctz 64 x = k at hm hk
  have hbit : ∀ i, x.testBit i = (decide (k ≤ i) && (2 * m + 1).testBit (i - k)) := fun i => by rw [hm, Nat.testBit_two_pow_mul]
  have hp : x.testBit k = true := by rw [hbit]; simp
  have hl : ∀ i, i < k → x.testBit i = false := fun i hi => by rw [hbit, decide_eq_false (by omega)]; rfl
  have hand : ∀ i, (x &&& (x - 1)).testBit i = (x.testBit i && decide (i ≠ k)) := fun i => by
    rw [Nat.testBit_and]
    have hx1 : x - 1 = 2 ^ k * (2 * m) + (2 ^ k - 1) := by
      have hpos : 0 < 2 ^ k := Nat.two_pow_pos k
      have e : 2 ^ k * (2 * m + 1) = 2 ^ k * (2 * m) + 2 ^ k := by rw [Nat.mul_add, Nat.mul_one]
      omega
    by_cases hi : i < k
    · rw [hl i hi]; simp
    · rw [hx1, Nat.testBit_two_pow_mul_add _ (Nat.sub_lt (Nat.two_pow_pos k) (by omega)), if_neg hi]
      by_cases hik : i = k
      · subst hik; simp
      · rw [decide_eq_true hik, Bool.and_true, hbit, decide_eq_true (by omega), Bool.true_and]
        obtain ⟨d, rfl⟩ : ∃ d, i = k + (d + 1) := ⟨i - k - 1, by omega⟩
        have e : k + (d + 1) - k = d + 1 := by omega
        rw [e, Nat.testBit_succ, Nat.testBit_succ]
        have e1 : (2 * m + 1) / 2 = m := by omega
        have e2 : 2 * m / 2 = m := by omega
        rw [e1, e2, Bool.and_self]
  have hf : (List.range 64).filter (fun i => x.testBit i && decide (i ≠ k)) = wbits (x &&& (x - 1)) := by
    unfold wbits
    apply List.filter_congr
    intro i _
    rw [hand i]
  rw [← hf]
  exact filter_head (p := fun i => x.testBit i) hk hp hl
theorem iand_pred_lt {x : Int} (h : 0 < x) : (iand x (x - 1)).toNat < x.toNat := by
  have := iand_le' (a := x) (b := x - 1) (by omega)
  have := iand_nonneg x (x - 1)
  omega
theorem iand_pred {x : Int} (h : 0 < x) : (iand x (x - 1)).toNat = x.toNat &&& (x.toNat - 1) := by
  unfold iand
  rw [Int.toNat_natCast]
  congr 1
  omega

/-! ### Count, First, List -/
def cnt (s : BSet) (t : Int) : Int := ((elemsTo s (64 * t.toNat)).length : Nat)
theorem cnt_0 (s : BSet) : cnt s 0 = 0 := rfl
theorem cnt_4 (s : BSet) : cnt s 4 = count s := rfl
theorem cnt_step (s : BSet) {t : Int} (h0 : 0 ≤ t) (h1 : t < 4) : cnt s t + ((wbits (at_ (words s) t).toNat).length : Nat) = cnt s (t + 1) := by
  obtain ⟨k, rfl⟩ := Int.eq_ofNat_of_zero_le h0
  unfold cnt
  rw [show ((k : Int) + 1).toNat = k + 1 by omega, Int.toNat_natCast, elemsTo_word, at_words s (by omega)]
  simp
theorem elemsTo_le (s : BSet) (n : Nat) : (elemsTo s n).length ≤ n := by
  have := List.length_filter_le (fun i => s.getLsbD i) (List.range n)
  simpa [elemsTo] using this
theorem cnt_le (s : BSet) {t : Int} (h : t ≤ 4) : 0 ≤ cnt s t ∧ cnt s t ≤ 256 := by
  unfold cnt
  have := elemsTo_le s (64 * t.toNat)
  omega
theorem count_le (s : BSet) : 0 ≤ count s ∧ count s ≤ 256 := cnt_4 s ▸ cnt_le s (by omega)
def rowTo (s : BSet) (t : Int) : List Int := ints (elemsTo s (64 * t.toNat))
theorem rowTo_0 (s : BSet) : rowTo s 0 = [] := rfl
theorem rowTo_4 (s : BSet) : rowTo s 4 = listOf s := rfl
def wrow (t x : Int) : List Int := (wbits x.toNat).map fun (i : Nat) => t * 64 + ((i : Nat) : Int)
theorem rowTo_step (s : BSet) {t : Int} (h0 : 0 ≤ t) (h1 : t < 4) : rowTo s t ++ wrow t (at_ (words s) t) = rowTo s (t + 1) := by
  obtain ⟨k, rfl⟩ := Int.eq_ofNat_of_zero_le h0
  unfold rowTo wrow
  rw [show ((k : Int) + 1).toNat = k + 1 by omega, Int.toNat_natCast, elemsTo_word, ints_app, at_words s (by omega)]
  congr 1
  simp [ints]
  intro i _
  omega
theorem wrow_nil (t : Int) : wrow t 0 = [] := by
  have : wbits (0 : Int).toNat = [] := (wbits_nil (by decide)).2 rfl
  unfold wrow; rw [this]; rfl
theorem wrow_step (t : Int) {x : Int} (h0 : 0 < x) (h1 : x ≤ 18446744073709551615) : wrow t x = (t * 64 + ((Lib.ctz 64 x.toNat : Nat) : Int)) :: wrow t (iand x (x - 1)) := by
  unfold wrow
  rw [iand_pred h0, wbits_step (x := x.toNat) (by omega) (by omega)]
  rfl
theorem ctz_lt {x : Int} (h0 : x ≠ 0) (h1 : 0 ≤ x) (h2 : x ≤ 18446744073709551615) : Lib.ctz 64 x.toNat < 64 := (ctz_at (x := x.toNat) (by omega) (by omega)).choose_spec.2
/-- None below. -/
theorem none_step (s : BSet) {t : Int} (h0 : 0 ≤ t) (h1 : t < 4) (hn : rowTo s t = []) (hx : at_ (words s) t = 0) : rowTo s (t + 1) = [] := by
  rw [← rowTo_step s h0 h1, hn, hx, wrow_nil]; rfl
theorem first_none (s : BSet) (h : rowTo s 4 = []) : first s = 0 ∧ someIn s = false := by
  have h2 : elems s = [] := by
    have : (elems s).map (fun (i : Nat) => ((i : Nat) : Int)) = [] := h
    exact List.map_eq_nil_iff.1 this
  unfold first someIn
  rw [h2]; exact ⟨rfl, rfl⟩
theorem elemsTo_prefix (s : BSet) {a b : Nat} (h : a ≤ b) : ∃ l, elemsTo s b = elemsTo s a ++ l := by
  obtain ⟨d, rfl⟩ := Nat.le.dest h
  unfold elemsTo
  rw [range_add, List.filter_append]
  exact ⟨_, rfl⟩
theorem first_at (s : BSet) {t : Int} (h0 : 0 ≤ t) (h1 : t < 4) (hn : rowTo s t = []) (hx : at_ (words s) t ≠ 0) : first s = t * 64 + ((Lib.ctz 64 (at_ (words s) t).toNat : Nat) : Int) ∧ someIn s = true := by
  obtain ⟨k, rfl⟩ := Int.eq_ofNat_of_zero_le h0
  have hin := okInts_at (okWords s) h0 (by omega)
  have hlo := u64_lo hin; have hhi := u64_hi hin
  have hn2 : elemsTo s (64 * k) = [] := by
    have : (elemsTo s (64 * k)).map (fun (i : Nat) => ((i : Nat) : Int)) = [] := by have := hn; unfold rowTo at this; rw [Int.toNat_natCast] at this; exact this
    exact List.map_eq_nil_iff.1 this
  obtain ⟨l, hl⟩ := elemsTo_prefix s (a := 64 * (k + 1)) (b := 256) (by omega)
  rw [elemsTo_word, hn2, ← at_words s (by omega), wbits_step (by omega) (by omega)] at hl
  unfold first someIn elems
  rw [hl]
  constructor
  · simp; omega
  · rfl

/-! ### Members and Pack -/
def memTo (ws : List Int) (t : Int) : List Bool := (List.range 256).map fun (i : Nat) => decide (((i : Nat) : Int) < t) && bitAt ws i
theorem memTo_0 (ws : List Int) : List.replicate 256 false = memTo ws 0 := by
  unfold memTo
  refine (List.eq_replicate_iff.2 ⟨by simp, ?_⟩).symm
  intro b hb
  obtain ⟨i, _, rfl⟩ := List.mem_map.1 hb
  rw [decide_eq_false (by omega)]; rfl
theorem memTo_256 (ws : List Int) : memTo ws 256 = members ws := by
  unfold memTo members
  apply List.map_congr_left
  intro i hi
  have : i < 256 := by simpa using hi
  rw [decide_eq_true (by omega)]; rfl
theorem half_step (x : Int) (k : Int) (h : 0 ≤ k) : x / 2 ^ k.toNat / 2 = x / 2 ^ (k + 1).toNat := by
  rw [show (k + 1).toNat = k.toNat + 1 by omega, Int.pow_succ, Int.ediv_ediv_of_nonneg (Int.le_of_lt (Int.pow_pos (by omega)))]
theorem bit_div {x : Int} (hx : 0 ≤ x) (k : Nat) : decide (x / 2 ^ k % 2 = 1) = x.toNat.testBit k := by
  obtain ⟨n, rfl⟩ := Int.eq_ofNat_of_zero_le hx
  rw [Int.toNat_natCast, Nat.testBit_eq_decide_div_mod_eq]
  have e : ((n : Int) / 2 ^ k) = ((n / 2 ^ k : Nat) : Int) := by simp
  rw [e]
  apply decide_eq_decide.2
  omega
theorem memTo_step (ws : List Int) (hok : okInts .u64 4 ws) {t : Int} (h0 : 0 ≤ t) (h1 : t < 256) : (memTo ws t).set t.toNat (decide (at_ ws (t / 64) / 2 ^ (t % 64).toNat % 2 = 1)) = memTo ws (t + 1) := by
  obtain ⟨n, rfl⟩ := Int.eq_ofNat_of_zero_le h0
  have hin := okInts_at hok (i := (n : Int) / 64) (by omega) (by omega)
  rw [bit_div (u64_lo hin), Int.toNat_natCast]
  have e : (at_ ws ((n : Int) / 64)).toNat.testBit ((n : Int) % 64).toNat = bitAt ws n := by
    unfold bitAt
    rw [show ((n : Int) / 64) = ((n / 64 : Nat) : Int) by omega, show ((n : Int) % 64).toNat = n % 64 by omega]
  rw [e]
  unfold memTo
  apply List.ext_getElem?
  intro j
  rw [List.getElem?_set]
  simp only [List.length_map, List.length_range, List.getElem?_map]
  by_cases hj : n = j
  · subst hj
    rw [if_pos rfl, if_pos (by omega), List.getElem?_range (by omega)]
    simp
    omega
  · rw [if_neg hj]
    by_cases hj2 : j < 256
    · rw [List.getElem?_range hj2]
      simp only [Option.map_some]
      congr 2
      exact decide_eq_decide.2 (by omega)
    · rw [List.getElem?_eq_none (by simpa using hj2)]; rfl
/-- Of the sets' numbers what lies above a byte. -/
def clamp64 (n : Int) : Nat := (max 0 (min n 64)).toNat
def packTo (l : List Bool) (c : Int) : List Int := (List.range 4).map fun k => at_ (pack l) ((k : Nat) : Int) / 2 ^ clamp64 (c + 1 - 64 * ((k : Nat) : Int))
theorem packTo_0 (l : List Bool) : List.replicate 4 (0 : Int) = packTo l 255 := by
  unfold packTo pack
  refine (List.eq_replicate_iff.2 ⟨by simp, ?_⟩).symm
  intro b hb
  obtain ⟨k, hk, rfl⟩ := List.mem_map.1 hb
  have hk4 : k < 4 := by simpa using hk
  have hin := okInts_at (okWords (ofPred fun i => at_ l (i : Int))) (i := ((k : Nat) : Int)) (by omega) (by omega)
  have : clamp64 (255 + 1 - 64 * ((k : Nat) : Int)) = 64 := by unfold clamp64; omega
  rw [this]
  have h1 := u64_lo hin; have h2 := u64_hi hin
  have h64 : (2 : Int) ^ 64 = 18446744073709551616 := by decide
  rw [h64]
  omega
theorem packTo_end (l : List Bool) : packTo l (-1) = pack l := by
  unfold packTo
  have : ∀ k, k < 4 → clamp64 (-1 + 1 - 64 * ((k : Nat) : Int)) = 0 := fun k _ => by unfold clamp64; omega
  apply List.ext_getElem?
  intro j
  rw [List.getElem?_map]
  by_cases hj : j < 4
  · rw [List.getElem?_range hj]
    simp only [Option.map_some, this j hj]
    rw [Int.pow_zero, Int.ediv_one]
    have := at_some (xs := pack l) (i := ((j : Nat) : Int)) (by omega) (by show _ < ((4 : Nat) : Int); omega)
    rw [Int.toNat_natCast] at this
    exact this.symm
  · rw [List.getElem?_eq_none (by simpa using hj), List.getElem?_eq_none (by show 4 ≤ j; omega)]; rfl
theorem packTo_at (l : List Bool) (c : Int) {k : Int} (h0 : 0 ≤ k) (h1 : k < 4) : at_ (packTo l c) k = at_ (pack l) k / 2 ^ clamp64 (c + 1 - 64 * k) := by
  obtain ⟨n, rfl⟩ := Int.eq_ofNat_of_zero_le h0
  unfold packTo
  show (List.map _ _).getD (n : Int).toNat default = _
  rw [List.getD_eq_getElem?_getD, Int.toNat_natCast, List.getElem?_map, List.getElem?_range (by omega)]; rfl
theorem pack_in (l : List Bool) {k : Int} (h0 : 0 ≤ k) (h1 : k < 4) : inK .u64 (at_ (pack l) k) := okInts_at (okWords _) h0 h1
theorem div_pow_bit (x : Int) (hx : 0 ≤ x) (r : Nat) : x / 2 ^ r = 2 * (x / 2 ^ (r + 1)) + (if x.toNat.testBit r then 1 else 0) := by
  have h1 : x / 2 ^ (r + 1) = x / 2 ^ r / 2 := by rw [Int.pow_succ, Int.ediv_ediv_of_nonneg (Int.le_of_lt (Int.pow_pos (by omega)))]
  have h2 := bit_div hx r
  rw [← h2, h1]
  have h3 : 0 ≤ x / 2 ^ r := Int.ediv_nonneg hx (Int.le_of_lt (Int.pow_pos (by omega)))
  generalize x / 2 ^ r = z at h3
  by_cases h : z % 2 = 1
  · rw [if_pos (by simpa using h)]; omega
  · rw [if_neg (by simpa using h)]; omega
theorem pack_bit (l : List Bool) {c : Int} (h0 : 0 ≤ c) (h1 : c < 256) : (at_ (pack l) (c / 64)).toNat.testBit (c % 64).toNat = at_ l c := by
  obtain ⟨n, rfl⟩ := Int.eq_ofNat_of_zero_le h0
  have h := bit_words (ofPred fun i => at_ l (i : Int)) (i := n) (by omega)
  rw [pred_bit _ (by omega)] at h
  unfold bitAt at h
  rw [show ((n : Int) / 64) = ((n / 64 : Nat) : Int) by omega, show ((n : Int) % 64).toNat = n % 64 by omega]
  exact h
/-- The number of a byte's place is made one bit longer. -/
theorem packTo_next (l : List Bool) {c : Int} (h0 : 0 ≤ c) (h1 : c < 256) : at_ (packTo l (c - 1)) (c / 64) = 2 * at_ (packTo l c) (c / 64) + (if at_ l c then 1 else 0) := by
  rw [packTo_at l _ (by omega) (by omega), packTo_at l _ (by omega) (by omega), ← pack_bit l h0 h1]
  have e1 : clamp64 (c - 1 + 1 - 64 * (c / 64)) = (c % 64).toNat := by unfold clamp64; omega
  have e2 : clamp64 (c + 1 - 64 * (c / 64)) = (c % 64).toNat + 1 := by unfold clamp64; omega
  rw [e1, e2]
  exact div_pow_bit _ (u64_lo (pack_in l (by omega) (by omega))) _
theorem packTo_same (l : List Bool) {c k : Int} (h0 : 0 ≤ c) (h1 : c < 256) (hk : 0 ≤ k) (hk1 : k < 4) (hn : k ≠ c / 64) : at_ (packTo l (c - 1)) k = at_ (packTo l c) k := by
  rw [packTo_at l _ hk hk1, packTo_at l _ hk hk1]
  congr 2
  unfold clamp64
  omega
theorem packTo_len (l : List Bool) (c : Int) : (packTo l c).length = 4 := by simp [packTo]
theorem packTo_in (l : List Bool) (c : Int) : okInts .u64 4 (packTo l c) := ⟨packTo_len l c, fun x hx => by
  obtain ⟨k, hk, rfl⟩ := List.mem_map.1 hx
  have hk4 : k < 4 := by simpa using hk
  have hin := pack_in l (k := ((k : Nat) : Int)) (by omega) (by omega)
  have h1 := u64_lo hin; have h2 := u64_hi hin
  have hp : (0 : Int) < 2 ^ clamp64 (c + 1 - 64 * ((k : Nat) : Int)) := Int.pow_pos (by omega)
  exact in_u64 (Int.ediv_nonneg h1 (Int.le_of_lt hp)) (Int.le_trans (Int.ediv_le_self _ h1) h2)⟩
theorem packTo_bound (l : List Bool) {c : Int} (h0 : 0 ≤ c) (h1 : c < 256) : 2 * at_ (packTo l c) (c / 64) + 1 ≤ 18446744073709551615 := by
  have h := packTo_next l h0 h1
  have hin := okInts_at (packTo_in l (c - 1)) (i := c / 64) (by omega) (by omega)
  have h2 := u64_hi hin
  have hin3 := okInts_at (packTo_in l c) (i := c / 64) (by omega) (by omega)
  have h3 := u64_lo hin3
  have hb : 2 * at_ (packTo l c) (c / 64) ≤ 18446744073709551615 := by split at h <;> omega
  omega
theorem list4_ext {a b : List Int} (ha : a.length = 4) (hb : b.length = 4) (h : ∀ k : Int, 0 ≤ k → k < 4 → at_ a k = at_ b k) : a = b := by
  apply List.ext_getElem?
  intro j
  by_cases hj : j < 4
  · have h1 := at_some (xs := a) (i := ((j : Nat) : Int)) (by omega) (by omega)
    have h2 := at_some (xs := b) (i := ((j : Nat) : Int)) (by omega) (by omega)
    rw [Int.toNat_natCast] at h1 h2
    rw [h1, h2, h _ (by omega) (by omega)]
  · rw [List.getElem?_eq_none (by omega), List.getElem?_eq_none (by omega)]
theorem packTo_step (l : List Bool) {c : Int} (h0 : 0 ≤ c) (h1 : c < 256) {v : Int} (hv : v = 2 * at_ (packTo l c) (c / 64) + (if at_ l c then 1 else 0)) : (packTo l c).set (c / 64).toNat v = packTo l (c - 1) := by
  refine list4_ext (by rw [List.length_set]; exact packTo_len l c) (packTo_len l _) fun k hk hk1 => ?_
  rw [at_set (by omega) (by rw [packTo_len]; omega) hk]
  by_cases h : k = c / 64
  · rw [if_pos h, h, packTo_next l h0 h1, hv]
  · rw [if_neg h, packTo_same l h0 h1 hk hk1 h]
theorem packTo_stepF (l : List Bool) {c : Int} {s : List Int} (hs : s = packTo l c) (h0 : 0 ≤ c) (h1 : c < 256) (hb : at_ l c = false) : s.set (c / 64).toNat (2 * at_ s (c / 64)) = packTo l (c - 1) := by
  subst hs
  refine packTo_step l h0 h1 ?_
  rw [hb]; simp
theorem packTo_stepT (l : List Bool) {c : Int} {s : List Int} (hs : s = packTo l c) (h0 : 0 ≤ c) (h1 : c < 256) (hb : at_ l c = true) : (s.set (c / 64).toNat (2 * at_ s (c / 64))).set (c / 64).toNat (at_ (s.set (c / 64).toNat (2 * at_ s (c / 64))) (c / 64) + 1) = packTo l (c - 1) := by
  subst hs
  rw [List.set_set, at_set_self (by omega) (by rw [packTo_len]; omega)]
  refine packTo_step l h0 h1 ?_
  rw [hb]; simp
theorem rowTo_le (s : BSet) (t : Int) : (rowTo s t).length ≤ 64 * t.toNat := by
  unfold rowTo ints
  rw [List.length_map]
  exact elemsTo_le s _
theorem list_bound (s : BSet) {t x : Int} {out out2 : List Int} (h0 : 0 ≤ t) (h1 : t < 4) (ho : out = rowTo s t) (h : out2 ++ wrow t x = out ++ wrow t (at_ (words s) t)) : out2.length ≤ 256 := by
  have h2 := congrArg List.length h
  rw [ho, rowTo_step s h0 h1] at h2
  have := rowTo_le s (t + 1)
  rw [List.length_append] at h2
  omega
end Gx
