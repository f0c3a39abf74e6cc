/- My own library for walks through the translated code, part M6: laws of the model alone, no word of the program. -/
import Derived.Test.YtdfkpjchnndniaaDoorM5
namespace Gx
open Go Go.RowKit
set_option linter.unusedSimpArgs false
set_option linter.unusedVariables false

/-! ### How many bits are one -/
def sw1 (x : Int) : Int := iand (x / 2) 6148914691236517205 + iand x 6148914691236517205
def sw2 (y : Int) : Int := iand (y / 4) 3689348814741910323 + iand y 3689348814741910323
def sw3 (z : Int) : Int := iand (z / 16 + z) 1085102592571150095
def sw4 (u : Int) : Int := u + u / 256
def sw5 (u : Int) : Int := u + u / 65536
def sw6 (u : Int) : Int := iand (u + u / 4294967296) 127
def pop (x : Int) : Int := sw6 (sw5 (sw4 (sw3 (sw2 (sw1 x)))))
def rep8 (k : Nat) : Nat → Nat
  | 0 => 0
  | n + 1 => k + 256 * rep8 k n
def map8 (f : Nat → Nat) : Nat → Nat → Nat
  | 0, _ => 0
  | n + 1, x => f (x % 256) + 256 * map8 f n (x / 256)
theorem and_byte (u v k m : Nat) (hu : u < 256) (hk : k < 256) : (u + 256 * v) &&& (k + 256 * m) = (u &&& k) + 256 * (v &&& m) := by
  have e : (256 : Nat) = 2 ^ 8 := rfl
  have h1 : u &&& k < 256 := Nat.lt_of_le_of_lt Nat.and_le_left hu
  rw [Nat.add_comm u, Nat.add_comm k, Nat.add_comm (u &&& k), e]
  apply Nat.eq_of_testBit_eq
  intro i
  rw [Nat.testBit_and, Nat.testBit_two_pow_mul_add _ (by omega), Nat.testBit_two_pow_mul_add _ (by omega), Nat.testBit_two_pow_mul_add _ (by omega)]
  by_cases h : i < 8
  · simp [h]
  · simp [h]
def f1 (b : Nat) : Nat := ((b / 2) &&& 85) + (b &&& 85)
def f2 (b : Nat) : Nat := ((b / 4) &&& 51) + (b &&& 51)
def f3 (b : Nat) : Nat := (b + b / 16) &&& 15
theorem f1_shift : ∀ b, b < 256 → ∀ e, e < 2 → (b / 2 + 128 * e) &&& 85 = (b / 2) &&& 85 := by decide +kernel
theorem f2_shift : ∀ b, b < 256 → ∀ e, e < 4 → (b / 4 + 64 * e) &&& 51 = (b / 4) &&& 51 := by decide +kernel
theorem step1 : ∀ n x, ((x / 2) &&& rep8 85 n) + (x &&& rep8 85 n) = map8 f1 n x
  | 0, x => by simp [rep8, map8]
  | n + 1, x => by
    have e1 : x / 2 = (x % 256 / 2 + 128 * (x / 256 % 2)) + 256 * (x / 256 / 2) := by omega
    have e2 : x &&& rep8 85 (n + 1) = (x % 256 &&& 85) + 256 * (x / 256 &&& rep8 85 n) := by
      have : x = x % 256 + 256 * (x / 256) := by omega
      rw [rep8]; conv => lhs; rw [this]
      exact and_byte _ _ _ _ (by omega) (by omega)
    rw [e2, e1, rep8, and_byte _ _ _ _ (by omega) (by omega), f1_shift _ (by omega) _ (by omega), map8, ← step1 n (x / 256), f1]
    omega
theorem step2 : ∀ n x, ((x / 4) &&& rep8 51 n) + (x &&& rep8 51 n) = map8 f2 n x
  | 0, x => by simp [rep8, map8]
  | n + 1, x => by
    have e1 : x / 4 = (x % 256 / 4 + 64 * (x / 256 % 4)) + 256 * (x / 256 / 4) := by omega
    have e2 : x &&& rep8 51 (n + 1) = (x % 256 &&& 51) + 256 * (x / 256 &&& rep8 51 n) := by
      have : x = x % 256 + 256 * (x / 256) := by omega
      rw [rep8]; conv => lhs; rw [this]
      exact and_byte _ _ _ _ (by omega) (by omega)
    rw [e2, e1, rep8, and_byte _ _ _ _ (by omega) (by omega), f2_shift _ (by omega) _ (by omega), map8, ← step2 n (x / 256), f2]
    omega
/-- Each half of a byte is at most four. -/
def nib : Nat → Nat → Prop
  | 0, x => x = 0
  | n + 1, x => x % 16 ≤ 4 ∧ x % 256 / 16 ≤ 4 ∧ nib n (x / 256)
theorem nib_low : ∀ n x, nib n x → x % 16 ≤ 4
  | 0, x, h => by have : x = 0 := h; omega
  | n + 1, x, h => h.1
theorem f3_shift : ∀ b, b < 256 → b % 16 ≤ 4 → b / 16 ≤ 4 → ∀ e, e < 5 → (b + b / 16 + 16 * e) &&& 15 = (b + b / 16) &&& 15 := by decide +kernel
theorem step3 : ∀ n x, nib n x → ((x / 16 + x) &&& rep8 15 n) = map8 f3 n x
  | 0, x, _ => by simp [rep8, map8]
  | n + 1, x, h => by
    have hl := nib_low n _ h.2.2
    have h1 := h.1; have h2 := h.2.1
    have e1 : x / 16 + x = (x % 256 + x % 256 / 16 + 16 * (x / 256 % 16)) + 256 * (x / 256 / 16 + x / 256) := by omega
    rw [e1, rep8, and_byte _ _ _ _ (by omega) (by omega), f3_shift _ (by omega) (by omega) (by omega) _ (by omega), map8, step3 n _ h.2.2, f3]
theorem map8_comp (f g : Nat → Nat) (hf : ∀ b, b < 256 → f b < 256) : ∀ n x, map8 g n (map8 f n x) = map8 (fun b => g (f b)) n x
  | 0, _ => rfl
  | n + 1, x => by
    have h := hf (x % 256) (by omega)
    simp only [map8]
    have e1 : (f (x % 256) + 256 * map8 f n (x / 256)) % 256 = f (x % 256) := by omega
    have e2 : (f (x % 256) + 256 * map8 f n (x / 256)) / 256 = map8 f n (x / 256) := by omega
    rw [e1, e2, map8_comp f g hf n]
theorem f1_lt : ∀ b, b < 256 → f1 b < 256 := by decide +kernel
theorem f21_lt : ∀ b, b < 256 → f2 (f1 b) < 256 := by decide +kernel
theorem f21_nib : ∀ b, b < 256 → f2 (f1 b) % 16 ≤ 4 ∧ f2 (f1 b) / 16 ≤ 4 := by decide +kernel
theorem nib21 : ∀ n x, nib n (map8 (fun b => f2 (f1 b)) n x)
  | 0, _ => rfl
  | n + 1, x => by
    have h := f21_nib (x % 256) (by omega)
    have hlt := f21_lt (x % 256) (by omega)
    simp only [map8]
    generalize f2 (f1 (x % 256)) = z at h hlt
    refine ⟨by omega, by omega, ?_⟩
    have e : (z + 256 * map8 (fun b => f2 (f1 b)) n (x / 256)) / 256 = map8 (fun b => f2 (f1 b)) n (x / 256) := by omega
    rw [e]
    exact nib21 n _
def bcount (b : Nat) : Nat := ((List.range 8).filter fun i => b.testBit i).length
theorem f321 : ∀ b, b < 256 → f3 (f2 (f1 b)) = bcount b := by decide +kernel
theorem bcount_le (b : Nat) : bcount b ≤ 8 := by
  have := List.length_filter_le (fun i => b.testBit i) (List.range 8)
  simpa [bcount] using this
theorem map8_congr {f g : Nat → Nat} (h : ∀ b, b < 256 → f b = g b) : ∀ n x, map8 f n x = map8 g n x
  | 0, _ => rfl
  | n + 1, x => by simp only [map8]; rw [h _ (by omega), map8_congr h n]
theorem swar (x : Nat) : ((let y := ((x / 2) &&& rep8 85 8) + (x &&& rep8 85 8); let z := ((y / 4) &&& rep8 51 8) + (y &&& rep8 51 8); (z / 16 + z) &&& rep8 15 8) : Nat) = map8 bcount 8 x := by
  simp only
  rw [step1, step2, map8_comp f1 f2 f1_lt, step3 _ _ (nib21 8 x), map8_comp (fun b => f2 (f1 b)) f3 f21_lt]
  exact map8_congr f321 8 x
def bits8 (n x : Nat) : Nat := ((List.range (8 * n)).filter fun i => x.testBit i).length
theorem bits8_succ (n x : Nat) : bits8 (n + 1) x = bcount (x % 256) + bits8 n (x / 256) := by
  unfold bits8 bcount
  rw [show 8 * (n + 1) = 8 + 8 * n by omega, range_add, List.filter_append, List.filter_map, List.length_append, List.length_map]
  have e : (256 : Nat) = 2 ^ 8 := rfl
  congr 2
  · apply List.filter_congr
    intro i hi
    have : i < 8 := by simpa using hi
    rw [e, Nat.testBit_mod_two_pow]; simp [this]
  · apply List.filter_congr
    intro i hi
    rw [e, Nat.testBit_div_two_pow]
    simp only [Function.comp_def]
    rw [Nat.add_comm]
theorem sum_law (c0 c1 c2 c3 c4 c5 c6 c7 : Nat) (h0 : c0 ≤ 8) (h1 : c1 ≤ 8) (h2 : c2 ≤ 8) (h3 : c3 ≤ 8) (h4 : c4 ≤ 8) (h5 : c5 ≤ 8) (h6 : c6 ≤ 8) (h7 : c7 ≤ 8) (u a b : Nat)
    (hu : u = c0 + 256 * (c1 + 256 * (c2 + 256 * (c3 + 256 * (c4 + 256 * (c5 + 256 * (c6 + 256 * c7))))))) (ha : a = u + u / 256) (hb : b = a + a / 65536) : (b + b / 4294967296) % 128 = c0 + (c1 + (c2 + (c3 + (c4 + (c5 + (c6 + c7)))))) := by
  have e1 : u / 256 = c1 + 256 * (c2 + 256 * (c3 + 256 * (c4 + 256 * (c5 + 256 * (c6 + 256 * c7))))) := by omega
  rw [e1] at ha
  have ha' : a = (c0 + c1) + 256 * ((c1 + c2) + 256 * ((c2 + c3) + 256 * ((c3 + c4) + 256 * ((c4 + c5) + 256 * ((c5 + c6) + 256 * ((c6 + c7) + 256 * c7)))))) := by omega
  have e2 : a / 65536 = (c2 + c3) + 256 * ((c3 + c4) + 256 * ((c4 + c5) + 256 * ((c5 + c6) + 256 * ((c6 + c7) + 256 * c7)))) := by omega
  rw [e2] at hb
  clear ha e1 e2 hu
  have hb' : b = (c0 + c1 + c2 + c3) + 256 * ((c1 + c2 + c3 + c4) + 256 * ((c2 + c3 + c4 + c5) + 256 * ((c3 + c4 + c5 + c6) + 256 * ((c4 + c5 + c6 + c7) + 256 * ((c5 + c6 + c7) + 256 * ((c6 + c7) + 256 * c7)))))) := by omega
  clear hb ha'
  have e3 : b / 4294967296 = (c4 + c5 + c6 + c7) + 256 * ((c5 + c6 + c7) + 256 * ((c6 + c7) + 256 * c7)) := by omega
  rw [e3]
  omega
theorem map8_8 (f : Nat → Nat) (x : Nat) : map8 f 8 x = f (x % 256) + 256 * (f (x / 256 % 256) + 256 * (f (x / 256 / 256 % 256) + 256 * (f (x / 256 / 256 / 256 % 256) + 256 * (f (x / 256 / 256 / 256 / 256 % 256) + 256 * (f (x / 256 / 256 / 256 / 256 / 256 % 256) + 256 * (f (x / 256 / 256 / 256 / 256 / 256 / 256 % 256) + 256 * f (x / 256 / 256 / 256 / 256 / 256 / 256 / 256 % 256))))))) := by
  simp only [map8, Nat.mul_zero, Nat.add_zero]
theorem bits8_0 (x : Nat) : bits8 0 x = 0 := rfl
theorem bits8_8 (x : Nat) : bits8 8 x = bcount (x % 256) + (bcount (x / 256 % 256) + (bcount (x / 256 / 256 % 256) + (bcount (x / 256 / 256 / 256 % 256) + (bcount (x / 256 / 256 / 256 / 256 % 256) + (bcount (x / 256 / 256 / 256 / 256 / 256 % 256) + (bcount (x / 256 / 256 / 256 / 256 / 256 / 256 % 256) + bcount (x / 256 / 256 / 256 / 256 / 256 / 256 / 256 % 256))))))) := by
  rw [bits8_succ 7, bits8_succ 6, bits8_succ 5, bits8_succ 4, bits8_succ 3, bits8_succ 2, bits8_succ 1, bits8_succ 0, bits8_0, Nat.add_zero]
theorem sum8 (x u a b : Nat) (hu : u = map8 bcount 8 x) (ha : a = u + u / 256) (hb : b = a + a / 65536) : (b + b / 4294967296) % 128 = bits8 8 x := by
  rw [bits8_8]
  rw [map8_8] at hu
  exact sum_law _ _ _ _ _ _ _ _ (bcount_le _) (bcount_le _) (bcount_le _) (bcount_le _) (bcount_le _) (bcount_le _) (bcount_le _) (bcount_le _) u a b hu ha hb
theorem pop_eq {x : Int} (h0 : 0 ≤ x) : pop x = ((wbits x.toNat).length : Nat) := by
  obtain ⟨n, rfl⟩ := Int.eq_ofNat_of_zero_le h0
  have r1 : (6148914691236517205 : Int).toNat = rep8 85 8 := by decide
  have r2 : (3689348814741910323 : Int).toNat = rep8 51 8 := by decide
  have r3 : (1085102592571150095 : Int).toNat = rep8 15 8 := by decide
  have r4 : (127 : Int).toNat = 2 ^ 7 - 1 := by decide
  have d : ∀ (a k : Nat), ((a : Int) / (k : Int)).toNat = a / k := fun a k => by rw [← Int.natCast_ediv, Int.toNat_natCast]
  have e1 : sw1 (n : Int) = ((((n / 2) &&& rep8 85 8) + (n &&& rep8 85 8) : Nat) : Int) := by
    unfold sw1 iand; rw [r1, Int.toNat_natCast, show ((n : Int) / 2).toNat = n / 2 from d n 2, Int.natCast_add]
  have e2 : ∀ n : Nat, sw2 (n : Int) = ((((n / 4) &&& rep8 51 8) + (n &&& rep8 51 8) : Nat) : Int) := fun n => by
    unfold sw2 iand; rw [r2, Int.toNat_natCast, show ((n : Int) / 4).toNat = n / 4 from d n 4, Int.natCast_add]
  have e3 : ∀ n : Nat, sw3 (n : Int) = (((n / 16 + n) &&& rep8 15 8 : Nat) : Int) := fun n => by
    unfold sw3 iand; rw [r3, show ((n : Int) / 16 + n).toNat = n / 16 + n by omega]
  have e4 : ∀ n : Nat, sw4 (n : Int) = ((n + n / 256 : Nat) : Int) := fun n => by unfold sw4; omega
  have e5 : ∀ n : Nat, sw5 (n : Int) = ((n + n / 65536 : Nat) : Int) := fun n => by unfold sw5; omega
  have e6 : ∀ n : Nat, sw6 (n : Int) = (((n + n / 4294967296) % 128 : Nat) : Int) := fun n => by
    unfold sw6 iand; rw [r4, show ((n : Int) + (n : Int) / 4294967296).toNat = n + n / 4294967296 by omega, Nat.and_two_pow_sub_one_eq_mod]
  unfold pop
  rw [e1, e2, e3, e4, e5, e6, Int.toNat_natCast]
  have h1 := swar n
  simp only at h1
  rw [h1]
  rw [sum8 n _ _ _ rfl rfl rfl]
  rfl
theorem wbits_le (x : Nat) : (wbits x).length ≤ 64 := by
  have := List.length_filter_le (fun i => x.testBit i) (List.range 64)
  simpa [wbits] using this
theorem wrow_in {s : BSet} {t : Int} (h0 : 0 ≤ t) (h1 : t < 4) : True := trivial
end Gx
