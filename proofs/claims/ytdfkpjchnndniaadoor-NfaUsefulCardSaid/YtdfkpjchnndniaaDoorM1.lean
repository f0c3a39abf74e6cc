/- My own library for walks through the translated code, part M1: laws of the model alone, no word of the program. -/
import Derived.Test.YtdfkpjchnndniaaDoorGx14
import Derived.Laws.StructEq
namespace Gx
open Go Go.RowKit
set_option linter.unusedSimpArgs false
set_option linter.unusedSectionVars false
set_option linter.unusedVariables false

/-! ### Arrays -/
def encInts (k : IntKind) (xs : List Int) : List Value := xs.map fun x => .int k x
def okInts (k : IntKind) (n : Nat) (xs : List Int) : Prop := xs.length = n ∧ ∀ x ∈ xs, inK k x
def encBools (xs : List Bool) : List Value := xs.map fun x => .bool x
def okBools (n : Nat) (xs : List Bool) : Prop := xs.length = n
theorem encInts_one (k : IntKind) (xs : List Int) : ∀ u ∈ encInts k xs, u.oneCell' = true := by simp [encInts, Value.oneCell']
theorem encBools_one (xs : List Bool) : ∀ u ∈ encBools xs, u.oneCell' = true := by
  intro u hu
  simp only [encBools, List.mem_map] at hu
  obtain ⟨x, _, rfl⟩ := hu
  rfl
def kInts (k : IntKind) (n : Nat) (h : 0 < n) : Kd (List Int) := .flat (encInts k) (okInts k n) n h (fun x hx => by simp [encInts, hx.1]) (encInts_one k)
def kBools (n : Nat) (h : 0 < n) : Kd (List Bool) := .flat encBools (okBools n) n h (fun x hx => by simp [encBools]; exact hx) encBools_one
section
variable {k : IntKind} {n : Nat} {xs : List Int} {bs : List Bool} {i v : Int}
theorem encInts_len (h : okInts k n xs) : (encInts k xs).length = n := by simp [encInts, h.1]
theorem encBools_len (h : okBools n bs) : (encBools bs).length = n := by simp [encBools]; exact h
theorem encInts_full (h : okInts k n xs) : ((encInts k xs).drop 0).take n = encInts k xs := by rw [List.drop_zero, List.take_of_length_le]; rw [encInts_len h]; exact Nat.le_refl _
theorem encBools_full (h : okBools n bs) : ((encBools bs).drop 0).take n = encBools bs := by rw [List.drop_zero, List.take_of_length_le]; rw [encBools_len h]; exact Nat.le_refl _
theorem take1 {α : Type} {l : List α} {i : Nat} {a : α} (h : l[i]? = some a) : (l.drop i).take 1 = [a] := by
  obtain ⟨hi, e⟩ := List.getElem?_eq_some_iff.1 h
  rw [List.drop_eq_getElem_cons hi, e]
  rfl
theorem encInts_at (h : okInts k n xs) (h0 : 0 ≤ i) (h1 : i < (n : Int)) : ((encInts k xs).drop (0 + i.toNat * 1)).take 1 = [.int k (at_ xs i)] := by
  have hl := h.1
  rw [Nat.zero_add, Nat.mul_one]
  refine take1 ?_
  rw [encInts, List.getElem?_map, at_some h0 (by omega)]
  rfl
theorem encBools_at (h : okBools n bs) (h0 : 0 ≤ i) (h1 : i < (n : Int)) : ((encBools bs).drop (0 + i.toNat * 1)).take 1 = [.bool (at_ bs i)] := by
  have hl : bs.length = n := h
  rw [Nat.zero_add, Nat.mul_one]
  refine take1 ?_
  rw [encBools, List.getElem?_map, at_some h0 (by omega)]
  rfl
theorem encInts_get (h : okInts k n xs) (h0 : 0 ≤ i) (h1 : i < (n : Int)) : (encInts k xs)[i.toNat]? = some (.int k (at_ xs i)) := by
  have hl := h.1
  rw [encInts, List.getElem?_map, at_some h0 (by omega)]
  rfl
theorem encBools_get (h : okBools n bs) (h0 : 0 ≤ i) (h1 : i < (n : Int)) : (encBools bs)[i.toNat]? = some (.bool (at_ bs i)) := by
  have hl : bs.length = n := h
  rw [encBools, List.getElem?_map, at_some h0 (by omega)]
  rfl
theorem encInts_put (xs : List Int) (i v : Int) : lput (encInts k xs) (0 + i.toNat * 1) [.int k v] = encInts k (xs.set i.toNat v) := by
  simp [lput, encInts, List.map_set]
theorem encBools_put (bs : List Bool) (i : Int) (v : Bool) : lput (encBools bs) (0 + i.toNat * 1) [.bool v] = encBools (bs.set i.toNat v) := by
  simp [lput, encBools, List.map_set]
theorem okInts_set (h : okInts k n xs) (i : Nat) (hv : inK k v) : okInts k n (xs.set i v) := ⟨by rw [List.length_set]; exact h.1, fun x hx => by
  rcases List.mem_or_eq_of_mem_set hx with e | e
  · exact h.2 x e
  · rw [e]; exact hv⟩
theorem okBools_set (h : okBools n bs) (i : Nat) (v : Bool) : okBools n (bs.set i v) := by unfold okBools; rw [List.length_set]; exact h
theorem okInts_at (h : okInts k n xs) (h0 : 0 ≤ i) (h1 : i < (n : Int)) : inK k (at_ xs i) := h.2 _ (List.mem_of_getElem? (at_some h0 (by rw [h.1]; exact h1)))
theorem okInts_rep {v : Int} (hv : inK k v) (n : Nat) : okInts k n (List.replicate n v) := ⟨by simp, fun x hx => by rw [List.eq_of_mem_replicate hx]; exact hv⟩
theorem okBools_rep (n : Nat) (v : Bool) : okBools n (List.replicate n v) := by simp [okBools]
end

/-! ### Sets of bytes -/
abbrev BSet := BitVec 256
/-- The number i of a set's four. -/
def wd (s : BSet) (i : Nat) : Int := ((s.toNat / 2 ^ (64 * i) % 18446744073709551616 : Nat) : Int)
def words (s : BSet) : List Int := [wd s 0, wd s 1, wd s 2, wd s 3]
theorem wd_in (s : BSet) (i : Nat) : inK .u64 (wd s i) := by
  unfold wd
  refine in_u64 ?_ ?_ <;> omega
theorem okWords (s : BSet) : okInts .u64 4 (words s) := ⟨rfl, fun x hx => by simp [words] at hx; rcases hx with e | e | e | e <;> rw [e] <;> exact wd_in s _⟩
def encSet (s : BSet) : List Value := encInts .u64 (words s)
theorem encSet_one (s : BSet) : ∀ u ∈ encSet s, u.oneCell' = true := encInts_one _ _
def kSet : Kd BSet := .flat encSet (fun _ => True) 4 (by omega) (fun _ _ => rfl) encSet_one
def ofWords (xs : List Int) : BSet := BitVec.ofNat 256 ((at_ xs 0).toNat + (at_ xs 1).toNat * 18446744073709551616 + (at_ xs 2).toNat * 340282366920938463463374607431768211456 + (at_ xs 3).toNat * 6277101735386680763835789423207666416102355444464034512896)
theorem words_of {xs : List Int} (h : okInts .u64 4 xs) : words (ofWords xs) = xs := by
  obtain ⟨hl, hr⟩ := h
  match xs, hl with
  | [a, b, c, d], _ =>
    have ha := hr a (by simp); have hb := hr b (by simp); have hc := hr c (by simp); have hd := hr d (by simp)
    have a0 := u64_lo ha; have a1 := u64_hi ha; have b0 := u64_lo hb; have b1 := u64_hi hb; have c0 := u64_lo hc; have c1 := u64_hi hc; have d0 := u64_lo hd; have d1 := u64_hi hd
    have e0 : at_ [a, b, c, d] 0 = a := rfl
    have e1 : at_ [a, b, c, d] 1 = b := rfl
    have e2 : at_ [a, b, c, d] 2 = c := rfl
    have e3 : at_ [a, b, c, d] 3 = d := rfl
    obtain ⟨a', rfl⟩ := Int.eq_ofNat_of_zero_le a0
    obtain ⟨b', rfl⟩ := Int.eq_ofNat_of_zero_le b0
    obtain ⟨c', rfl⟩ := Int.eq_ofNat_of_zero_le c0
    obtain ⟨d', rfl⟩ := Int.eq_ofNat_of_zero_le d0
    have p : (2 : Nat) ^ 256 = 115792089237316195423570985008687907853269984665640564039457584007913129639936 := by decide
    have hN : (a' + b' * 18446744073709551616 + c' * 340282366920938463463374607431768211456 + d' * 6277101735386680763835789423207666416102355444464034512896) % 2 ^ 256 = a' + b' * 18446744073709551616 + c' * 340282366920938463463374607431768211456 + d' * 6277101735386680763835789423207666416102355444464034512896 := by
      apply Nat.mod_eq_of_lt; rw [p]; omega
    simp only [words, wd, ofWords, e0, e1, e2, e3, BitVec.toNat_ofNat, Int.toNat_natCast, hN, Nat.mul_zero, Nat.mul_one, Nat.reduceMul, Nat.reducePow, Nat.pow_zero, Nat.div_one]
    have q0 : (a' + b' * 18446744073709551616 + c' * 340282366920938463463374607431768211456 + d' * 6277101735386680763835789423207666416102355444464034512896) % 18446744073709551616 = a' := by omega
    have q1 : (a' + b' * 18446744073709551616 + c' * 340282366920938463463374607431768211456 + d' * 6277101735386680763835789423207666416102355444464034512896) / 18446744073709551616 % 18446744073709551616 = b' := by omega
    have q2 : (a' + b' * 18446744073709551616 + c' * 340282366920938463463374607431768211456 + d' * 6277101735386680763835789423207666416102355444464034512896) / 340282366920938463463374607431768211456 % 18446744073709551616 = c' := by omega
    have q3 : (a' + b' * 18446744073709551616 + c' * 340282366920938463463374607431768211456 + d' * 6277101735386680763835789423207666416102355444464034512896) / 6277101735386680763835789423207666416102355444464034512896 % 18446744073709551616 = d' := by omega
    rw [q0, q1, q2, q3]
theorem encSet_of {xs : List Int} (h : okInts .u64 4 xs) : encInts .u64 xs = encSet (ofWords xs) := by rw [encSet, words_of h]
theorem of_words (s : BSet) : ofWords (words s) = s := by
  apply BitVec.eq_of_toNat_eq
  have hs := s.isLt
  have p : (2 : Nat) ^ 256 = 115792089237316195423570985008687907853269984665640564039457584007913129639936 := by decide
  have e0 : at_ (words s) 0 = wd s 0 := rfl
  have e1 : at_ (words s) 1 = wd s 1 := rfl
  have e2 : at_ (words s) 2 = wd s 2 := rfl
  have e3 : at_ (words s) 3 = wd s 3 := rfl
  simp only [ofWords, e0, e1, e2, e3, BitVec.toNat_ofNat, wd, Int.toNat_natCast, Nat.mul_zero, Nat.mul_one, Nat.reduceMul, Nat.reducePow, Nat.pow_zero, Nat.div_one]
  rw [p] at hs
  omega
theorem words_inj {a b : BSet} (h : words a = words b) : a = b := by rw [← of_words a, ← of_words b, h]
end Gx
