/- My own library for walks through the translated code, part N9: laws of the model alone, no word of the program. -/
import Derived.Test.YtdfkpjchnndniaaDoorN7
namespace Gx
open Go Go.RowKit
set_option linter.unusedSimpArgs false
set_option linter.unusedSectionVars false
set_option linter.unusedVariables false

/-! ### Rising numbers, as pairs -/
theorem rises_iff {b : Int} : ∀ {last : Int} {l : List Int}, rises b last l = true ↔ l.Pairwise (· < ·) ∧ ∀ x ∈ l, last < x ∧ x < b
  | last, [] => by simp [rises]
  | last, n :: r => by
    unfold rises
    rw [Bool.and_eq_true, Bool.and_eq_true, decide_eq_true_eq, decide_eq_true_eq, rises_iff, List.pairwise_cons]
    constructor
    · rintro ⟨⟨h1, h2⟩, h3, h4⟩
      refine ⟨⟨fun x hx => (h4 x hx).1, h3⟩, fun x hx => ?_⟩
      rcases List.mem_cons.1 hx with e | e
      · subst e; exact ⟨h1, h2⟩
      · have := h4 x e; omega
    · rintro ⟨⟨h1, h2⟩, h3⟩
      have h4 := h3 n (by simp)
      exact ⟨h4, h2, fun x hx => ⟨h1 x hx, (h3 x (List.mem_cons_of_mem _ hx)).2⟩⟩
/-! ### The numbers of those that are kept -/
section
variable {m : Mach} (hR : Right m)
def keptN (m : Mach) : List Int := kept m m.spots.length
theorem kept_pair (m : Mach) (t : Int) : (kept m t).Pairwise (· < ·) := by
  unfold kept posTo ints
  rw [List.pairwise_map]
  exact (List.pairwise_lt_range.filter _).imp fun h => by omega
theorem mem_kept {m : Mach} {t x : Int} : x ∈ kept m t ↔ 0 ≤ x ∧ x < t ∧ at_ (keepM m) x = true := by
  unfold kept
  rw [mem_posTo]
  constructor
  · rintro ⟨h0, h1, h2⟩; exact ⟨h0, h1, by rwa [Int.toNat_of_nonneg h0] at h2⟩
  · rintro ⟨h0, h1, h2⟩; exact ⟨h0, h1, by rwa [Int.toNat_of_nonneg h0]⟩
/-- The list of those that are kept, ahead of one of them, is a beginning of the whole list. -/
theorem kept_split {m : Mach} {i : Int} (h0 : 0 ≤ i) (h1 : i < (m.spots.length : Int)) (hk : at_ (keepM m) i = true) : ∃ r, keptN m = kept m i ++ i :: r := by
  have : ∀ d : Nat, ∃ r, kept m (i + 1 + d) = kept m i ++ i :: r := fun d => by
    induction d with
    | zero => exact ⟨[], by rw [show i + 1 + ((0 : Nat) : Int) = i + 1 by omega, kept_yes m h0 hk]⟩
    | succ d ih =>
      obtain ⟨r, e⟩ := ih
      rw [show i + 1 + ((d + 1 : Nat) : Int) = (i + 1 + d) + 1 by omega]
      cases hb : at_ (keepM m) (i + 1 + d) with
      | true => rw [kept_yes m (by omega) hb, e]; exact ⟨r ++ [i + 1 + d], by simp⟩
      | false => rw [kept_no m (by omega) hb, e]; exact ⟨r, rfl⟩
  obtain ⟨r, e⟩ := this ((m.spots.length : Int) - (i + 1)).toNat
  refine ⟨r, ?_⟩
  unfold keptN
  rw [← e, show i + 1 + (((m.spots.length : Int) - (i + 1)).toNat : Int) = m.spots.length by omega]
theorem num_in {m : Mach} {i : Int} (h0 : 0 ≤ i) (h1 : i < (m.spots.length : Int)) (hk : at_ (keepM m) i = true) : 0 ≤ numAt (keepM m) i ∧ numAt (keepM m) i < ((keptN m).length : Int) ∧ at_ (keptN m) (numAt (keepM m) i) = i := by
  obtain ⟨r, e⟩ := kept_split h0 h1 hk
  have hn : numAt (keepM m) i = ((kept m i).length : Nat) := rfl
  rw [hn, e]
  refine ⟨by omega, by simp; omega, ?_⟩
  unfold at_
  simp
theorem kept_at {m : Mach} {j : Int} (h0 : 0 ≤ j) (h1 : j < ((keptN m).length : Int)) : (0 ≤ at_ (keptN m) j ∧ at_ (keptN m) j < (m.spots.length : Int)) ∧ at_ (keepM m) (at_ (keptN m) j) = true ∧ numAt (keepM m) (at_ (keptN m) j) = j := by
  have hm := at_mem h0 h1
  obtain ⟨a0, a1, a2⟩ := mem_kept.1 hm
  refine ⟨⟨a0, a1⟩, a2, ?_⟩
  obtain ⟨b0, b1, b2⟩ := num_in a0 a1 a2
  have hp : (keptN m).Pairwise (· < ·) := kept_pair m m.spots.length
  have key : ∀ a c : Int, 0 ≤ a → a < c → c < ((keptN m).length : Int) → at_ (keptN m) a < at_ (keptN m) c := fun a c ha hac hc => by
    have := List.pairwise_iff_getElem.1 hp a.toNat c.toNat (by omega) (by omega) (by omega)
    have e1 := at_some (xs := keptN m) ha (by omega)
    have e2 := at_some (xs := keptN m) (i := c) (by omega) hc
    rw [List.getElem?_eq_getElem (by omega)] at e1 e2
    injection e1 with e1
    injection e2 with e2
    rwa [e1, e2] at this
  rcases Int.lt_trichotomy (numAt (keepM m) (at_ (keptN m) j)) j with h | h | h
  · have := key _ _ b0 h h1; omega
  · exact h
  · have := key _ _ h0 h b1; omega
theorem num_lt {m : Mach} {i k : Int} (h0 : 0 ≤ i) (hik : i < k) (hk : at_ (keepM m) i = true) : numAt (keepM m) i < numAt (keepM m) k := by
  have h1 := num_at1 (keepM m) h0 hk
  have : ∀ d : Nat, numAt (keepM m) (i + 1) ≤ numAt (keepM m) (i + 1 + d) := fun d => by
    induction d with
    | zero => rw [show i + 1 + ((0 : Nat) : Int) = i + 1 by omega]; exact Int.le_refl _
    | succ d ih =>
      rw [show i + 1 + ((d + 1 : Nat) : Int) = (i + 1 + d) + 1 by omega]
      cases hb : at_ (keepM m) (i + 1 + d) with
      | true => rw [num_at1 _ (by omega) hb]; omega
      | false => rw [num_at2 _ (by omega) hb]; exact ih
  have h2 := this (k - (i + 1)).toNat
  rw [show i + 1 + ((k - (i + 1)).toNat : Int) = k by omega] at h2
  omega
theorem mem_lefts {m : Mach} {l : List Int} (hl : ∀ x ∈ l, 0 ≤ x ∧ x < (m.spots.length : Int)) {y : Int} : y ∈ lefts m l ↔ ∃ x ∈ l, at_ (keepM m) x = true ∧ y = numAt (keepM m) x := by
  unfold lefts leftN
  rw [List.mem_map]
  constructor
  · rintro ⟨x, hx, e⟩
    rw [List.mem_filter] at hx
    have := hl x hx.1
    rw [numsL_at _ this.1 this.2] at e
    exact ⟨x, hx.1, hx.2, e.symm⟩
  · rintro ⟨x, hx, hk, e⟩
    have := hl x hx
    exact ⟨x, List.mem_filter.2 ⟨hx, hk⟩, by rw [numsL_at _ this.1 this.2]; exact e.symm⟩
theorem num_mem {m : Mach} {l : List Int} (hl : ∀ x ∈ l, 0 ≤ x ∧ x < (m.spots.length : Int)) {i : Int} (h0 : 0 ≤ i) (h1 : i < (m.spots.length : Int)) (hk : at_ (keepM m) i = true) : numAt (keepM m) i ∈ lefts m l ↔ i ∈ l := by
  rw [mem_lefts hl]
  constructor
  · rintro ⟨x, hx, hkx, e⟩
    have := hl x hx
    have a := (num_in h0 h1 hk).2.2
    have b := (num_in this.1 this.2 hkx).2.2
    rw [e] at a
    rw [← a, b]; exact hx
  · intro h
    exact ⟨i, h, hk, rfl⟩
theorem lefts_rises {m : Mach} {l : List Int} (h : rises m.spots.length (-1) l = true) : rises (keptN m).length (-1) (lefts m l) = true := by
  obtain ⟨hp, hb⟩ := rises_iff.1 h
  have hl : ∀ x ∈ l, 0 ≤ x ∧ x < (m.spots.length : Int) := fun x hx => by have := hb x hx; omega
  refine rises_iff.2 ⟨?_, fun y hy => ?_⟩
  · unfold lefts leftN
    rw [List.pairwise_map, List.pairwise_filter]
    refine hp.imp_of_mem fun {a b} ha hb2 hab hka hkb => ?_
    rw [numsL_at _ (hl a ha).1 (hl a ha).2, numsL_at _ (hl b hb2).1 (hl b hb2).2]
    exact num_lt (hl a ha).1 hab hka
  · obtain ⟨x, hx, hk, rfl⟩ := (mem_lefts hl).1 hy
    have := num_in (hl x hx).1 (hl x hx).2 hk
    omega
/-! ### The trimmed machine -/
theorem trim_spots {m : Mach} (hR : Right m) : trimM m = ⟨(keptN m).map fun i => at_ m.spots i, lefts m m.first, (keptN m).map fun i => lefts m (at_ m.follow i), (keptN m).map fun i => at_ m.last i, m.empty⟩ := trim_right (right_iff.2 hR)
theorem trim_len {m : Mach} (hR : Right m) : (trimM m).spots.length = (keptN m).length := by rw [trim_spots hR]; simp
theorem trim_spot {m : Mach} (hR : Right m) {j : Int} (h0 : 0 ≤ j) (h1 : j < ((keptN m).length : Int)) : at_ (trimM m).spots j = at_ m.spots (at_ (keptN m) j) := by rw [trim_spots hR]; exact at_map _ _ h0 h1
theorem trim_follow {m : Mach} (hR : Right m) {j : Int} (h0 : 0 ≤ j) (h1 : j < ((keptN m).length : Int)) : at_ (trimM m).follow j = lefts m (at_ m.follow (at_ (keptN m) j)) := by rw [trim_spots hR]; exact at_map _ _ h0 h1
theorem trim_last {m : Mach} (hR : Right m) {j : Int} (h0 : 0 ≤ j) (h1 : j < ((keptN m).length : Int)) : at_ (trimM m).last j = at_ m.last (at_ (keptN m) j) := by rw [trim_spots hR]; exact at_map _ _ h0 h1
theorem trim_first {m : Mach} (hR : Right m) : (trimM m).first = lefts m m.first := by rw [trim_spots hR]
theorem trim_Right {m : Mach} (hR : Right m) : Right (trimM m) where
  small := by rw [trim_len hR]; have := kept_len m (t := m.spots.length) (by omega); have := hR.small; unfold keptN; omega
  follow := by rw [trim_spots hR]; simp
  last := by rw [trim_spots hR]; simp
  first := by rw [trim_len hR, trim_first hR]; exact lefts_rises hR.first
  tag := fun i h0 h1 => by
    rw [trim_len hR] at h1
    rw [trim_spot hR h0 h1]
    have := (kept_at h0 h1).1
    exact hR.tag _ this.1 this.2
  row := fun i h0 h1 => by
    rw [trim_len hR] at h1
    rw [trim_len hR, trim_follow hR h0 h1]
    have := (kept_at h0 h1).1
    exact lefts_rises (hR.row _ this.1 this.2)
end
end Gx
