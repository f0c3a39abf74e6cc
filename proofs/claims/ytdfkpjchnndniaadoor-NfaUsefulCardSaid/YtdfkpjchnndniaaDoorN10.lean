/- My own library for walks through the translated code, part N10: laws of the model alone, no word of the program. -/
import Derived.Test.YtdfkpjchnndniaaDoorN9
namespace Gx
open Go Go.RowKit
set_option linter.unusedSimpArgs false
set_option linter.unusedSectionVars false
set_option linter.unusedVariables false

/-! ### What a trimmed machine takes -/
section
variable {m : Mach}
theorem keep_come (hR : Right m) {i : Nat} (hi : i < m.spots.length) (h : at_ (keepM m) ((i : Nat) : Int) = true) : at_ (comeM m) ((i : Nat) : Int) = true ∧ at_ (goesM m) ((i : Nat) : Int) = true := by
  rw [keep_iff hR hi, Bool.and_eq_true] at h; exact h
theorem keep_of (hR : Right m) {i : Nat} (hi : i < m.spots.length) (hc : at_ (comeM m) ((i : Nat) : Int) = true) (hg : at_ (goesM m) ((i : Nat) : Int) = true) : at_ (keepM m) ((i : Nat) : Int) = true := by
  rw [keep_iff hR hi, hc, hg]; rfl
/-- A spot that is kept, and its number. -/
theorem num_nat (hR : Right m) {i : Nat} (hi : i < m.spots.length) (hk : at_ (keepM m) ((i : Nat) : Int) = true) : ∃ j : Nat, numAt (keepM m) ((i : Nat) : Int) = ((j : Nat) : Int) ∧ j < (trimM m).spots.length ∧ at_ (keptN m) ((j : Nat) : Int) = ((i : Nat) : Int) := by
  obtain ⟨h0, h1, h2⟩ := num_in (m := m) (i := ((i : Nat) : Int)) (by omega) (by omega) hk
  rw [trim_len hR]
  exact ⟨(numAt (keepM m) ((i : Nat) : Int)).toNat, by omega, by omega, by rw [Int.toNat_of_nonneg h0]; exact h2⟩
theorem kept_nat (hR : Right m) {j : Nat} (hj : j < (trimM m).spots.length) : ∃ i : Nat, at_ (keptN m) ((j : Nat) : Int) = ((i : Nat) : Int) ∧ i < m.spots.length ∧ at_ (keepM m) ((i : Nat) : Int) = true ∧ numAt (keepM m) ((i : Nat) : Int) = ((j : Nat) : Int) := by
  rw [trim_len hR] at hj
  obtain ⟨⟨h0, h1⟩, h2, h3⟩ := kept_at (m := m) (j := ((j : Nat) : Int)) (by omega) (by omega)
  refine ⟨(at_ (keptN m) ((j : Nat) : Int)).toNat, by omega, by omega, ?_, ?_⟩ <;> rw [Int.toNat_of_nonneg h0] <;> assumption
theorem trim_full (hR : Right m) {i j : Nat} (hj : j < (trimM m).spots.length) (e : at_ (keptN m) ((j : Nat) : Int) = ((i : Nat) : Int)) : fullS (trimM m) j = fullS m i := by
  unfold fullS
  rw [trim_spot hR (by omega) (by rw [← trim_len hR]; omega), e]
theorem trim_next (hR : Right m) {i i2 j j2 : Nat} (hj : j < (trimM m).spots.length) (e : at_ (keptN m) ((j : Nat) : Int) = ((i : Nat) : Int)) (hi : i < m.spots.length) (hi2 : i2 < m.spots.length) (hk2 : at_ (keepM m) ((i2 : Nat) : Int) = true) (e2 : numAt (keepM m) ((i2 : Nat) : Int) = ((j2 : Nat) : Int)) : ((j2 : Nat) : Int) ∈ at_ (trimM m).follow ((j : Nat) : Int) ↔ ((i2 : Nat) : Int) ∈ at_ m.follow ((i : Nat) : Int) := by
  rw [trim_follow hR (by omega) (by rw [← trim_len hR]; omega), e, ← e2]
  exact num_mem (hR.rows (by omega) (by omega)) (by omega) (by omega) hk2
/-- To each spot that is left a run comes, and goes on. -/
theorem trim_come (hR : Right m) {j : Nat} (hj : j < (trimM m).spots.length) : at_ (comeM (trimM m)) ((j : Nat) : Int) = true := by
  obtain ⟨i, ei, hi, hk, en⟩ := kept_nat hR hj
  have hs : Sub m.spots.length (comeM m) (tab m.spots.length fun i => at_ (comeM m) ((i : Nat) : Int) && (!at_ (keepM m) ((i : Nat) : Int) || at_ (comeM (trimM m)) (numAt (keepM m) ((i : Nat) : Int)))) := by
    refine come_least (fun a ha hf hx => ?_) fun a b ha hb hf hp hx => ?_
    · rw [tab_at' ha, come_first ha hf hx, Bool.true_and]
      cases hka : at_ (keepM m) ((a : Nat) : Int) with
      | false => rfl
      | true =>
        obtain ⟨c, ec, hc, e2⟩ := num_nat hR ha hka
        rw [ec, come_first hc (by rw [trim_full hR hc e2]; exact hf) (by rw [trim_first hR, ← ec]; exact (num_mem hR.firsts (by omega) (by omega) hka).2 hx)]; rfl
    · rw [tab_at' hb, Bool.and_eq_true] at hp
      have hca := come_next ha hf hb hp.1 hx
      rw [tab_at' ha, hca, Bool.true_and]
      cases hka : at_ (keepM m) ((a : Nat) : Int) with
      | false => rfl
      | true =>
        have hkb := keep_of hR hb hp.1 (goes_next hR hb (come_full hb hp.1) hx (keep_come hR ha hka).2)
        have h2 := hp.2
        rw [hkb] at h2
        obtain ⟨c, ec, hc, e2⟩ := num_nat hR ha hka
        obtain ⟨c', ec', hc', e2'⟩ := num_nat hR hb hkb
        rw [ec'] at h2
        rw [ec, come_next (j := c') hc (by rw [trim_full hR hc e2]; exact hf) hc' (by simpa using h2) ((trim_next hR hc' e2' hb ha hka ec).2 hx)]; rfl
  have h1 := hs i hi (keep_come hR hi hk).1
  rw [tab_at' hi, hk, en] at h1
  simpa [(keep_come hR hi hk).1] using h1
theorem trim_goes (hR : Right m) {j : Nat} (hj : j < (trimM m).spots.length) : at_ (goesM (trimM m)) ((j : Nat) : Int) = true := by
  obtain ⟨i, ei, hi, hk, en⟩ := kept_nat hR hj
  have hT := trim_Right hR
  have hs : Sub m.spots.length (goesM m) (tab m.spots.length fun i => at_ (goesM m) ((i : Nat) : Int) && (!at_ (keepM m) ((i : Nat) : Int) || at_ (goesM (trimM m)) (numAt (keepM m) ((i : Nat) : Int)))) := by
    refine goes_least (fun a ha hf hx => ?_) (fun a ha hf x hx hp => ?_) hR
    · rw [tab_at' ha, goes_last hR ha hf hx, Bool.true_and]
      cases hka : at_ (keepM m) ((a : Nat) : Int) with
      | false => rfl
      | true =>
        obtain ⟨c, ec, hc, e2⟩ := num_nat hR ha hka
        rw [ec, goes_last hT hc (by rw [trim_full hR hc e2]; exact hf) (by rw [trim_last hR (by omega) (by rw [← trim_len hR]; omega), e2]; exact hx)]; rfl
    · obtain ⟨b, rfl, hb⟩ := row_nat hR ha hx
      rw [tab_at' hb, Bool.and_eq_true] at hp
      have hga := goes_next hR ha hf hx hp.1
      rw [tab_at' ha, hga, Bool.true_and]
      cases hka : at_ (keepM m) ((a : Nat) : Int) with
      | false => rfl
      | true =>
        have hkb := keep_of hR hb (come_next hb (goes_full hR hb hp.1) ha (keep_come hR ha hka).1 hx) hp.1
        have h2 := hp.2
        rw [hkb] at h2
        obtain ⟨c, ec, hc, e2⟩ := num_nat hR ha hka
        obtain ⟨c', ec', hc', e2'⟩ := num_nat hR hb hkb
        rw [ec'] at h2
        rw [ec, goes_next hT hc (by rw [trim_full hR hc e2]; exact hf) ((trim_next hR hc e2 ha hb hkb ec').2 hx) (by simpa using h2)]; rfl
  have h1 := hs i hi (keep_come hR hi hk).2
  rw [tab_at' hi, hk, en] at h1
  simpa [(keep_come hR hi hk).2] using h1
theorem trim_keep (hR : Right m) {j : Nat} (hj : j < (trimM m).spots.length) : at_ (keepM (trimM m)) ((j : Nat) : Int) = true := keep_of (trim_Right hR) hj (trim_come hR hj) (trim_goes hR hj)
theorem trim_fullS (hR : Right m) {j : Nat} (hj : j < (trimM m).spots.length) : fullS (trimM m) j = true := come_full hj (trim_come hR hj)
/-! ### Where all are kept nothing goes -/
theorem all_kept {t : Mach} (h : ∀ j : Nat, j < t.spots.length → at_ (keepM t) ((j : Nat) : Int) = true) : ∀ i : Nat, i ≤ t.spots.length → kept t ((i : Nat) : Int) = ints (List.range i)
  | 0, _ => rfl
  | i + 1, hi => by
    rw [show ((i + 1 : Nat) : Int) = ((i : Nat) : Int) + 1 by omega, kept_yes t (by omega) (h i (by omega)), all_kept h i (by omega), List.range_succ]
    simp [ints]
theorem all_num {t : Mach} (h : ∀ j : Nat, j < t.spots.length → at_ (keepM t) ((j : Nat) : Int) = true) {i : Int} (h0 : 0 ≤ i) (h1 : i < (t.spots.length : Int)) : numAt (keepM t) i = i := by
  have := all_kept h i.toNat (by omega)
  rw [Int.toNat_of_nonneg h0] at this
  show ((kept t i).length : Int) = i
  rw [this]; simp [ints]; omega
theorem map_self {α : Type} [Inhabited α] (l : List α) : (ints (List.range l.length)).map (fun i => at_ l i) = l := by
  refine list_ext (n := l.length) (by simp [ints]) rfl fun k h0 h1 => ?_
  rw [at_map _ _ h0 (by simpa [ints] using h1)]
  have : at_ (ints (List.range l.length)) k = k := by
    unfold ints
    rw [at_map_range _ _ h0 h1]; omega
  rw [this]
theorem lefts_self {t : Mach} (h : ∀ j : Nat, j < t.spots.length → at_ (keepM t) ((j : Nat) : Int) = true) {l : List Int} (hl : ∀ x ∈ l, 0 ≤ x ∧ x < (t.spots.length : Int)) : lefts t l = l := by
  have hk : ∀ x ∈ l, at_ (keepM t) x = true := fun x hx => by have := hl x hx; have h2 := h x.toNat (by omega); rwa [Int.toNat_of_nonneg this.1] at h2
  unfold lefts leftN
  rw [List.filter_eq_self.2 hk]
  have : l.map (fun i => at_ (numsL (keepM t) t.spots.length) i) = l.map id := List.map_congr_left fun x hx => by
    have := hl x hx
    rw [numsL_at _ this.1 this.2, all_num h this.1 this.2]; rfl
  rw [this, List.map_id]
theorem trim_self {t : Mach} (hT : Right t) (h : ∀ j : Nat, j < t.spots.length → at_ (keepM t) ((j : Nat) : Int) = true) : trimM t = t := by
  rw [trim_spots hT]
  have hk : keptN t = ints (List.range t.spots.length) := all_kept h t.spots.length (Nat.le_refl _)
  have e1 := map_self t.spots
  have e3 : (ints (List.range t.spots.length)).map (fun i => at_ t.last i) = t.last := by
    have := map_self t.last
    rwa [show t.last.length = t.spots.length by have := hT.last; omega] at this
  have e2 : (ints (List.range t.spots.length)).map (fun i => lefts t (at_ t.follow i)) = t.follow := by
    have h2 := map_self t.follow
    rw [show t.follow.length = t.spots.length by have := hT.follow; omega] at h2
    refine Eq.trans (List.map_congr_left (g := fun i => at_ t.follow i) fun x hx => ?_) h2
    unfold ints at hx
    obtain ⟨i, hi, rfl⟩ := List.mem_map.1 hx
    have := List.mem_range.1 hi
    exact lefts_self h (hT.rows (by omega) (by omega))
  rw [hk, e1, e3, e2, lefts_self h hT.firsts]
theorem trim_trim (hR : Right m) : trimM (trimM m) = trimM m := trim_self (trim_Right hR) fun j hj => trim_keep hR hj
/-! ### It takes the same -/
theorem has_full {i : Nat} {c : Int} (h0 : 0 ≤ c) (h1 : c < 256) (h : has (at_ m.spots ((i : Nat) : Int)).set c = true) : fullS m i = true := by
  unfold fullS
  refine decide_eq_true fun e => ?_
  rw [e] at h
  unfold has at h
  have : (0 : BSet).getLsbD c.toNat = false := by show (0#256).getLsbD c.toNat = false; simp
  rw [this] at h; cases h
theorem runTo_come (w : ByteArray) : ∀ (k i : Nat), i < m.spots.length → at_ (runTo m w k) ((i : Nat) : Int) = true → at_ (comeM m) ((i : Nat) : Int) = true
  | 0, i, hi, h => by
    unfold runTo intoP at h
    rw [tab_at' hi, Bool.and_eq_true] at h
    unfold markP at h
    rw [tab_at' hi] at h
    have := byt_range w 0
    exact come_first hi (has_full (by omega) (by omega) h.2) (of_decide_eq_true h.1)
  | k + 1, i, hi, h => by
    rw [show runTo m w (k + 1) = intoP m (behindP m (runTo m w k)) (byt w ((k + 1 : Nat) : Int)) from rfl] at h
    unfold intoP at h
    rw [tab_at' hi, Bool.and_eq_true] at h
    unfold behindP at h
    rw [tab_at' hi, anyTo_iff] at h
    obtain ⟨⟨d, hd, h2⟩, h3⟩ := h
    rw [Bool.and_eq_true] at h2
    have := byt_range w ((k + 1 : Nat) : Int)
    exact come_next hi (has_full (by omega) (by omega) h3) (by omega) (runTo_come w k d (by omega) h2.1) (of_decide_eq_true h2.2)
theorem trim_runTo (hR : Right m) (w : ByteArray) : ∀ (k i j : Nat), i < m.spots.length → at_ (keepM m) ((i : Nat) : Int) = true → numAt (keepM m) ((i : Nat) : Int) = ((j : Nat) : Int) → j < (trimM m).spots.length → at_ (keptN m) ((j : Nat) : Int) = ((i : Nat) : Int) → at_ (runTo (trimM m) w k) ((j : Nat) : Int) = at_ (runTo m w k) ((i : Nat) : Int)
  | 0, i, j, hi, hk, en, hj, ej => by
    unfold runTo intoP
    rw [tab_at' hi, tab_at' hj]
    unfold markP
    rw [tab_at' hi, tab_at' hj, trim_spot hR (by omega) (by rw [← trim_len hR]; omega), ej, trim_first hR]
    congr 1
    apply decide_eq_decide.2
    rw [← en]
    exact num_mem hR.firsts (by omega) (by omega) hk
  | k + 1, i, j, hi, hk, en, hj, ej => by
    rw [show runTo m w (k + 1) = intoP m (behindP m (runTo m w k)) (byt w ((k + 1 : Nat) : Int)) from rfl, show runTo (trimM m) w (k + 1) = intoP (trimM m) (behindP (trimM m) (runTo (trimM m) w k)) (byt w ((k + 1 : Nat) : Int)) from rfl]
    unfold intoP
    rw [tab_at' hi, tab_at' hj, trim_spot hR (by omega) (by rw [← trim_len hR]; omega), ej]
    congr 1
    unfold behindP
    rw [tab_at' hi, tab_at' hj, Bool.eq_iff_iff, anyTo_iff, anyTo_iff]
    constructor
    · rintro ⟨d, hd, h⟩
      obtain ⟨a, ea, ha, hka, ena⟩ := kept_nat hR (j := d) (by omega)
      rw [Bool.and_eq_true, trim_runTo hR w k a d ha hka ena (by omega) ea] at h
      exact ⟨a, by omega, by rw [h.1, decide_eq_true ((trim_next hR (by omega) ea ha hi hk en).1 (of_decide_eq_true h.2))]; rfl⟩
    · rintro ⟨d, hd, h⟩
      rw [Bool.and_eq_true] at h
      have hcd := runTo_come w k d (by omega) h.1
      have hkd := keep_of hR (by omega) hcd (goes_next hR (by omega) (come_full (by omega) hcd) (of_decide_eq_true h.2) (keep_come hR hi hk).2)
      obtain ⟨c, ec, hc, e2⟩ := num_nat hR (by omega) hkd
      exact ⟨c, by omega, by rw [trim_runTo hR w k d c (by omega) hkd ec hc e2, h.1, decide_eq_true ((trim_next hR hc e2 (by omega) hi hk en).2 (of_decide_eq_true h.2))]; rfl⟩
theorem trim_run (hR : Right m) (w : ByteArray) : runM (trimM m) w = runM m w := by
  unfold runM
  rw [right_iff.2 hR, right_iff.2 (trim_Right hR), Bool.true_and, Bool.true_and]
  by_cases h0 : w.size = 0
  · rw [if_pos h0, if_pos h0, trim_spots hR]
  · rw [if_neg h0, if_neg h0]
    unfold endsIn
    rw [Bool.eq_iff_iff, anyTo_iff, anyTo_iff]
    constructor
    · rintro ⟨d, hd, h⟩
      obtain ⟨a, ea, ha, hka, ena⟩ := kept_nat hR (j := d) (by omega)
      rw [Bool.and_eq_true, trim_runTo hR w _ a d ha hka ena (by omega) ea, trim_last hR (by omega) (by rw [← trim_len hR]; omega), ea] at h
      exact ⟨a, by omega, by rw [h.1, h.2]; rfl⟩
    · rintro ⟨d, hd, h⟩
      rw [Bool.and_eq_true] at h
      have hcd := runTo_come w _ d (by omega) h.1
      have hkd := keep_of hR (by omega) hcd (goes_last hR (by omega) (come_full (by omega) hcd) h.2)
      obtain ⟨c, ec, hc, e2⟩ := num_nat hR (by omega) hkd
      exact ⟨c, by omega, by rw [trim_runTo hR w _ d c (by omega) hkd ec hc e2, h.1, trim_last hR (by omega) (by rw [← trim_len hR]; omega), e2, h.2]; rfl⟩
end
end Gx
