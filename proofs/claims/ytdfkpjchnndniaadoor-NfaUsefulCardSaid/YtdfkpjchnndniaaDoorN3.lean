/- My own library for walks through the translated code, part N3: laws of the model alone, no word of the program. -/
import Derived.Test.YtdfkpjchnndniaaDoorN2
import Derived.Test.YtdfkpjchnndniaaDoorM10
namespace Gx
open Go Go.RowKit
set_option linter.unusedSimpArgs false
set_option linter.unusedSectionVars false
set_option linter.unusedVariables false

deriving instance DecidableEq for Mach
/-! ### Small things -/
def allTo (p : Nat → Bool) (t : Int) : Bool := (List.range t.toNat).all p
theorem allTo_0 (p : Nat → Bool) : allTo p 0 = true := rfl
theorem allTo_step {p : Nat → Bool} {t : Int} (h0 : 0 ≤ t) (h : allTo p t = true) (hp : p t.toNat = true) : allTo p (t + 1) = true := by
  unfold allTo at h ⊢
  rw [show (t + 1).toNat = t.toNat + 1 by omega, List.range_succ, List.all_append, h]; simp [hp]
theorem allTo_no {p : Nat → Bool} {t n : Int} (h0 : 0 ≤ t) (h1 : t < n) (hp : p t.toNat = false) : allTo p n = false := by
  unfold allTo
  rw [List.all_eq_false]
  exact ⟨t.toNat, List.mem_range.2 (by omega), by simp [hp]⟩
theorem allTo_iff {p : Nat → Bool} {n : Int} : allTo p n = true ↔ ∀ i : Nat, ((i : Nat) : Int) < n → p i = true := by
  unfold allTo
  rw [List.all_eq_true]
  exact ⟨fun h i hi => h i (List.mem_range.2 (by omega)), fun h i hi => h i (by have := List.mem_range.1 hi; omega)⟩
theorem drop_cons {α : Type} [Inhabited α] (l : List α) {t : Int} (h0 : 0 ≤ t) (h1 : t < (l.length : Int)) : l.drop t.toNat = at_ l t :: l.drop (t + 1).toNat := by
  rw [show (t + 1).toNat = t.toNat + 1 by omega]
  have h2 := at_some h0 h1
  obtain ⟨hl, e⟩ := List.getElem?_eq_some_iff.1 h2
  rw [List.drop_eq_getElem_cons hl, e]
theorem drop_end {α : Type} (l : List α) {t : Int} (h1 : (l.length : Int) ≤ t) : l.drop t.toNat = [] := List.drop_of_length_le (by omega)
/-! ### Rising numbers -/
def rises (b last : Int) : List Int → Bool
  | [] => true
  | n :: r => decide (last < n) && decide (n < b) && rises b n r
theorem rises_nil (b last : Int) : rises b last [] = true := rfl
theorem rises_step {b last : Int} (l : List Int) {t : Int} (h0 : 0 ≤ t) (h1 : t < (l.length : Int)) : rises b last (l.drop t.toNat) = (decide (last < at_ l t) && decide (at_ l t < b) && rises b (at_ l t) (l.drop (t + 1).toNat)) := by
  rw [drop_cons l h0 h1]; rfl
theorem rises_lt {b : Int} : ∀ {last : Int} {l : List Int}, rises b last l = true → ∀ x ∈ l, last < x ∧ x < b
  | last, [], h, x, hx => by cases hx
  | last, n :: r, h, x, hx => by
    unfold rises at h
    simp only [Bool.and_eq_true, decide_eq_true_eq] at h
    rcases List.mem_cons.1 hx with e | e
    · subst e; exact h.1
    · have := rises_lt h.2 x e; omega
def prevOf (l : List Int) (i : Int) : Int := if i ≤ 0 then -1 else at_ l (i - 1)
/-! ### Machines -/
def rowOk (m : Mach) (i : Nat) : Bool := decide ((at_ m.spots ((i : Nat) : Int)).tag ≤ 2) && rises m.spots.length (-1) (at_ m.follow ((i : Nat) : Int))
def rightM (m : Mach) : Bool := decide ((m.spots.length : Int) ≤ 250) && (decide ((m.follow.length : Int) = m.spots.length) && (decide ((m.last.length : Int) = m.spots.length) && (rises m.spots.length (-1) m.first && allTo (rowOk m) m.spots.length)))
theorem right_no1 (m : Mach) (h : (250 : Int) < (m.spots.length : Int)) : rightM m = false := by unfold rightM; rw [decide_eq_false (by omega)]; rfl
theorem right_no2 (m : Mach) (h : (m.follow.length : Int) ≠ (m.spots.length : Int)) : rightM m = false := by unfold rightM; rw [decide_eq_false h]; simp
theorem right_no3 (m : Mach) (h : (m.last.length : Int) ≠ (m.spots.length : Int)) : rightM m = false := by unfold rightM; rw [decide_eq_false h]; simp
theorem right_no4 (m : Mach) (h : rises m.spots.length (-1) m.first = false) : rightM m = false := by unfold rightM; rw [h]; simp
theorem right_no5 (m : Mach) {i : Int} (h0 : 0 ≤ i) (h1 : i < (m.spots.length : Int)) (h : 2 < (at_ m.spots i).tag) : rightM m = false := by
  unfold rightM; rw [allTo_no h0 h1 (by unfold rowOk; rw [Int.toNat_of_nonneg h0, decide_eq_false (by omega)]; rfl)]; simp
theorem right_no6 (m : Mach) {i : Int} (h0 : 0 ≤ i) (h1 : i < (m.spots.length : Int)) (h : rises m.spots.length (-1) (at_ m.follow i) = false) : rightM m = false := by
  unfold rightM; rw [allTo_no h0 h1 (by unfold rowOk; rw [Int.toNat_of_nonneg h0, h]; simp)]; simp
theorem right_ok (m : Mach) {t : Int} (ht : (m.spots.length : Int) = t) (h1 : ¬ (250 : Int) < (m.spots.length : Int)) (h2 : ¬ (m.follow.length : Int) ≠ (m.spots.length : Int)) (h3 : ¬ (m.last.length : Int) ≠ (m.spots.length : Int)) (h4 : rises m.spots.length (-1) m.first = true) (h5 : allTo (rowOk m) t = true) : rightM m = true := by
  unfold rightM
  rw [decide_eq_true (by omega), decide_eq_true (by omega), decide_eq_true (by omega), h4, ht, h5]; rfl
structure Right (m : Mach) : Prop where
  small : (m.spots.length : Int) ≤ 250
  follow : (m.follow.length : Int) = m.spots.length
  last : (m.last.length : Int) = m.spots.length
  first : rises m.spots.length (-1) m.first = true
  tag : ∀ i : Int, 0 ≤ i → i < (m.spots.length : Int) → (at_ m.spots i).tag ≤ 2
  row : ∀ i : Int, 0 ≤ i → i < (m.spots.length : Int) → rises m.spots.length (-1) (at_ m.follow i) = true
theorem right_iff {m : Mach} : rightM m = true ↔ Right m := by
  unfold rightM
  simp only [Bool.and_eq_true, decide_eq_true_eq]
  constructor
  · rintro ⟨h1, h2, h3, h4, h5⟩
    have h6 := allTo_iff.1 h5
    have h7 : ∀ i : Int, 0 ≤ i → i < (m.spots.length : Int) → rowOk m i.toNat = true := fun i h0 h1 => h6 i.toNat (by omega)
    refine ⟨h1, h2, h3, h4, fun i h0 hi => ?_, fun i h0 hi => ?_⟩ <;> have h8 := h7 i h0 hi <;> unfold rowOk at h8 <;> rw [Int.toNat_of_nonneg h0] at h8 <;> simp only [Bool.and_eq_true, decide_eq_true_eq] at h8
    · exact h8.1
    · exact h8.2
  · intro h
    refine ⟨h.small, h.follow, h.last, h.first, allTo_iff.2 fun i hi => ?_⟩
    unfold rowOk
    rw [decide_eq_true (h.tag i (by omega) hi), h.row i (by omega) hi]; rfl
theorem Right.firsts {m : Mach} (h : Right m) : ∀ x ∈ m.first, 0 ≤ x ∧ x < (m.spots.length : Int) := fun x hx => by have := rises_lt h.first x hx; omega
theorem Right.rows {m : Mach} (h : Right m) {i : Int} (h0 : 0 ≤ i) (h1 : i < (m.spots.length : Int)) : ∀ x ∈ at_ m.follow i, 0 ≤ x ∧ x < (m.spots.length : Int) := fun x hx => by have := rises_lt (h.row i h0 h1) x hx; omega
/-! ### Marks of spots -/
/-- The numbers that are marked. -/
def tab (n : Nat) (p : Nat → Bool) : List Bool := (List.range n).map p
theorem tab_len (n : Nat) (p : Nat → Bool) : (tab n p).length = n := by simp [tab]
theorem tab_at {n : Nat} {p : Nat → Bool} {i : Int} (h0 : 0 ≤ i) (h1 : i < (n : Int)) : at_ (tab n p) i = p i.toNat := at_map_range p n h0 h1
theorem tab_ext {n : Nat} {p q : Nat → Bool} (h : ∀ i, i < n → p i = q i) : tab n p = tab n q := List.map_congr_left fun i hi => h i (List.mem_range.1 hi)
theorem tab_false (n : Nat) : List.replicate n false = tab n fun _ => false := by
  refine (List.eq_replicate_iff.2 ⟨tab_len _ _, fun b hb => ?_⟩).symm
  obtain ⟨k, _, rfl⟩ := List.mem_map.1 hb; rfl
theorem tab_set {n : Nat} {p : Nat → Bool} {t : Int} (h0 : 0 ≤ t) (v : Bool) : (tab n p).set t.toNat v = tab n fun i => if i = t.toNat then v else p i := by
  refine list_ext (n := n) (by simp [tab_len]) (tab_len _ _) fun k hk0 hk1 => ?_
  rw [tab_at hk0 hk1]
  have e : at_ ((tab n p).set t.toNat v) k = if t.toNat = k.toNat then v else at_ (tab n p) k := by
    unfold at_
    rw [List.getD_eq_getElem?_getD, List.getElem?_set, List.getD_eq_getElem?_getD]
    by_cases h : t.toNat = k.toNat
    · rw [if_pos h, if_pos h, if_pos (by rw [tab_len]; omega)]; rfl
    · rw [if_neg h, if_neg h]
  rw [e, tab_at hk0 hk1]
  by_cases h : t.toNat = k.toNat
  · rw [if_pos h, if_pos h.symm]
  · rw [if_neg h, if_neg (fun e => h e.symm)]
/-- Marks of the numbers of a list. -/
def markP (n : Nat) (l : List Int) : List Bool := tab n fun i => decide (((i : Nat) : Int) ∈ l)
theorem mark_0 (n : Nat) (l : List Int) : List.replicate n false = markP n (l.take 0) := by
  rw [tab_false]; unfold markP; refine tab_ext fun i _ => ?_; simp
theorem mark_step {n : Nat} (l : List Int) {t : Int} (h0 : 0 ≤ t) (h1 : t < (l.length : Int)) (hx : 0 ≤ at_ l t) : (markP n (l.take t.toNat)).set (at_ l t).toNat true = markP n (l.take (t + 1).toNat) := by
  unfold markP
  rw [tab_set hx]
  refine tab_ext fun i hi => ?_
  rw [take_next l h0 h1]
  by_cases h : i = (at_ l t).toNat
  · rw [if_pos h]; symm; apply decide_eq_true; simp; right; omega
  · rw [if_neg h]; apply decide_eq_decide.2; simp
    intro h2; omega
theorem mark_end {n : Nat} (l : List Int) {t : Int} (h1 : (l.length : Int) ≤ t) : markP n (l.take t.toNat) = markP n l := by rw [List.take_of_length_le (by omega)]
theorem markP_len (n : Nat) (l : List Int) : (markP n l).length = n := tab_len _ _
/-- Those of some into which a byte is read. -/
def intoP (m : Mach) (next : List Bool) (c : Int) : List Bool := tab m.spots.length fun i => at_ next ((i : Nat) : Int) && has (at_ m.spots ((i : Nat) : Int)).set c
def intoTo (m : Mach) (next : List Bool) (c t : Int) : List Bool := tab m.spots.length fun i => decide (((i : Nat) : Int) < t) && (at_ next ((i : Nat) : Int) && has (at_ m.spots ((i : Nat) : Int)).set c)
theorem into_0 (m : Mach) (next : List Bool) (c : Int) {n : Nat} (hn : n = m.spots.length) : List.replicate n false = intoTo m next c 0 := by
  subst hn; rw [tab_false]; unfold intoTo; refine tab_ext fun i _ => ?_; rw [decide_eq_false (by omega)]; rfl
theorem into_step (m : Mach) (next : List Bool) (c : Int) {t : Int} (h0 : 0 ≤ t) {v : Bool} (hv : v = (at_ next t && has (at_ m.spots t).set c)) : (intoTo m next c t).set t.toNat v = intoTo m next c (t + 1) := by
  unfold intoTo
  rw [tab_set h0]
  refine tab_ext fun i hi => ?_
  by_cases h : i = t.toNat
  · rw [if_pos h, hv, h, decide_eq_true (by omega), Int.toNat_of_nonneg h0]; rfl
  · rw [if_neg h]; congr 1; apply decide_eq_decide.2; omega
theorem into_end (m : Mach) (next : List Bool) (c : Int) {t : Int} (h : (m.spots.length : Int) ≤ t) : intoTo m next c t = intoP m next c := by
  unfold intoTo intoP
  refine tab_ext fun i hi => ?_
  rw [decide_eq_true (by omega)]; rfl
theorem intoP_len (m : Mach) (next : List Bool) (c : Int) : (intoP m next c).length = m.spots.length := tab_len _ _
/-- Those that follow some. -/
def behindP (m : Mach) (at' : List Bool) : List Bool := tab m.spots.length fun k => anyTo (fun i => at_ at' ((i : Nat) : Int) && decide (((k : Nat) : Int) ∈ at_ m.follow ((i : Nat) : Int))) m.spots.length
def behindTo (m : Mach) (at' : List Bool) (t : Int) : List Bool := tab m.spots.length fun k => anyTo (fun i => at_ at' ((i : Nat) : Int) && decide (((k : Nat) : Int) ∈ at_ m.follow ((i : Nat) : Int))) t
def behindIn (m : Mach) (at' : List Bool) (t u : Int) : List Bool := tab m.spots.length fun k => anyTo (fun i => at_ at' ((i : Nat) : Int) && decide (((k : Nat) : Int) ∈ at_ m.follow ((i : Nat) : Int))) t || decide (((k : Nat) : Int) ∈ (at_ m.follow t).take u.toNat)
theorem behind_0 (m : Mach) (at' : List Bool) {n : Nat} (hn : n = m.spots.length) : List.replicate n false = behindTo m at' 0 := by
  subst hn; rw [tab_false]; unfold behindTo; exact tab_ext fun i _ => anyTo_0 _
theorem behind_in0 (m : Mach) (at' : List Bool) (t : Int) : behindTo m at' t = behindIn m at' t 0 := by
  unfold behindTo behindIn; refine tab_ext fun k _ => ?_; simp
theorem behind_step (m : Mach) (at' : List Bool) {t u : Int} (h0 : 0 ≤ u) (h1 : u < ((at_ m.follow t).length : Int)) (hx : 0 ≤ at_ (at_ m.follow t) u) : (behindIn m at' t u).set (at_ (at_ m.follow t) u).toNat true = behindIn m at' t (u + 1) := by
  unfold behindIn
  rw [tab_set hx]
  refine tab_ext fun i hi => ?_
  rw [take_next _ h0 h1]
  by_cases h : i = (at_ (at_ m.follow t) u).toNat
  · rw [if_pos h]; symm
    rw [Bool.or_eq_true]; right; apply decide_eq_true; simp; right; omega
  · rw [if_neg h]; congr 1; apply decide_eq_decide.2; simp; intro h2; omega
theorem behind_in1 (m : Mach) (at' : List Bool) {t u : Int} (h0 : 0 ≤ t) (h1 : ((at_ m.follow t).length : Int) ≤ u) (hb : at_ at' t = true) : behindIn m at' t u = behindTo m at' (t + 1) := by
  unfold behindIn behindTo
  refine tab_ext fun k _ => ?_
  rw [anyTo_step _ h0, List.take_of_length_le (by omega), Int.toNat_of_nonneg h0, hb, Bool.true_and]
theorem behind_no (m : Mach) (at' : List Bool) {t : Int} (h0 : 0 ≤ t) (hb : at_ at' t = false) : behindTo m at' t = behindTo m at' (t + 1) := by
  unfold behindTo
  refine tab_ext fun k _ => ?_
  rw [anyTo_step _ h0, Int.toNat_of_nonneg h0, hb, Bool.false_and, Bool.or_false]
theorem behindP_len (m : Mach) (l : List Bool) : (behindP m l).length = m.spots.length := tab_len _ _
theorem behind_end (m : Mach) (at' : List Bool) {t : Int} (ht : t = m.spots.length) : behindTo m at' t = behindP m at' := by rw [ht]; rfl
/-- The spots of a run, behind the byte number k. -/
def runTo (m : Mach) (w : ByteArray) : Nat → List Bool
  | 0 => intoP m (markP m.spots.length m.first) (byt w 0)
  | k + 1 => intoP m (behindP m (runTo m w k)) (byt w ((k + 1 : Nat) : Int))
theorem run_0 (m : Mach) (w : ByteArray) : intoP m (markP m.spots.length m.first) (byt w 0) = runTo m w (1 - 1 : Int).toNat := rfl
theorem runTo_len (m : Mach) (w : ByteArray) (k : Nat) : (runTo m w k).length = m.spots.length := by cases k <;> exact intoP_len _ _ _
def endsIn (m : Mach) (at' : List Bool) : Bool := anyTo (fun i => at_ at' ((i : Nat) : Int) && at_ m.last ((i : Nat) : Int)) m.spots.length
def runM (m : Mach) (w : ByteArray) : Bool := rightM m && (if w.size = 0 then m.empty else endsIn m (runTo m w (w.size - 1)))
theorem run_wrong (m : Mach) (w : ByteArray) (h : rightM m = false) : runM m w = false := by unfold runM; rw [h]; rfl
theorem run_none (m : Mach) (w : ByteArray) (h : rightM m = true) (hw : w.size = 0) : runM m w = m.empty := by unfold runM; rw [h, if_pos hw]; rfl
theorem size_empty {w : ByteArray} (h : w = (⟨#[]⟩ : ByteArray)) : w.size = 0 := by rw [h]; rfl
theorem size_some {w : ByteArray} (h : ¬ w = (⟨#[]⟩ : ByteArray)) : 0 < (w.size : Int) := by
  have : w.size ≠ 0 := fun e => h (by
    have e2 : w.data = #[] := Array.eq_empty_of_size_eq_zero e
    cases w; simp at e2; rw [e2])
  omega
theorem runTo_next (m : Mach) (w : ByteArray) {i : Int} (h : 1 ≤ i) : intoP m (behindP m (runTo m w (i - 1).toNat)) (byt w i) = runTo m w (i + 1 - 1).toNat := by
  rw [show (i + 1 - 1).toNat = (i - 1).toNat + 1 by omega]
  show _ = intoP m (behindP m (runTo m w (i - 1).toNat)) (byt w (((i - 1).toNat + 1 : Nat) : Int))
  rw [show (((i - 1).toNat + 1 : Nat) : Int) = i by omega]
theorem ends_yes (m : Mach) (at' : List Bool) {t : Int} (h0 : 0 ≤ t) (h1 : t < (m.spots.length : Int)) (h : at_ at' t = true) (h2 : at_ m.last t = true) : endsIn m at' = true := by
  unfold endsIn
  rw [anyTo_iff]
  exact ⟨t.toNat, by omega, by rw [Int.toNat_of_nonneg h0, h, h2]; rfl⟩
theorem run_some (m : Mach) (w : ByteArray) (h : rightM m = true) (hw : 0 < (w.size : Int)) {i : Int} (hi : i = w.size) : runM m w = endsIn m (runTo m w (i - 1).toNat) := by
  unfold runM; rw [h, if_neg (by omega), hi, show ((w.size : Int) - 1).toNat = w.size - 1 by omega]; rfl
def endTo (m : Mach) (at' : List Bool) (t : Int) : Bool := anyTo (fun i => at_ at' ((i : Nat) : Int) && at_ m.last ((i : Nat) : Int)) t
theorem end_0 (m : Mach) (at' : List Bool) : endTo m at' 0 = false := rfl
theorem end_step (m : Mach) (at' : List Bool) {t : Int} (h0 : 0 ≤ t) (he : endTo m at' t = false) (hb : (at_ at' t && at_ m.last t) = false) : endTo m at' (t + 1) = false := by
  unfold endTo at he ⊢
  rw [anyTo_step _ h0, he, Int.toNat_of_nonneg h0, hb]; rfl
theorem end_end (m : Mach) (at' : List Bool) {t : Int} (ht : t = m.spots.length) (he : endTo m at' t = false) : endsIn m at' = false := by rw [← he, ht]; rfl
/-! ### The document's runs, by lists of spots -/
def posOf (n : Nat) (p : Nat → Bool) : List Int := ints ((List.range n).filter p)
def posTo (p : Nat → Bool) (t : Int) : List Int := ints ((List.range t.toNat).filter p)
theorem posTo_0 (p : Nat → Bool) : posTo p 0 = [] := rfl
theorem posTo_len (p : Nat → Bool) {t : Int} (h0 : 0 ≤ t) : ((posTo p t).length : Int) ≤ t := by
  have := List.length_filter_le p (List.range t.toNat)
  simp at this
  simp [posTo, ints]; omega
theorem posTo_step (p : Nat → Bool) {t : Int} (h0 : 0 ≤ t) : posTo p (t + 1) = posTo p t ++ (if p t.toNat then [t] else []) := by
  unfold posTo
  rw [show (t + 1).toNat = t.toNat + 1 by omega, List.range_succ, List.filter_append]
  simp only [ints, List.map_append]
  congr 1
  by_cases h : p t.toNat = true
  · simp [h]; omega
  · simp [h]
theorem posTo_yes (p : Nat → Bool) {t : Int} (h0 : 0 ≤ t) (h : p t.toNat = true) : posTo p t ++ [t] = posTo p (t + 1) := by rw [posTo_step p h0, h]; rfl
theorem posTo_no (p : Nat → Bool) {t : Int} (h0 : 0 ≤ t) (h : p t.toNat = false) : posTo p t = posTo p (t + 1) := by rw [posTo_step p h0, h]; simp
theorem mem_posTo {p : Nat → Bool} {t x : Int} : x ∈ posTo p t ↔ 0 ≤ x ∧ x < t ∧ p x.toNat = true := by
  unfold posTo ints
  rw [List.mem_map]
  constructor
  · rintro ⟨a, ha, rfl⟩
    rw [List.mem_filter, List.mem_range] at ha
    exact ⟨by omega, by omega, by simpa using ha.2⟩
  · rintro ⟨h0, h1, h2⟩
    exact ⟨x.toNat, List.mem_filter.2 ⟨List.mem_range.2 (by omega), h2⟩, by omega⟩
theorem posTo_ext {p q : Nat → Bool} {t : Int} (h : ∀ i : Nat, ((i : Nat) : Int) < t → p i = q i) : posTo p t = posTo q t := by
  unfold posTo
  congr 1
  exact List.filter_congr fun i hi => h i (by have := List.mem_range.1 hi; omega)
def mayP (m : Mach) (at' : List Int) (first : Bool) (n : Int) : Bool := (first && decide (n ∈ m.first)) || at'.any fun i => decide (n ∈ at_ m.follow i)
def stepIf (m : Mach) (at' : List Int) (first : Bool) (c : Int) (n : Nat) : Bool := mayP m at' first ((n : Nat) : Int) && has (at_ m.spots ((n : Nat) : Int)).set c
def stepP (m : Mach) (at' : List Int) (first : Bool) (c : Int) : List Int := posTo (stepIf m at' first c) m.spots.length
theorem stepP_eq (m : Mach) (at' : List Int) (first : Bool) (c : Int) : stepP m at' first c = posTo (stepIf m at' first c) m.spots.length := rfl
def mayTo (m : Mach) (at' : List Int) (first : Bool) (n i : Int) : Bool := (first && decide (n ∈ m.first)) || (at'.take i.toNat).any fun i => decide (n ∈ at_ m.follow i)
theorem may_0 (m : Mach) (at' : List Int) (first : Bool) (n : Int) : (first && decide (n ∈ m.first)) = mayTo m at' first n 0 := by unfold mayTo; simp
theorem may_step (m : Mach) (at' : List Int) (first : Bool) (n : Int) {i : Int} (h0 : 0 ≤ i) (h1 : i < (at'.length : Int)) (h : mayTo m at' first n i = false) : decide (n ∈ at_ m.follow (at_ at' i)) = mayTo m at' first n (i + 1) := by
  unfold mayTo at h ⊢
  rw [take_next _ h0 h1, List.any_append, ← Bool.or_assoc, h]; simp
theorem may_end (m : Mach) (at' : List Int) (first : Bool) (n : Int) {i : Int} (h : (at'.length : Int) ≤ i ∨ mayTo m at' first n i = true) : mayTo m at' first n i = mayP m at' first n := by
  rcases h with h | h
  · unfold mayTo mayP; rw [List.take_of_length_le (by omega)]
  · rw [h]
    unfold mayTo at h
    unfold mayP
    symm
    rw [Bool.or_eq_true] at h ⊢
    refine h.imp id fun h => ?_
    rw [List.any_eq_true] at h ⊢
    obtain ⟨x, hx, hp⟩ := h
    exact ⟨x, List.mem_of_mem_take hx, hp⟩
/-- The document's list is that of the marks. -/
def atP (m : Mach) (l : List Bool) : List Int := posTo (fun i => at_ l ((i : Nat) : Int)) m.spots.length
theorem step_first (m : Mach) (w : ByteArray) (h : Right m) : stepP m [] true (byt w 0) = atP m (runTo m w 0) := by
  unfold stepP atP
  refine posTo_ext fun i hi => ?_
  unfold runTo intoP
  rw [tab_at (by omega) hi]
  unfold stepIf mayP markP
  rw [Int.toNat_natCast, tab_at (by omega) hi, Int.toNat_natCast]; simp
theorem any_posTo (p : Nat → Bool) (t : Int) (q : Int → Bool) : (posTo p t).any q = anyTo (fun i => p i && q ((i : Nat) : Int)) t := by
  rw [Bool.eq_iff_iff, List.any_eq_true, anyTo_iff]
  constructor
  · rintro ⟨x, hx, hq⟩
    obtain ⟨h0, h1, h2⟩ := mem_posTo.1 hx
    exact ⟨x.toNat, by omega, by rw [h2, Int.toNat_of_nonneg h0, hq]; rfl⟩
  · rintro ⟨d, hd, h⟩
    rw [Bool.and_eq_true] at h
    exact ⟨d, mem_posTo.2 ⟨by omega, hd, by simpa using h.1⟩, h.2⟩
theorem step_next (m : Mach) (w : ByteArray) {i : Int} (h1 : 1 ≤ i) : stepP m (atP m (runTo m w (i - 1).toNat)) false (byt w i) = atP m (runTo m w (i + 1 - 1).toNat) := by
  rw [← runTo_next m w h1]
  unfold stepP
  conv => rhs; unfold atP
  refine posTo_ext fun k hk => ?_
  unfold intoP
  rw [tab_at (by omega) hk, Int.toNat_natCast]
  unfold behindP
  rw [tab_at (by omega) hk, Int.toNat_natCast]
  unfold stepIf mayP atP
  rw [any_posTo]
  simp
theorem any_last (m : Mach) (l : List Bool) : (atP m l).any (fun i => at_ m.last i) = endsIn m l := by
  unfold atP endsIn
  rw [any_posTo]
theorem atP_in {m : Mach} {l : List Bool} : ∀ x ∈ atP m l, 0 ≤ x ∧ x < (m.spots.length : Int) := fun x hx => by have := mem_posTo.1 hx; omega
theorem atP_len (m : Mach) (l : List Bool) : ((atP m l).length : Int) ≤ m.spots.length := posTo_len _ (by omega)
def lastTo (m : Mach) (at' : List Int) (t : Int) : Bool := (at'.take t.toNat).any fun i => at_ m.last i
theorem last_0 (m : Mach) (at' : List Int) : lastTo m at' 0 = false := rfl
theorem last_step (m : Mach) (at' : List Int) {t : Int} (h0 : 0 ≤ t) (h1 : t < (at'.length : Int)) (h : lastTo m at' t = false) (hb : at_ m.last (at_ at' t) = false) : lastTo m at' (t + 1) = false := by
  unfold lastTo at h ⊢
  rw [take_next _ h0 h1, List.any_append, h]; simp [hb]
theorem last_yes (m : Mach) (at' : List Int) {t : Int} (h0 : 0 ≤ t) (h1 : t < (at'.length : Int)) (hb : at_ m.last (at_ at' t) = true) : (at'.any fun i => at_ m.last i) = true := List.any_eq_true.2 ⟨_, at_mem h0 h1, hb⟩
theorem last_end (m : Mach) (at' : List Int) {t : Int} (h1 : (at'.length : Int) ≤ t) (h : lastTo m at' t = false) : (at'.any fun i => at_ m.last i) = false := by
  unfold lastTo at h
  rwa [List.take_of_length_le (by omega)] at h
theorem bit_half (s : BSet) {c i : Int} (h0 : 0 ≤ c) (h1 : c < 256) (hi : i = c % 64) : decide ((at_ (words s) (c / 64) / 2 ^ i.toNat) % 2 = 1) = has s c := by
  subst hi
  have hb := bit_words s (i := c.toNat) (by omega)
  unfold has
  rw [← hb]
  unfold bitAt
  rw [show ((c.toNat / 64 : Nat) : Int) = c / 64 by omega, show c.toNat % 64 = (c % 64).toNat by omega]
  have hw : 0 ≤ at_ (words s) (c / 64) := u64_lo (okInts_at (okWords s) (by omega) (by omega))
  obtain ⟨x, hx⟩ := Int.eq_ofNat_of_zero_le hw
  rw [hx, Int.toNat_natCast, Nat.testBit_eq_decide_div_mod_eq]
  apply decide_eq_decide.2
  have e : ((x : Int) / 2 ^ (c % 64).toNat) = ((x / 2 ^ (c % 64).toNat : Nat) : Int) := by
    rw [Int.natCast_ediv, Int.natCast_pow]; rfl
  rw [e]; omega
def hasNum (l : List Int) (n : Int) : Bool := decide (n ∈ l)
theorem num_yes (l : List Int) {t n : Int} (h0 : 0 ≤ t) (h1 : t < (l.length : Int)) (h : at_ l t = n) : decide (n ∈ l) = true := decide_eq_true (h ▸ at_mem h0 h1)
theorem num_no (l : List Int) {t n : Int} (h1 : (l.length : Int) ≤ t) (h : n ∉ l.take t.toNat) : decide (n ∈ l) = false := decide_eq_false (by rwa [List.take_of_length_le (by omega)] at h)
theorem num_step (l : List Int) {t n : Int} (h0 : 0 ≤ t) (h1 : t < (l.length : Int)) (h : n ∉ l.take t.toNat) (h2 : ¬ at_ l t = n) : n ∉ l.take (t + 1).toNat := by
  rw [take_next l h0 h1, List.mem_append]
  rintro (h3 | h3)
  · exact h h3
  · simp at h3; exact h2 h3.symm
theorem intoTo_len (m : Mach) (l : List Bool) (c t : Int) : (intoTo m l c t).length = m.spots.length := tab_len _ _
theorem behindTo_len (m : Mach) (l : List Bool) (t : Int) : (behindTo m l t).length = m.spots.length := tab_len _ _
theorem behindIn_len (m : Mach) (l : List Bool) (t u : Int) : (behindIn m l t u).length = m.spots.length := tab_len _ _
theorem behind_end2 (m : Mach) (at' : List Bool) {t : Int} (ht : t = m.spots.length) : behindP m at' = behindTo m at' t := (behind_end m at' ht).symm
def docAt (m : Mach) (w : ByteArray) (i : Int) : List Int := if i ≤ 0 then [] else atP m (runTo m w (i - 1).toNat)
theorem docAt_0 (m : Mach) (w : ByteArray) : ([] : List Int) = docAt m w 0 := rfl
theorem docAt_in {m : Mach} {w : ByteArray} {i : Int} : ∀ x ∈ docAt m w i, 0 ≤ x ∧ x < (m.spots.length : Int) := fun x hx => by
  unfold docAt at hx
  split at hx
  · cases hx
  · exact atP_in x hx
theorem docAt_step {m : Mach} (h : Right m) (w : ByteArray) {i : Int} (h0 : 0 ≤ i) : stepP m (docAt m w i) (decide (i = 0)) (byt w i) = docAt m w (i + 1) := by
  unfold docAt
  rw [if_neg (by omega : ¬ i + 1 ≤ 0)]
  by_cases hi : i = 0
  · subst hi
    rw [if_pos (by omega), decide_eq_true rfl]
    exact step_first m w h
  · rw [if_neg (by omega), decide_eq_false hi]
    exact step_next m w (by omega)
theorem doc_some (m : Mach) (w : ByteArray) (h : rightM m = true) (hw : 0 < (w.size : Int)) {i : Int} (hi : i = w.size) {l : List Int} (hl : l = docAt m w i) : runM m w = l.any fun i => at_ m.last i := by
  rw [run_some m w h hw hi, ← any_last, hl]
  unfold docAt
  rw [if_neg (by omega)]
/-- A machine that is greater than statements go through. -/
def greatM (m : Mach) : Bool := decide (60 < (m.spots.length : Int)) || (decide (60 < (m.follow.length : Int)) || (decide (60 < (m.last.length : Int)) || (decide (60 < (m.first.length : Int)) || m.follow.any fun l => decide (60 < (l.length : Int)))))
theorem great_1 (m : Mach) (h : (60 : Int) < (m.spots.length : Int)) : greatM m = true := by unfold greatM; rw [decide_eq_true h]; rfl
theorem great_2 (m : Mach) (h : (60 : Int) < (m.follow.length : Int)) : greatM m = true := by unfold greatM; rw [decide_eq_true h]; simp
theorem great_3 (m : Mach) (h : (60 : Int) < (m.last.length : Int)) : greatM m = true := by unfold greatM; rw [decide_eq_true h]; simp
theorem great_4 (m : Mach) (h : (60 : Int) < (m.first.length : Int)) : greatM m = true := by unfold greatM; rw [decide_eq_true h]; simp
theorem great_5 (m : Mach) {i : Int} (h0 : 0 ≤ i) (h1 : i < (m.follow.length : Int)) (h : (60 : Int) < ((at_ m.follow i).length : Int)) : greatM m = true := by
  have : (m.follow.any fun l => decide (60 < (l.length : Int))) = true := List.any_eq_true.2 ⟨_, at_mem h0 h1, decide_eq_true h⟩
  unfold greatM; rw [this]; simp
def greatTo (m : Mach) (i : Int) : Bool := (m.follow.take i.toNat).any fun l => decide (60 < (l.length : Int))
theorem great_0 (m : Mach) : greatTo m 0 = false := rfl
theorem great_step (m : Mach) {i : Int} (h0 : 0 ≤ i) (h1 : i < (m.follow.length : Int)) (h : greatTo m i = false) (h2 : ¬ (60 : Int) < ((at_ m.follow i).length : Int)) : greatTo m (i + 1) = false := by
  unfold greatTo at h ⊢
  rw [take_next _ h0 h1, List.any_append, h]; simp; omega
theorem great_no (m : Mach) {i : Int} (hi : (m.follow.length : Int) ≤ i) (h1 : ¬ (60 : Int) < (m.spots.length : Int)) (h2 : ¬ (60 : Int) < (m.follow.length : Int)) (h3 : ¬ (60 : Int) < (m.last.length : Int)) (h4 : ¬ (60 : Int) < (m.first.length : Int)) (h : greatTo m i = false) : greatM m = false := by
  unfold greatTo at h
  rw [List.take_of_length_le (by omega)] at h
  unfold greatM
  rw [decide_eq_false h1, decide_eq_false h2, decide_eq_false h3, decide_eq_false h4, h]; rfl
end Gx
