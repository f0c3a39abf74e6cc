/- My own library for walks through the translated code, part N5: laws of the model alone, no word of the program. -/
import Derived.Test.YtdfkpjchnndniaaDoorN4
namespace Gx
open Go Go.RowKit
set_option linter.unusedSimpArgs false
set_option linter.unusedSectionVars false
set_option linter.unusedVariables false

/-! ### Lists held against each other, item by item -/
section
variable {α : Type} [Inhabited α] [DecidableEq α] {a b : List α} {t : Int}
theorem eq_step (h0 : 0 ≤ t) (h1 : t < (a.length : Int)) (hl : (a.length : Int) = b.length) (h : a.take t.toNat = b.take t.toNat) (he : at_ a t = at_ b t) : a.take (t + 1).toNat = b.take (t + 1).toNat := by
  rw [take_next a h0 h1, take_next b h0 (by omega), h, he]
theorem eq_no1 (h : (a.length : Int) ≠ b.length) : decide (a = b) = false := decide_eq_false fun e => h (by rw [e])
theorem eq_no2 (he : at_ a t ≠ at_ b t) : decide (a = b) = false := decide_eq_false fun e => he (by rw [e])
theorem eq_yes (ht : (a.length : Int) ≤ t) (hl : (a.length : Int) = b.length) (h : a.take t.toNat = b.take t.toNat) : decide (a = b) = true := by
  rw [List.take_of_length_le (by omega), List.take_of_length_le (by omega)] at h
  exact decide_eq_true h
end
theorem mach_eq (a b : Mach) : decide (a = b) = (decide (a.spots = b.spots) && (decide (a.first = b.first) && (decide (a.follow = b.follow) && (decide (a.last = b.last) && decide (a.empty = b.empty))))) := by
  obtain ⟨a1, a2, a3, a4, a5⟩ := a
  obtain ⟨b1, b2, b3, b4, b5⟩ := b
  rw [Bool.eq_iff_iff]; simp
/-! ### How great machines are -/
structure Small (m : Mach) : Prop where
  spots : (m.spots.length : Int) ≤ 250
  first : (m.first.length : Int) ≤ 250
  follow : (m.follow.length : Int) ≤ 250
  last : (m.last.length : Int) ≤ 250
  row : ∀ i : Int, 0 ≤ i → i < (m.follow.length : Int) → ((at_ m.follow i).length : Int) ≤ 250
theorem small_of {m : Mach} (h : greatM m = false) : Small m := by
  unfold greatM at h
  simp only [Bool.or_eq_false_iff, decide_eq_false_iff_not] at h
  obtain ⟨h1, h2, h3, h4, h5⟩ := h
  refine ⟨by omega, by omega, by omega, by omega, fun i h0 hi => ?_⟩
  have := List.any_eq_false.1 h5 _ (at_mem h0 hi)
  simp at this; omega
theorem rises_len {b : Int} : ∀ {last : Int} {l : List Int}, rises b last l = true → last < b → (l.length : Int) ≤ b - last - 1
  | last, [], _, h => by simp; omega
  | last, n :: r, h, hb => by
    unfold rises at h
    simp only [Bool.and_eq_true, decide_eq_true_eq] at h
    have := rises_len h.2 h.1.2
    simp; omega
theorem rises_len0 {b : Int} {l : List Int} (h : rises b (-1) l = true) (hb : 0 ≤ b) : (l.length : Int) ≤ b := by
  rcases Int.lt_or_eq_of_le hb with h1 | h1
  · have := rises_len h (by omega); omega
  · subst h1
    cases l with
    | nil => simp
    | cons n r => have := rises_lt h n (by simp); omega
theorem Right.small' {m : Mach} (h : Right m) : Small m := by
  have h1 := h.small
  have h2 := h.follow
  have h3 := h.last
  have h4 := rises_len0 h.first (by omega)
  refine ⟨h1, by omega, by omega, by omega, fun i h0 hi => ?_⟩
  have := rises_len0 (h.row i h0 (by omega)) (by omega)
  omega
/-! ### A machine that is trimmed -/
def numAt (keep : List Bool) (i : Int) : Int := ((posTo (fun j => at_ keep ((j : Nat) : Int)) i).length : Nat)
theorem num_at0 (keep : List Bool) : numAt keep 0 = 0 := rfl
theorem num_at1 (keep : List Bool) {i : Int} (h0 : 0 ≤ i) (h : at_ keep i = true) : numAt keep (i + 1) = numAt keep i + 1 := by
  unfold numAt; rw [← posTo_yes _ h0 (by rw [Int.toNat_of_nonneg h0]; exact h)]; simp
theorem num_at2 (keep : List Bool) {i : Int} (h0 : 0 ≤ i) (h : at_ keep i = false) : numAt keep (i + 1) = numAt keep i := by
  unfold numAt; rw [← posTo_no _ h0 (by rw [Int.toNat_of_nonneg h0]; exact h)]
theorem num_at_le (keep : List Bool) {i : Int} (h0 : 0 ≤ i) : 0 ≤ numAt keep i ∧ numAt keep i ≤ i := by
  have := posTo_len (fun j => at_ keep ((j : Nat) : Int)) h0
  unfold numAt; omega
def numsL (keep : List Bool) (n : Int) : List Int := (List.range n.toNat).map fun i => numAt keep ((i : Nat) : Int)
theorem numsL_0 (keep : List Bool) : ([] : List Int) = numsL keep 0 := rfl
theorem numsL_len (keep : List Bool) {n : Int} (h : 0 ≤ n) : ((numsL keep n).length : Int) = n := by simp [numsL]; omega
theorem numsL_step (keep : List Bool) {n : Int} (h : 0 ≤ n) : numsL keep n ++ [numAt keep n] = numsL keep (n + 1) := by
  unfold numsL
  rw [show (n + 1).toNat = n.toNat + 1 by omega, List.range_succ, List.map_append]; simp only [List.map_cons, List.map_nil, Int.toNat_of_nonneg h]
theorem numsL_at (keep : List Bool) {n i : Int} (h0 : 0 ≤ i) (h1 : i < n) : at_ (numsL keep n) i = numAt keep i := by
  unfold numsL
  rw [at_map_range _ _ h0 (by omega), Int.toNat_of_nonneg h0]
def numsIn (keep : List Bool) (n : Nat) (t : Int) : List Int := (List.range n).map fun i => if ((i : Nat) : Int) < t then numAt keep ((i : Nat) : Int) else 0
theorem numsIn_len (keep : List Bool) (n : Nat) (t : Int) : (numsIn keep n t).length = n := by simp [numsIn]
theorem numsIn_0 (keep : List Bool) (n : Nat) : List.replicate n (0 : Int) = numsIn keep n 0 := by
  refine (List.eq_replicate_iff.2 ⟨numsIn_len _ _ _, fun b hb => ?_⟩).symm
  obtain ⟨k, _, rfl⟩ := List.mem_map.1 hb
  rw [if_neg (by omega)]
theorem numsIn_step (keep : List Bool) (n : Nat) {t : Int} (h0 : 0 ≤ t) (h1 : t < (n : Int)) : (numsIn keep n t).set t.toNat (numAt keep t) = numsIn keep n (t + 1) := by
  refine list_ext (n := n) (by simp [numsIn_len]) (numsIn_len _ _ _) fun k hk0 hk1 => ?_
  have e : at_ ((numsIn keep n t).set t.toNat (numAt keep t)) k = if t.toNat = k.toNat then numAt keep t else at_ (numsIn keep n t) k := by
    unfold at_
    rw [List.getD_eq_getElem?_getD, List.getElem?_set, List.getD_eq_getElem?_getD]
    by_cases h : t.toNat = k.toNat
    · rw [if_pos h, if_pos h, if_pos (by rw [numsIn_len]; omega)]; rfl
    · rw [if_neg h, if_neg h]
  rw [e]
  unfold numsIn
  rw [at_map_range _ _ hk0 hk1, at_map_range _ _ hk0 hk1, Int.toNat_of_nonneg hk0]
  by_cases h : t.toNat = k.toNat
  · rw [if_pos h, if_pos (by omega), show t = k by omega]
  · rw [if_neg h]
    by_cases h2 : k < t
    · rw [if_pos h2, if_pos (by omega)]
    · rw [if_neg h2, if_neg (by omega)]
theorem numsIn_end (keep : List Bool) {n : Nat} {t : Int} (h : (n : Int) ≤ t) : numsIn keep n t = numsL keep n := by
  unfold numsIn numsL
  rw [Int.toNat_natCast]
  refine List.map_congr_left fun i hi => ?_
  have := List.mem_range.1 hi
  rw [if_pos (by omega)]
def leftN (keep : List Bool) (num : List Int) (l : List Int) : List Int := (l.filter fun i => at_ keep i).map fun i => at_ num i
theorem left_0 (keep : List Bool) (num l : List Int) : ([] : List Int) = leftN keep num (l.take 0) := by simp [leftN]
theorem left_yes (keep : List Bool) (num l : List Int) {t : Int} (h0 : 0 ≤ t) (h1 : t < (l.length : Int)) (h : at_ keep (at_ l t) = true) : leftN keep num (l.take t.toNat) ++ [at_ num (at_ l t)] = leftN keep num (l.take (t + 1).toNat) := by
  unfold leftN
  rw [take_next l h0 h1, List.filter_append, List.map_append, List.filter_cons, h]; rfl
theorem left_no (keep : List Bool) (num l : List Int) {t : Int} (h0 : 0 ≤ t) (h1 : t < (l.length : Int)) (h : at_ keep (at_ l t) = false) : leftN keep num (l.take t.toNat) = leftN keep num (l.take (t + 1).toNat) := by
  unfold leftN
  rw [take_next l h0 h1, List.filter_append, List.map_append, List.filter_cons, h]; simp
theorem left_end (keep : List Bool) (num l : List Int) {t : Int} (h1 : (l.length : Int) ≤ t) : leftN keep num l = leftN keep num (l.take t.toNat) := by rw [List.take_of_length_le (by omega)]
theorem left_len (keep : List Bool) (num l : List Int) : ((leftN keep num l).length : Int) ≤ l.length := by
  have := List.length_filter_le (fun i => at_ keep i) l
  simp only [leftN, List.length_map]; omega
theorem left_take (keep : List Bool) (num l : List Int) (t : Int) : ((leftN keep num (l.take t.toNat)).length : Int) ≤ l.length := by
  have := left_len keep num (l.take t.toNat)
  have := List.length_take_le t.toNat l
  rw [List.length_take] at *
  omega
def kept (m : Mach) (t : Int) : List Int := posTo (fun i => at_ (keepM m) ((i : Nat) : Int)) t
def lefts (m : Mach) (l : List Int) : List Int := leftN (keepM m) (numsL (keepM m) m.spots.length) l
theorem lefts_eq (m : Mach) (l : List Int) : leftN (keepM m) (numsL (keepM m) m.spots.length) l = lefts m l := rfl
def spotsTo (m : Mach) (t : Int) : List Spot := (kept m t).map fun i => at_ m.spots i
def lastTp (m : Mach) (t : Int) : List Bool := (kept m t).map fun i => at_ m.last i
def followTo (m : Mach) (t : Int) : List (List Int) := (kept m t).map fun i => lefts m (at_ m.follow i)
def trimM (m : Mach) : Mach := if rightM m then ⟨spotsTo m m.spots.length, lefts m m.first, followTo m m.spots.length, lastTp m m.spots.length, m.empty⟩ else ⟨[], [], [], [], false⟩
def errM (m : Mach) : Int := if rightM m then 0 else 1
theorem kept_yes (m : Mach) {t : Int} (h0 : 0 ≤ t) (h : at_ (keepM m) t = true) : kept m (t + 1) = kept m t ++ [t] := (posTo_yes _ h0 (by rw [Int.toNat_of_nonneg h0]; exact h)).symm
theorem kept_no (m : Mach) {t : Int} (h0 : 0 ≤ t) (h : at_ (keepM m) t = false) : kept m (t + 1) = kept m t := (posTo_no _ h0 (by rw [Int.toNat_of_nonneg h0]; exact h)).symm
theorem kept_len (m : Mach) {t : Int} (h0 : 0 ≤ t) : ((kept m t).length : Int) ≤ t := posTo_len _ h0
theorem spotsTo_0 (m : Mach) : ([] : List Spot) = spotsTo m 0 := rfl
theorem lastTo_0 (m : Mach) : ([] : List Bool) = lastTp m 0 := rfl
theorem followTo_0 (m : Mach) : ([] : List (List Int)) = followTo m 0 := rfl
theorem spotsTo_yes (m : Mach) {t : Int} (h0 : 0 ≤ t) (h : at_ (keepM m) t = true) : spotsTo m t ++ [at_ m.spots t] = spotsTo m (t + 1) := by unfold spotsTo; rw [kept_yes m h0 h, List.map_append]; rfl
theorem lastTo_yes (m : Mach) {t : Int} (h0 : 0 ≤ t) (h : at_ (keepM m) t = true) : lastTp m t ++ [at_ m.last t] = lastTp m (t + 1) := by unfold lastTp; rw [kept_yes m h0 h, List.map_append]; rfl
theorem followTo_yes (m : Mach) {t : Int} (h0 : 0 ≤ t) (h : at_ (keepM m) t = true) : followTo m t ++ [lefts m (at_ m.follow t)] = followTo m (t + 1) := by unfold followTo; rw [kept_yes m h0 h, List.map_append]; rfl
theorem spotsTo_no (m : Mach) {t : Int} (h0 : 0 ≤ t) (h : at_ (keepM m) t = false) : spotsTo m t = spotsTo m (t + 1) := by unfold spotsTo; rw [kept_no m h0 h]
theorem lastTo_no (m : Mach) {t : Int} (h0 : 0 ≤ t) (h : at_ (keepM m) t = false) : lastTp m t = lastTp m (t + 1) := by unfold lastTp; rw [kept_no m h0 h]
theorem followTo_no (m : Mach) {t : Int} (h0 : 0 ≤ t) (h : at_ (keepM m) t = false) : followTo m t = followTo m (t + 1) := by unfold followTo; rw [kept_no m h0 h]
theorem spotsTo_len (m : Mach) {t : Int} (h0 : 0 ≤ t) : ((spotsTo m t).length : Int) ≤ t := by have := kept_len m h0; simp only [spotsTo, List.length_map]; omega
theorem lastTo_len (m : Mach) {t : Int} (h0 : 0 ≤ t) : ((lastTp m t).length : Int) ≤ t := by have := kept_len m h0; simp only [lastTp, List.length_map]; omega
theorem followTo_len (m : Mach) {t : Int} (h0 : 0 ≤ t) : ((followTo m t).length : Int) ≤ t := by have := kept_len m h0; simp only [followTo, List.length_map]; omega
theorem lefts_len (m : Mach) (l : List Int) : ((lefts m l).length : Int) ≤ l.length := left_len _ _ _
theorem trim_wrong {m : Mach} (h : rightM m = false) : trimM m = ⟨[], [], [], [], false⟩ := by unfold trimM; rw [h]; rfl
theorem trim_right {m : Mach} (h : rightM m = true) : trimM m = ⟨spotsTo m m.spots.length, lefts m m.first, followTo m m.spots.length, lastTp m m.spots.length, m.empty⟩ := by unfold trimM; rw [h]; rfl
theorem err_wrong {m : Mach} (h : rightM m = false) : errM m = 1 := by unfold errM; rw [h]; rfl
theorem err_right {m : Mach} (h : rightM m = true) : errM m = 0 := by unfold errM; rw [h]; rfl
/-! ### The search for what is reached -/
theorem some_full (s : BSet) : decide (0 < count s) = decide (s ≠ 0) := by
  apply decide_eq_decide.2
  constructor
  · intro h e
    subst e
    have : count (0 : BSet) = 0 := by decide +kernel
    omega
  · intro h
    rcases Int.lt_or_le 0 (count s) with h1 | h1
    · exact h1
    · refine (h ?_).elim
      have h2 := list_len s
      have h3 : listOf s = [] := List.eq_nil_of_length_eq_zero (by omega)
      rw [← setOf_list s, h3]; decide +kernel
/-- What holds while the search goes on. -/
structure Seek (m : Mach) (out : List Bool) (todo : List Int) : Prop where
  len : (out.length : Int) = m.spots.length
  inn : ∀ x ∈ todo, 0 ≤ x ∧ x < (m.spots.length : Int)
  sound : Sub m.spots.length out (comeM m)
  may : ∀ x ∈ todo, fullS m x.toNat = true → at_ (comeM m) x = true
  first : ∀ x ∈ m.first, fullS m x.toNat = true → at_ out x = true ∨ x ∈ todo
  next : ∀ i : Nat, i < m.spots.length → at_ out ((i : Nat) : Int) = true → ∀ x ∈ at_ m.follow ((i : Nat) : Int), fullS m x.toNat = true → at_ out x = true ∨ x ∈ todo
theorem seek_0 {m : Mach} (hR : Right m) : Seek m (List.replicate m.spots.length false) m.first where
  len := by simp
  inn := hR.firsts
  sound := fun i hi h => by rw [tab_false, tab_at' hi] at h; cases h
  may := fun x hx hf => by
    have := hR.firsts x hx
    have e : x = ((x.toNat : Nat) : Int) := by omega
    rw [e]; exact come_first (by omega) hf (by rw [← e]; exact hx)
  first := fun x hx _ => .inr hx
  next := fun i hi h => by rw [tab_false, tab_at' hi] at h; cases h
theorem last_split {l : List Int} (h : 0 < (l.length : Int)) : l = l.take ((l.length : Int) - 1).toNat ++ [at_ l ((l.length : Int) - 1)] := by
  have := take_next l (t := (l.length : Int) - 1) (by omega) (by omega)
  rw [← this, List.take_of_length_le (by omega)]
theorem seek_in {m : Mach} {out : List Bool} {todo : List Int} (S : Seek m out todo) (h : 0 < (todo.length : Int)) : 0 ≤ at_ todo ((todo.length : Int) - 1) ∧ at_ todo ((todo.length : Int) - 1) < (m.spots.length : Int) := S.inn _ (at_mem (by omega) (by omega))
/-- The last one is there already, or no byte is read into it. -/
theorem seek_old {m : Mach} {out : List Bool} {todo : List Int} (S : Seek m out todo) (h : 0 < (todo.length : Int)) (hx : at_ out (at_ todo ((todo.length : Int) - 1)) = true ∨ fullS m (at_ todo ((todo.length : Int) - 1)).toNat = false) : Seek m out (todo.take ((todo.length : Int) - 1).toNat) := by
  have hs := last_split h
  have key : ∀ x, fullS m x.toNat = true → at_ out x = true ∨ x ∈ todo → at_ out x = true ∨ x ∈ todo.take ((todo.length : Int) - 1).toNat := fun x hf hx2 => by
    rcases hx2 with h1 | h1
    · exact .inl h1
    · rw [hs, List.mem_append, List.mem_singleton] at h1
      rcases h1 with h1 | h1
      · exact .inr h1
      · rw [h1] at hf ⊢
        rcases hx with h2 | h2
        · exact .inl h2
        · rw [hf] at h2; cases h2
  exact ⟨S.len, fun x hx => S.inn x (List.mem_of_mem_take hx), S.sound, fun x hx => S.may x (List.mem_of_mem_take hx), fun x hx hf => key x hf (S.first x hx hf), fun i hi ho x hx hf => key x hf (S.next i hi ho x hx hf)⟩
theorem seek_new {m : Mach} (hR : Right m) {out : List Bool} {todo : List Int} (S : Seek m out todo) (h : 0 < (todo.length : Int)) (hx : fullS m (at_ todo ((todo.length : Int) - 1)).toNat = true) : Seek m (out.set (at_ todo ((todo.length : Int) - 1)).toNat true) (todo.take ((todo.length : Int) - 1).toNat ++ at_ m.follow (at_ todo ((todo.length : Int) - 1))) := by
  have hs := last_split h
  have hin := seek_in S h
  have hmem : at_ todo ((todo.length : Int) - 1) ∈ todo := at_mem (by omega) (by omega)
  generalize hX : at_ todo ((todo.length : Int) - 1) = X at hs hin hmem hx ⊢
  have hc := S.may X hmem hx
  have hset : ∀ i : Nat, at_ (out.set X.toNat true) ((i : Nat) : Int) = if ((i : Nat) : Int) = X then true else at_ out ((i : Nat) : Int) := fun i => mark_set_at hin.1 (by rw [S.len]; exact hin.2) true i
  have hset' : ∀ x : Int, 0 ≤ x → at_ (out.set X.toNat true) x = if x = X then true else at_ out x := fun x h0 => by have := hset x.toNat; rwa [Int.toNat_of_nonneg h0] at this
  have eX : X = ((X.toNat : Nat) : Int) := by omega
  have key : ∀ x, 0 ≤ x → at_ out x = true ∨ x ∈ todo → at_ (out.set X.toNat true) x = true ∨ x ∈ todo.take ((todo.length : Int) - 1).toNat ++ at_ m.follow X := fun x h0 hx2 => by
    rw [hset' x h0]
    by_cases e : x = X
    · rw [if_pos e]; exact .inl rfl
    · rw [if_neg e]
      refine hx2.imp id fun h1 => ?_
      rw [hs, List.mem_append, List.mem_singleton] at h1
      rcases h1 with h1 | h1
      · exact List.mem_append_left _ h1
      · exact (e h1).elim
  refine ⟨by rw [List.length_set]; exact S.len, fun x hx => ?_, fun i hi ho => ?_, fun x hx hf => ?_, fun x hx hf => key x (hR.firsts x hx).1 (S.first x hx hf), fun i hi ho x hx hf => ?_⟩
  · rcases List.mem_append.1 hx with h1 | h1
    · exact S.inn x (List.mem_of_mem_take h1)
    · exact hR.rows hin.1 hin.2 x h1
  · rw [hset] at ho
    split at ho
    · rename_i e; rw [e]; exact hc
    · exact S.sound i hi ho
  · rcases List.mem_append.1 hx with h1 | h1
    · exact S.may x (List.mem_of_mem_take h1) hf
    · have h2 := hR.rows hin.1 hin.2 x h1
      have e : x = ((x.toNat : Nat) : Int) := by omega
      rw [e]
      exact come_next (by omega) hf (j := X.toNat) (by omega) (by rw [← eX]; exact hc) (by rw [← e, ← eX]; exact h1)
  · rw [hset] at ho
    have hx0 := (hR.rows (i := i) (by omega) (by omega) x hx).1
    by_cases e : ((i : Nat) : Int) = X
    · right; rw [e] at hx; exact List.mem_append_right _ hx
    · rw [if_neg e] at ho
      exact key x hx0 (S.next i hi ho x hx hf)
theorem seek_end {m : Mach} {out : List Bool} {todo : List Int} (S : Seek m out todo) (h : ¬ 0 < (todo.length : Int)) : comeM m = out := by
  have ht : todo = [] := List.eq_nil_of_length_eq_zero (by omega)
  subst ht
  refine sub_antisymm (n := m.spots.length) (comeM_len m) (by have := S.len; omega) (come_least (fun i hi hf hx => ?_) fun i j hi hj hf ho hx => ?_) S.sound
  · rcases S.first _ hx (by rwa [Int.toNat_natCast]) with h1 | h1
    · exact h1
    · cases h1
  · rcases S.next j hj ho _ hx (by rwa [Int.toNat_natCast]) with h1 | h1
    · exact h1
    · cases h1
/-- How much is still to be done. -/
def seekN (m : Mach) (out : List Bool) (todo : List Int) : Nat := (m.spots.length - trues m.spots.length out) * 300 + todo.length
theorem seek_dec1 {m : Mach} {out : List Bool} {todo : List Int} (h : 0 < (todo.length : Int)) : seekN m out (todo.take ((todo.length : Int) - 1).toNat) < seekN m out todo := by
  unfold seekN; rw [List.length_take]; omega
theorem seek_dec2 {m : Mach} (hR : Right m) {out : List Bool} {todo : List Int} (S : Seek m out todo) (h : 0 < (todo.length : Int)) (hx : at_ out (at_ todo ((todo.length : Int) - 1)) = false) : seekN m (out.set (at_ todo ((todo.length : Int) - 1)).toNat true) (todo.take ((todo.length : Int) - 1).toNat ++ at_ m.follow (at_ todo ((todo.length : Int) - 1))) < seekN m out todo := by
  have hin := seek_in S h
  have h1 := trues_set (n := m.spots.length) hin.1 (by rw [S.len]; exact hin.2) S.len hx
  have h2 := trues_le m.spots.length (out.set (at_ todo ((todo.length : Int) - 1)).toNat true)
  have h3 := hR.small'.row (at_ todo ((todo.length : Int) - 1)) hin.1 (by rw [hR.follow]; exact hin.2)
  unfold seekN
  rw [List.length_append, List.length_take]
  omega
/-- How long the list of what is to be done may be. -/
def seekB (m : Mach) (out : List Bool) (todo : List Int) : Prop := (todo.length : Int) ≤ 250 * (((trues m.spots.length out : Nat) : Int) + 1)
theorem seek_b0 {m : Mach} (hR : Right m) : seekB m (List.replicate m.spots.length false) m.first := by
  unfold seekB; have := hR.small'.first; omega
theorem seek_b1 {m : Mach} {out : List Bool} {todo : List Int} (b : seekB m out todo) : seekB m out (todo.take ((todo.length : Int) - 1).toNat) := by
  unfold seekB at b ⊢; rw [List.length_take]; omega
theorem seek_b2 {m : Mach} (hR : Right m) {out : List Bool} {todo : List Int} (S : Seek m out todo) (b : seekB m out todo) (h : 0 < (todo.length : Int)) (hx : at_ out (at_ todo ((todo.length : Int) - 1)) = false) : seekB m (out.set (at_ todo ((todo.length : Int) - 1)).toNat true) (todo.take ((todo.length : Int) - 1).toNat ++ at_ m.follow (at_ todo ((todo.length : Int) - 1))) := by
  have hin := seek_in S h
  have h1 := trues_set (n := m.spots.length) hin.1 (by rw [S.len]; exact hin.2) S.len hx
  have h3 := hR.small'.row (at_ todo ((todo.length : Int) - 1)) hin.1 (by rw [hR.follow]; exact hin.2)
  unfold seekB at b ⊢
  rw [List.length_append, List.length_take]
  omega
theorem seek_b {m : Mach} (hR : Right m) {out : List Bool} {todo : List Int} (b : seekB m out todo) : (todo.length : Int) ≤ 62750 := by
  unfold seekB at b
  have := trues_le m.spots.length out
  have := hR.small
  omega
end Gx
