/- My own library for walks through the translated code, part N1: laws of the model alone, no word of the program. -/
import Derived.Test.YtdfkpjchnndniaaDoorM9
namespace Gx
open Go Go.RowKit
set_option linter.unusedSimpArgs false
set_option linter.unusedSectionVars false
set_option linter.unusedVariables false

/-! ### Partitions by a key -/
section
variable {κ : Type} [DecidableEq κ]
/-- Is this the first byte of its key? -/
def isRep (key : Nat → κ) (c : Nat) : Bool := (List.range c).all fun j => decide (key j ≠ key c)
def reps (key : Nat → κ) (t : Nat) : List Nat := (List.range t).filter (isRep key)
def fo (key : Nat → κ) (t c : Nat) : Option Nat := (List.range t).find? fun j => decide (key j = key c)
def idx (key : Nat → κ) (c : Nat) : Nat := (reps key ((fo key c c).getD c)).length
def partOf (key : Nat → κ) : PartM := ⟨(List.range 256).map fun c => ((idx key c : Nat) : Int), ((reps key 256).length : Nat)⟩
theorem reps_succ (key : Nat → κ) (t : Nat) : reps key (t + 1) = reps key t ++ (if isRep key t then [t] else []) := by
  unfold reps
  rw [List.range_succ, List.filter_append]
  congr 1
  simp [List.filter_cons]
theorem reps_le (key : Nat → κ) (t : Nat) : (reps key t).length ≤ t := by
  have := List.length_filter_le (isRep key) (List.range t)
  simpa [reps] using this
theorem fo_some {key : Nat → κ} {t c j : Nat} (h : fo key t c = some j) : j < t ∧ key j = key c := by
  unfold fo at h
  have h1 := List.mem_of_find?_eq_some h
  have h2 := List.find?_some h
  exact ⟨by simpa using h1, by simpa using h2⟩
theorem fo_none {key : Nat → κ} {t c : Nat} (h : fo key t c = none) : ∀ j, j < t → key j ≠ key c := by
  unfold fo at h
  intro j hj
  have := List.find?_eq_none.1 h j (by simpa using hj)
  simpa using this
theorem fo_succ (key : Nat → κ) (t c : Nat) : fo key (t + 1) c = (fo key t c).or (if key t = key c then some t else none) := by
  unfold fo
  rw [List.range_succ, List.find?_append]
  congr 1
  by_cases h : key t = key c <;> simp [h]
theorem isRep_iff (key : Nat → κ) (c : Nat) : isRep key c = (fo key c c).isNone := by
  rw [Bool.eq_iff_iff]
  unfold isRep
  rw [List.all_eq_true]
  constructor
  · intro h
    cases hf : fo key c c with
    | none => rfl
    | some j =>
      obtain ⟨h1, h2⟩ := fo_some hf
      have := h j (by simpa using h1)
      simp [h2] at this
  · intro h j hj
    have := fo_none (Option.isNone_iff_eq_none.1 h) j (by simpa using hj)
    simpa using this
theorem idx_le (key : Nat → κ) (c : Nat) : idx key c ≤ c := by
  unfold idx
  have h := reps_le key ((fo key c c).getD c)
  cases hf : fo key c c with
  | none => rw [hf] at h; simpa using h
  | some j =>
    have := (fo_some hf).1
    rw [hf] at h
    simp at h ⊢
    omega
/-- The map's entries when t bytes are done. -/
def kvTo (key : Nat → κ) (t : Nat) : List (κ × Int) := (reps key t).map fun r => (key r, ((reps key r).length : Int))
theorem lookAt_app {β : Type} (k : κ) (b : List (κ × β)) : ∀ (a : List (κ × β)) (i : Nat), lookAt k (a ++ b) i = (lookAt k a i).or (lookAt k b (i + a.length))
  | [], i => by simp [lookAt]
  | p :: a, i => by
    simp only [List.cons_append, lookAt]
    by_cases h : k = p.1
    · simp [h]
    · rw [if_neg h, if_neg h, lookAt_app k b a (i + 1)]
      congr 2
      simp; omega
theorem valAt_app {β : Type} (k : κ) (a b : List (κ × β)) : valAt k (a ++ b) = (valAt k a).or (valAt k b) := by
  have sh : ∀ (l : List (κ × β)) (i j : Nat), (lookAt k l i).map (·.2) = (lookAt k l j).map (·.2) := by
    intro l
    induction l with
    | nil => intro i j; rfl
    | cons p r ih =>
      intro i j
      simp only [lookAt]
      by_cases h : k = p.1
      · simp [h]
      · rw [if_neg h, if_neg h]; exact ih _ _
  unfold valAt
  rw [lookAt_app]
  cases hl : lookAt k a 0 with
  | none => simp; exact sh b _ _
  | some p => simp
theorem val_kvTo (key : Nat → κ) (c : Nat) : ∀ t, valAt (key c) (kvTo key t) = (fo key t c).map fun j => ((reps key j).length : Int)
  | 0 => rfl
  | t + 1 => by
    unfold kvTo
    rw [reps_succ, List.map_append, valAt_app, fo_succ]
    show (valAt (key c) (kvTo key t)).or _ = _
    rw [val_kvTo key c t]
    cases hf : fo key t c with
    | some j => simp
    | none =>
      simp only [Option.map_none, Option.none_or]
      by_cases hk : key t = key c
      · have hr : isRep key t = true := by
          rw [isRep_iff]
          cases ht : fo key t t with
          | none => rfl
          | some j => exact absurd ((fo_some ht).2.trans hk) (fo_none hf j (fo_some ht).1)
        rw [hr, if_pos hk]
        simp [valAt, lookAt, hk]
      · rw [if_neg hk]
        cases isRep key t with
        | false => simp [valAt, lookAt]
        | true => simp [valAt, lookAt]; exact fun e => hk e.symm
theorem kvTo_0 (key : Nat → κ) : kvTo key 0 = [] := rfl
/-- A byte whose key was there. -/
theorem kvTo_old {key : Nat → κ} {c : Nat} {v : Int} (h : valAt (key c) (kvTo key c) = some v) : v = (idx key c : Nat) ∧ kvTo key (c + 1) = kvTo key c ∧ (reps key (c + 1)).length = (reps key c).length := by
  rw [val_kvTo] at h
  cases hf : fo key c c with
  | none => rw [hf] at h; cases h
  | some j =>
    rw [hf] at h
    simp at h
    have hr : isRep key c = false := by rw [isRep_iff, hf]; rfl
    have e : reps key (c + 1) = reps key c := by rw [reps_succ, hr]; simp
    refine ⟨?_, by unfold kvTo; rw [e], by rw [e]⟩
    unfold idx
    rw [hf]; simp; omega
theorem kvTo_new {key : Nat → κ} {c : Nat} (h : valAt (key c) (kvTo key c) = none) : ((reps key c).length : Int) = (idx key c : Nat) ∧ kvTo key (c + 1) = putAt (key c) ((reps key c).length : Int) (kvTo key c) ∧ (reps key (c + 1)).length = (reps key c).length + 1 := by
  have hl : lookAt (key c) (kvTo key c) 0 = none := by
    unfold valAt at h
    exact Option.map_eq_none_iff.1 h
  rw [val_kvTo, Option.map_eq_none_iff] at h
  have hr : isRep key c = true := by rw [isRep_iff, h]; rfl
  have e : reps key (c + 1) = reps key c ++ [c] := by rw [reps_succ, hr]; simp
  refine ⟨?_, ?_, by rw [e]; simp⟩
  · unfold idx; rw [h]; rfl
  · unfold putAt; rw [hl]
    unfold kvTo; rw [e]; simp
theorem fo_min {key : Nat → κ} {c j : Nat} : ∀ {t : Nat}, fo key t c = some j → ∀ i, i < j → key i ≠ key c
  | 0, h, _, _ => by simp [fo] at h
  | t + 1, h, i, hi => by
    rw [fo_succ] at h
    cases hf : fo key t c with
    | some q =>
      rw [hf] at h; simp at h; subst h
      exact fo_min hf i hi
    | none =>
      rw [hf] at h
      by_cases hk : key t = key c
      · rw [if_pos hk] at h; simp at h; subst h
        exact fo_none hf i hi
      · rw [if_neg hk] at h; simp at h
def fst_ (key : Nat → κ) (c : Nat) : Nat := (fo key c c).getD c
theorem fst_key (key : Nat → κ) (c : Nat) : key (fst_ key c) = key c := by
  unfold fst_
  cases h : fo key c c with
  | none => rfl
  | some j => exact (fo_some h).2
theorem fst_le (key : Nat → κ) (c : Nat) : fst_ key c ≤ c := by
  unfold fst_
  cases h : fo key c c with
  | none => exact Nat.le_refl _
  | some j => exact Nat.le_of_lt (fo_some h).1
theorem fst_min (key : Nat → κ) (c : Nat) : ∀ i, i < fst_ key c → key i ≠ key c := by
  unfold fst_
  cases h : fo key c c with
  | none => exact fo_none h
  | some j => exact fo_min h
theorem fst_eq {key : Nat → κ} {c d : Nat} (h : key c = key d) : fst_ key c = fst_ key d := by
  rcases Nat.lt_trichotomy (fst_ key c) (fst_ key d) with hl | he | hl
  · exact absurd ((fst_key key c).trans h) (fst_min key d _ hl)
  · exact he
  · exact absurd ((fst_key key d).trans h.symm) (fst_min key c _ hl)
theorem fst_rep (key : Nat → κ) (c : Nat) : isRep key (fst_ key c) = true := by
  unfold isRep
  rw [List.all_eq_true]
  intro j hj
  have hj' : j < fst_ key c := by simpa using hj
  have := fst_min key c j hj'
  rw [fst_key key c]
  simpa using this
theorem reps_mono (key : Nat → κ) (a : Nat) : ∀ b, a ≤ b → (reps key a).length ≤ (reps key b).length
  | 0, h => by have : a = 0 := by omega
               subst this; exact Nat.le_refl _
  | b + 1, h => by
    rcases Nat.lt_or_ge a (b + 1) with h1 | h1
    · have := reps_mono key a b (by omega)
      rw [reps_succ, List.length_append]; omega
    · have : a = b + 1 := by omega
      rw [this]; exact Nat.le_refl _
theorem reps_lt {key : Nat → κ} {a b : Nat} (hr : isRep key a = true) (h : a < b) : (reps key a).length < (reps key b).length := by
  have h1 := reps_mono key (a + 1) b h
  rw [reps_succ, hr] at h1
  simp at h1; omega
/-- The same class just if the same key. -/
theorem idx_inj {key : Nat → κ} {c d : Nat} : idx key c = idx key d ↔ key c = key d := by
  constructor
  · intro h
    have h1 : (reps key (fst_ key c)).length = (reps key (fst_ key d)).length := h
    have e : fst_ key c = fst_ key d := by
      rcases Nat.lt_trichotomy (fst_ key c) (fst_ key d) with hl | he | hl
      · have := reps_lt (fst_rep key c) hl; omega
      · exact he
      · have := reps_lt (fst_rep key d) hl; omega
    rw [← fst_key key c, ← fst_key key d, e]
  · intro h
    show (reps key (fst_ key c)).length = (reps key (fst_ key d)).length
    rw [fst_eq h]
def ofTo (key : Nat → κ) (t : Int) : List Int := (List.range 256).map fun (c : Nat) => if ((c : Nat) : Int) < t then ((idx key c : Nat) : Int) else 0
theorem ofTo_0 (key : Nat → κ) : List.replicate 256 (0 : Int) = ofTo key 0 := by
  unfold ofTo
  refine (List.eq_replicate_iff.2 ⟨by simp, ?_⟩).symm
  intro b hb
  obtain ⟨i, _, rfl⟩ := List.mem_map.1 hb
  rw [if_neg (by omega)]
theorem ofTo_step {key : Nat → κ} {t v : Int} {l : List Int} (hl : l = ofTo key t) (h0 : 0 ≤ t) (h1 : t < 256) (hv : v = (idx key t.toNat : Nat)) : l.set t.toNat v = ofTo key (t + 1) := by
  subst hl
  have hl : ∀ t, (ofTo key t).length = 256 := fun t => by simp [ofTo]
  refine list_ext (n := 256) (by rw [List.length_set]; exact hl t) (hl _) fun k hk hk1 => ?_
  rw [at_set h0 (by rw [hl]; omega) hk]
  unfold ofTo
  rw [at_map_range _ _ hk hk1, at_map_range _ _ hk hk1, show ((k.toNat : Nat) : Int) = k by omega]
  by_cases h : k = t
  · rw [if_pos h, hv, h, if_pos (by omega)]
  · rw [if_neg h]
    by_cases h2 : k < t
    · rw [if_pos h2, if_pos (by omega)]
    · rw [if_neg h2, if_neg (by omega)]
theorem ofTo_end (key : Nat → κ) {t : Int} (ht : t = 256) : ofTo key t = (partOf key).of := by
  unfold ofTo partOf
  show List.map _ _ = List.map _ _
  apply List.map_congr_left
  intro c hc
  have : c < 256 := by simpa using hc
  rw [if_pos (by omega)]
theorem part_at (key : Nat → κ) {c : Int} (h0 : 0 ≤ c) (h1 : c < 256) : at_ (partOf key).of c = (idx key c.toNat : Nat) := by
  unfold partOf
  exact at_map_range _ _ h0 h1
theorem okPart_of (key : Nat → κ) : okPart (partOf key) := by
  refine ⟨⟨by simp [partOf], fun x hx => ?_⟩, ?_⟩
  · unfold partOf at hx
    obtain ⟨c, hc, rfl⟩ := List.mem_map.1 hx
    have := idx_le key c
    have : c < 256 := by simpa using hc
    exact in_u8 (by omega) (by omega)
  · have := reps_le key 256
    exact in_i64 (by show _ ≤ (((reps key 256).length : Nat) : Int); omega) (by show (((reps key 256).length : Nat) : Int) ≤ _; omega)
end
section
variable {κ μ : Type} [DecidableEq κ] [DecidableEq μ]
/-- A partition hangs on which bytes have the same key. -/
theorem reps_congr {key : Nat → κ} {key' : Nat → μ} {n : Nat} (h : ∀ i j, i < n → j < n → (key i = key j ↔ key' i = key' j)) : ∀ t, t ≤ n → reps key t = reps key' t := by
  intro t ht
  unfold reps
  apply List.filter_congr
  intro c hc
  have hc' : c < t := by simpa using hc
  unfold isRep
  rw [Bool.eq_iff_iff, List.all_eq_true, List.all_eq_true]
  constructor
  · intro hh j hj
    have hjc : j < c := by simpa using hj
    have := hh j hj
    simp only [decide_eq_true_eq, ne_eq] at this ⊢
    rwa [← h j c (by omega) (by omega)]
  · intro hh j hj
    have hjc : j < c := by simpa using hj
    have := hh j hj
    simp only [decide_eq_true_eq, ne_eq] at this ⊢
    rwa [h j c (by omega) (by omega)]
theorem fo_congr {key : Nat → κ} {key' : Nat → μ} {n : Nat} (h : ∀ i j, i < n → j < n → (key i = key j ↔ key' i = key' j)) {t c : Nat} (ht : t ≤ n) (hc : c < n) : fo key t c = fo key' t c := by
  unfold fo
  have : ∀ l : List Nat, (∀ j ∈ l, j < n) → l.find? (fun j => decide (key j = key c)) = l.find? (fun j => decide (key' j = key' c)) := by
    intro l
    induction l with
    | nil => intro _; rfl
    | cons j l ih =>
      intro hl
      have e : decide (key j = key c) = decide (key' j = key' c) := decide_eq_decide.2 (h j c (hl j (by simp)) hc)
      simp only [List.find?_cons, e]
      rw [ih fun i hi => hl i (by simp [hi])]
  exact this _ fun j hj => by have : j < t := by simpa using hj
                              omega
theorem idx_congr {key : Nat → κ} {key' : Nat → μ} {n : Nat} (h : ∀ i j, i < n → j < n → (key i = key j ↔ key' i = key' j)) {c : Nat} (hc : c < n) : idx key c = idx key' c := by
  unfold idx
  rw [fo_congr h (Nat.le_of_lt hc) hc, reps_congr h]
  cases hf : fo key' c c with
  | none => simp; omega
  | some j => have := (fo_some hf).1; simp; omega
theorem partOf_congr {key : Nat → κ} {key' : Nat → μ} (h : ∀ i j, i < 256 → j < 256 → (key i = key j ↔ key' i = key' j)) : partOf key = partOf key' := by
  unfold partOf
  rw [reps_congr h 256 (Nat.le_refl _)]
  congr 1
  apply List.map_congr_left
  intro c hc
  rw [idx_congr h (by simpa using hc)]
end
def encSide (k : Int × Bool) : List Value := [.int .u8 k.1, .bool k.2]
def okSide (k : Int × Bool) : Prop := inK .u8 k.1
theorem encSide_one (k : Int × Bool) : ∀ u ∈ encSide k, u.oneCell' = true := by simp [encSide, Value.oneCell']
def kSide : Kd (Int × Bool) := .flat encSide okSide 2 (by omega) (fun _ _ => rfl) encSide_one
def sideOf (p : PartM) (s : BSet) (c : Nat) : Int × Bool := (at_ p.of ((c : Nat) : Int), has s ((c : Nat) : Int))
def splitP (p : PartM) (s : BSet) : PartM := partOf (sideOf p s)
theorem side_at (p : PartM) (s : BSet) {t : Int} (h0 : 0 ≤ t) : sideOf p s t.toNat = (at_ p.of t, has s t) := by
  unfold sideOf
  rw [show ((t.toNat : Nat) : Int) = t by omega]
theorem split_end (p : PartM) (s : BSet) {t : Int} {o : PartM} (ht : t = 256) (h1 : o.of = ofTo (sideOf p s) t) (h2 : o.n = ((reps (sideOf p s) t.toNat).length : Int)) : splitP p s = o := by
  unfold splitP
  have e1 := ofTo_end (sideOf p s) ht
  obtain ⟨oof, on⟩ := o
  simp only at h1 h2
  rw [h1, e1, h2, ht]; rfl
/-- The partition of sets. -/
def refKey (l : List BSet) (c : Nat) : List Bool := l.map fun s => s.getLsbD c
def refineP (l : List BSet) : PartM := partOf (refKey l)
theorem refine_0 (l : List BSet) : (⟨List.replicate 256 0, 1⟩ : PartM) = refineP (l.take 0) := by
  unfold refineP
  rw [partOf_congr (key' := fun _ => ()) (fun i j _ _ => by simp [refKey])]
  decide +kernel
theorem refine_step (l : List BSet) {t : Int} (h0 : 0 ≤ t) (h1 : t < (l.length : Int)) {p : PartM} (hp : p = refineP (l.take t.toNat)) : splitP p (at_ l t) = refineP (l.take (t + 1).toNat) := by
  subst hp
  unfold splitP
  rw [take_next l h0 h1]
  unfold refineP
  refine partOf_congr fun i j hi hj => ?_
  unfold sideOf
  rw [part_at _ (by omega) (by omega), part_at _ (by omega) (by omega)]
  simp only [Int.toNat_natCast, Prod.mk.injEq, has]
  constructor
  · rintro ⟨h1, h2⟩
    have h3 : idx (refKey (l.take t.toNat)) i = idx (refKey (l.take t.toNat)) j := by omega
    rw [idx_inj] at h3
    unfold refKey at h3 ⊢
    simp only [List.map_append, List.map_cons, List.map_nil, h3, h2]
  · intro h
    unfold refKey at h
    simp only [List.map_append, List.map_cons, List.map_nil] at h
    have hh := List.append_inj' h rfl
    refine ⟨?_, by simpa using hh.2⟩
    have : idx (refKey (l.take t.toNat)) i = idx (refKey (l.take t.toNat)) j := idx_inj.2 hh.1
    omega
theorem refine_end (l : List BSet) {t : Int} (h : (l.length : Int) ≤ t) {p : PartM} (hp : p = refineP (l.take t.toNat)) : refineP l = p := by
  rw [hp, List.take_of_length_le (by omega)]
/-- May a partition be? -/
def nextOf (l : List Int) : Option Int := l.foldl (fun o n => match o with
  | none => none
  | some x => if n > x then none else if n = x then some (x + 1) else some x) (some 0)
def rightP (p : PartM) : Bool := match nextOf p.of with
  | none => false
  | some x => decide (x = p.n)
theorem next_app (l : List Int) (n : Int) : nextOf (l ++ [n]) = match nextOf l with
  | none => none
  | some x => if n > x then none else if n = x then some (x + 1) else some x := by
  unfold nextOf; rw [List.foldl_append]; rfl
theorem next_none (l r : List Int) (h : nextOf l = none) : nextOf (l ++ r) = none := by
  unfold nextOf at *
  rw [List.foldl_append, h]
  induction r with
  | nil => rfl
  | cons a r ih => exact ih
theorem right_no (p : PartM) {t x : Int} (h0 : 0 ≤ t) (h1 : t < (p.of.length : Int)) (h : nextOf (p.of.take t.toNat) = some x) (hx : x < at_ p.of t) : rightP p = false := by
  unfold rightP
  have e : nextOf (p.of.take (t + 1).toNat) = none := by
    rw [take_next p.of h0 h1, next_app, h]
    simp only []
    rw [if_pos (by omega)]
  have : nextOf p.of = none := by
    have := next_none _ (p.of.drop (t + 1).toNat) e
    rwa [List.take_append_drop] at this
  rw [this]
theorem right_yes (p : PartM) {t x : Int} (h1 : (p.of.length : Int) ≤ t) (h : nextOf (p.of.take t.toNat) = some x) : rightP p = decide (x = p.n) := by
  rw [List.take_of_length_le (by omega)] at h
  unfold rightP
  rw [h]
def many (p : PartM) : Nat := (min (max p.n 0) 256).toNat
def setsTo (p : PartM) (t : Int) : List BSet := (List.range (many p)).map fun (k : Nat) => ofPred fun c => decide (((c : Nat) : Int) < t ∧ at_ p.of ((c : Nat) : Int) = ((k : Nat) : Int))
def setsP (p : PartM) : List BSet := (List.range (many p)).map fun (k : Nat) => ofPred fun c => decide (at_ p.of ((c : Nat) : Int) = ((k : Nat) : Int))
theorem setsTo_len (p : PartM) (t : Int) : ((setsTo p t).length : Int) = min (max p.n 0) 256 := by
  unfold setsTo many
  simp; omega
theorem setsTo_0 (p : PartM) : List.replicate (min (max p.n 0) 256).toNat (0 : BSet) = setsTo p 0 := by
  unfold setsTo
  refine (List.eq_replicate_iff.2 ⟨by simp [many], ?_⟩).symm
  intro b hb
  obtain ⟨k, _, rfl⟩ := List.mem_map.1 hb
  refine set_ext fun i hi => ?_
  rw [pred_bit _ hi, decide_eq_false (by omega)]; simp
theorem setsTo_end (p : PartM) : setsP p = setsTo p 256 := by
  unfold setsTo setsP
  apply List.map_congr_left
  intro k hk
  refine ofPred_congr fun c hc => ?_
  exact decide_eq_decide.2 ⟨fun h => ⟨by omega, h⟩, fun h => h.2⟩
theorem setsTo_in (p : PartM) {t : Int} (h0 : 0 ≤ t) (h1 : t < 256) (hv0 : 0 ≤ at_ p.of t) (hv : at_ p.of t < min (max p.n 0) 256) : (setsTo p t).set (at_ p.of t).toNat (at_ (setsTo p t) (at_ p.of t) ||| setOf [t]) = setsTo p (t + 1) := by
  have hl := setsTo_len p
  refine list_ext (n := many p) (by rw [List.length_set]; simp [setsTo]) (by simp [setsTo]) fun k hk hk1 => ?_
  have hm : ((many p : Nat) : Int) = min (max p.n 0) 256 := by unfold many; omega
  rw [at_set hv0 (by rw [hl]; exact hv) hk]
  unfold setsTo
  rw [at_map_range _ _ hv0 (by omega), at_map_range _ _ hk hk1, at_map_range _ _ hk hk1]
  by_cases h : k = at_ p.of t
  · rw [if_pos h, ← h]
    refine set_ext fun i hi => ?_
    unfold setOf
    rw [BitVec.getLsbD_or, pred_bit _ hi, pred_bit _ hi, pred_bit _ hi, Bool.eq_iff_iff]
    simp only [Bool.or_eq_true, decide_eq_true_eq, List.mem_singleton]
    constructor
    · rintro (⟨h2, h3⟩ | h2)
      · exact ⟨by omega, h3⟩
      · rw [h2]; exact ⟨by omega, by omega⟩
    · rintro ⟨h2, h3⟩
      by_cases h4 : ((i : Nat) : Int) = t
      · exact .inr h4
      · exact .inl ⟨by omega, h3⟩
  · rw [if_neg h]
    refine ofPred_congr fun c hc => decide_eq_decide.2 ?_
    constructor
    · rintro ⟨h2, h3⟩; exact ⟨by omega, h3⟩
    · rintro ⟨h2, h3⟩
      refine ⟨?_, h3⟩
      by_cases h4 : ((c : Nat) : Int) = t
      · rw [h4] at h3; omega
      · omega
theorem setsTo_out (p : PartM) {t : Int} (h0 : 0 ≤ t) (h1 : t < 256) (hv : ¬ at_ p.of t < min (max p.n 0) 256) : setsTo p t = setsTo p (t + 1) := by
  unfold setsTo
  apply List.map_congr_left
  intro k hk
  have hk1 : k < many p := by simpa using hk
  have hm : ((many p : Nat) : Int) = min (max p.n 0) 256 := by unfold many; omega
  refine ofPred_congr fun c hc => decide_eq_decide.2 ?_
  constructor
  · rintro ⟨h2, h3⟩; exact ⟨by omega, h3⟩
  · rintro ⟨h2, h3⟩
    refine ⟨?_, h3⟩
    by_cases h4 : ((c : Nat) : Int) = t
    · rw [h4] at h3; omega
    · omega
def leastOf (k : Int) (s : BSet) : List Int := (listOf s).take (min (max k 0) ((listOf s).length : Int)).toNat
def leastP (p : PartM) (k : Int) : List (List Int) := (setsP p).map (leastOf k)
def leastTo (p : PartM) (k t : Int) : List (List Int) := ((setsP p).take t.toNat).map (leastOf k)
theorem setsP_len (p : PartM) : ((setsP p).length : Int) = min (max p.n 0) 256 := by
  unfold setsP many
  simp; omega
theorem leastTo_len (p : PartM) (k t : Int) : ((leastTo p k t).length : Int) ≤ 256 := by
  unfold leastTo
  have := setsP_len p
  simp; omega
theorem leastTo_step (p : PartM) (k : Int) {t : Int} (h0 : 0 ≤ t) (h1 : t < ((setsP p).length : Int)) : leastTo p k t ++ [(listOf (at_ (setsP p) t)).take (min (max k 0) ((listOf (at_ (setsP p) t)).length : Int)).toNat] = leastTo p k (t + 1) := by
  unfold leastTo
  rw [take_next _ h0 h1, List.map_append]; rfl
theorem leastTo_end (p : PartM) (k : Int) {t : Int} (h : ((setsP p).length : Int) ≤ t) : leastP p k = leastTo p k t := by
  unfold leastTo leastP
  rw [List.take_of_length_le (by omega)]
theorem least_small (s : BSet) (n : Nat) : ((listOf s).take n).length ≤ 1000000 := by
  have := list_len s
  have := count_le s
  rw [List.length_take]; omega
/-- Does a set cut another one? -/
def cuts (x s : BSet) : Bool := decide (x &&& s ≠ x) && decide (x &&& s ≠ 0)
def placeFrom (f : BSet → Bool) : List BSet → Int → Int
  | [], _ => -1
  | x :: r, i => if f x then i else placeFrom f r (i + 1)
def place (f : BSet → Bool) (l : List BSet) : Int := placeFrom f l 0
def splitsP (p : PartM) (s : BSet) : Bool := (setsP p).any fun x => cuts x s
theorem placeFrom_any (f : BSet → Bool) : ∀ (l : List BSet) (i : Int), 0 ≤ i → decide (0 ≤ placeFrom f l i) = l.any f ∧ (placeFrom f l i = -1 ∨ (i ≤ placeFrom f l i ∧ placeFrom f l i < i + l.length))
  | [], i, _ => ⟨rfl, .inl rfl⟩
  | x :: r, i, h => by
    unfold placeFrom
    cases hx : f x with
    | true => simp [hx]; omega
    | false =>
      obtain ⟨h1, h2⟩ := placeFrom_any f r (i + 1) (by omega)
      simp only [Bool.false_eq_true, if_false, List.any_cons, hx, Bool.false_or, h1, true_and, List.length_cons]
      omega
theorem place_any (f : BSet → Bool) (l : List BSet) : decide (0 ≤ place f l) = l.any f := (placeFrom_any f l 0 (by omega)).1
theorem placeFrom_drop (f : BSet → Bool) (l : List BSet) {t : Int} (h0 : 0 ≤ t) (h1 : t < (l.length : Int)) : placeFrom f (l.drop t.toNat) t = if f (at_ l t) then t else placeFrom f (l.drop (t + 1).toNat) (t + 1) := by
  have e : l.drop t.toNat = at_ l t :: l.drop (t + 1).toNat := by
    rw [show (t + 1).toNat = t.toNat + 1 by omega]
    have h2 := at_some h0 h1
    obtain ⟨hl, e⟩ := List.getElem?_eq_some_iff.1 h2
    rw [List.drop_eq_getElem_cons hl, e]
  rw [e]; rfl
def apartOf (l : List (List Bool)) (a b : Int) : Bool := l.any fun m => decide (at_ m a ≠ at_ m b)
theorem apart_drop (l : List (List Bool)) (a b : Int) {t : Int} (h0 : 0 ≤ t) (h1 : t < (l.length : Int)) : apartOf (l.drop t.toNat) a b = (decide (at_ (at_ l t) a ≠ at_ (at_ l t) b) || apartOf (l.drop (t + 1).toNat) a b) := by
  have e : l.drop t.toNat = at_ l t :: l.drop (t + 1).toNat := by
    rw [show (t + 1).toNat = t.toNat + 1 by omega]
    have h2 := at_some h0 h1
    obtain ⟨hl, e⟩ := List.getElem?_eq_some_iff.1 h2
    rw [List.drop_eq_getElem_cons hl, e]
  rw [e]; rfl
/-! ### The document's partition -/
def docKey (l : List (List Int)) (c : Nat) : List Bool := l.map fun ws => bitAt ws c
section
variable {κ : Type} [DecidableEq κ]
/-- The last of the first k classes that a byte falls into. -/
def hitTo (key : Nat → κ) (c : Nat) : Nat → Int
  | 0 => -1
  | k + 1 => if key (at_ (reps key c) ((k : Nat) : Int)) = key c then ((k : Nat) : Int) else hitTo key c k
theorem reps_at (key : Nat → κ) (c : Nat) {k : Nat} (hk : k < (reps key c).length) : at_ (reps key c) ((k : Nat) : Int) < c ∧ isRep key (at_ (reps key c) ((k : Nat) : Int)) = true ∧ (reps key (at_ (reps key c) ((k : Nat) : Int))).length = k := by
  induction c with
  | zero => simp [reps] at hk
  | succ c ih =>
    have e := reps_succ key c
    cases hr : isRep key c with
    | false =>
      rw [hr] at e
      simp at e
      rw [e] at hk ⊢
      obtain ⟨h1, h2, h3⟩ := ih hk
      exact ⟨by omega, h2, h3⟩
    | true =>
      rw [hr] at e
      simp at e
      rw [e] at hk ⊢
      rw [List.length_append] at hk
      simp at hk
      by_cases hlt : k < (reps key c).length
      · have ea : at_ (reps key c ++ [c]) ((k : Nat) : Int) = at_ (reps key c) ((k : Nat) : Int) := by
          unfold at_
          rw [Int.toNat_natCast, List.getD_eq_getElem?_getD, List.getD_eq_getElem?_getD, List.getElem?_append_left hlt]
        rw [ea]
        obtain ⟨h1, h2, h3⟩ := ih hlt
        exact ⟨by omega, h2, h3⟩
      · have ek : k = (reps key c).length := by omega
        have ea : at_ (reps key c ++ [c]) ((k : Nat) : Int) = c := by
          unfold at_
          rw [Int.toNat_natCast, List.getD_eq_getElem?_getD, List.getElem?_append_right (by omega), ek, Nat.sub_self]; rfl
        rw [ea]
        exact ⟨by omega, hr, ek.symm⟩
theorem hit_none (key : Nat → κ) (c : Nat) (h : ∀ j, j < c → key j ≠ key c) : ∀ k, k ≤ (reps key c).length → hitTo key c k = -1
  | 0, _ => rfl
  | k + 1, hk => by
    obtain ⟨h1, _, _⟩ := reps_at key c (k := k) (by omega)
    unfold hitTo
    rw [if_neg (h _ h1)]
    exact hit_none key c h k (by omega)
theorem hit_some (key : Nat → κ) (c : Nat) {j : Nat} (hj : j < c) (hr : isRep key j = true) (he : key j = key c) : ∀ k, k ≤ (reps key c).length → hitTo key c k = if (reps key j).length < k then ((reps key j).length : Int) else -1
  | 0, _ => by rw [if_neg (by omega)]; rfl
  | k + 1, hk => by
    obtain ⟨h1, h2, h3⟩ := reps_at key c (k := k) (by omega)
    unfold hitTo
    by_cases hc : key (at_ (reps key c) ((k : Nat) : Int)) = key c
    · rw [if_pos hc]
      have hjk : at_ (reps key c) ((k : Nat) : Int) = j := by
        have hkk := hc.trans he.symm
        rcases Nat.lt_trichotomy (at_ (reps key c) ((k : Nat) : Int)) j with hl | e | hl
        · unfold isRep at hr
          have := List.all_eq_true.1 hr _ (by simpa using hl)
          simp [hkk] at this
        · exact e
        · unfold isRep at h2
          have := List.all_eq_true.1 h2 j (by simpa using hl)
          simp [hkk.symm] at this
      rw [hjk] at h3
      rw [if_pos (by omega), h3]
    · rw [if_neg hc, hit_some key c hj hr he k (by omega)]
      have hne : (reps key j).length ≠ k := by
        intro e
        have hjj : at_ (reps key c) ((k : Nat) : Int) = j := by
          rcases Nat.lt_trichotomy (at_ (reps key c) ((k : Nat) : Int)) j with hl | e2 | hl
          · have := reps_lt h2 hl; omega
          · exact e2
          · have := reps_lt hr hl; omega
        rw [hjj] at hc; exact hc he
      by_cases h4 : (reps key j).length < k
      · rw [if_pos h4, if_pos (by omega)]
      · rw [if_neg h4, if_neg (by omega)]
/-- What the document's search tells. -/
theorem hit_end (key : Nat → κ) (c : Nat) : (isRep key c = true ∧ hitTo key c (reps key c).length = -1) ∨ (isRep key c = false ∧ hitTo key c (reps key c).length = ((idx key c : Nat) : Int)) := by
  cases hf : fo key c c with
  | none =>
    left
    exact ⟨by rw [isRep_iff, hf]; rfl, hit_none key c (fo_none hf) _ (Nat.le_refl _)⟩
  | some j =>
    right
    have hj := fo_some hf
    have hr : isRep key j = true := by
      have := fst_rep key c
      unfold fst_ at this
      rw [hf] at this; exact this
    refine ⟨by rw [isRep_iff, hf]; rfl, ?_⟩
    rw [hit_some key c hj.1 hr hj.2 _ (Nat.le_refl _), if_pos (reps_lt hr hj.1)]
    unfold idx; rw [hf]; rfl
end
theorem doc_apart (l : List (List Int)) {a b : Int} (ha : 0 ≤ a) (ha1 : a < 256) (hb : 0 ≤ b) (hb1 : b < 256) : apartOf (l.map members) a b = decide (docKey l a.toNat ≠ docKey l b.toNat) := by
  unfold apartOf docKey
  rw [Bool.eq_iff_iff]
  simp only [List.any_map, List.any_eq_true, Function.comp_def, decide_eq_true_eq]
  have hm : ∀ (ws : List Int) (c : Int), 0 ≤ c → c < 256 → at_ (members ws) c = bitAt ws c.toNat := fun ws c h0 h1 => by
    unfold members
    rw [at_map_range _ _ h0 h1]
  constructor
  · rintro ⟨ws, hw, hn⟩ e
    rw [hm ws a ha ha1, hm ws b hb hb1] at hn
    exact hn (List.map_inj_left.1 e ws hw)
  · intro hn
    apply Classical.byContradiction
    intro hx
    refine hn (List.map_inj_left.2 fun ws hw => ?_)
    apply Classical.byContradiction
    intro hne
    exact hx ⟨ws, hw, by rw [hm ws a ha ha1, hm ws b hb hb1]; exact hne⟩
theorem ints_at (l : List Nat) {k : Int} (h0 : 0 ≤ k) (h1 : k < (l.length : Int)) : at_ (ints l) k = ((at_ l k : Nat) : Int) := by
  unfold ints
  have h2 := at_some (xs := l) h0 h1
  unfold at_ at *
  rw [List.getD_eq_getElem?_getD, List.getElem?_map, h2]; rfl
theorem ints_len (l : List Nat) : (ints l).length = l.length := by simp [ints]
section
variable {κ : Type} [DecidableEq κ]
theorem doc_bound {key : Nat → κ} {c k : Int} {least : List Int} (hl : least = ints (reps key c.toNat)) (hc : c ≤ 256) (h0 : 0 ≤ k) (h1 : k < (least.length : Int)) : 0 ≤ at_ least k ∧ at_ least k < 256 := by
  subst hl
  rw [ints_len] at h1
  rw [ints_at _ h0 h1]
  obtain ⟨n, rfl⟩ := Int.eq_ofNat_of_zero_le h0
  have := (reps_at key c.toNat (k := n) (by omega)).1
  omega
theorem doc_hit {key : Nat → κ} {c k : Int} {l : List Int} (h0 : 0 ≤ k) (he : key (at_ (reps key c.toNat) k) = key c.toNat) : (l.set c.toNat (hitTo key c.toNat k.toNat)).set c.toNat k = l.set c.toNat (hitTo key c.toNat (k + 1).toNat) := by
  obtain ⟨n, rfl⟩ := Int.eq_ofNat_of_zero_le h0
  rw [List.set_set, show ((n : Int) + 1).toNat = n + 1 by omega]
  unfold hitTo
  rw [if_pos he]
theorem doc_miss {key : Nat → κ} {c k : Int} {l : List Int} (h0 : 0 ≤ k) (he : key (at_ (reps key c.toNat) k) ≠ key c.toNat) : l.set c.toNat (hitTo key c.toNat k.toNat) = l.set c.toNat (hitTo key c.toNat (k + 1).toNat) := by
  obtain ⟨n, rfl⟩ := Int.eq_ofNat_of_zero_le h0
  rw [show ((n : Int) + 1).toNat = n + 1 by omega]
  conv => rhs; unfold hitTo
  rw [if_neg he, Int.toNat_natCast]
theorem doc_new {key : Nat → κ} {c k : Int} {o : List Int} (h0 : 0 ≤ c) (h1 : c < 256) (hk : k.toNat = (reps key c.toNat).length) (ho : o = (ofTo key c).set c.toNat (hitTo key c.toNat k.toNat)) (hn : at_ o c < 0) :
    o.set c.toNat ((ints (reps key c.toNat)).length : Int) = ofTo key (c + 1) ∧ ints (reps key c.toNat) ++ [c] = ints (reps key (c + 1).toNat) := by
  have hl : ((ofTo key c).length : Int) = 256 := by simp [ofTo]
  rw [ho, at_set_self h0 (by omega), hk] at hn
  rcases hit_end key c.toNat with ⟨hr, hh⟩ | ⟨hr, hh⟩
  · have e : reps key (c + 1).toNat = reps key c.toNat ++ [c.toNat] := by rw [show (c + 1).toNat = c.toNat + 1 by omega, reps_succ, hr]; simp
    refine ⟨?_, ?_⟩
    · rw [ho, List.set_set]
      refine ofTo_step rfl h0 h1 ?_
      rw [ints_len]
      have : fo key c.toNat c.toNat = none := by rw [isRep_iff] at hr; exact Option.isNone_iff_eq_none.1 hr
      unfold idx; rw [this]; rfl
    · rw [e]; simp [ints]; omega
  · rw [hh] at hn; omega
theorem doc_old {key : Nat → κ} {c k : Int} {o : List Int} (h0 : 0 ≤ c) (h1 : c < 256) (hk : k.toNat = (reps key c.toNat).length) (ho : o = (ofTo key c).set c.toNat (hitTo key c.toNat k.toNat)) (hn : ¬ at_ o c < 0) :
    o = ofTo key (c + 1) ∧ ints (reps key c.toNat) = ints (reps key (c + 1).toNat) := by
  have hl : ((ofTo key c).length : Int) = 256 := by simp [ofTo]
  rw [ho, at_set_self h0 (by omega), hk] at hn
  rcases hit_end key c.toNat with ⟨hr, hh⟩ | ⟨hr, hh⟩
  · rw [hh] at hn; omega
  · have e : reps key (c + 1).toNat = reps key c.toNat := by rw [show (c + 1).toNat = c.toNat + 1 by omega, reps_succ, hr]; simp
    refine ⟨?_, by rw [e]⟩
    rw [ho, hk, hh]
    exact ofTo_step rfl h0 h1 rfl
end
theorem doc_same {l : List (List Int)} {m : List (List Bool)} {c k : Int} {least : List Int} (hl : least = ints (reps (docKey l) c.toNat)) (hm : m = l.map members) (h0 : 0 ≤ c) (h1 : c < 256) (hk : 0 ≤ k) (hk1 : k < (least.length : Int)) (ha : apartOf m (at_ least k) c = false) : docKey l (at_ (reps (docKey l) c.toNat) k) = docKey l c.toNat := by
  have hb := doc_bound hl (by omega) hk hk1
  rw [hm, doc_apart l hb.1 hb.2 h0 h1] at ha
  have e : at_ least k = ((at_ (reps (docKey l) c.toNat) k : Nat) : Int) := by
    rw [hl] at hk1 ⊢
    rw [ints_len] at hk1
    exact ints_at _ hk hk1
  rw [e, Int.toNat_natCast] at ha
  simpa using ha
theorem doc_diff {l : List (List Int)} {m : List (List Bool)} {c k : Int} {least : List Int} (hl : least = ints (reps (docKey l) c.toNat)) (hm : m = l.map members) (h0 : 0 ≤ c) (h1 : c < 256) (hk : 0 ≤ k) (hk1 : k < (least.length : Int)) (ha : apartOf m (at_ least k) c = true) : docKey l (at_ (reps (docKey l) c.toNat) k) ≠ docKey l c.toNat := by
  have hb := doc_bound hl (by omega) hk hk1
  rw [hm, doc_apart l hb.1 hb.2 h0 h1] at ha
  have e : at_ least k = ((at_ (reps (docKey l) c.toNat) k : Nat) : Int) := by
    rw [hl] at hk1 ⊢
    rw [ints_len] at hk1
    exact ints_at _ hk hk1
  rw [e, Int.toNat_natCast] at ha
  simpa using ha
theorem next_of {κ : Type} [DecidableEq κ] (key : Nat → κ) : ∀ t, nextOf ((List.range t).map fun c => ((idx key c : Nat) : Int)) = some ((reps key t).length : Int)
  | 0 => rfl
  | t + 1 => by
    rw [List.range_succ, List.map_append, List.map_cons, List.map_nil, next_app, next_of key t]
    simp only []
    rw [reps_succ]
    cases hf : fo key t t with
    | none =>
      have hr : isRep key t = true := by rw [isRep_iff, hf]; rfl
      have e : idx key t = (reps key t).length := by unfold idx; rw [hf]; rfl
      rw [e, hr, if_neg (by omega), if_pos rfl]; simp
    | some j =>
      have hj := fo_some hf
      have hr : isRep key t = false := by rw [isRep_iff, hf]; rfl
      have hrj : isRep key j = true := by
        have := fst_rep key t
        unfold fst_ at this
        rw [hf] at this; exact this
      have e : idx key t = (reps key j).length := by unfold idx; rw [hf]; rfl
      have := reps_lt hrj hj.1
      rw [e, hr, if_neg (by omega), if_neg (by omega)]; simp
theorem right_of {κ : Type} [DecidableEq κ] (key : Nat → κ) : rightP (partOf key) = true := by
  unfold rightP
  have : nextOf (partOf key).of = some ((reps key 256).length : Int) := next_of key 256
  rw [this]
  simp only [partOf]; simp
theorem doc_ref (l : List BSet) : partOf (docKey (l.map words)) = refineP l := by
  unfold refineP
  refine partOf_congr fun i j hi hj => ?_
  have e : ∀ c, c < 256 → docKey (l.map words) c = refKey l c := fun c hc => by
    unfold docKey refKey
    rw [List.map_map]
    apply List.map_congr_left
    intro s _
    exact bit_words s hc
  rw [e i hi, e j hj]
end Gx
