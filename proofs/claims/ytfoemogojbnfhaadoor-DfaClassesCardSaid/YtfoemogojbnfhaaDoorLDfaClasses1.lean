/- My own library for walks through the translated code, and the walks of the functions that the law DfaClasses comes to, part 2; no conditions but those that each contract tells. -/
import Derived.Test.YtfoemogojbnfhaaDoorProg
import Derived.KernelRfl
import Derived.Laws.BytesArg
import Derived.Laws.IdiomStrings
import Derived.Laws.Pointers
import Derived.Test.YtfoemogojbnfhaaDoorLDfaClasses0
namespace Gx
open Go Go.RowKit
set_option linter.unusedSimpArgs false
set_option linter.unusedSectionVars false
set_option linter.unusedVariables false
section
variable {κ : Type} [DecidableEq κ]
def isRep (key : Nat → κ) (c : Nat) : Bool := (List.range c).all fun j => decide (key j ≠ key c)
def reps (key : Nat → κ) (t : Nat) : List Nat := (List.range t).filter (isRep key)
def fo (key : Nat → κ) (t c : Nat) : Option Nat := (List.range t).find? fun j => decide (key j = key c)
def idx (key : Nat → κ) (c : Nat) : Nat := (reps key ((fo key c c).getD c)).length
def partOf (key : Nat → κ) : PartM := ⟨(List.range 256).map fun c => ((idx key c : Nat) : Int), ((reps key 256).length : Nat)⟩
theorem reps_succ (key : Nat → κ) (t : Nat) : reps key (t + 1) = reps key t ++ (if isRep key t then [t] else []) := by
  unfold reps
  rw [List.range_succ, List.filter_append]
  congr 1
  simp [List.filter_cons]
theorem reps_le (key : Nat → κ) (t : Nat) : (reps key t).length ≤ t := by
  have := List.length_filter_le (isRep key) (List.range t)
  simpa [reps] using this
theorem fo_some {key : Nat → κ} {t c j : Nat} (h : fo key t c = some j) : j < t ∧ key j = key c := by
  unfold fo at h
  have h1 := List.mem_of_find?_eq_some h
  have h2 := List.find?_some h
  exact ⟨by simpa using h1, by simpa using h2⟩
theorem fo_none {key : Nat → κ} {t c : Nat} (h : fo key t c = none) : ∀ j, j < t → key j ≠ key c := by
  unfold fo at h
  intro j hj
  have := List.find?_eq_none.1 h j (by simpa using hj)
  simpa using this
theorem fo_succ (key : Nat → κ) (t c : Nat) : fo key (t + 1) c = (fo key t c).or (if key t = key c then some t else none) := by
  unfold fo
  rw [List.range_succ, List.find?_append]
  congr 1
  by_cases h : key t = key c <;> simp [h]
theorem isRep_iff (key : Nat → κ) (c : Nat) : isRep key c = (fo key c c).isNone := by
  rw [Bool.eq_iff_iff]
  unfold isRep
  rw [List.all_eq_true]
  constructor
  · intro h
    cases hf : fo key c c with
    | none => rfl
    | some j =>
      obtain ⟨h1, h2⟩ := fo_some hf
      have := h j (by simpa using h1)
      simp [h2] at this
  · intro h j hj
    have := fo_none (Option.isNone_iff_eq_none.1 h) j (by simpa using hj)
    simpa using this
theorem idx_le (key : Nat → κ) (c : Nat) : idx key c ≤ c := by
  unfold idx
  have h := reps_le key ((fo key c c).getD c)
  cases hf : fo key c c with
  | none => rw [hf] at h; simpa using h
  | some j =>
    have := (fo_some hf).1
    rw [hf] at h
    simp at h ⊢
    omega
def kvTo (key : Nat → κ) (t : Nat) : List (κ × Int) := (reps key t).map fun r => (key r, ((reps key r).length : Int))
theorem lookAt_app {β : Type} (k : κ) (b : List (κ × β)) : ∀ (a : List (κ × β)) (i : Nat), zct k (a ++ b) i = (zct k a i).or (zct k b (i + a.length))
  | [], i => by simp [zct]
  | p :: a, i => by
    simp only [List.cons_append, zct]
    by_cases h : k = p.1
    · simp [h]
    · rw [if_neg h, if_neg h, lookAt_app k b a (i + 1)]
      congr 2
      simp; omega
theorem valAt_app {β : Type} (k : κ) (a b : List (κ × β)) : zbn k (a ++ b) = (zbn k a).or (zbn k b) := by
  have sh : ∀ (l : List (κ × β)) (i j : Nat), (zct k l i).map (·.2) = (zct k l j).map (·.2) := by
    intro l
    induction l with
    | nil => intro i j; rfl
    | cons p r ih =>
      intro i j
      simp only [zct]
      by_cases h : k = p.1
      · simp [h]
      · rw [if_neg h, if_neg h]; exact ih _ _
  unfold zbn
  rw [lookAt_app]
  cases hl : zct k a 0 with
  | none => simp; exact sh b _ _
  | some p => simp
theorem val_kvTo (key : Nat → κ) (c : Nat) : ∀ t, zbn (key c) (kvTo key t) = (fo key t c).map fun j => ((reps key j).length : Int)
  | 0 => rfl
  | t + 1 => by
    unfold kvTo
    rw [reps_succ, List.map_append, valAt_app, fo_succ]
    show (zbn (key c) (kvTo key t)).or _ = _
    rw [val_kvTo key c t]
    cases hf : fo key t c with
    | some j => simp
    | none =>
      simp only [Option.map_none, Option.none_or]
      by_cases hk : key t = key c
      · have hr : isRep key t = true := by
          rw [isRep_iff]
          cases ht : fo key t t with
          | none => rfl
          | some j => exact absurd ((fo_some ht).2.trans hk) (fo_none hf j (fo_some ht).1)
        rw [hr, if_pos hk]
        simp [zbn, zct, hk]
      · rw [if_neg hk]
        cases isRep key t with
        | false => simp [zbn, zct]
        | true => simp [zbn, zct]; exact fun e => hk e.symm
theorem kvTo_old {key : Nat → κ} {c : Nat} {v : Int} (h : zbn (key c) (kvTo key c) = some v) : v = (idx key c : Nat) ∧ kvTo key (c + 1) = kvTo key c ∧ (reps key (c + 1)).length = (reps key c).length := by
  rw [val_kvTo] at h
  cases hf : fo key c c with
  | none => rw [hf] at h; cases h
  | some j =>
    rw [hf] at h
    simp at h
    have hr : isRep key c = false := by rw [isRep_iff, hf]; rfl
    have e : reps key (c + 1) = reps key c := by rw [reps_succ, hr]; simp
    refine ⟨?_, by unfold kvTo; rw [e], by rw [e]⟩
    unfold idx
    rw [hf]; simp; omega
theorem kvTo_new {key : Nat → κ} {c : Nat} (h : zbn (key c) (kvTo key c) = none) : ((reps key c).length : Int) = (idx key c : Nat) ∧ kvTo key (c + 1) = putAt (key c) ((reps key c).length : Int) (kvTo key c) ∧ (reps key (c + 1)).length = (reps key c).length + 1 := by
  have hl : zct (key c) (kvTo key c) 0 = none := by
    unfold zbn at h
    exact Option.map_eq_none_iff.1 h
  rw [val_kvTo, Option.map_eq_none_iff] at h
  have hr : isRep key c = true := by rw [isRep_iff, h]; rfl
  have e : reps key (c + 1) = reps key c ++ [c] := by rw [reps_succ, hr]; simp
  refine ⟨?_, ?_, by rw [e]; simp⟩
  · unfold idx; rw [h]; rfl
  · unfold putAt; rw [hl]
    unfold kvTo; rw [e]; simp
theorem fo_min {key : Nat → κ} {c j : Nat} : ∀ {t : Nat}, fo key t c = some j → ∀ i, i < j → key i ≠ key c
  | 0, h, _, _ => by simp [fo] at h
  | t + 1, h, i, hi => by
    rw [fo_succ] at h
    cases hf : fo key t c with
    | some q =>
      rw [hf] at h; simp at h; subst h
      exact fo_min hf i hi
    | none =>
      rw [hf] at h
      by_cases hk : key t = key c
      · rw [if_pos hk] at h; simp at h; subst h
        exact fo_none hf i hi
      · rw [if_neg hk] at h; simp at h
def fst_ (key : Nat → κ) (c : Nat) : Nat := (fo key c c).getD c
theorem fst_key (key : Nat → κ) (c : Nat) : key (fst_ key c) = key c := by
  unfold fst_
  cases h : fo key c c with
  | none => rfl
  | some j => exact (fo_some h).2
theorem fst_min (key : Nat → κ) (c : Nat) : ∀ i, i < fst_ key c → key i ≠ key c := by
  unfold fst_
  cases h : fo key c c with
  | none => exact fo_none h
  | some j => exact fo_min h
theorem fst_eq {key : Nat → κ} {c d : Nat} (h : key c = key d) : fst_ key c = fst_ key d := by
  rcases Nat.lt_trichotomy (fst_ key c) (fst_ key d) with hl | he | hl
  · exact absurd ((fst_key key c).trans h) (fst_min key d _ hl)
  · exact he
  · exact absurd ((fst_key key d).trans h.symm) (fst_min key c _ hl)
theorem fst_rep (key : Nat → κ) (c : Nat) : isRep key (fst_ key c) = true := by
  unfold isRep
  rw [List.all_eq_true]
  intro j hj
  have hj' : j < fst_ key c := by simpa using hj
  have := fst_min key c j hj'
  rw [fst_key key c]
  simpa using this
theorem reps_mono (key : Nat → κ) (a : Nat) : ∀ b, a ≤ b → (reps key a).length ≤ (reps key b).length
  | 0, h => by have : a = 0 := by omega
               subst this; exact Nat.le_refl _
  | b + 1, h => by
    rcases Nat.lt_or_ge a (b + 1) with h1 | h1
    · have := reps_mono key a b (by omega)
      rw [reps_succ, List.length_append]; omega
    · have : a = b + 1 := by omega
      rw [this]; exact Nat.le_refl _
theorem reps_lt {key : Nat → κ} {a b : Nat} (hr : isRep key a = true) (h : a < b) : (reps key a).length < (reps key b).length := by
  have h1 := reps_mono key (a + 1) b h
  rw [reps_succ, hr] at h1
  simp at h1; omega
theorem idx_inj {key : Nat → κ} {c d : Nat} : idx key c = idx key d ↔ key c = key d := by
  constructor
  · intro h
    have h1 : (reps key (fst_ key c)).length = (reps key (fst_ key d)).length := h
    have e : fst_ key c = fst_ key d := by
      rcases Nat.lt_trichotomy (fst_ key c) (fst_ key d) with hl | he | hl
      · have := reps_lt (fst_rep key c) hl; omega
      · exact he
      · have := reps_lt (fst_rep key d) hl; omega
    rw [← fst_key key c, ← fst_key key d, e]
  · intro h
    show (reps key (fst_ key c)).length = (reps key (fst_ key d)).length
    rw [fst_eq h]
def ofTo (key : Nat → κ) (t : Int) : List Int := (List.range 256).map fun (c : Nat) => if ((c : Nat) : Int) < t then ((idx key c : Nat) : Int) else 0
theorem ofTo_0 (key : Nat → κ) : List.replicate 256 (0 : Int) = ofTo key 0 := by
  unfold ofTo
  refine (List.eq_replicate_iff.2 ⟨by simp, ?_⟩).symm
  intro b hb
  obtain ⟨i, _, rfl⟩ := List.mem_map.1 hb
  rw [if_neg (by omega)]
theorem ofTo_step {key : Nat → κ} {t v : Int} {l : List Int} (hl : l = ofTo key t) (h0 : 0 ≤ t) (h1 : t < 256) (hv : v = (idx key t.toNat : Nat)) : l.set t.toNat v = ofTo key (t + 1) := by
  subst hl
  have hl : ∀ t, (ofTo key t).length = 256 := fun t => by simp [ofTo]
  refine list_ext (n := 256) (by rw [List.length_set]; exact hl t) (hl _) fun k hk hk1 => ?_
  rw [at_set h0 (by rw [hl]; omega) hk]
  unfold ofTo
  rw [zd1 _ _ hk hk1, zd1 _ _ hk hk1, show ((k.toNat : Nat) : Int) = k by omega]
  by_cases h : k = t
  · rw [if_pos h, hv, h, if_pos (by omega)]
  · rw [if_neg h]
    by_cases h2 : k < t
    · rw [if_pos h2, if_pos (by omega)]
    · rw [if_neg h2, if_neg (by omega)]
theorem ofTo_end (key : Nat → κ) {t : Int} (ht : t = 256) : ofTo key t = (partOf key).of := by
  unfold ofTo partOf
  show List.map _ _ = List.map _ _
  apply List.map_congr_left
  intro c hc
  have : c < 256 := by simpa using hc
  rw [if_pos (by omega)]
theorem part_at (key : Nat → κ) {c : Int} (h0 : 0 ≤ c) (h1 : c < 256) : at_ (partOf key).of c = (idx key c.toNat : Nat) := by
  unfold partOf
  exact zd1 _ _ h0 h1
theorem okPart_of (key : Nat → κ) : zbx (partOf key) := by
  refine ⟨⟨by simp [partOf], fun x hx => ?_⟩, ?_⟩
  · unfold partOf at hx
    obtain ⟨c, hc, rfl⟩ := List.mem_map.1 hx
    have := idx_le key c
    have : c < 256 := by simpa using hc
    exact in_u8 (by omega) (by omega)
  · have := reps_le key 256
    exact zal (by show _ ≤ (((reps key 256).length : Nat) : Int); omega) (by show (((reps key 256).length : Nat) : Int) ≤ _; omega)
end
section
variable {κ μ : Type} [DecidableEq κ] [DecidableEq μ]
theorem reps_congr {key : Nat → κ} {key' : Nat → μ} {n : Nat} (h : ∀ i j, i < n → j < n → (key i = key j ↔ key' i = key' j)) : ∀ t, t ≤ n → reps key t = reps key' t := by
  intro t ht
  unfold reps
  apply List.filter_congr
  intro c hc
  have hc' : c < t := by simpa using hc
  unfold isRep
  rw [Bool.eq_iff_iff, List.all_eq_true, List.all_eq_true]
  constructor
  · intro hh j hj
    have hjc : j < c := by simpa using hj
    have := hh j hj
    simp only [decide_eq_true_eq, ne_eq] at this ⊢
    rwa [← h j c (by omega) (by omega)]
  · intro hh j hj
    have hjc : j < c := by simpa using hj
    have := hh j hj
    simp only [decide_eq_true_eq, ne_eq] at this ⊢
    rwa [h j c (by omega) (by omega)]
theorem fo_congr {key : Nat → κ} {key' : Nat → μ} {n : Nat} (h : ∀ i j, i < n → j < n → (key i = key j ↔ key' i = key' j)) {t c : Nat} (ht : t ≤ n) (hc : c < n) : fo key t c = fo key' t c := by
  unfold fo
  have : ∀ l : List Nat, (∀ j ∈ l, j < n) → l.find? (fun j => decide (key j = key c)) = l.find? (fun j => decide (key' j = key' c)) := by
    intro l
    induction l with
    | nil => intro _; rfl
    | cons j l ih =>
      intro hl
      have e : decide (key j = key c) = decide (key' j = key' c) := decide_eq_decide.2 (h j c (hl j (by simp)) hc)
      simp only [List.find?_cons, e]
      rw [ih fun i hi => hl i (by simp [hi])]
  exact this _ fun j hj => by have : j < t := by simpa using hj
                              omega
theorem idx_congr {key : Nat → κ} {key' : Nat → μ} {n : Nat} (h : ∀ i j, i < n → j < n → (key i = key j ↔ key' i = key' j)) {c : Nat} (hc : c < n) : idx key c = idx key' c := by
  unfold idx
  rw [fo_congr h (Nat.le_of_lt hc) hc, reps_congr h]
  cases hf : fo key' c c with
  | none => simp; omega
  | some j => have := (fo_some hf).1; simp; omega
theorem partOf_congr {key : Nat → κ} {key' : Nat → μ} (h : ∀ i j, i < 256 → j < 256 → (key i = key j ↔ key' i = key' j)) : partOf key = partOf key' := by
  unfold partOf
  rw [reps_congr h 256 (Nat.le_refl _)]
  congr 1
  apply List.map_congr_left
  intro c hc
  rw [idx_congr h (by simpa using hc)]
end
def zdd (k : Int × Bool) : List Value := [.int .u8 k.1, .bool k.2]
theorem encSide_one (k : Int × Bool) : ∀ u ∈ zdd k, u.oneCell' = true := by simp [zdd, Value.oneCell']
def sideOf (p : PartM) (s : BSet) (c : Nat) : Int × Bool := (at_ p.of ((c : Nat) : Int), has s ((c : Nat) : Int))
def splitP (p : PartM) (s : BSet) : PartM := partOf (sideOf p s)
theorem side_at (p : PartM) (s : BSet) {t : Int} (h0 : 0 ≤ t) : sideOf p s t.toNat = (at_ p.of t, has s t) := by
  unfold sideOf
  rw [show ((t.toNat : Nat) : Int) = t by omega]
theorem split_end (p : PartM) (s : BSet) {t : Int} {o : PartM} (ht : t = 256) (h1 : o.of = ofTo (sideOf p s) t) (h2 : o.n = ((reps (sideOf p s) t.toNat).length : Int)) : splitP p s = o := by
  unfold splitP
  have e1 := ofTo_end (sideOf p s) ht
  obtain ⟨oof, on⟩ := o
  simp only at h1 h2
  rw [h1, e1, h2, ht]; rfl
def refKey (l : List BSet) (c : Nat) : List Bool := l.map fun s => s.getLsbD c
def zcu (l : List BSet) : PartM := partOf (refKey l)
theorem refine_0 (l : List BSet) : (⟨List.replicate 256 0, 1⟩ : PartM) = zcu (l.take 0) := by
  unfold zcu
  rw [partOf_congr (key' := fun _ => ()) (fun i j _ _ => by simp [refKey])]
  decide +kernel
theorem refine_step (l : List BSet) {t : Int} (h0 : 0 ≤ t) (h1 : t < (l.length : Int)) {p : PartM} (hp : p = zcu (l.take t.toNat)) : splitP p (at_ l t) = zcu (l.take (t + 1).toNat) := by
  subst hp
  unfold splitP
  rw [zdf l h0 h1]
  unfold zcu
  refine partOf_congr fun i j hi hj => ?_
  unfold sideOf
  rw [part_at _ (by omega) (by omega), part_at _ (by omega) (by omega)]
  simp only [Int.toNat_natCast, Prod.mk.injEq, has]
  constructor
  · rintro ⟨h1, h2⟩
    have h3 : idx (refKey (l.take t.toNat)) i = idx (refKey (l.take t.toNat)) j := by omega
    rw [idx_inj] at h3
    unfold refKey at h3 ⊢
    simp only [List.map_append, List.map_cons, List.map_nil, h3, h2]
  · intro h
    unfold refKey at h
    simp only [List.map_append, List.map_cons, List.map_nil] at h
    have hh := List.append_inj' h rfl
    refine ⟨?_, by simpa using hh.2⟩
    have : idx (refKey (l.take t.toNat)) i = idx (refKey (l.take t.toNat)) j := idx_inj.2 hh.1
    omega
theorem refine_end (l : List BSet) {t : Int} (h : (l.length : Int) ≤ t) {p : PartM} (hp : p = zcu (l.take t.toNat)) : zcu l = p := by
  rw [hp, List.take_of_length_le (by omega)]
def nextOf (l : List Int) : Option Int := l.foldl (fun o n => match o with
  | none => none
  | some x => if n > x then none else if n = x then some (x + 1) else some x) (some 0)
def zc8 (p : PartM) : Bool := match nextOf p.of with
  | none => false
  | some x => decide (x = p.n)
theorem next_app (l : List Int) (n : Int) : nextOf (l ++ [n]) = match nextOf l with
  | none => none
  | some x => if n > x then none else if n = x then some (x + 1) else some x := by
  unfold nextOf; rw [List.foldl_append]; rfl
theorem next_none (l r : List Int) (h : nextOf l = none) : nextOf (l ++ r) = none := by
  unfold nextOf at *
  rw [List.foldl_append, h]
  induction r with
  | nil => rfl
  | cons a r ih => exact ih
theorem right_no (p : PartM) {t x : Int} (h0 : 0 ≤ t) (h1 : t < (p.of.length : Int)) (h : nextOf (p.of.take t.toNat) = some x) (hx : x < at_ p.of t) : zc8 p = false := by
  unfold zc8
  have e : nextOf (p.of.take (t + 1).toNat) = none := by
    rw [zdf p.of h0 h1, next_app, h]
    simp only []
    rw [if_pos (by omega)]
  have : nextOf p.of = none := by
    have := next_none _ (p.of.drop (t + 1).toNat) e
    rwa [List.take_append_drop] at this
  rw [this]
theorem right_yes (p : PartM) {t x : Int} (h1 : (p.of.length : Int) ≤ t) (h : nextOf (p.of.take t.toNat) = some x) : zc8 p = decide (x = p.n) := by
  rw [List.take_of_length_le (by omega)] at h
  unfold zc8
  rw [h]
def many (p : PartM) : Nat := (min (max p.n 0) 256).toNat
def setsTo (p : PartM) (t : Int) : List BSet := (List.range (many p)).map fun (k : Nat) => ofPred fun c => decide (((c : Nat) : Int) < t ∧ at_ p.of ((c : Nat) : Int) = ((k : Nat) : Int))
def zb4 (p : PartM) : List BSet := (List.range (many p)).map fun (k : Nat) => ofPred fun c => decide (at_ p.of ((c : Nat) : Int) = ((k : Nat) : Int))
theorem setsTo_len (p : PartM) (t : Int) : ((setsTo p t).length : Int) = min (max p.n 0) 256 := by
  unfold setsTo many
  simp; omega
theorem setsTo_0 (p : PartM) : List.replicate (min (max p.n 0) 256).toNat (0 : BSet) = setsTo p 0 := by
  unfold setsTo
  refine (List.eq_replicate_iff.2 ⟨by simp [many], ?_⟩).symm
  intro b hb
  obtain ⟨k, _, rfl⟩ := List.mem_map.1 hb
  refine set_ext fun i hi => ?_
  rw [zdw _ hi, decide_eq_false (by omega)]; simp
theorem setsTo_end (p : PartM) : zb4 p = setsTo p 256 := by
  unfold setsTo zb4
  apply List.map_congr_left
  intro k hk
  refine ofPred_congr fun c hc => ?_
  exact decide_eq_decide.2 ⟨fun h => ⟨by omega, h⟩, fun h => h.2⟩
theorem setsTo_in (p : PartM) {t : Int} (h0 : 0 ≤ t) (h1 : t < 256) (hv0 : 0 ≤ at_ p.of t) (hv : at_ p.of t < min (max p.n 0) 256) : (setsTo p t).set (at_ p.of t).toNat (at_ (setsTo p t) (at_ p.of t) ||| zbd [t]) = setsTo p (t + 1) := by
  have hl := setsTo_len p
  refine list_ext (n := many p) (by rw [List.length_set]; simp [setsTo]) (by simp [setsTo]) fun k hk hk1 => ?_
  have hm : ((many p : Nat) : Int) = min (max p.n 0) 256 := by unfold many; omega
  rw [at_set hv0 (by rw [hl]; exact hv) hk]
  unfold setsTo
  rw [zd1 _ _ hv0 (by omega), zd1 _ _ hk hk1, zd1 _ _ hk hk1]
  by_cases h : k = at_ p.of t
  · rw [if_pos h, ← h]
    refine set_ext fun i hi => ?_
    unfold zbd
    rw [BitVec.getLsbD_or, zdw _ hi, zdw _ hi, zdw _ hi, Bool.eq_iff_iff]
    simp only [Bool.or_eq_true, decide_eq_true_eq, List.mem_singleton]
    constructor
    · rintro (⟨h2, h3⟩ | h2)
      · exact ⟨by omega, h3⟩
      · rw [h2]; exact ⟨by omega, by omega⟩
    · rintro ⟨h2, h3⟩
      by_cases h4 : ((i : Nat) : Int) = t
      · exact .inr h4
      · exact .inl ⟨by omega, h3⟩
  · rw [if_neg h]
    refine ofPred_congr fun c hc => decide_eq_decide.2 ?_
    constructor
    · rintro ⟨h2, h3⟩; exact ⟨by omega, h3⟩
    · rintro ⟨h2, h3⟩
      refine ⟨?_, h3⟩
      by_cases h4 : ((c : Nat) : Int) = t
      · rw [h4] at h3; omega
      · omega
theorem setsTo_out (p : PartM) {t : Int} (h0 : 0 ≤ t) (h1 : t < 256) (hv : ¬ at_ p.of t < min (max p.n 0) 256) : setsTo p t = setsTo p (t + 1) := by
  unfold setsTo
  apply List.map_congr_left
  intro k hk
  have hk1 : k < many p := by simpa using hk
  have hm : ((many p : Nat) : Int) = min (max p.n 0) 256 := by unfold many; omega
  refine ofPred_congr fun c hc => decide_eq_decide.2 ?_
  constructor
  · rintro ⟨h2, h3⟩; exact ⟨by omega, h3⟩
  · rintro ⟨h2, h3⟩
    refine ⟨?_, h3⟩
    by_cases h4 : ((c : Nat) : Int) = t
    · rw [h4] at h3; omega
    · omega
def leastOf (k : Int) (s : BSet) : List Int := (zbj s).take (min (max k 0) ((zbj s).length : Int)).toNat
def zb1 (p : PartM) (k : Int) : List (List Int) := (zb4 p).map (leastOf k)
def leastTo (p : PartM) (k t : Int) : List (List Int) := ((zb4 p).take t.toNat).map (leastOf k)
theorem setsP_len (p : PartM) : ((zb4 p).length : Int) = min (max p.n 0) 256 := by
  unfold zb4 many
  simp; omega
theorem leastTo_len (p : PartM) (k t : Int) : ((leastTo p k t).length : Int) ≤ 256 := by
  unfold leastTo
  have := setsP_len p
  simp; omega
theorem leastTo_step (p : PartM) (k : Int) {t : Int} (h0 : 0 ≤ t) (h1 : t < ((zb4 p).length : Int)) : leastTo p k t ++ [(zbj (at_ (zb4 p) t)).take (min (max k 0) ((zbj (at_ (zb4 p) t)).length : Int)).toNat] = leastTo p k (t + 1) := by
  unfold leastTo
  rw [zdf _ h0 h1, List.map_append]; rfl
theorem leastTo_end (p : PartM) (k : Int) {t : Int} (h : ((zb4 p).length : Int) ≤ t) : zb1 p k = leastTo p k t := by
  unfold leastTo zb1
  rw [List.take_of_length_le (by omega)]
theorem least_small (s : BSet) (n : Nat) : ((zbj s).take n).length ≤ 1000000 := by
  have := list_len s
  have := count_le s
  rw [List.length_take]; omega
def cuts (x s : BSet) : Bool := decide (x &&& s ≠ x) && decide (x &&& s ≠ 0)
def zd7 (f : BSet → Bool) : List BSet → Int → Int
  | [], _ => -1
  | x :: r, i => if f x then i else zd7 f r (i + 1)
def place (f : BSet → Bool) (l : List BSet) : Int := zd7 f l 0
def zdr (p : PartM) (s : BSet) : Bool := (zb4 p).any fun x => cuts x s
theorem placeFrom_any (f : BSet → Bool) : ∀ (l : List BSet) (i : Int), 0 ≤ i → decide (0 ≤ zd7 f l i) = l.any f ∧ (zd7 f l i = -1 ∨ (i ≤ zd7 f l i ∧ zd7 f l i < i + l.length))
  | [], i, _ => ⟨rfl, .inl rfl⟩
  | x :: r, i, h => by
    unfold zd7
    cases hx : f x with
    | true => simp [hx]; omega
    | false =>
      obtain ⟨h1, h2⟩ := placeFrom_any f r (i + 1) (by omega)
      simp only [Bool.false_eq_true, if_false, List.any_cons, hx, Bool.false_or, h1, true_and, List.length_cons]
      omega
theorem place_any (f : BSet → Bool) (l : List BSet) : decide (0 ≤ place f l) = l.any f := (placeFrom_any f l 0 (by omega)).1
theorem placeFrom_drop (f : BSet → Bool) (l : List BSet) {t : Int} (h0 : 0 ≤ t) (h1 : t < (l.length : Int)) : zd7 f (l.drop t.toNat) t = if f (at_ l t) then t else zd7 f (l.drop (t + 1).toNat) (t + 1) := by
  have e : l.drop t.toNat = at_ l t :: l.drop (t + 1).toNat := by
    rw [show (t + 1).toNat = t.toNat + 1 by omega]
    have h2 := zda h0 h1
    obtain ⟨hl, e⟩ := List.getElem?_eq_some_iff.1 h2
    rw [List.drop_eq_getElem_cons hl, e]
  rw [e]; rfl
section
variable {κ : Type} [DecidableEq κ]
end
section
variable {κ : Type} [DecidableEq κ]
end
theorem next_of {κ : Type} [DecidableEq κ] (key : Nat → κ) : ∀ t, nextOf ((List.range t).map fun c => ((idx key c : Nat) : Int)) = some ((reps key t).length : Int)
  | 0 => rfl
  | t + 1 => by
    rw [List.range_succ, List.map_append, List.map_cons, List.map_nil, next_app, next_of key t]
    simp only []
    rw [reps_succ]
    cases hf : fo key t t with
    | none =>
      have hr : isRep key t = true := by rw [isRep_iff, hf]; rfl
      have e : idx key t = (reps key t).length := by unfold idx; rw [hf]; rfl
      rw [e, hr, if_neg (by omega), if_pos rfl]; simp
    | some j =>
      have hj := fo_some hf
      have hr : isRep key t = false := by rw [isRep_iff, hf]; rfl
      have hrj : isRep key j = true := by
        have := fst_rep key t
        unfold fst_ at this
        rw [hf] at this; exact this
      have e : idx key t = (reps key j).length := by unfold idx; rw [hf]; rfl
      have := reps_lt hrj hj.1
      rw [e, hr, if_neg (by omega), if_neg (by omega)]; simp
theorem right_of {κ : Type} [DecidableEq κ] (key : Nat → κ) : zc8 (partOf key) = true := by
  unfold zc8
  have : nextOf (partOf key).of = some ((reps key 256).length : Int) := next_of key 256
  rw [this]
  simp only [partOf]; simp
end Gx
namespace Gx
open Go Go.RowKit
set_option linter.unusedSimpArgs false
set_option linter.unusedSectionVars false
set_option linter.unusedVariables false
theorem at_map {α β : Type} [Inhabited α] [Inhabited β] (f : α → β) (l : List α) {i : Int} (h0 : 0 ≤ i) (h1 : i < (l.length : Int)) : at_ (l.map f) i = f (at_ l i) := by
  have h2 := zda h0 h1
  have h3 : (l.map f)[i.toNat]? = some (at_ (l.map f) i) := zda h0 (by simpa using h1)
  rw [List.getElem?_map, h2] at h3
  simpa using h3.symm
def anyTo (p : Nat → Bool) (c : Int) : Bool := (List.range c.toNat).any p
theorem anyTo_step (p : Nat → Bool) {c : Int} (h : 0 ≤ c) : anyTo p (c + 1) = (anyTo p c || p c.toNat) := by
  unfold anyTo
  rw [show (c + 1).toNat = c.toNat + 1 by omega, List.range_succ, List.any_append]; simp
theorem anyTo_iff (p : Nat → Bool) (c : Int) : anyTo p c = true ↔ ∃ d : Nat, ((d : Nat) : Int) < c ∧ p d = true := by
  unfold anyTo
  rw [List.any_eq_true]
  constructor
  · rintro ⟨d, h1, h2⟩; exact ⟨d, by have := List.mem_range.1 h1; omega, h2⟩
  · rintro ⟨d, h1, h2⟩; exact ⟨d, List.mem_range.2 (by omega), h2⟩
section
variable {κ : Type} [DecidableEq κ] (key : Nat → κ)
end
section
variable {κ : Type} [DecidableEq κ] (key : Nat → κ)
theorem cuts_iff (x s : BSet) : cuts x s = false ↔ (∀ i, i < 256 → x.getLsbD i = true → s.getLsbD i = true) ∨ (∀ i, i < 256 → x.getLsbD i = true → s.getLsbD i = false) := by
  unfold cuts
  rw [Bool.and_eq_false_iff, decide_eq_false_iff_not, decide_eq_false_iff_not, Decidable.not_not, Decidable.not_not]
  constructor
  · rintro (h | h)
    · left; intro i hi hx
      have := congrArg (fun z : BSet => z.getLsbD i) h
      simp [hx] at this; exact this
    · right; intro i hi hx
      have := congrArg (fun z : BSet => z.getLsbD i) h
      simpa [hx] using this
  · rintro (h | h)
    · left; refine set_ext fun i hi => ?_
      have := h i hi
      rw [BitVec.getLsbD_and]
      cases hx : x.getLsbD i <;> simp_all
    · right; refine set_ext fun i hi => ?_
      have := h i hi
      rw [BitVec.getLsbD_and]
      cases hx : x.getLsbD i <;> simp_all
end
theorem zee {α : Type} [Inhabited α] {l : List α} {i : Int} (h0 : 0 ≤ i) (h1 : i < (l.length : Int)) : at_ l i ∈ l := List.mem_of_getElem? (zda h0 h1)
end Gx
namespace Go.Proofs.YtfoemogojbnfhaaDoor
open Go Go.RowKit Gx
set_option linter.unusedSimpArgs false
theorem side_fields : (Tryd.prog.fieldsOf 213).toList = [⟨"class", 5, 0, false, "", "shibboleth/classes", 0⟩, ⟨"in", 4, 1, false, "", "shibboleth/classes", 1⟩] := by kernel_rfl
theorem side_under : Tryd.prog.underlying 213 = some (.struct #[⟨"class", 5, 0, false, "", "shibboleth/classes", 0⟩, ⟨"in", 4, 1, false, "", "shibboleth/classes", 1⟩]) := by kernel_rfl
theorem side_under2 : Tryd.prog.underlying 213 = some (.struct (Tryd.prog.fieldsOf 213)) := by kernel_rfl
theorem key213 : KeyK Tryd.prog 213 (fun x : (Int × Bool) => Value.agg (zdd x).toArray) where
  eq := fun a b w => by
    have h5 : Tryd.prog.underlying 5 = some (.int .u8) := by kernel_rfl
    have h4 : Tryd.prog.underlying 4 = some .bool := by kernel_rfl
    have hp : Tryd.prog.stoodInHeld 213 = false := by kernel_rfl
    have i5 : zbm Tryd.prog 5 = some (1, 1, false, some (.int .u8 0)) := by kernel_rfl
    have i4 : zbm Tryd.prog 4 = some (1, 1, false, some (.bool false)) := by kernel_rfl
    obtain ⟨ii5, d5, hi5, hd5, hs5, _, hg5, _⟩ := zbk i5
    obtain ⟨ii4, d4, hi4, hd4, hs4, _, hg4, _⟩ := zbk i4
    have p5 : ∀ (x : Int × Bool) (w : World), (part 5 (zdd x).toArray 0).run Tryd.prog w = .ok (.int .u8 x.1) w := fun x w => by
      simp only [part, Sem.run_bind, run_isAgg hd5, hg5, Result.andThen_ok, Bool.false_eq_true, if_false]; rfl
    have p4 : ∀ (x : Int × Bool) (w : World), (part 4 (zdd x).toArray 1).run Tryd.prog w = .ok (.bool x.2) w := fun x w => by
      simp only [part, Sem.run_bind, run_isAgg hd4, hg4, Result.andThen_ok, Bool.false_eq_true, if_false]; rfl
    show (Op.equalIn 10000 213 _ _).run _ _ = _
    rw [run_equalIn_agg w 9999 213 _ _ side_under2 hp, side_fields]
    obtain ⟨a1, a2⟩ := a
    obtain ⟨b1, b2⟩ := b
    have e5 := fun (w : World) (x y : Int) => run_equalIn_int w 9998 5 .u8 .u8 x y h5
    have e4 := fun (w : World) (x y : Bool) => run_equalIn_bool' w 9998 4 x y h4
    by_cases h : a1 = b1 <;> by_cases h2 : a2 = b2 <;> simp [Op.eqFields, h, h2, Sem.run_pure, Sem.run_bind, p5, p4, e5, e4]
  chk := fun a e w => by
    have h5 : Tryd.prog.underlying 5 = some (.int .u8) := by kernel_rfl
    have h4 : Tryd.prog.underlying 4 = some .bool := by kernel_rfl
    have i5 : zbm Tryd.prog 5 = some (1, 1, false, some (.int .u8 0)) := by kernel_rfl
    have i4 : zbm Tryd.prog 4 = some (1, 1, false, some (.bool false)) := by kernel_rfl
    obtain ⟨ii5, d5, hi5, hd5, hs5, _, hg5, _⟩ := zbk i5
    obtain ⟨ii4, d4, hi4, hd4, hs4, _, hg4, _⟩ := zbk i4
    have p5 : ∀ (w : World), (part 5 (zdd a).toArray 0).run Tryd.prog w = .ok (.int .u8 a.1) w := fun w => by
      simp only [part, Sem.run_bind, run_isAgg hd5, hg5, Result.andThen_ok, Bool.false_eq_true, if_false]; rfl
    have p4 : ∀ (w : World), (part 4 (zdd a).toArray 1).run Tryd.prog w = .ok (.bool a.2) w := fun w => by
      simp only [part, Sem.run_bind, run_isAgg hd4, hg4, Result.andThen_ok, Bool.false_eq_true, if_false]; rfl
    have c5 : ∀ (n : Nat) (w : World), (Instr.checkKey e (n + 1) 5 (.int .u8 a.1)).run Tryd.prog w = .ok () w := fun n w => by
      rw [Instr.checkKey]
      simp only [Sem.run_bind, run_underlying h5, Result.andThen_ok]; rfl
    have c4 : ∀ (n : Nat) (w : World), (Instr.checkKey e (n + 1) 4 (.bool a.2)).run Tryd.prog w = .ok () w := fun n w => by
      rw [Instr.checkKey]
      simp only [Sem.run_bind, run_underlying h4, Result.andThen_ok]; rfl
    have main : ∀ n, (Instr.checkKey e (n + 1 + 1) 213 (.agg (zdd a).toArray)).run Tryd.prog w = .ok () w := fun n => by
      rw [Instr.checkKey]
      simp only [Sem.run_bind, run_underlying side_under, Result.andThen_ok]
      simp [Sem.run_bind, Result.andThen_ok, p5, p4, c5, c4, Sem.run_pure]
    exact main 9998
  now := ⟨_, side_under, .inl fun a b => rfl⟩
  same := fun a => by simp [zdd, Instr.sameBits]
end Go.Proofs.YtfoemogojbnfhaaDoor
namespace Go.Proofs.YtfoemogojbnfhaaDoor
open Go Go.RowKit Gx
set_option maxHeartbeats 1000000
set_option linter.unusedVariables false
set_option linter.unusedSimpArgs false
set_option maxRecDepth 8000
attribute [local irreducible] zbj count first someIn has zbd wbits Lib.ctz partOf zcu zb4 zb1 zc8 zdr splitP
theorem split_calls (w : World) (p : PartM) (o0 : zbx p) (s : BSet) :
    Calls Tryd.prog 115 #[.agg (zab p).toArray, .agg (zaf s).toArray] w fun e w' => ∃ v, e = .returned v ∧ ∃ (hn : Ghost), St w.heap.size w hn w' [] ∧ v = .agg (zab (splitP p s)).toArray ∧ zbx (splitP p s) := by
 refine zak Tryd.func115 rfl Tryd.ntmps115 rfl ?_
 have S0 := St.init w
 have ploo0 := zbb o0.2; have phio0 := zbc o0.2
 refine zac <| zae (l := [0, 1, 2]) rfl ?_
 obtain ⟨b1, w1, r1, g1, T1⟩ := zcb (P := Tryd.prog) S0 32 (v := .agg (zab p).toArray) (zab p) rfl
 have S2 := T1
 dsimp only [lAa, lAn, lA0, lAs] at S2
 refine p_v (v := .pointer (some ⟨b1, 0, none⟩)) rfl rfl rfl (zdo rfl r1) ?_
 obtain ⟨b3, w3, r3, g3, T3⟩ := zcb (P := Tryd.prog) S2 74 (v := .agg (zaf s).toArray) (zaf s) rfl
 have S4 := T3
 dsimp only [lAa, lAn, lA0, lAs] at S4
 refine p_v (v := .pointer (some ⟨b3, 0, none⟩)) rfl rfl rfl (zdo rfl r3) ?_
 obtain ⟨b5, w5, r5, g5, T5⟩ := zcb (P := Tryd.prog) S4 32 (v := zv32) (zab zPart) (by kernel_rfl)
 have S6 := T5
 dsimp only [lAa, lAn, lA0, lAs] at S6
 refine p_v (v := .pointer (some ⟨b5, 0, none⟩)) rfl rfl rfl (zch ty32 r5) <| zaa <| zac <| zae (l := [0]) rfl ?_
 obtain ⟨b7, w7, r7, g7, T7⟩ := zcb (P := Tryd.prog) S6 32 (v := zv32) (zab zPart) (by kernel_rfl)
 have S8 := T7
 dsimp only [lAa, lAn, lA0, lAs] at S8
 refine p_v (v := .pointer (some ⟨b7, 0, none⟩)) rfl rfl rfl (zch ty32 r7) <| zaa <| zac <| zae (l := [0, 1]) rfl ?_
 obtain ⟨b9, w9, r9, g9, T9⟩ := e_makeMap (P := Tryd.prog) S8 211 (fun x : (Int × Bool) => Value.agg (zdd x).toArray) (fun x : Int => Value.int .u8 x)
 have S10 := T9
 dsimp only [lAa, lAn, lA0, lAs] at S10
 refine p_v (v := .map (some b9)) rfl rfl rfl (x_makeMap r9) <| p_v (v := .map (some b9)) rfl rfl rfl (zag rfl) <| zaa <| zac <| zac <| zae (l := [0]) rfl <| p_v (v := .int .i64 0) rfl rfl rfl (zah rfl) <| zaa <| zaq <| zbu (S := PartM × (List ((Int × Bool) × Int)) × Int) (fun (q_ : PartM × (List ((Int × Bool) × Int)) × Int) ρ w' => match q_ with | (out, of, t12) => ∃ (h : Ghost), Le (fun _ => none) h ∧ St w.heap.size w h w' [box b1 32 (zab p), box b3 74 (zaf s), box b5 32 (zab zPart), box b7 32 (zab out), amap (fun x : (Int × Bool) => Value.agg (zdd x).toArray) (fun x : Int => Value.int .u8 x) b9 of] ∧ ρ 2 = .pointer (some ⟨b1, 0, none⟩) ∧ ρ 3 = .pointer (some ⟨b3, 0, none⟩) ∧ ρ 4 = .pointer (some ⟨b5, 0, none⟩) ∧ ρ 5 = .pointer (some ⟨b7, 0, none⟩) ∧ ρ 6 = .map (some b9) ∧ ρ 12 = .int .i64 t12 ∧ zbx out ∧ inK .i64 t12 ∧ (0 ≤ t12 ∧ t12 ≤ 256 ∧ of = kvTo (sideOf p s) t12.toNat ∧ out.of = ofTo (sideOf p s) t12 ∧ out.n = ((reps (sideOf p s) t12.toNat).length : Int))) (fun q_ => match q_ with | (out, of, t12) => (256 - t12).toNat) (zPart, ([] : List ((Int × Bool) × Int)), 0) ⟨(fun _ => none), Le.refl _, S10.sub [0, 1, 2, 3, 4] (by decide) rfl _ rfl, rfl, rfl, rfl, rfl, rfl, rfl, (zay), (zal (by omega) (by omega)), (by exact ⟨by omega, by omega, rfl, ofTo_0 _, rfl⟩)⟩ ?_
 rintro ⟨out, of, t12⟩ ih11 ρ11 w11 ⟨h11, le11, S11, r11_2, r11_3, r11_4, r11_5, r11_6, r11_12, f11_0, f11_1, hI11⟩
 have lf11_1 := zbb f11_1; have hf11_1 := zbc f11_1
 have hb_ := reps_le (sideOf p s) t12.toNat; have hN_ := hI11.2.2.2.2
 refine zac <| zae (l := [0]) rfl <| p_v (v := .bool (decide (t12 < 256))) rfl rfl rfl (zdy r11_12 rfl) <| zaa <| zac ?_
 refine zan (p := t12 < 256) rfl (fun hc12 => ?_) (fun hc12 => ?_)
 ·skip
  refine zau <| zac <| zaq <| zac <| zae (l := [0, 1]) rfl <| p_v (v := .int .i64 t12) rfl rfl rfl (zah r11_12) <| p_v (v := .int .i64 t12) rfl rfl rfl (zag rfl) <| zaa <| zac ?_
  have in13 := zb2 (o0).1 (i := t12) (by omega) (by omega)
  have lo13 := u8_lo in13; have hi13 := u8_hi in13
  have hf15 : (CFs ⟨b1, 0 + t12.toNat * 1, none⟩ [.int .u8 (at_ p.of t12)]).1 w11 := (CF.box (m := 1) (S11.box_at (j := 0) rfl) (cs := (zab p)) (encPart_at o0 (by omega) (by omega)))
  have hf16 : (CFs ⟨b3, 0, none⟩ (zaf s)).1 w11 := (CF.box (m := 4) (S11.box_at (j := 1) rfl) rfl)
  refine daS (hkC 3 hf15 (hkC 4 hf16 (hkN (w := w11)))) 11 rfl mixed ?_
  intro wd17 gd17 hd17
  have S18 := S11.keep gd17
  have hf19 := spUp gd17 hf15
  have hf20 := spUp gd17 hf16
  refine qd0 (i := 0) (v := .int .i64 t12) rfl (by decide +kernel) rfl rfl (zah rfl) (zam rfl) <| qd0 (i := 1) (v := .pointer (some ⟨b1, 0, none⟩)) rfl (by decide +kernel) rfl rfl (zao fd32_0 ty30 rfl r11_2) (zam rfl) <| qd0 (i := 2) (v := .pointer (some ⟨b1, 0 + t12.toNat * 1, none⟩)) rfl (by decide +kernel) rfl rfl (za3 u30 ty5 rfl rfl (by omega) (by omega)) (zam rfl) <| qd1 0 (i := 3) (v := .int .u8 (at_ p.of t12)) rfl rfl (by decide +kernel) rfl rfl (fun wq hq => (zaj (seg := [.int .u8 (at_ p.of t12)]) ty5 rfl (by simp) rfl hq)) (zbz hf19 (zam rfl)) <| qd1 1 (i := 4) (v := .agg (zaf s).toArray) rfl rfl (by decide +kernel) rfl rfl (fun wq hq => (zaj (seg := (zaf s)) ty74 rfl (by simp) r11_3 hq)) (zbw rfl (zbz hf20 (zam rfl))) <| qd0 (i := 5) (v := .int .i64 t12) rfl (by decide +kernel) rfl rfl (zah rfl) (zam rfl) <| qd0 (i := 6) (v := .int .u8 t12) rfl (by decide +kernel) rfl rfl (x_conv u3 u5 rfl (in_u8 (by omega) (by omega))) (zam rfl) <| d_m (i := 7) (v := .bool (has s t12)) (fun _ => True) (fun _ ho => trivial) rfl (by decide +kernel) (by decide +kernel) (by decide +kernel) rfl rfl (fun wq => (za2 (args := [.agg (zaf s).toArray, .int .u8 t12]) ca80 rfl rfl)) (fun wq hq => (has_calls wq s t12 (in_u8 (by omega) (by omega))).mono fun e w2 he => by obtain ⟨_, rfl, _, T, rfl⟩ := he; exact ⟨rfl, Chg.of_below T.below⟩) (zam rfl) <| qd0 (i := 8) (v := .agg (zdd ((at_ p.of t12, has s t12) : Int × Bool)).toArray) rfl (by decide +kernel) rfl rfl (zd9 (pv := [(0, .int .u8 (at_ p.of t12)), (1, .bool (has s t12))]) rfl (zbq pl213 ty213 rfl (cs := (zdd ((at_ p.of t12, has s t12) : Int × Bool))) rfl)) (zam rfl) <| zb6 (i := 9) (by decide +kernel) ?_
  intro wd21 gd21
  have S22 := S18.keep gd21
  have hf23 := spUp gd21 hf19
  have hf24 := spUp gd21 hf20
  obtain ⟨b25, w25, r25, g25, T25⟩ := zcb (P := Tryd.prog) S22 213 (v := (.agg #[.int .u8 0, .bool false])) (zdd ((0, false) : Int × Bool)) rfl
  have S26 := T25
  dsimp only [lAa, lAn, lA0, lAs] at S26
  have hf27 := spUp g25 hf23
  have hf28 := spUp g25 hf24
  refine d_v (v := .pointer (some ⟨b25, 0, none⟩)) rfl rfl rfl (zch ty213 r25) (.inl g25) <| zb6 (i := 10) (by decide +kernel) ?_
  intro wd29 gd29
  have S30 := S26.keep gd29
  have hf31 := spUp gd29 hf27
  have hf32 := spUp gd29 hf28
  obtain ⟨w33, r33, g33, T33⟩ := zb9 (P := Tryd.prog) (off := 0) (v := .agg (zdd ((at_ p.of t12, has s t12) : Int × Bool)).toArray) (vs := (zdd ((at_ p.of t12, has s t12) : Int × Bool))) S30 ty213 rfl rfl (j := 5) rfl (by first | decide | exact Nat.le_of_ble_eq_true rfl) (encSide_one _)
  have S34 := T33.fx 5 (box b25 213 (zdd ((at_ p.of t12, has s t12) : Int × Bool))) rfl
  dsimp only [lAa, lAn, lA0, lAs] at S34
  have hf35 : (CFs ⟨b1, 0 + t12.toNat * 1, none⟩ [.int .u8 (at_ p.of t12)]).1 w33 := (CF.box (m := 1) (S34.box_at (j := 0) rfl) (cs := (zab p)) (encPart_at o0 (by omega) (by omega)))
  have hf36 : (CFs ⟨b3, 0, none⟩ (zaf s)).1 w33 := (CF.box (m := 4) (S34.box_at (j := 1) rfl) rfl)
  refine d_s rfl rfl (za7 rfl rfl r33) (.inr (zbh (by decide +kernel) (zbh (by decide +kernel) trivial))) <| zco (by decide +kernel) ?_
  intro wd37 gd37
  have S38 := S34.keep gd37
  refine zac <| zae (l := [0, 1, 2, 3, 4, 5, 6, 7]) rfl <| p_v (v := .map (some b9)) rfl rfl rfl (zah r11_6) <| p_v (v := .agg (zdd ((at_ p.of t12, has s t12) : Int × Bool)).toArray) rfl rfl rfl (zaj (seg := (zdd ((at_ p.of t12, has s t12) : Int × Bool))) ty213 rfl (by simp) rfl (CF.box (m := 2) (S38.box_at (j := 5) rfl) rfl)) <| p_v (v := .tuple #[.int .u8 ((zbn ((at_ p.of t12, has s t12) : Int × Bool) of).getD 0), .bool ((zbn ((at_ p.of t12, has s t12) : Int × Bool) of).isSome)]) rfl rfl rfl (x_lookup rfl rfl (e_lookup_d key213 S38 (j := 4) rfl u211 (zero_cells ty5) 0 ((at_ p.of t12, has s t12) : Int × Bool))) <| p_v (v := .tuple #[.int .u8 ((zbn ((at_ p.of t12, has s t12) : Int × Bool) of).getD 0), .bool ((zbn ((at_ p.of t12, has s t12) : Int × Bool) of).isSome)]) rfl rfl rfl (zah rfl) <| p_v (v := .int .u8 ((zbn ((at_ p.of t12, has s t12) : Int × Bool) of).getD 0)) rfl rfl rfl (zc1 (vs := [.int .u8 ((zbn ((at_ p.of t12, has s t12) : Int × Bool) of).getD 0), .bool ((zbn ((at_ p.of t12, has s t12) : Int × Bool) of).isSome)]) rfl rfl) <| p_v (v := .bool ((zbn ((at_ p.of t12, has s t12) : Int × Bool) of).isSome)) rfl rfl rfl (zc1 (vs := [.int .u8 ((zbn ((at_ p.of t12, has s t12) : Int × Bool) of).getD 0), .bool ((zbn ((at_ p.of t12, has s t12) : Int × Bool) of).isSome)]) rfl rfl) <| p_v (v := .int .u8 ((zbn ((at_ p.of t12, has s t12) : Int × Bool) of).getD 0)) rfl rfl rfl (zag rfl) <| p_v (v := .bool ((zbn ((at_ p.of t12, has s t12) : Int × Bool) of).isSome)) rfl rfl rfl (zag rfl) <| zaa <| zac ?_
  refine zac <| zae (l := [0, 1]) rfl <| p_v (v := .bool ((zbn ((at_ p.of t12, has s t12) : Int × Bool) of).isSome)) rfl rfl rfl (zah rfl) <| p_v (v := .bool (!((zbn ((at_ p.of t12, has s t12) : Int × Bool) of).isSome))) rfl rfl rfl (x_not rfl) <| zaa ?_
  refine zcp (b := (zbn ((at_ p.of t12, has s t12) : Int × Bool) of).isSome) rfl (fun hc39 => ?_) (fun hc39 => ?_)
  ·skip
   have hv_ := Option.isSome_eq_false_iff.1 hc39
   rw [Option.isNone_iff_eq_none, hI11.2.2.1, ← side_at p s hI11.1] at hv_
   have hw_ := kvTo_new hv_
   refine zac <| zae (l := [0, 1, 2, 3]) rfl <| p_v (v := .pointer (some ⟨b7, 256, none⟩)) rfl rfl rfl (zao fd32_1 ty3 rfl r11_5) ?_
   have in40 := (f11_0).2
   have lo40 := zbb in40; have hi40 := zbc in40
   refine p_v (v := .int .i64 out.n) rfl rfl rfl (zaj (seg := [.int .i64 out.n]) ty3 rfl (by simp) rfl (CF.box (m := 1) (S38.box_at (j := 3) rfl) (encPart_n f11_0))) <| p_v (v := .int .u8 out.n) rfl rfl rfl (x_conv u3 u5 rfl (in_u8 (by omega) (by omega))) <| p_v (v := .int .u8 out.n) rfl rfl rfl (zag rfl) <| zaa <| zac <| zae (l := [0, 1, 2, 3]) rfl <| p_v (v := .map (some b9)) rfl rfl rfl (zah r11_6) <| p_v (v := .agg (zdd ((at_ p.of t12, has s t12) : Int × Bool)).toArray) rfl rfl rfl (zaj (seg := (zdd ((at_ p.of t12, has s t12) : Int × Bool))) ty213 rfl (by simp) rfl (CF.box (m := 2) (S38.box_at (j := 5) rfl) rfl)) <| p_v (v := .int .u8 out.n) rfl rfl rfl (zah rfl) ?_
   obtain ⟨w41, r41, g41, T41⟩ := e_mapUpdate key213 S38 (j := 4) rfl u211 ((at_ p.of t12, has s t12) : Int × Bool) out.n
   have S42 := T41.fx 4 (amap (fun x : (Int × Bool) => Value.agg (zdd x).toArray) (fun x : Int => Value.int .u8 x) b9 (putAt ((at_ p.of t12, has s t12) : Int × Bool) out.n of)) rfl
   dsimp only [lAa, lAn, lA0, lAs] at S42
   refine p_s rfl rfl (x_mapUpdate rfl rfl rfl r41) <| zaa <| zae (l := [0, 1, 2, 3, 4]) rfl <| p_v (v := .pointer (some ⟨b7, 256, none⟩)) rfl rfl rfl (zao fd32_1 ty3 rfl r11_5) ?_
   have in43 := (f11_0).2
   have lo43 := zbb in43; have hi43 := zbc in43
   refine p_v (v := .int .i64 out.n) rfl rfl rfl (zaj (seg := [.int .i64 out.n]) ty3 rfl (by simp) rfl (CF.box (m := 1) (S42.box_at (j := 3) rfl) (encPart_n f11_0))) <| p_v (v := .int .i64 (out.n + 1)) rfl rfl rfl (zc7 rfl rfl (zal (by omega) (by omega))) <| p_v (v := .pointer (some ⟨b7, 256, none⟩)) rfl rfl rfl (zao fd32_1 ty3 rfl r11_5) ?_
   obtain ⟨w44, r44, g44, T44⟩ := zb9 (P := Tryd.prog) (off := 256) (v := .int .i64 (out.n + 1)) (vs := [.int .i64 (out.n + 1)]) S42 ty3 rfl rfl (j := 3) rfl (by rw [zad f11_0]; decide) (by simp [Value.oneCell'])
   rw [encPart_putN f11_0] at T44
   have ok44 : zbx (⟨out.of, out.n + 1⟩ : PartM) := okPart_putN f11_0 (zal (by omega) (by omega))
   have S45 := T44.fx 3 (box b7 32 (zab (⟨out.of, out.n + 1⟩ : PartM))) rfl
   dsimp only [lAa, lAn, lA0, lAs] at S45
   refine p_s rfl rfl (za7 rfl rfl r44) <| zaa <| zae (l := [0, 1, 2, 3, 4]) rfl <| p_v (v := .int .i64 t12) rfl rfl rfl (zah rfl) <| p_v (v := .int .u8 out.n) rfl rfl rfl (zah rfl) <| p_v (v := .pointer (some ⟨b7, 0, none⟩)) rfl rfl rfl (zao fd32_0 ty30 rfl r11_5) <| p_v (v := .pointer (some ⟨b7, 0 + t12.toNat * 1, none⟩)) rfl rfl rfl (za3 u30 ty5 rfl rfl (by omega) (by omega)) ?_
   obtain ⟨w46, r46, g46, T46⟩ := zb9 (P := Tryd.prog) (off := 0 + t12.toNat * 1) (v := .int .u8 out.n) (vs := [.int .u8 out.n]) S45 ty5 rfl rfl (j := 3) rfl (by rw [zad ok44]; first|omega|(simp;omega)|assumption) (by simp [Value.oneCell'])
   rw [encPart_put ok44 (by omega) (by omega)] at T46
   have ok46 : zbx (⟨(⟨out.of, out.n + 1⟩ : PartM).of.set t12.toNat out.n, (⟨out.of, out.n + 1⟩ : PartM).n⟩ : PartM) := okPart_put ok44 _ (in_u8 (by omega) (by omega))
   have S47 := T46.fx 3 (box b7 32 (zab (⟨(⟨out.of, out.n + 1⟩ : PartM).of.set t12.toNat out.n, (⟨out.of, out.n + 1⟩ : PartM).n⟩ : PartM))) rfl
   dsimp only [lAa, lAn, lA0, lAs] at S47
   refine p_s rfl rfl (za7 rfl rfl r46) <| zaa <| zas <| zae (l := [0, 1]) rfl <| p_v (v := .int .i64 (t12 + 1)) rfl rfl rfl (zc7 r11_12 rfl (zal (by omega) (by omega))) <| p_v (v := .int .i64 (t12 + 1)) rfl rfl rfl (zah rfl) <| zaa ?_
   refine ih11 ((⟨(⟨out.of, out.n + 1⟩ : PartM).of.set t12.toNat out.n, (⟨out.of, out.n + 1⟩ : PartM).n⟩ : PartM), putAt ((at_ p.of t12, has s t12) : Int × Bool) out.n of, t12 + 1) _ _ (by dsimp only; omega) ⟨h11, le11, S47.sub [0, 1, 2, 3, 4] (by decide) rfl _ rfl, r11_2, r11_3, r11_4, r11_5, r11_6, rfl, ok46, (zal (by omega) (by omega)), (by first | exact ⟨by omega, by omega, by rw [hI11.2.2.1, show (t12 + 1).toNat = t12.toNat + 1 by omega, ho_.2.1], ofTo_step hI11.2.2.2.1 hI11.1 (by omega) hn_, by rw [show (t12 + 1).toNat = t12.toNat + 1 by omega, ho_.2.2]; exact hI11.2.2.2.2⟩ | exact ⟨by omega, by omega, by rw [show (t12 + 1).toNat = t12.toNat + 1 by omega, hw_.2.1, ← hI11.2.2.1, side_at p s hI11.1, ← hI11.2.2.2.2], ofTo_step hI11.2.2.2.1 hI11.1 (by omega) (by show out.n = _; rw [hI11.2.2.2.2]; exact hw_.1), by show out.n + 1 = _; rw [hI11.2.2.2.2, show (t12 + 1).toNat = t12.toNat + 1 by omega, hw_.2.2]; omega⟩)⟩
  obtain ⟨v_, hv_⟩ := Option.isSome_iff_exists.1 hc39
  have hn_ : (zbn (at_ p.of t12, has s t12) of).getD 0 = v_ := by rw [hv_]; rfl
  rw [hI11.2.2.1, ← side_at p s hI11.1] at hv_
  have ho_ := kvTo_old hv_
  rw [ho_.1] at hn_
  have hi_ := idx_le (sideOf p s) t12.toNat
  have hk_ : inK .u8 ((zbn (at_ p.of t12, has s t12) of).getD 0) := by rw [hn_]; exact in_u8 (by omega) (by omega)
  have hl_ := u8_lo hk_; have hh_ := u8_hi hk_
  refine zau <| zae (l := [0, 1, 2, 3, 4]) rfl <| p_v (v := .int .i64 t12) rfl rfl rfl (zah rfl) <| p_v (v := .int .u8 ((zbn ((at_ p.of t12, has s t12) : Int × Bool) of).getD 0)) rfl rfl rfl (zah rfl) <| p_v (v := .pointer (some ⟨b7, 0, none⟩)) rfl rfl rfl (zao fd32_0 ty30 rfl r11_5) <| p_v (v := .pointer (some ⟨b7, 0 + t12.toNat * 1, none⟩)) rfl rfl rfl (za3 u30 ty5 rfl rfl (by omega) (by omega)) ?_
  obtain ⟨w48, r48, g48, T48⟩ := zb9 (P := Tryd.prog) (off := 0 + t12.toNat * 1) (v := .int .u8 ((zbn ((at_ p.of t12, has s t12) : Int × Bool) of).getD 0)) (vs := [.int .u8 ((zbn ((at_ p.of t12, has s t12) : Int × Bool) of).getD 0)]) S38 ty5 rfl rfl (j := 3) rfl (by rw [zad f11_0]; first|omega|(simp;omega)|assumption) (by simp [Value.oneCell'])
  rw [encPart_put f11_0 (by omega) (by omega)] at T48
  have ok48 : zbx (⟨out.of.set t12.toNat ((zbn ((at_ p.of t12, has s t12) : Int × Bool) of).getD 0), out.n⟩ : PartM) := okPart_put f11_0 _ (in_u8 (by omega) (by omega))
  have S49 := T48.fx 3 (box b7 32 (zab (⟨out.of.set t12.toNat ((zbn ((at_ p.of t12, has s t12) : Int × Bool) of).getD 0), out.n⟩ : PartM))) rfl
  dsimp only [lAa, lAn, lA0, lAs] at S49
  refine p_s rfl rfl (za7 rfl rfl r48) <| zaa <| zas <| zae (l := [0, 1]) rfl <| p_v (v := .int .i64 (t12 + 1)) rfl rfl rfl (zc7 r11_12 rfl (zal (by omega) (by omega))) <| p_v (v := .int .i64 (t12 + 1)) rfl rfl rfl (zah rfl) <| zaa ?_
  refine ih11 ((⟨out.of.set t12.toNat ((zbn ((at_ p.of t12, has s t12) : Int × Bool) of).getD 0), out.n⟩ : PartM), of, t12 + 1) _ _ (by dsimp only; omega) ⟨h11, le11, S49.sub [0, 1, 2, 3, 4] (by decide) rfl _ rfl, r11_2, r11_3, r11_4, r11_5, r11_6, rfl, ok48, (zal (by omega) (by omega)), (by first | exact ⟨by omega, by omega, by rw [hI11.2.2.1, show (t12 + 1).toNat = t12.toNat + 1 by omega, ho_.2.1], ofTo_step hI11.2.2.2.1 hI11.1 (by omega) hn_, by rw [show (t12 + 1).toNat = t12.toNat + 1 by omega, ho_.2.2]; exact hI11.2.2.2.2⟩ | exact ⟨by omega, by omega, by rw [show (t12 + 1).toNat = t12.toNat + 1 by omega, hw_.2.1, ← hI11.2.2.1, side_at p s hI11.1, ← hI11.2.2.2.2], ofTo_step hI11.2.2.2.1 hI11.1 (by omega) (by show out.n = _; rw [hI11.2.2.2.2]; exact hw_.1), by show out.n + 1 = _; rw [hI11.2.2.2.2, show (t12 + 1).toNat = t12.toNat + 1 by omega, hw_.2.2]; omega⟩)⟩
 refine zbv rfl <| zac <| zae (l := [0, 1]) rfl <| p_v (v := .agg (zab out).toArray) rfl rfl rfl (zaj (seg := (zab out)) ty32 (zad f11_0) (by simp) r11_5 (CF.box (m := 257) (S11.box_at (j := 3) rfl) (by rw [List.drop_zero, List.take_of_length_le (by rw [zad f11_0]; exact Nat.le_refl _)]))) ?_
 obtain ⟨w50, r50, g50, T50⟩ := zb9 (P := Tryd.prog) (off := 0) (v := .agg (zab out).toArray) (vs := (zab out)) S11 ty32 rfl (zad f11_0) (j := 2) rfl (by rw [zad (zay)]; decide) (zb3 _)
 rw [lput_all (by rw [zad f11_0, zad (zay)])] at T50
 have S51 := T50.fx 2 (box b5 32 (zab out)) rfl
 dsimp only [lAa, lAn, lA0, lAs] at S51
 refine p_s rfl rfl (za7 r11_4 rfl r50) <| zaa <| zar Tryd.func115 (res1 rfl (zdg S51 ty32 r11_4 (j := 2) rfl (zad f11_0) (by simp) rfl)) ?_
 have q0 : (splitP p s : PartM) = out := by
  exact split_end p s (by omega) hI11.2.2.2.1 hI11.2.2.2.2
 refine ⟨_, rfl, h11, ?_, ?_, ?_⟩
 · exact S51.sub [] (by decide) rfl _ rfl
 · first | rfl | (simp only [q0]; rfl) | (simp only [q0])
 · rw [q0]; first | assumption | exact zay
theorem right_calls (w : World) (p : PartM) (o0 : zbx p) :
    Calls Tryd.prog 26 #[.agg (zab p).toArray] w fun e w' => ∃ v, e = .returned v ∧ ∃ (hn : Ghost), St w.heap.size w hn w' [] ∧ v = .bool (zc8 p) := by
 refine zak Tryd.func26 rfl Tryd.ntmps26 rfl ?_
 have S0 := St.init w
 have ploo0 := zbb o0.2; have phio0 := zbc o0.2
 refine zac <| zae (l := [0, 1]) rfl ?_
 obtain ⟨b1, w1, r1, g1, T1⟩ := zcb (P := Tryd.prog) S0 32 (v := .agg (zab p).toArray) (zab p) rfl
 have S2 := T1
 dsimp only [lAa, lAn, lA0, lAs] at S2
 refine p_v (v := .pointer (some ⟨b1, 0, none⟩)) rfl rfl rfl (zdo rfl r1) <| p_v (v := .bool false) rfl rfl rfl (zag rfl) <| zaa <| zac <| zae (l := [0]) rfl <| p_v (v := .int .i64 0) rfl rfl rfl (zag rfl) <| zaa <| zac <| zac <| zae (l := [0, 1, 2]) rfl <| p_v (v := .pointer (some ⟨b1, 0, none⟩)) rfl rfl rfl (zao fd32_0 ty30 rfl rfl) <| p_v (v := .agg (zav .u8 p.of).toArray) rfl rfl rfl (zaj (seg := (zav .u8 p.of)) ty30 (zdt (o0).1) (by simp) rfl (CF.box (m := 256) (S2.box_at (j := 0) rfl) (encPart_of o0))) ?_
 refine p_v (v := .int .i64 0) rfl rfl rfl (zah rfl) <| zaa <| zaq <| zbu (S := Int × Int) (fun (q_ : Int × Int) ρ w' => match q_ with | (next, t8) => ∃ (h : Ghost), Le (fun _ => none) h ∧ St w.heap.size w h w' [box b1 32 (zab p)] ∧ ρ 1 = .pointer (some ⟨b1, 0, none⟩) ∧ ρ 3 = .int .i64 next ∧ ρ 7 = .agg (zav .u8 p.of).toArray ∧ ρ 8 = .int .i64 t8 ∧ inK .i64 next ∧ inK .i64 t8 ∧ (0 ≤ t8 ∧ t8 ≤ 256 ∧ 0 ≤ next ∧ next ≤ t8 ∧ nextOf (p.of.take t8.toNat) = some next)) (fun q_ => match q_ with | (next, t8) => (256 - t8).toNat) (0, 0) ⟨(fun _ => none), Le.refl _, S2.sub [0] (by decide) rfl _ rfl, rfl, rfl, rfl, rfl, (zal (by omega) (by omega)), (zal (by omega) (by omega)), (by exact ⟨by omega, by omega, by omega, by omega, rfl⟩)⟩ ?_
 rintro ⟨next, t8⟩ ih3 ρ3 w3 ⟨h3, le3, S3, r3_1, r3_3, r3_7, r3_8, f3_0, f3_1, hI3⟩
 have lf3_0 := zbb f3_0; have hf3_0 := zbc f3_0
 have lf3_1 := zbb f3_1; have hf3_1 := zbc f3_1
 have hlen_ := o0.1.1
 refine zac <| zae (l := [0]) rfl <| p_v (v := .bool (decide (t8 < 256))) rfl rfl rfl (zdy r3_8 rfl) <| zaa <| zac ?_
 refine zan (p := t8 < 256) rfl (fun hc4 => ?_) (fun hc4 => ?_)
 ·skip
  refine zau <| zac <| zaq <| zac <| zae (l := [0, 1]) rfl ?_
  have in5 := zb2 (o0).1 (i := t8) (by omega) (by omega)
  have lo5 := u8_lo in5; have hi5 := u8_hi in5
  refine p_v (v := .int .u8 (at_ p.of t8)) rfl rfl rfl (x_index_arr (cs := (zav .u8 p.of)) u30 ty5 r3_7 r3_8 (by omega) (by omega) (encInts_get (o0).1 (by omega) (by omega))) <| p_v (v := .int .u8 (at_ p.of t8)) rfl rfl rfl (zag rfl) <| zaa <| zac <| zac <| zae (l := [0, 1, 2, 3]) rfl <| p_v (v := .int .u8 (at_ p.of t8)) rfl rfl rfl (zah rfl) <| p_v (v := .int .i64 (at_ p.of t8)) rfl rfl rfl (x_conv u5 u3 rfl (zal (by omega) (by omega))) <| p_v (v := .int .i64 next) rfl rfl rfl (zah r3_3) <| p_v (v := .bool (decide (next < (at_ p.of t8)))) rfl rfl rfl (x_gtr rfl rfl) <| zaa ?_
  refine zan (p := next < (at_ p.of t8)) rfl (fun hc6 => ?_) (fun hc6 => ?_)
  ·skip
   refine zac <| zae (l := [0]) rfl <| p_v (v := .bool false) rfl rfl rfl (zag rfl) <| zaa <| zar Tryd.func26 (res1 rfl (zaw (v := .bool false) rfl)) ?_
   have q0 : (zc8 p : Bool) = false := by
    exact right_no p hI3.1 (by omega) hI3.2.2.2.2 (by omega)
   refine ⟨_, rfl, h3, ?_, ?_⟩
   · exact S3.sub [] (by decide) rfl _ rfl
   · first | rfl | (simp only [q0]; rfl) | (simp only [q0])
  refine zau <| zac <| zae (l := [0, 1, 2, 3]) rfl <| p_v (v := .int .u8 (at_ p.of t8)) rfl rfl rfl (zah rfl) <| p_v (v := .int .i64 (at_ p.of t8)) rfl rfl rfl (x_conv u5 u3 rfl (zal (by omega) (by omega))) <| p_v (v := .int .i64 next) rfl rfl rfl (zah r3_3) <| p_v (v := .bool (decide ((at_ p.of t8) = next))) rfl rfl rfl (x_eql rfl rfl) <| zaa ?_
  refine zan (p := (at_ p.of t8) = next) rfl (fun hc7 => ?_) (fun hc7 => ?_)
  ·skip
   refine zae (l := [0, 1, 2]) rfl <| p_v (v := .int .i64 next) rfl rfl rfl (zah r3_3) <| p_v (v := .int .i64 (next + 1)) rfl rfl rfl (zc7 rfl rfl (zal (by omega) (by omega))) <| p_v (v := .int .i64 (next + 1)) rfl rfl rfl (zag rfl) <| zaa <| zas <| zae (l := [0, 1]) rfl <| p_v (v := .int .i64 (t8 + 1)) rfl rfl rfl (zc7 r3_8 rfl (zal (by omega) (by omega))) <| p_v (v := .int .i64 (t8 + 1)) rfl rfl rfl (zah rfl) <| zaa ?_
   refine ih3 (next + 1, t8 + 1) _ _ (by dsimp only; omega) ⟨h3, le3, S3.sub [0] (by decide) rfl _ rfl, r3_1, rfl, r3_7, rfl, (zal (by omega) (by omega)), (zal (by omega) (by omega)), (by exact ⟨by omega, by omega, by omega, by omega, by rw [zdf p.of hI3.1 (by omega), next_app, hI3.2.2.2.2]; first | (simp only []; rw [if_neg (by omega), if_pos (by omega)]) | (simp only []; rw [if_neg (by omega), if_neg (by omega)])⟩)⟩
  refine zau <| zas <| zae (l := [0, 1]) rfl <| p_v (v := .int .i64 (t8 + 1)) rfl rfl rfl (zc7 r3_8 rfl (zal (by omega) (by omega))) <| p_v (v := .int .i64 (t8 + 1)) rfl rfl rfl (zah rfl) <| zaa ?_
  refine ih3 (next, t8 + 1) _ _ (by dsimp only; omega) ⟨h3, le3, S3.sub [0] (by decide) rfl _ rfl, r3_1, r3_3, r3_7, rfl, f3_0, (zal (by omega) (by omega)), (by exact ⟨by omega, by omega, by omega, by omega, by rw [zdf p.of hI3.1 (by omega), next_app, hI3.2.2.2.2]; first | (simp only []; rw [if_neg (by omega), if_pos (by omega)]) | (simp only []; rw [if_neg (by omega), if_neg (by omega)])⟩)⟩
 refine zbv rfl <| zac <| zae (l := [0, 1, 2, 3, 4]) rfl <| p_v (v := .int .i64 next) rfl rfl rfl (zah r3_3) <| p_v (v := .pointer (some ⟨b1, 256, none⟩)) rfl rfl rfl (zao fd32_1 ty3 rfl r3_1) ?_
 have in8 := (o0).2
 have lo8 := zbb in8; have hi8 := zbc in8
 refine p_v (v := .int .i64 p.n) rfl rfl rfl (zaj (seg := [.int .i64 p.n]) ty3 rfl (by simp) rfl (CF.box (m := 1) (S3.box_at (j := 0) rfl) (encPart_n o0))) <| p_v (v := .bool (decide (next = p.n))) rfl rfl rfl (x_eql rfl rfl) <| p_v (v := .bool (decide (next = p.n))) rfl rfl rfl (zag rfl) <| zaa <| zar Tryd.func26 (res1 rfl (zaw (v := .bool (decide (next = p.n))) rfl)) ?_
 have q0 : (zc8 p : Bool) = decide (next = p.n) := by
  exact right_yes p (by omega) hI3.2.2.2.2
 refine ⟨_, rfl, h3, ?_, ?_⟩
 · exact S3.sub [] (by decide) rfl _ rfl
 · (simp only [q0])
theorem refine_calls (w : World) (sets : List BSet) (A0 : Option Addr) (c0 : Nat) (b0 : sets.length ≤ c0 ∧ c0 ≤ maxLen) (l0 : zbo kSet (hp w) A0 sets) :
    Calls Tryd.prog 49 #[.slice A0 sets.length c0] w fun e w' => ∃ v, e = .returned v ∧ ∃ (hn : Ghost), St w.heap.size w hn w' [] ∧ v = .agg (zab (zcu sets)).toArray ∧ zbx (zcu sets) := by
 refine zak Tryd.func49 rfl Tryd.ntmps49 rfl ?_
 have S0 := St.init w
 have bb0 := b0.1; have bc0 := b0.2; simp only [maxLen] at bc0
 refine zac <| zae (l := [0]) rfl ?_
 obtain ⟨b1, w1, r1, g1, T1⟩ := zcb (P := Tryd.prog) S0 32 (v := zv32) (zab zPart) (by kernel_rfl)
 have S2 := T1
 dsimp only [lAa, lAn, lA0, lAs] at S2
 refine p_v (v := .pointer (some ⟨b1, 0, none⟩)) rfl rfl rfl (zch ty32 r1) <| zaa <| zac <| zae (l := [0, 1, 2]) rfl <| p_v (v := .agg (zab (⟨(List.replicate 256 (0 : Int)), 1⟩ : PartM)).toArray) rfl rfl rfl (zd9 (pv := [(1, .int .i64 1)]) rfl (zbq pl32 ty32 rfl (cs := (zab (⟨(List.replicate 256 (0 : Int)), 1⟩ : PartM))) (by kernel_rfl))) ?_
 obtain ⟨b3, w3, r3, g3, T3⟩ := zcb (P := Tryd.prog) S2 32 (v := zv32) (zab zPart) (by kernel_rfl)
 have S4 := T3
 dsimp only [lAa, lAn, lA0, lAs] at S4
 refine p_v (v := .pointer (some ⟨b3, 0, none⟩)) rfl rfl rfl (zch ty32 r3) ?_
 obtain ⟨w5, r5, g5, T5⟩ := zb9 (P := Tryd.prog) (off := 0) (v := .agg (zab (⟨(List.replicate 256 (0 : Int)), 1⟩ : PartM)).toArray) (vs := (zab (⟨(List.replicate 256 (0 : Int)), 1⟩ : PartM))) S4 ty32 rfl (zad okPart_one) (j := 1) rfl (by rw [zad (zay)]; decide) (zb3 _)
 rw [lput_all (by rw [zad okPart_one, zad (zay)])] at T5
 have S6 := T5.fx 1 (box b3 32 (zab (⟨(List.replicate 256 (0 : Int)), 1⟩ : PartM))) rfl
 dsimp only [lAa, lAn, lA0, lAs] at S6
 refine p_s rfl rfl (za7 rfl rfl r5) <| zaa <| zac <| zac <| zae (l := [0, 1, 2]) rfl <| p_v (v := .slice A0 sets.length c0) rfl rfl rfl (zah rfl) <| p_v (v := .int .i64 (sets.length : Int)) rfl rfl rfl (za0 u62 rfl) <| p_v (v := .int .i64 0) rfl rfl rfl (zah rfl) <| zaa <| zaq <| zbu (S := PartM × Int) (fun (q_ : PartM × Int) ρ w' => match q_ with | (p, t9) => ∃ (h : Ghost), Le (fun _ => none) h ∧ St w.heap.size w h w' [box b1 32 (zab zPart), box b3 32 (zab p)] ∧ ρ 2 = .pointer (some ⟨b1, 0, none⟩) ∧ ρ 3 = .pointer (some ⟨b3, 0, none⟩) ∧ ρ 7 = .slice A0 sets.length c0 ∧ ρ 8 = .int .i64 (sets.length : Int) ∧ ρ 9 = .int .i64 t9 ∧ zbx p ∧ inK .i64 t9 ∧ (0 ≤ t9 ∧ t9 ≤ (sets.length : Int) ∧ p = zcu (sets.take t9.toNat))) (fun q_ => match q_ with | (p, t9) => (sets.length - t9).toNat) ((⟨(List.replicate 256 (0 : Int)), 1⟩ : PartM), 0) ⟨(fun _ => none), Le.refl _, S6.sub [0, 1] (by decide) rfl _ rfl, rfl, rfl, rfl, rfl, rfl, okPart_one, (zal (by omega) (by omega)), (by exact ⟨by omega, by omega, refine_0 _⟩)⟩ ?_
 rintro ⟨p, t9⟩ ih7 ρ7 w7 ⟨h7, le7, S7, r7_2, r7_3, r7_7, r7_8, r7_9, f7_0, f7_1, hI7⟩
 have lf7_1 := zbb f7_1; have hf7_1 := zbc f7_1
 refine zac <| zae (l := [0]) rfl <| p_v (v := .bool (decide (t9 < (sets.length : Int)))) rfl rfl rfl (zdy r7_9 r7_8) <| zaa <| zac ?_
 refine zan (p := t9 < (sets.length : Int)) rfl (fun hc8 => ?_) (fun hc8 => ?_)
 ·skip
  refine zau <| zac <| zaq <| zac <| zae (l := [0, 1, 2, 3]) rfl ?_
  obtain ⟨ad9, seg9, a9, rp9, ce9⟩ := za9 (q := t9) (m := 4) l0 rfl (by omega) (by omega)
  refine p_v (v := .pointer (some ad9)) rfl rfl rfl (za8 u62 ty74 r7_7 r7_9 a9 (by omega) (by omega)) ?_
  obtain ⟨rfl, ok9⟩ := rp9
  refine p_v (v := .agg (zaf (at_ sets t9)).toArray) rfl rfl rfl (zaj (seg := (zaf (at_ sets t9))) ty74 rfl (by simp) rfl (CF.ghost ce9 (St.le0 S7))) ?_
  obtain ⟨b10, w10, r10, g10, T10⟩ := zcb (P := Tryd.prog) S7 74 (v := (.agg #[.int .u64 0, .int .u64 0, .int .u64 0, .int .u64 0])) (zaf (0 : BSet)) rfl
  have S11 := T10
  dsimp only [lAa, lAn, lA0, lAs] at S11
  refine p_v (v := .pointer (some ⟨b10, 0, none⟩)) rfl rfl rfl (zch ty74 r10) ?_
  obtain ⟨w12, r12, g12, T12⟩ := zb9 (P := Tryd.prog) (off := 0) (v := .agg (zaf (at_ sets t9)).toArray) (vs := (zaf (at_ sets t9))) S11 ty74 rfl rfl (j := 2) rfl (by first | decide | exact Nat.le_of_ble_eq_true rfl) (zdn _)
  have S13 := T12.fx 2 (box b10 74 (zaf (at_ sets t9))) rfl
  dsimp only [lAa, lAn, lA0, lAs] at S13
  refine p_s rfl rfl (za7 rfl rfl r12) <| zaa <| zae (l := [0, 1, 2, 3]) rfl <| p_v (v := .agg (zab p).toArray) rfl rfl rfl (zaj (seg := (zab p)) ty32 (zad f7_0) (by simp) r7_3 (CF.box (m := 257) (S13.box_at (j := 1) rfl) (by rw [List.drop_zero, List.take_of_length_le (by rw [zad f7_0]; exact Nat.le_refl _)]))) <| p_v (v := .agg (zaf (at_ sets t9)).toArray) rfl rfl rfl (zaj (seg := (zaf (at_ sets t9))) ty74 rfl (by simp) rfl (CF.box (m := 4) (S13.box_at (j := 2) rfl) rfl)) <| p_c rfl rfl rfl (za2 (args := [.agg (zab p).toArray, .agg (zaf (at_ sets t9)).toArray]) ca115 rfl rfl) (split_calls w12 p f7_0 (at_ sets t9)) ?_
  rintro _ w14 ⟨h14, T14, rfl, ok14_0⟩
  have S15 := S13.keep (Chg.of_below T14.below)
  obtain ⟨w16, r16, g16, T16⟩ := zb9 (P := Tryd.prog) (off := 0) (v := .agg (zab (splitP p (at_ sets t9))).toArray) (vs := (zab (splitP p (at_ sets t9)))) S15 ty32 rfl (zad ok14_0) (j := 1) rfl (by rw [zad f7_0]; decide) (zb3 _)
  rw [lput_all (by rw [zad ok14_0, zad f7_0])] at T16
  have S17 := T16.fx 1 (box b3 32 (zab (splitP p (at_ sets t9)))) rfl
  dsimp only [lAa, lAn, lA0, lAs] at S17
  refine p_s rfl rfl (za7 r7_3 rfl r16) <| zaa <| zas <| zae (l := [0, 1]) rfl <| p_v (v := .int .i64 (t9 + 1)) rfl rfl rfl (zc7 r7_9 rfl (zal (by omega) (by omega))) <| p_v (v := .int .i64 (t9 + 1)) rfl rfl rfl (zah rfl) <| zaa ?_
  refine ih7 (splitP p (at_ sets t9), t9 + 1) _ _ (by dsimp only; omega) ⟨h7, le7, S17.sub [0, 1] (by decide) rfl _ rfl, r7_2, r7_3, r7_7, r7_8, rfl, ok14_0, (zal (by omega) (by omega)), (by exact ⟨by omega, by omega, refine_step sets hI7.1 (by omega) hI7.2.2⟩)⟩
 refine zbv rfl <| zac <| zae (l := [0, 1]) rfl <| p_v (v := .agg (zab p).toArray) rfl rfl rfl (zaj (seg := (zab p)) ty32 (zad f7_0) (by simp) r7_3 (CF.box (m := 257) (S7.box_at (j := 1) rfl) (by rw [List.drop_zero, List.take_of_length_le (by rw [zad f7_0]; exact Nat.le_refl _)]))) ?_
 obtain ⟨w18, r18, g18, T18⟩ := zb9 (P := Tryd.prog) (off := 0) (v := .agg (zab p).toArray) (vs := (zab p)) S7 ty32 rfl (zad f7_0) (j := 0) rfl (by rw [zad (zay)]; decide) (zb3 _)
 rw [lput_all (by rw [zad f7_0, zad (zay)])] at T18
 have S19 := T18.fx 0 (box b1 32 (zab p)) rfl
 dsimp only [lAa, lAn, lA0, lAs] at S19
 refine p_s rfl rfl (za7 r7_2 rfl r18) <| zaa <| zar Tryd.func49 (res1 rfl (zdg S19 ty32 r7_2 (j := 0) rfl (zad f7_0) (by simp) rfl)) ?_
 have q0 : (zcu sets : PartM) = p := by
  exact refine_end sets (by omega) hI7.2.2
 refine ⟨_, rfl, h7, ?_, ?_, ?_⟩
 · exact S19.sub [] (by decide) rfl _ rfl
 · first | rfl | (simp only [q0]; rfl) | (simp only [q0])
 · rw [q0]; first | assumption | exact zay
theorem sets_calls (w : World) (p : PartM) (o0 : zbx p) :
    Calls Tryd.prog 134 #[.agg (zab p).toArray] w fun e w' => ∃ v, e = .returned v ∧ ∃ (hn : Ghost) (r0 : Value), St w.heap.size w hn w' [row 74 kSet r0 (zb4 p)] ∧ v = r0 := by
 refine zak Tryd.func134 rfl Tryd.ntmps134 rfl ?_
 have S0 := St.init w
 have ploo0 := zbb o0.2; have phio0 := zbc o0.2
 refine zac <| zae (l := [0, 1]) rfl ?_
 obtain ⟨b1, w1, r1, g1, T1⟩ := zcb (P := Tryd.prog) S0 32 (v := .agg (zab p).toArray) (zab p) rfl
 have S2 := T1
 dsimp only [lAa, lAn, lA0, lAs] at S2
 refine p_v (v := .pointer (some ⟨b1, 0, none⟩)) rfl rfl rfl (zdo rfl r1) <| p_v (v := .slice none 0 0) rfl rfl rfl (zag rfl) <| zaa <| zac <| zae (l := [0, 1, 2, 3, 4, 5]) rfl <| p_v (v := .pointer (some ⟨b1, 256, none⟩)) rfl rfl rfl (zao fd32_1 ty3 rfl rfl) ?_
 have in3 := (o0).2
 have lo3 := zbb in3; have hi3 := zbc in3
 refine p_v (v := .int .i64 p.n) rfl rfl rfl (zaj (seg := [.int .i64 p.n]) ty3 rfl (by simp) rfl (CF.box (m := 1) (S2.box_at (j := 0) rfl) (encPart_n o0))) <| p_v (v := .int .i64 (max p.n 0)) rfl rfl rfl (x_max rfl rfl) <| p_v (v := .int .i64 (min (max p.n 0) 256)) rfl rfl rfl (x_min rfl rfl) ?_
 obtain ⟨v4, w4, r4, g4, T4⟩ := e_make (kk := .i64) (kk' := .i64) (kd := kSet) (q := min (max p.n 0) 256) (z := (0 : BSet)) (zc := (zaf (0 : BSet))) S2 u62 ty74 rfl rfl ⟨rfl, trivial⟩ (by omega) (by omega) (by omega)
 have S5 := T4
 dsimp only [lAa, lAn, lA0, lAs] at S5
 refine p_v (v := v4) rfl rfl rfl (x_make rfl rfl r4) <| p_v (v := v4) rfl rfl rfl (zag rfl) <| zaa <| zac <| zac <| zae (l := [0, 1, 2]) rfl <| p_v (v := .pointer (some ⟨b1, 0, none⟩)) rfl rfl rfl (zao fd32_0 ty30 rfl rfl) <| p_v (v := .agg (zav .u8 p.of).toArray) rfl rfl rfl (zaj (seg := (zav .u8 p.of)) ty30 (zdt (o0).1) (by simp) rfl (CF.box (m := 256) (S5.box_at (j := 0) rfl) (encPart_of o0))) <| p_v (v := .int .i64 0) rfl rfl rfl (zah rfl) <| zaa <| zaq <| zbu (S := (List BSet) × Int) (fun (q_ : (List BSet) × Int) ρ w' => match q_ with | (out, t13) => ∃ (h : Ghost) (v_out : Value), Le (fun _ => none) h ∧ St w.heap.size w h w' [row 74 kSet v_out out] ∧ ρ 3 = v_out ∧ ρ 12 = .agg (zav .u8 p.of).toArray ∧ ρ 13 = .int .i64 t13 ∧ inK .i64 t13 ∧ (0 ≤ t13 ∧ t13 ≤ 256 ∧ out = setsTo p t13)) (fun q_ => match q_ with | (out, t13) => (256 - t13).toNat) (List.replicate (min (max p.n 0) 256).toNat (0 : BSet), 0) ⟨(fun _ => none), v4, Le.refl _, S5.sub [1] (by decide) rfl _ rfl, rfl, rfl, rfl, (zal (by omega) (by omega)), (by exact ⟨by omega, by omega, setsTo_0 p⟩)⟩ ?_
 rintro ⟨out, t13⟩ ih6 ρ6 w6 ⟨h6, v_out, le6, S6, r6_3, r6_12, r6_13, f6_0, hI6⟩
 have lf6_0 := zbb f6_0; have hf6_0 := zbc f6_0
 have rl6_0 := S6.row_le (j := 0) rfl; simp only [maxLen] at rl6_0
 have hlen_ : (out.length : Int) = min (max p.n 0) 256 := by rw [hI6.2.2]; exact setsTo_len p t13
 refine zac <| zae (l := [0]) rfl <| p_v (v := .bool (decide (t13 < 256))) rfl rfl rfl (zdy r6_13 rfl) <| zaa <| zac ?_
 refine zan (p := t13 < 256) rfl (fun hc7 => ?_) (fun hc7 => ?_)
 ·skip
  refine zau <| zac <| zaq <| zac <| zae (l := [0, 1, 2, 3]) rfl <| p_v (v := .int .i64 t13) rfl rfl rfl (zah r6_13) ?_
  have in8 := zb2 (o0).1 (i := t13) (by omega) (by omega)
  have lo8 := u8_lo in8; have hi8 := u8_hi in8
  refine p_v (v := .int .u8 (at_ p.of t13)) rfl rfl rfl (x_index_arr (cs := (zav .u8 p.of)) u30 ty5 r6_12 r6_13 (by omega) (by omega) (encInts_get (o0).1 (by omega) (by omega))) <| p_v (v := .int .i64 t13) rfl rfl rfl (zag rfl) <| p_v (v := .int .u8 (at_ p.of t13)) rfl rfl rfl (zag rfl) <| zaa <| zac <| zae (l := [0, 1, 2, 3, 4]) rfl <| p_v (v := .int .u8 (at_ p.of t13)) rfl rfl rfl (zah rfl) <| p_v (v := .int .i64 (at_ p.of t13)) rfl rfl rfl (x_conv u5 u3 rfl (zal (by omega) (by omega))) <| p_v (v := v_out) rfl rfl rfl (zah r6_3) ?_
  have lb9 := S6.row_le (j := 0) rfl; simp only [maxLen] at lb9
  refine p_v (v := .int .i64 (out.length : Int)) rfl rfl rfl (x_len_own u62 rfl (e_len_own S6 (j := 0) rfl)) <| p_v (v := .bool (decide ((at_ p.of t13) < (out.length : Int)))) rfl rfl rfl (zdy rfl rfl) <| zaa ?_
  refine zan (p := (at_ p.of t13) < (out.length : Int)) rfl (fun hc10 => ?_) (fun hc10 => ?_)
  ·skip
   obtain ⟨ad11, a11, at11⟩ := zeb (q := at_ p.of t13) (m := 4) S6 (j := 0) rfl rfl (by omega) (by omega)
   obtain ⟨seg12, rp12, cf12⟩ := e_load_own (q := at_ p.of t13) S6 (j := 0) rfl rfl at11 (by omega) (by omega)
   obtain ⟨rfl, ok12⟩ := rp12
   have hf13 : (CFs ad11 (zaf (at_ out (at_ p.of t13)))).1 w6 := cf12
   refine daS (hkC 5 hf13 (hkN (w := w6))) 13 rfl mixed ?_
   intro wd14 gd14 hd14
   have S15 := S6.keep gd14
   have hf16 := spUp gd14 hf13
   refine qd0 (i := 0) (v := v_out) rfl (by decide +kernel) rfl rfl (zah r6_3) (zam rfl) <| qd0 (i := 1) (v := .int .u8 (at_ p.of t13)) rfl (by decide +kernel) rfl rfl (zah rfl) (zam rfl) <| qd0 (i := 2) (v := v_out) rfl (by decide +kernel) rfl rfl (zah r6_3) (zam rfl) <| qd0 (i := 3) (v := .int .u8 (at_ p.of t13)) rfl (by decide +kernel) rfl rfl (zah rfl) (zam rfl) <| qd0 (i := 4) (v := .pointer (some ad11)) rfl (by decide +kernel) rfl rfl (zdj u62 ty74 rfl rfl a11 (by omega) (by omega)) (zam rfl) <| qd1 0 (i := 5) (v := .agg (zaf (at_ out (at_ p.of t13))).toArray) rfl rfl (by decide +kernel) rfl rfl (fun wq hq => (zaj (seg := (zaf (at_ out (at_ p.of t13)))) ty74 rfl (by simp) rfl hq)) (zbz hf16 (of_nil _ _)) <| qd0 (i := 6) (v := .int .i64 t13) rfl (by decide +kernel) rfl rfl (zah rfl) (zam rfl) <| qd0 (i := 7) (v := .int .u8 t13) rfl (by decide +kernel) rfl rfl (x_conv u3 u5 rfl (in_u8 (by omega) (by omega))) (zam rfl) <| zb6 (i := 8) (by decide +kernel) ?_
   intro wd17 gd17
   have S18 := S15.keep gd17
   have hf19 := spUp gd17 hf16
   obtain ⟨v20, w20, r20, g20, T20⟩ := za6 (kd := (Kd.int .u8)) (xs := ([t13] : List Int)) (len := 1) [.int .u8 t13] S18 u39 ty5 rfl rfl rfl rfl rfl (zbs rfl zcc) [.int .u8 t13] (zb5.single (k := (Kd.int .u8)) (h := h6) (x := t13) (cs := [.int .u8 t13]) ⟨rfl, (in_u8 (by omega) (by omega))⟩) rfl
   have S21 := T20
   dsimp only [lAa, lAn, lA0, lAs] at S21
   have hf22 := spUp g20 hf19
   refine d_v (v := v20) rfl rfl rfl (zax (pv := [(0, .int .u8 t13)]) rfl r20) (.inl g20) <| zb6 (i := 9) (by decide +kernel) ?_
   intro wd23 gd23
   have S24 := S21.keep gd23
   have hf25 := spUp gd23 hf22
   obtain ⟨A26, c26, ev26, lc26, cm26⟩ := S24.row_val (j := 1) rfl
   refine d_c rfl rfl rfl (za2 (args := [.slice A26 ([t13] : List Int).length c26]) ca64 rfl (zdv ev26 rfl)) (of_calls wd23 ([t13] : List Int) A26 c26 (And.intro lc26 cm26) (zcz S24 (j := 1) rfl ev26)) ?_
   rintro _ w27 ⟨h27, T27, rfl⟩
   have S28 := S24.keep (Chg.of_below T27.below)
   have hf29 := spUp (Chg.of_below T27.below) hf25
   refine ⟨.inl (Chg.of_below T27.below), ?_⟩
   obtain ⟨ad31, a31, at31⟩ := zeb (q := at_ p.of t13) (m := 4) S28 (j := 0) rfl rfl (by omega) (by omega)
   refine d_m (i := 10) (v := .agg (zaf ((at_ out (at_ p.of t13)) ||| (zbd ([t13] : List Int)))).toArray) (fun _ => True) (fun _ ho => trivial) rfl (by decide +kernel) (by decide +kernel) (by decide +kernel) rfl rfl (fun wq => (za2 (args := [.agg (zaf (at_ out (at_ p.of t13))).toArray, .agg (zaf (zbd ([t13] : List Int))).toArray]) ca162 rfl rfl)) (fun wq hq => (or_calls wq (at_ out (at_ p.of t13)) (zbd ([t13] : List Int))).mono fun e w2 he => by obtain ⟨_, rfl, _, T, rfl⟩ := he; exact ⟨rfl, Chg.of_below T.below⟩) (zam rfl) <| qd0 (i := 11) (v := .pointer (some ad31)) rfl (by decide +kernel) rfl rfl (zdj u62 ty74 rfl rfl a31 (by omega) (by omega)) (zam rfl) <| zb6 (i := 12) (by decide +kernel) ?_
   intro wd32 gd32
   have S33 := S28.keep gd32
   have hf34 := spUp gd32 hf29
   obtain ⟨w35, r35, g35, T35⟩ := e_store_own (u := .agg (zaf ((at_ out (at_ p.of t13)) ||| (zbd ([t13] : List Int)))).toArray) (q := at_ p.of t13) ((at_ out (at_ p.of t13)) ||| (zbd ([t13] : List Int))) (vs := (zaf ((at_ out (at_ p.of t13)) ||| (zbd ([t13] : List Int))))) S33 ty74 rfl (j := 0) rfl rfl ⟨rfl, trivial⟩ at31 (by omega) (by omega)
   have S36 := T35.fx 0 (row 74 kSet v_out (out.set (at_ p.of t13).toNat ((at_ out (at_ p.of t13)) ||| (zbd ([t13] : List Int))))) rfl
   dsimp only [lAa, lAn, lA0, lAs] at S36
   refine d_s rfl rfl (za7 rfl rfl r35) (.inr (zbh (by decide +kernel) trivial)) <| zco (by decide +kernel) ?_
   intro wd37 gd37
   have S38 := S36.keep gd37
   refine zas <| zae (l := [0, 1]) rfl <| p_v (v := .int .i64 (t13 + 1)) rfl rfl rfl (zc7 r6_13 rfl (zal (by omega) (by omega))) <| p_v (v := .int .i64 (t13 + 1)) rfl rfl rfl (zah rfl) <| zaa ?_
   refine ih6 (out.set (at_ p.of t13).toNat ((at_ out (at_ p.of t13)) ||| (zbd ([t13] : List Int))), t13 + 1) _ _ (by dsimp only; omega) ⟨h6, v_out, le6, S38.sub [0] (by decide) rfl _ rfl, r6_3, r6_12, rfl, (zal (by omega) (by omega)), (by first | exact ⟨by omega, by omega, by rw [hI6.2.2]; exact setsTo_in p hI6.1 (by omega) (by omega) (by omega)⟩ | exact ⟨by omega, by omega, by rw [hI6.2.2]; exact setsTo_out p hI6.1 (by omega) (by omega)⟩)⟩
  refine zau <| zas <| zae (l := [0, 1]) rfl <| p_v (v := .int .i64 (t13 + 1)) rfl rfl rfl (zc7 r6_13 rfl (zal (by omega) (by omega))) <| p_v (v := .int .i64 (t13 + 1)) rfl rfl rfl (zah rfl) <| zaa ?_
  refine ih6 (out, t13 + 1) _ _ (by dsimp only; omega) ⟨h6, v_out, le6, S6.sub [0] (by decide) rfl _ rfl, r6_3, r6_12, rfl, (zal (by omega) (by omega)), (by first | exact ⟨by omega, by omega, by rw [hI6.2.2]; exact setsTo_in p hI6.1 (by omega) (by omega) (by omega)⟩ | exact ⟨by omega, by omega, by rw [hI6.2.2]; exact setsTo_out p hI6.1 (by omega) (by omega)⟩)⟩
 refine zbv rfl <| zac <| zae (l := [0, 1]) rfl <| p_v (v := v_out) rfl rfl rfl (zah r6_3) <| p_v (v := v_out) rfl rfl rfl (zag rfl) <| zaa <| zar Tryd.func134 (res1 rfl (zaw (v := v_out) rfl)) ?_
 have q0 : (zb4 p : List BSet) = out := by
  rw [hI6.2.2, show t13 = 256 by omega]; exact setsTo_end p
 refine ⟨_, rfl, h6, v_out, ?_, ?_⟩
 · rw [q0]; exact S6.sub [0] (by decide) rfl _ rfl
 · rfl
theorem clone_calls (w : World) (s : List Int) (A0 : Option Addr) (c0 : Nat) (b0 : s.length ≤ c0 ∧ c0 ≤ maxLen) (l0 : zbo (Kd.int .u8) (hp w) A0 s) (pre0 : s.length ≤ 1000000) :
    Calls Tryd.prog 135 #[.slice A0 s.length c0] w fun e w' => ∃ v, e = .returned v ∧ ∃ (hn : Ghost) (r0 : Value), St w.heap.size w hn w' [row 5 (Kd.int .u8) r0 s] ∧ v = r0 := by
 refine zak Tryd.func135 rfl Tryd.ntmps135 rfl ?_
 have S0 := St.init w
 have bb0 := b0.1; have bc0 := b0.2; simp only [maxLen] at bc0
 refine zac <| zae (l := [0]) rfl <| p_v (v := .slice none 0 0) rfl rfl rfl (zag rfl) <| zaa <| zac <| zac <| zae (l := [0, 1]) rfl <| p_v (v := .slice A0 s.length c0) rfl rfl rfl (zah rfl) <| p_v (v := .bool A0.isNone) rfl rfl rfl (x_eql_nil u39 rfl rfl) <| zaa ?_
 refine zb0 (b := A0.isNone) rfl (fun hc1 => ?_) (fun hc1 => ?_)
 ·skip
  have hnil := leads_isNone l0 hc1
  refine zac <| zae (l := [0]) rfl <| p_v (v := .slice none 0 0) rfl rfl rfl (zag rfl) <| zaa ?_
  have T2 := S0.row_nil 5 (Kd.int .u8)
  have S3 := T2
  dsimp only [lAa, lAn, lA0, lAs] at S3
  refine zar Tryd.func135 (res1 rfl (zaw (v := .slice none 0 0) rfl)) ?_
  have q0 : (s : List Int) = ([] : List Int) := by
   exact hnil
  refine ⟨_, rfl, (fun _ => none), (.slice none 0 0), ?_, ?_⟩
  · rw [q0]; exact S3.sub [0] (by decide) rfl _ rfl
  · first | rfl | (simp only [q0]; rfl) | (simp only [q0])
 refine zau <| zac <| zae (l := [0, 1, 2, 3]) rfl ?_
 obtain ⟨v4, w4, r4, g4, T4⟩ := za6 (kd := (Kd.int .u8)) (xs := ([] : List Int)) (len := 0) [] S0 u39 ty5 rfl rfl rfl rfl rfl zcc [] (zb5.nil _ _) rfl
 have S5 := T4
 dsimp only [lAa, lAn, lA0, lAs] at S5
 refine p_v (v := v4) rfl rfl rfl (zax (pv := []) rfl r4) <| p_v (v := .slice A0 s.length c0) rfl rfl rfl (zah rfl) ?_
 obtain ⟨v7, w7, r7, g7, T7⟩ := zcw (kd := (Kd.int .u8)) (A := A0) (c := c0) (ys := s) (len := s.length) 39 S5 u39 ty5 rfl rfl (j := 0) rfl rfl (news_flat (l0.mono (St.le0 S5)) (fun _ _ hr => hr)) (by first|omega|(simp;omega)|assumption) (by first|omega|(simp;omega)|assumption)
 have S8 := T7.fx 0 (row 5 (Kd.int .u8) v7 (([] : List Int) ++ s)) rfl
 dsimp only [lAa, lAn, lA0, lAs] at S8
 refine p_v (v := v7) rfl rfl rfl (zcv rfl rfl r7) <| p_v (v := v7) rfl rfl rfl (zag rfl) <| zaa <| zar Tryd.func135 (res1 rfl (zaw (v := v7) rfl)) ?_
 have q0 : (s : List Int) = ([] : List Int) ++ s := by
  rfl
 refine ⟨_, rfl, (fun _ => none), v7, ?_, ?_⟩
 · rw [q0]; exact S8.sub [0] (by decide) rfl _ rfl
 · rfl
theorem least_calls (w : World) (p : PartM) (o0 : zbx p) (k : Int) (i1 : inK .i64 k) (tb : Block 0 tzTab w) :
    Calls Tryd.prog 86 #[.agg (zab p).toArray, .int .i64 k] w fun e w' => ∃ v, e = .returned v ∧ ∃ (hn : Ghost) (r0 : Value), St w.heap.size w hn w' [row 39 (Kd.int .u8).slice r0 (zb1 p k)] ∧ v = r0 := by
 refine zak Tryd.func86 rfl Tryd.ntmps86 rfl ?_
 have S0 := St.init w
 have ploo0 := zbb o0.2; have phio0 := zbc o0.2
 have lo1 := zbb i1; have hi1 := zbc i1
 refine zac <| zae (l := [0, 1]) rfl ?_
 obtain ⟨b1, w1, r1, g1, T1⟩ := zcb (P := Tryd.prog) S0 32 (v := .agg (zab p).toArray) (zab p) rfl
 have S2 := T1
 dsimp only [lAa, lAn, lA0, lAs] at S2
 refine p_v (v := .pointer (some ⟨b1, 0, none⟩)) rfl rfl rfl (zdo rfl r1) <| p_v (v := .slice none 0 0) rfl rfl rfl (zag rfl) <| zaa <| zac <| zae (l := [0]) rfl <| p_v (v := .slice none 0 0) rfl rfl rfl (zag rfl) <| zaa <| zac <| zac <| zae (l := [0, 1, 2, 3]) rfl <| p_v (v := .agg (zab p).toArray) rfl rfl rfl (zaj (seg := (zab p)) ty32 (zad o0) (by simp) rfl (CF.box (m := 257) (S2.box_at (j := 0) rfl) (by rw [List.drop_zero, List.take_of_length_le (by rw [zad o0]; exact Nat.le_refl _)]))) <| p_c rfl rfl rfl (za2 (args := [.agg (zab p).toArray]) ca134 rfl rfl) (sets_calls w1 p o0) ?_
 rintro v3_0 w3 ⟨h3, _, T3, rfl⟩
 obtain ⟨k3, lk3, ll3, U3⟩ := zcl S2 T3
 have S4 := U3
 dsimp only [lAa, lAn, lA0, lAs] at S4
 obtain ⟨h5, le5, T5, rp5⟩ := S4.freeze (i := 1) rfl
 have lf5_0 := (lk3).trans le5
 have S6 := T5.fx 1 (emp) rfl
 dsimp only [lAa, lAn, lA0, lAs] at S6
 obtain ⟨A5, c5, e5, lc5, cm5, ld5⟩ := rp5
 injection e5 with e5 _; subst e5
 have cn5 := cm5; simp only [maxLen] at cn5
 refine p_v (v := .int .i64 ((zb4 p).length : Int)) rfl rfl rfl (za0 u62 rfl) <| p_v (v := .int .i64 0) rfl rfl rfl (zah rfl) <| zaa <| zaq ?_
 have T7 := S6.row_nil 39 (Kd.int .u8).slice
 obtain ⟨vn7, ev7, T7⟩ : ∃ v, v = (.slice none 0 0 : Value) ∧ St w.heap.size w h5 w3 ([box b1 32 (zab p), emp] ++ [row 39 (Kd.int .u8).slice v []]) := ⟨_, rfl, T7⟩
 have S8 := T7
 dsimp only [lAa, lAn, lA0, lAs] at S8
 refine zbu (S := (List (List Int)) × Int) (fun (q_ : (List (List Int)) × Int) ρ w' => match q_ with | (out, t12) => ∃ (h : Ghost) (v_out : Value), Le h5 h ∧ St w.heap.size w h w' [row 39 (Kd.int .u8).slice v_out out] ∧ ρ 1 = .int .i64 k ∧ ρ 5 = v_out ∧ ρ 10 = .slice A5 (zb4 p).length c5 ∧ ρ 11 = .int .i64 ((zb4 p).length : Int) ∧ ρ 12 = .int .i64 t12 ∧ inK .i64 t12 ∧ (0 ≤ t12 ∧ t12 ≤ ((zb4 p).length : Int) ∧ out = leastTo p k t12)) (fun q_ => match q_ with | (out, t12) => ((zb4 p).length - t12).toNat) (([] : List (List Int)), 0) ⟨h5, vn7, Le.refl _, S8.sub [2] (by decide) rfl _ rfl, rfl, (ev7.symm), rfl, rfl, rfl, (zal (by omega) (by omega)), (by exact ⟨by omega, by omega, rfl⟩)⟩ ?_
 rintro ⟨out, t12⟩ ih9 ρ9 w9 ⟨h9, v_out, le9, S9, r9_1, r9_5, r9_10, r9_11, r9_12, f9_0, hI9⟩
 have lf9_0 := zbb f9_0; have hf9_0 := zbc f9_0
 have rl9_0 := S9.row_le (j := 0) rfl; simp only [maxLen] at rl9_0
 have hlen_ : (out.length : Int) ≤ 256 := by rw [hI9.2.2]; exact leastTo_len p k t12
 refine zac <| zae (l := [0]) rfl <| p_v (v := .bool (decide (t12 < ((zb4 p).length : Int)))) rfl rfl rfl (zdy r9_12 r9_11) <| zaa <| zac ?_
 refine zan (p := t12 < ((zb4 p).length : Int)) rfl (fun hc10 => ?_) (fun hc10 => ?_)
 ·skip
  refine zau <| zac <| zaq <| zac <| zae (l := [0, 1, 2, 3]) rfl ?_
  obtain ⟨ad11, seg11, a11, rp11, ce11⟩ := za9 (q := t12) (m := 4) ld5 rfl (by omega) (by omega)
  refine p_v (v := .pointer (some ad11)) rfl rfl rfl (za8 u62 ty74 r9_10 r9_12 a11 (by omega) (by omega)) ?_
  obtain ⟨rfl, ok11⟩ := rp11
  refine p_v (v := .agg (zaf (at_ (zb4 p) t12)).toArray) rfl rfl rfl (zaj (seg := (zaf (at_ (zb4 p) t12))) ty74 rfl (by simp) rfl (CF.ghost ce11 (le9.trans S9.ghost))) ?_
  obtain ⟨b12, w12, r12, g12, T12⟩ := zcb (P := Tryd.prog) S9 74 (v := (.agg #[.int .u64 0, .int .u64 0, .int .u64 0, .int .u64 0])) (zaf (0 : BSet)) rfl
  have S13 := T12
  dsimp only [lAa, lAn, lA0, lAs] at S13
  refine p_v (v := .pointer (some ⟨b12, 0, none⟩)) rfl rfl rfl (zch ty74 r12) ?_
  obtain ⟨w14, r14, g14, T14⟩ := zb9 (P := Tryd.prog) (off := 0) (v := .agg (zaf (at_ (zb4 p) t12)).toArray) (vs := (zaf (at_ (zb4 p) t12))) S13 ty74 rfl rfl (j := 1) rfl (by first | decide | exact Nat.le_of_ble_eq_true rfl) (zdn _)
  have S15 := T14.fx 1 (box b12 74 (zaf (at_ (zb4 p) t12))) rfl
  dsimp only [lAa, lAn, lA0, lAs] at S15
  refine p_s rfl rfl (za7 rfl rfl r14) <| zaa <| zac <| zae (l := [0, 1, 2]) rfl <| p_v (v := .agg (zaf (at_ (zb4 p) t12)).toArray) rfl rfl rfl (zaj (seg := (zaf (at_ (zb4 p) t12))) ty74 rfl (by simp) rfl (CF.box (m := 4) (S15.box_at (j := 1) rfl) rfl)) <| p_c rfl rfl rfl (za2 (args := [.agg (zaf (at_ (zb4 p) t12)).toArray]) ca130 rfl rfl) (list_calls w14 (at_ (zb4 p) t12) (Block.st S15 tb)) ?_
  rintro v16_0 w16 ⟨h16, _, T16, rfl⟩
  obtain ⟨k16, lk16, ll16, U16⟩ := zcl S15 T16
  have lc16_0 := (((lf5_0).trans le9)).trans lk16
  have lc16_1 := (((le5).trans le9)).trans lk16
  have lc16_2 := (le9).trans lk16
  have S17 := U16
  dsimp only [lAa, lAn, lA0, lAs] at S17
  refine p_v (v := v16_0) rfl rfl rfl (zag rfl) <| zaa <| zae (l := [0, 1, 2, 3, 4, 5, 6, 7, 8, 9, 10, 11]) rfl <| p_v (v := v_out) rfl rfl rfl (zah r9_5) <| p_v (v := v16_0) rfl rfl rfl (zah rfl) <| p_v (v := .int .i64 k) rfl rfl rfl (zah r9_1) <| p_v (v := .int .i64 (max k 0)) rfl rfl rfl (x_max rfl rfl) <| p_v (v := v16_0) rfl rfl rfl (zah rfl) ?_
  have lb18 := S17.row_le (j := 2) rfl; simp only [maxLen] at lb18
  refine p_v (v := .int .i64 ((zbj (at_ (zb4 p) t12)).length : Int)) rfl rfl rfl (x_len_own u39 rfl (e_len_own S17 (j := 2) rfl)) <| p_v (v := .int .i64 (min (max k 0) ((zbj (at_ (zb4 p) t12)).length : Int))) rfl rfl rfl (x_min rfl rfl) ?_
  obtain ⟨v19, r19, T19⟩ := e_slice_hi (q := min (max k 0) ((zbj (at_ (zb4 p) t12)).length : Int)) (kk := .i64) S17 u39 ty5 (j := 2) rfl (by omega) (by omega)
  have S20 := T19.fx 2 (row 5 (Kd.int .u8) v19 ((zbj (at_ (zb4 p) t12)).take (min (max k 0) ((zbj (at_ (zb4 p) t12)).length : Int)).toNat)) rfl
  dsimp only [lAa, lAn, lA0, lAs] at S20
  refine p_v (v := v19) rfl rfl rfl (x_slice (lv := none) (hv := some (.int .i64 (min (max k 0) ((zbj (at_ (zb4 p) t12)).length : Int)))) rfl rfl rfl r19) ?_
  obtain ⟨A21, c21, ev21, lc21, cm21⟩ := S20.row_val (j := 2) rfl
  refine p_c rfl rfl rfl (za2 (args := [.slice A21 ((zbj (at_ (zb4 p) t12)).take (min (max k 0) ((zbj (at_ (zb4 p) t12)).length : Int)).toNat).length c21]) ca135 rfl (zdv ev21 rfl)) (clone_calls w16 ((zbj (at_ (zb4 p) t12)).take (min (max k 0) ((zbj (at_ (zb4 p) t12)).length : Int)).toNat) A21 c21 (And.intro lc21 cm21) (zcz S20 (j := 2) rfl ev21) (by first | omega | exact least_small _ _)) ?_
  rintro v22_0 w22 ⟨h22, _, T22, rfl⟩
  obtain ⟨k22, lk22, ll22, U22⟩ := zcl S20 T22
  have lc22_0 := (lc16_0).trans lk22
  have lc22_1 := (lc16_1).trans lk22
  have lc22_2 := (lc16_2).trans lk22
  have lc22_3 := (lk16).trans lk22
  have S23 := U22
  dsimp only [lAa, lAn, lA0, lAs] at S23
  obtain ⟨h25, le25, T25, rp25⟩ := S23.freeze (i := 3) rfl
  have lf25_0 := (lc22_0).trans le25
  have lf25_1 := (lc22_1).trans le25
  have lf25_2 := (lc22_2).trans le25
  have lf25_3 := (lc22_3).trans le25
  have lf25_4 := (lk22).trans le25
  have S26 := T25.fx 3 (emp) rfl
  dsimp only [lAa, lAn, lA0, lAs] at S26
  obtain ⟨A25, c25, e25, lc25, cm25, ld25⟩ := rp25
  injection e25 with e25 _; subst e25
  have cn25 := cm25; simp only [maxLen] at cn25
  obtain ⟨v24, w24, r24, g24, T24⟩ := za6 (kd := (Kd.int .u8).slice) (xs := ([((zbj (at_ (zb4 p) t12)).take (min (max k 0) ((zbj (at_ (zb4 p) t12)).length : Int)).toNat)] : List (List Int))) (len := 1) [.slice A25 ((zbj (at_ (zb4 p) t12)).take (min (max k 0) ((zbj (at_ (zb4 p) t12)).length : Int)).toNat).length c25] S26 u124 ty39 rfl rfl rfl rfl rfl (zbs rfl zcc) [.slice A25 ((zbj (at_ (zb4 p) t12)).take (min (max k 0) ((zbj (at_ (zb4 p) t12)).length : Int)).toNat).length c25] (zb5.single (k := (Kd.int .u8).slice) (h := h25) (x := ((zbj (at_ (zb4 p) t12)).take (min (max k 0) ((zbj (at_ (zb4 p) t12)).length : Int)).toNat)) (cs := [.slice A25 ((zbj (at_ (zb4 p) t12)).take (min (max k 0) ((zbj (at_ (zb4 p) t12)).length : Int)).toNat).length c25]) ⟨_, _, rfl, (And.intro lc25 cm25).1, (And.intro lc25 cm25).2, ld25.mono (Le.refl _)⟩) rfl
  have S27 := T24
  dsimp only [lAa, lAn, lA0, lAs] at S27
  refine p_v (v := v24) rfl rfl rfl (zax (pv := [(0, .slice A25 ((zbj (at_ (zb4 p) t12)).take (min (max k 0) ((zbj (at_ (zb4 p) t12)).length : Int)).toNat).length c25)]) rfl r24) ?_
  obtain ⟨A29, c29, ev29, lc29, cm29⟩ := S27.row_val (j := 4) rfl
  obtain ⟨v30, w30, r30, g30, T30⟩ := zcw (kd := (Kd.int .u8).slice) (A := A29) (c := c29) (ys := ([((zbj (at_ (zb4 p) t12)).take (min (max k 0) ((zbj (at_ (zb4 p) t12)).length : Int)).toNat)] : List (List Int))) (len := ([((zbj (at_ (zb4 p) t12)).take (min (max k 0) ((zbj (at_ (zb4 p) t12)).length : Int)).toNat)] : List (List Int)).length) 124 S27 u124 ty39 rfl rfl (j := 0) rfl rfl (zdb S27 (j := 4) rfl ev29) (by first|omega|(simp;omega)|assumption) (by first|omega|(simp;omega)|assumption)
  have S31 := T30.fx 0 (row 39 (Kd.int .u8).slice v30 (out ++ ([((zbj (at_ (zb4 p) t12)).take (min (max k 0) ((zbj (at_ (zb4 p) t12)).length : Int)).toNat)] : List (List Int)))) rfl
  dsimp only [lAa, lAn, lA0, lAs] at S31
  refine p_v (v := v30) rfl rfl rfl (zcv rfl ev29 r30) <| p_v (v := v30) rfl rfl rfl (zag rfl) <| zaa <| zas <| zae (l := [0, 1]) rfl <| p_v (v := .int .i64 (t12 + 1)) rfl rfl rfl (zc7 r9_12 rfl (zal (by omega) (by omega))) <| p_v (v := .int .i64 (t12 + 1)) rfl rfl rfl (zah rfl) <| zaa ?_
  refine ih9 (out ++ ([((zbj (at_ (zb4 p) t12)).take (min (max k 0) ((zbj (at_ (zb4 p) t12)).length : Int)).toNat)] : List (List Int)), t12 + 1) _ _ (by dsimp only; omega) ⟨h25, v30, lf25_2, S31.sub [0] (by decide) rfl _ rfl, r9_1, rfl, r9_10, r9_11, rfl, (zal (by omega) (by omega)), (by exact ⟨by omega, by omega, by rw [hI9.2.2]; exact leastTo_step p k hI9.1 (by omega)⟩)⟩
 refine zbv rfl <| zac <| zae (l := [0, 1]) rfl <| p_v (v := v_out) rfl rfl rfl (zah r9_5) <| p_v (v := v_out) rfl rfl rfl (zag rfl) <| zaa <| zar Tryd.func86 (res1 rfl (zaw (v := v_out) rfl)) ?_
 have q0 : (zb1 p k : List (List Int)) = out := by
  rw [hI9.2.2]; exact leastTo_end p k (by omega)
 refine ⟨_, rfl, h9, v_out, ?_, ?_⟩
 · rw [q0]; exact S9.sub [0] (by decide) rfl _ rfl
 · rfl
end Go.Proofs.YtfoemogojbnfhaaDoor
namespace Go.Proofs.YtfoemogojbnfhaaDoor
open Go Go.RowKit Gx
set_option maxHeartbeats 1000000
set_option linter.unusedVariables false
set_option linter.unusedSimpArgs false
set_option maxRecDepth 8000
attribute [local irreducible] zbj count first someIn has zbd wbits Lib.ctz partOf zcu zb4 zb1 zc8 zdr splitP
theorem cut_calls (w : World) (x : BSet) (p1 : BSet) (a1 : Addr) (pc1 : ∀ j v, (zaf p1)[j]? = some v → gcell (hp w) (a1.add j) = some v) :
    Calls Tryd.prog 136 #[.agg (zaf x).toArray, .pointer (some a1)] w fun e w' => ∃ v, e = .returned v ∧ ∃ (hn : Ghost), St w.heap.size w hn w' [] ∧ v = .bool (cuts x p1) := by
 refine zak Tryd.func136 rfl Tryd.ntmps136 rfl ?_
 have S0 := St.init w
 refine zac <| zae (l := [0, 1]) rfl ?_
 obtain ⟨b1, w1, r1, g1, T1⟩ := zcb (P := Tryd.prog) S0 74 (v := .agg (zaf x).toArray) (zaf x) rfl
 have S2 := T1
 dsimp only [lAa, lAn, lA0, lAs] at S2
 refine p_v (v := .pointer (some ⟨b1, 0, none⟩)) rfl rfl rfl (zdo rfl r1) <| p_v (v := .bool false) rfl rfl rfl (zag rfl) <| zaa <| zac <| zae (l := [0, 1, 2, 3, 4]) rfl <| p_v (v := .agg (zaf x).toArray) rfl rfl rfl (zaj (seg := (zaf x)) ty74 rfl (by simp) rfl (CF.box (m := 4) (S2.box_at (j := 0) rfl) rfl)) <| p_v (v := .agg (zaf p1).toArray) rfl rfl rfl (zaj (seg := (zaf p1)) ty74 rfl (by simp) rfl (CF.ghost pc1 (St.le0 S2))) <| p_c rfl rfl rfl (za2 (args := [.agg (zaf x).toArray, .agg (zaf p1).toArray]) ca137 rfl rfl) (and_calls w1 x p1) ?_
 rintro _ w3 ⟨h3, T3, rfl⟩
 have S4 := S2.keep (Chg.of_below T3.below)
 obtain ⟨b5, w5, r5, g5, T5⟩ := zcb (P := Tryd.prog) S4 74 (v := (.agg #[.int .u64 0, .int .u64 0, .int .u64 0, .int .u64 0])) (zaf (0 : BSet)) rfl
 have S6 := T5
 dsimp only [lAa, lAn, lA0, lAs] at S6
 refine p_v (v := .pointer (some ⟨b5, 0, none⟩)) rfl rfl rfl (zch ty74 r5) ?_
 obtain ⟨w7, r7, g7, T7⟩ := zb9 (P := Tryd.prog) (off := 0) (v := .agg (zaf (x &&& p1)).toArray) (vs := (zaf (x &&& p1))) S6 ty74 rfl rfl (j := 1) rfl (by first | decide | exact Nat.le_of_ble_eq_true rfl) (zdn _)
 have S8 := T7.fx 1 (box b5 74 (zaf (x &&& p1))) rfl
 dsimp only [lAa, lAn, lA0, lAs] at S8
 refine p_s rfl rfl (za7 rfl rfl r7) <| zaa <| zac <| zae (l := [0, 1, 2, 3, 4, 5, 6, 7, 8]) rfl <| p_v (v := .agg (zaf (x &&& p1)).toArray) rfl rfl rfl (zaj (seg := (zaf (x &&& p1))) ty74 rfl (by simp) rfl (CF.box (m := 4) (S8.box_at (j := 1) rfl) rfl)) <| p_v (v := .agg (zaf x).toArray) rfl rfl rfl (zaj (seg := (zaf x)) ty74 rfl (by simp) rfl (CF.box (m := 4) (S8.box_at (j := 0) rfl) rfl)) <| p_v (v := .bool (decide ((x &&& p1) ≠ x))) rfl rfl rfl (x_neq_set u74 u56 ty56 q74 rfl rfl) <| p_v (v := .bool (decide ((x &&& p1) ≠ x))) rfl rfl rfl (zah rfl) ?_
 by_cases hc9 : (x &&& p1) ≠ x
 ·skip
  refine p_v (v := .agg (zaf (x &&& p1)).toArray) rfl (wo 3 11 rfl rfl (bT hc9) rfl) rfl (zaj (seg := (zaf (x &&& p1))) ty74 rfl (by simp) rfl (CF.box (m := 4) (S8.box_at (j := 1) rfl) rfl)) <| p_v (v := .agg (zaf (0 : BSet)).toArray) rfl (wo 3 11 rfl rfl (bT hc9) rfl) rfl (zd9 (pv := []) rfl (run_build_array u74 ty56 ty74 (cs := (zaf (0 : BSet))) (by rfl))) <| p_v (v := .bool (decide ((x &&& p1) ≠ (0 : BSet)))) rfl (wo 3 11 rfl rfl (bT hc9) rfl) rfl (x_neq_set u74 u56 ty56 q74 rfl rfl) <| p_v (v := .bool (decide ((x &&& p1) ≠ (0 : BSet)))) rfl rfl rfl (zby (bT hc9) rfl) <| p_v (v := .bool (decide ((x &&& p1) ≠ (0 : BSet)))) rfl rfl rfl (zag rfl) <| zaa <| zar Tryd.func136 (res1 rfl (zaw (v := .bool (decide ((x &&& p1) ≠ (0 : BSet)))) rfl)) ?_
  have q0 : (cuts x p1 : Bool) = decide ((x &&& p1) ≠ (0 : BSet)) := by
   unfold cuts; simp [*]
  refine ⟨_, rfl, (fun _ => none), ?_, ?_⟩
  · exact S8.sub [] (by decide) rfl _ rfl
  · first | rfl | (simp only [q0]; rfl) | (simp only [q0])
 refine zbi rfl (wo 3 11 rfl rfl (bF hc9) rfl) rfl <| zbi rfl (wo 3 11 rfl rfl (bF hc9) rfl) rfl <| zbi rfl (wo 3 11 rfl rfl (bF hc9) rfl) rfl <| p_v (v := .bool false) rfl rfl rfl (zc2 (bF hc9) rfl) <| p_v (v := .bool false) rfl rfl rfl (zag rfl) <| zaa <| zar Tryd.func136 (res1 rfl (zaw (v := .bool false) rfl)) ?_
 have q0 : (cuts x p1 : Bool) = false := by
  unfold cuts; simp [*]
 refine ⟨_, rfl, (fun _ => none), ?_, ?_⟩
 · exact S8.sub [] (by decide) rfl _ rfl
 · (simp only [q0])
theorem index_calls (w : World) (s : List BSet) (A0 : Option Addr) (c0 : Nat) (b0 : s.length ≤ c0 ∧ c0 ≤ maxLen) (l0 : zbo kSet (hp w) A0 s) (f : BSet) (a1 : Addr) (pc1 : ∀ j v, (zaf f)[j]? = some v → gcell (hp w) (a1.add j) = some v) :
    Calls Tryd.prog 160 #[.slice A0 s.length c0, .func (.func 136) #[] #[.pointer (some a1)]] w fun e w' => ∃ v, e = .returned v ∧ ∃ (hn : Ghost), St w.heap.size w hn w' [] ∧ v = .int .i64 (place (fun x => cuts x f) s) ∧ inK .i64 (place (fun x => cuts x f) s) := by
 refine zak Tryd.func160 rfl Tryd.ntmps160 rfl ?_
 have S0 := St.init w
 have bb0 := b0.1; have bc0 := b0.2; simp only [maxLen] at bc0
 refine zac <| zae (l := [0]) rfl <| p_v (v := .int .i64 0) rfl rfl rfl (zag rfl) <| zaa <| zac <| zac <| zae (l := [0, 1, 2]) rfl <| p_v (v := .slice A0 s.length c0) rfl rfl rfl (zah rfl) <| p_v (v := .int .i64 (s.length : Int)) rfl rfl rfl (za0 u62 rfl) <| p_v (v := .int .i64 0) rfl rfl rfl (zah rfl) <| zaa <| zaq ?_
 refine zbu (S := Int) (fun (q_ : Int) ρ w' => match q_ with | t8 => ∃ (h : Ghost), Le (fun _ => none) h ∧ St w.heap.size w h w' [] ∧ ρ 0 = .slice A0 s.length c0 ∧ ρ 1 = .func (.func 136) #[] #[.pointer (some a1)] ∧ ρ 7 = .int .i64 (s.length : Int) ∧ ρ 8 = .int .i64 t8 ∧ inK .i64 t8 ∧ (0 ≤ t8 ∧ t8 ≤ (s.length : Int) ∧ place (fun x => cuts x f) s = zd7 (fun x => cuts x f) (s.drop t8.toNat) t8)) (fun q_ => match q_ with | t8 => (s.length - t8).toNat) (0) ⟨(fun _ => none), Le.refl _, S0.sub [] (by decide) rfl _ rfl, rfl, rfl, rfl, rfl, (zal (by omega) (by omega)), (by exact ⟨by omega, by omega, rfl⟩)⟩ ?_
 rintro t8 ih1 ρ1 w1 ⟨h1, le1, S1, r1_0, r1_1, r1_7, r1_8, f1_0, hI1⟩
 have lf1_0 := zbb f1_0; have hf1_0 := zbc f1_0
 refine zac <| zae (l := [0]) rfl <| p_v (v := .bool (decide (t8 < (s.length : Int)))) rfl rfl rfl (zdy r1_8 r1_7) <| zaa <| zac ?_
 refine zan (p := t8 < (s.length : Int)) rfl (fun hc2 => ?_) (fun hc2 => ?_)
 ·skip
  refine zau <| zac <| zaq <| zac <| zae (l := [0, 1]) rfl <| p_v (v := .int .i64 t8) rfl rfl rfl (zah r1_8) <| p_v (v := .int .i64 t8) rfl rfl rfl (zag rfl) <| zaa <| zac <| zae (l := [0, 1, 2, 3, 4, 5]) rfl <| p_v (v := .func (.func 136) #[] #[.pointer (some a1)]) rfl rfl rfl (zah r1_1) <| p_v (v := .slice A0 s.length c0) rfl rfl rfl (zah r1_0) ?_
  refine p_v (v := .int .i64 t8) rfl rfl rfl (zah rfl) ?_
  obtain ⟨ad3, seg3, a3, rp3, ce3⟩ := za9 (q := t8) (m := 4) l0 rfl (by omega) (by omega)
  refine p_v (v := .pointer (some ad3)) rfl rfl rfl (za8 u62 ty74 rfl rfl a3 (by omega) (by omega)) ?_
  obtain ⟨rfl, ok3⟩ := rp3
  refine p_v (v := .agg (zaf (at_ s t8)).toArray) rfl rfl rfl (zaj (seg := (zaf (at_ s t8))) ty74 rfl (by simp) rfl (CF.ghost ce3 (St.le0 S1))) <| p_c rfl rfl rfl (za2 (args := [.agg (zaf (at_ s t8)).toArray, .pointer (some a1)]) ca136 rfl rfl) (cut_calls w1 (at_ s t8) f a1 (fun j v h => gcell_mono (St.le0 S1) (pc1 j v h))) ?_
  rintro _ w4 ⟨h4, T4, rfl⟩
  have S5 := S1.keep (Chg.of_below T4.below)
  refine zaa ?_
  refine zb0 (b := cuts (at_ s t8) f) rfl (fun hc6 => ?_) (fun hc6 => ?_)
  ·skip
   refine zac <| zae (l := [0, 1]) rfl <| p_v (v := .int .i64 t8) rfl rfl rfl (zah rfl) <| p_v (v := .int .i64 t8) rfl rfl rfl (zag rfl) <| zaa <| zar Tryd.func160 (res1 rfl (zaw (v := .int .i64 t8) rfl)) ?_
   have q0 : (place (fun x => cuts x f) s : Int) = t8 := by
    rw [hI1.2.2, placeFrom_drop _ _ hI1.1 (by omega), if_pos (by assumption)]
   refine ⟨_, rfl, h1, ?_, ?_, ?_⟩
   · exact S5.sub [] (by decide) rfl _ rfl
   · first | rfl | (simp only [q0]; rfl) | (simp only [q0])
   · rw [q0]; exact f1_0
  refine zau <| zas <| zae (l := [0, 1]) rfl <| p_v (v := .int .i64 (t8 + 1)) rfl rfl rfl (zc7 r1_8 rfl (zal (by omega) (by omega))) <| p_v (v := .int .i64 (t8 + 1)) rfl rfl rfl (zah rfl) <| zaa ?_
  refine ih1 (t8 + 1) _ _ (by dsimp only; omega) ⟨h1, le1, S5.sub [] (by decide) rfl _ rfl, r1_0, r1_1, r1_7, rfl, (zal (by omega) (by omega)), (by exact ⟨by omega, by omega, by rw [hI1.2.2, placeFrom_drop _ _ hI1.1 (by omega), if_neg (by simp [*])]⟩)⟩
 refine zbv rfl <| zac <| zae (l := [0]) rfl <| p_v (v := .int .i64 (-1)) rfl rfl rfl (zag rfl) <| zaa <| zar Tryd.func160 (res1 rfl (zaw (v := .int .i64 (-1)) rfl)) ?_
 have q0 : (place (fun x => cuts x f) s : Int) = (-1) := by
  rw [hI1.2.2, List.drop_of_length_le (by omega)]; rfl
 refine ⟨_, rfl, h1, ?_, ?_, ?_⟩
 · exact S1.sub [] (by decide) rfl _ rfl
 · first | rfl | (simp only [q0]; rfl) | (simp only [q0])
 · rw [q0]; exact (zal (by omega) (by omega))
theorem contains_calls (w : World) (s : List BSet) (A0 : Option Addr) (c0 : Nat) (b0 : s.length ≤ c0 ∧ c0 ≤ maxLen) (l0 : zbo kSet (hp w) A0 s) (f : BSet) (a1 : Addr) (pc1 : ∀ j v, (zaf f)[j]? = some v → gcell (hp w) (a1.add j) = some v) :
    Calls Tryd.prog 131 #[.slice A0 s.length c0, .func (.func 136) #[] #[.pointer (some a1)]] w fun e w' => ∃ v, e = .returned v ∧ ∃ (hn : Ghost), St w.heap.size w hn w' [] ∧ v = .bool (s.any fun x => cuts x f) := by
 refine zak Tryd.func131 rfl Tryd.ntmps131 rfl ?_
 have S0 := St.init w
 have bb0 := b0.1; have bc0 := b0.2; simp only [maxLen] at bc0
 refine zac <| zae (l := [0]) rfl <| p_v (v := .bool false) rfl rfl rfl (zag rfl) <| zaa <| zac <| zae (l := [0, 1, 2, 3, 4]) rfl <| p_v (v := .slice A0 s.length c0) rfl rfl rfl (zah rfl) <| p_v (v := .func (.func 136) #[] #[.pointer (some a1)]) rfl rfl rfl (zah rfl) <| p_c rfl rfl rfl (za2 (args := [.slice A0 s.length c0, .func (.func 136) #[] #[.pointer (some a1)]]) ca160 rfl rfl) (index_calls w s A0 c0 b0 (l0.mono (St.le0 S0)) f a1 (fun j v h => gcell_mono (St.le0 S0) (pc1 j v h))) ?_
 rintro _ w1 ⟨h1, T1, rfl, in1_0⟩
 have S2 := S0.keep (Chg.of_below T1.below)
 have lo_in1_0 := zbb in1_0; have hi_in1_0 := zbc in1_0
 refine p_v (v := .bool (decide (0 ≤ (place (fun x => cuts x f) s)))) rfl rfl rfl (x_geq rfl rfl) <| p_v (v := .bool (decide (0 ≤ (place (fun x => cuts x f) s)))) rfl rfl rfl (zag rfl) <| zaa <| zar Tryd.func131 (res1 rfl (zaw (v := .bool (decide (0 ≤ (place (fun x => cuts x f) s)))) rfl)) ?_
 have q0 : (s.any fun x => cuts x f : Bool) = decide (0 ≤ (place (fun x => cuts x f) s)) := by
  exact (place_any _ _).symm
 refine ⟨_, rfl, (fun _ => none), ?_, ?_⟩
 · exact S2.sub [] (by decide) rfl _ rfl
 · (simp only [q0])
theorem splits_calls (w : World) (p : PartM) (o0 : zbx p) (s : BSet) :
    Calls Tryd.prog 89 #[.agg (zab p).toArray, .agg (zaf s).toArray] w fun e w' => ∃ v, e = .returned v ∧ ∃ (hn : Ghost), St w.heap.size w hn w' [] ∧ v = .bool (zdr p s) := by
 refine zak Tryd.func89 rfl Tryd.ntmps89 rfl ?_
 have S0 := St.init w
 have ploo0 := zbb o0.2; have phio0 := zbc o0.2
 refine zac <| zae (l := [0, 1, 2]) rfl ?_
 obtain ⟨b1, w1, r1, g1, T1⟩ := zcb (P := Tryd.prog) S0 32 (v := .agg (zab p).toArray) (zab p) rfl
 have S2 := T1
 dsimp only [lAa, lAn, lA0, lAs] at S2
 refine p_v (v := .pointer (some ⟨b1, 0, none⟩)) rfl rfl rfl (zdo rfl r1) ?_
 obtain ⟨b3, w3, r3, g3, T3⟩ := zcb (P := Tryd.prog) S2 74 (v := .agg (zaf s).toArray) (zaf s) rfl
 have S4 := T3
 dsimp only [lAa, lAn, lA0, lAs] at S4
 refine p_v (v := .pointer (some ⟨b3, 0, none⟩)) rfl rfl rfl (zdo rfl r3) <| p_v (v := .bool false) rfl rfl rfl (zag rfl) <| zaa <| zac <| zae (l := [0, 1, 2, 3, 4]) rfl <| p_v (v := .agg (zab p).toArray) rfl rfl rfl (zaj (seg := (zab p)) ty32 (zad o0) (by simp) rfl (CF.box (m := 257) (S4.box_at (j := 0) rfl) (by rw [List.drop_zero, List.take_of_length_le (by rw [zad o0]; exact Nat.le_refl _)]))) <| p_c rfl rfl rfl (za2 (args := [.agg (zab p).toArray]) ca134 rfl rfl) (sets_calls w3 p o0) ?_
 rintro v5_0 w5 ⟨h5, _, T5, rfl⟩
 obtain ⟨k5, lk5, ll5, U5⟩ := zcl S4 T5
 have S6 := U5
 dsimp only [lAa, lAn, lA0, lAs] at S6
 obtain ⟨h7, le7, T7, rp7⟩ := S6.freeze (i := 2) rfl
 have lf7_0 := (lk5).trans le7
 have S8 := T7.fx 2 (emp) rfl
 dsimp only [lAa, lAn, lA0, lAs] at S8
 obtain ⟨A7, c7, e7, lc7, cm7, ld7⟩ := rp7
 injection e7 with e7 _; subst e7
 have cn7 := cm7; simp only [maxLen] at cn7
 refine p_v (v := .func (.func 136) #[] #[.pointer (some ⟨b3, 0, none⟩)]) rfl rfl rfl (y_makeFunc (fv := []) (cv := [.pointer (some ⟨b3, 0, none⟩)]) rfl rfl) <| p_c rfl rfl rfl (za2 (args := [.slice A7 (zb4 p).length c7, .func (.func 136) #[] #[.pointer (some ⟨b3, 0, none⟩)]]) ca131 rfl rfl) (contains_calls w5 (zb4 p) A7 c7 (And.intro lc7 cm7) (ld7.mono ((Le.refl _).trans S8.ghost)) s ⟨b3, 0, none⟩ (zd8 (S8.box_at (j := 1) rfl))) ?_
 rintro _ w9 ⟨h9, T9, rfl⟩
 have S10 := S8.keep (Chg.of_below T9.below)
 refine p_v (v := .bool ((zb4 p).any fun x => cuts x s)) rfl rfl rfl (zag rfl) <| zaa <| zar Tryd.func89 (res1 rfl (zaw (v := .bool ((zb4 p).any fun x => cuts x s)) rfl)) ?_
 have q0 : (zdr p s : Bool) = (zb4 p).any fun x => cuts x s := by
  unfold zdr; rfl
 refine ⟨_, rfl, h7, ?_, ?_⟩
 · exact S10.sub [] (by decide) rfl _ rfl
 · (simp only [q0])
end Go.Proofs.YtfoemogojbnfhaaDoor
namespace Gx
open Go Go.RowKit
set_option linter.unusedSimpArgs false
set_option linter.unusedSectionVars false
set_option linter.unusedVariables false
deriving instance DecidableEq for Mach
def allTo (p : Nat → Bool) (t : Int) : Bool := (List.range t.toNat).all p
theorem allTo_0 (p : Nat → Bool) : allTo p 0 = true := rfl
theorem allTo_step {p : Nat → Bool} {t : Int} (h0 : 0 ≤ t) (h : allTo p t = true) (hp : p t.toNat = true) : allTo p (t + 1) = true := by
  unfold allTo at h ⊢
  rw [show (t + 1).toNat = t.toNat + 1 by omega, List.range_succ, List.all_append, h]; simp [hp]
theorem allTo_no {p : Nat → Bool} {t n : Int} (h0 : 0 ≤ t) (h1 : t < n) (hp : p t.toNat = false) : allTo p n = false := by
  unfold allTo
  rw [List.all_eq_false]
  exact ⟨t.toNat, List.mem_range.2 (by omega), by simp [hp]⟩
theorem allTo_iff {p : Nat → Bool} {n : Int} : allTo p n = true ↔ ∀ i : Nat, ((i : Nat) : Int) < n → p i = true := by
  unfold allTo
  rw [List.all_eq_true]
  exact ⟨fun h i hi => h i (List.mem_range.2 (by omega)), fun h i hi => h i (by have := List.mem_range.1 hi; omega)⟩
theorem drop_cons {α : Type} [Inhabited α] (l : List α) {t : Int} (h0 : 0 ≤ t) (h1 : t < (l.length : Int)) : l.drop t.toNat = at_ l t :: l.drop (t + 1).toNat := by
  rw [show (t + 1).toNat = t.toNat + 1 by omega]
  have h2 := zda h0 h1
  obtain ⟨hl, e⟩ := List.getElem?_eq_some_iff.1 h2
  rw [List.drop_eq_getElem_cons hl, e]
theorem drop_end {α : Type} (l : List α) {t : Int} (h1 : (l.length : Int) ≤ t) : l.drop t.toNat = [] := List.drop_of_length_le (by omega)
def zdz (b last : Int) : List Int → Bool
  | [] => true
  | n :: r => decide (last < n) && decide (n < b) && zdz b n r
theorem rises_nil (b last : Int) : zdz b last [] = true := rfl
theorem rises_step {b last : Int} (l : List Int) {t : Int} (h0 : 0 ≤ t) (h1 : t < (l.length : Int)) : zdz b last (l.drop t.toNat) = (decide (last < at_ l t) && decide (at_ l t < b) && zdz b (at_ l t) (l.drop (t + 1).toNat)) := by
  rw [drop_cons l h0 h1]; rfl
theorem rises_lt {b : Int} : ∀ {last : Int} {l : List Int}, zdz b last l = true → ∀ x ∈ l, last < x ∧ x < b
  | last, [], h, x, hx => by cases hx
  | last, n :: r, h, x, hx => by
    unfold zdz at h
    simp only [Bool.and_eq_true, decide_eq_true_eq] at h
    rcases List.mem_cons.1 hx with e | e
    · subst e; exact h.1
    · have := rises_lt h.2 x e; omega
def rowOk (m : Mach) (i : Nat) : Bool := decide ((at_ m.spots ((i : Nat) : Int)).tag ≤ 2) && zdz m.spots.length (-1) (at_ m.follow ((i : Nat) : Int))
def zci (m : Mach) : Bool := decide ((m.spots.length : Int) ≤ 250) && (decide ((m.follow.length : Int) = m.spots.length) && (decide ((m.last.length : Int) = m.spots.length) && (zdz m.spots.length (-1) m.first && allTo (rowOk m) m.spots.length)))
theorem right_no1 (m : Mach) (h : (250 : Int) < (m.spots.length : Int)) : zci m = false := by unfold zci; rw [decide_eq_false (by omega)]; rfl
theorem right_no2 (m : Mach) (h : (m.follow.length : Int) ≠ (m.spots.length : Int)) : zci m = false := by unfold zci; rw [decide_eq_false h]; simp
theorem right_no3 (m : Mach) (h : (m.last.length : Int) ≠ (m.spots.length : Int)) : zci m = false := by unfold zci; rw [decide_eq_false h]; simp
theorem right_no4 (m : Mach) (h : zdz m.spots.length (-1) m.first = false) : zci m = false := by unfold zci; rw [h]; simp
theorem right_no5 (m : Mach) {i : Int} (h0 : 0 ≤ i) (h1 : i < (m.spots.length : Int)) (h : 2 < (at_ m.spots i).tag) : zci m = false := by
  unfold zci; rw [allTo_no h0 h1 (by unfold rowOk; rw [Int.toNat_of_nonneg h0, decide_eq_false (by omega)]; rfl)]; simp
theorem right_no6 (m : Mach) {i : Int} (h0 : 0 ≤ i) (h1 : i < (m.spots.length : Int)) (h : zdz m.spots.length (-1) (at_ m.follow i) = false) : zci m = false := by
  unfold zci; rw [allTo_no h0 h1 (by unfold rowOk; rw [Int.toNat_of_nonneg h0, h]; simp)]; simp
theorem right_ok (m : Mach) {t : Int} (ht : (m.spots.length : Int) = t) (h1 : ¬ (250 : Int) < (m.spots.length : Int)) (h2 : ¬ (m.follow.length : Int) ≠ (m.spots.length : Int)) (h3 : ¬ (m.last.length : Int) ≠ (m.spots.length : Int)) (h4 : zdz m.spots.length (-1) m.first = true) (h5 : allTo (rowOk m) t = true) : zci m = true := by
  unfold zci
  rw [decide_eq_true (by omega), decide_eq_true (by omega), decide_eq_true (by omega), h4, ht, h5]; rfl
structure Right (m : Mach) : Prop where
  small : (m.spots.length : Int) ≤ 250
  follow : (m.follow.length : Int) = m.spots.length
  last : (m.last.length : Int) = m.spots.length
  first : zdz m.spots.length (-1) m.first = true
  tag : ∀ i : Int, 0 ≤ i → i < (m.spots.length : Int) → (at_ m.spots i).tag ≤ 2
  row : ∀ i : Int, 0 ≤ i → i < (m.spots.length : Int) → zdz m.spots.length (-1) (at_ m.follow i) = true
theorem right_iff {m : Mach} : zci m = true ↔ Right m := by
  unfold zci
  simp only [Bool.and_eq_true, decide_eq_true_eq]
  constructor
  · rintro ⟨h1, h2, h3, h4, h5⟩
    have h6 := allTo_iff.1 h5
    have h7 : ∀ i : Int, 0 ≤ i → i < (m.spots.length : Int) → rowOk m i.toNat = true := fun i h0 h1 => h6 i.toNat (by omega)
    refine ⟨h1, h2, h3, h4, fun i h0 hi => ?_, fun i h0 hi => ?_⟩ <;> have h8 := h7 i h0 hi <;> unfold rowOk at h8 <;> rw [Int.toNat_of_nonneg h0] at h8 <;> simp only [Bool.and_eq_true, decide_eq_true_eq] at h8
    · exact h8.1
    · exact h8.2
  · intro h
    refine ⟨h.small, h.follow, h.last, h.first, allTo_iff.2 fun i hi => ?_⟩
    unfold rowOk
    rw [decide_eq_true (h.tag i (by omega) hi), h.row i (by omega) hi]; rfl
theorem Right.firsts {m : Mach} (h : Right m) : ∀ x ∈ m.first, 0 ≤ x ∧ x < (m.spots.length : Int) := fun x hx => by have := rises_lt h.first x hx; omega
theorem Right.rows {m : Mach} (h : Right m) {i : Int} (h0 : 0 ≤ i) (h1 : i < (m.spots.length : Int)) : ∀ x ∈ at_ m.follow i, 0 ≤ x ∧ x < (m.spots.length : Int) := fun x hx => by have := rises_lt (h.row i h0 h1) x hx; omega
def tab (n : Nat) (p : Nat → Bool) : List Bool := (List.range n).map p
theorem tab_at {n : Nat} {p : Nat → Bool} {i : Int} (h0 : 0 ≤ i) (h1 : i < (n : Int)) : at_ (tab n p) i = p i.toNat := zd1 p n h0 h1
def markP (n : Nat) (l : List Int) : List Bool := tab n fun i => decide (((i : Nat) : Int) ∈ l)
def intoP (m : Mach) (next : List Bool) (c : Int) : List Bool := tab m.spots.length fun i => at_ next ((i : Nat) : Int) && has (at_ m.spots ((i : Nat) : Int)).set c
def behindP (m : Mach) (at' : List Bool) : List Bool := tab m.spots.length fun k => anyTo (fun i => at_ at' ((i : Nat) : Int) && decide (((k : Nat) : Int) ∈ at_ m.follow ((i : Nat) : Int))) m.spots.length
def runTo (m : Mach) (w : ByteArray) : Nat → List Bool
  | 0 => intoP m (markP m.spots.length m.first) (byt w 0)
  | k + 1 => intoP m (behindP m (runTo m w k)) (byt w ((k + 1 : Nat) : Int))
def endsIn (m : Mach) (at' : List Bool) : Bool := anyTo (fun i => at_ at' ((i : Nat) : Int) && at_ m.last ((i : Nat) : Int)) m.spots.length
def runM (m : Mach) (w : ByteArray) : Bool := zci m && (if w.size = 0 then m.empty else endsIn m (runTo m w (w.size - 1)))
theorem bit_half (s : BSet) {c i : Int} (h0 : 0 ≤ c) (h1 : c < 256) (hi : i = c % 64) : decide ((at_ (zaz s) (c / 64) / 2 ^ i.toNat) % 2 = 1) = has s c := by
  subst hi
  have hb := bit_words s (i := c.toNat) (by omega)
  unfold has
  rw [← hb]
  unfold bitAt
  rw [show ((c.toNat / 64 : Nat) : Int) = c / 64 by omega, show c.toNat % 64 = (c % 64).toNat by omega]
  have hw : 0 ≤ at_ (zaz s) (c / 64) := zcf (zb2 (zcr s) (by omega) (by omega))
  obtain ⟨x, hx⟩ := Int.eq_ofNat_of_zero_le hw
  rw [hx, Int.toNat_natCast, Nat.testBit_eq_decide_div_mod_eq]
  apply decide_eq_decide.2
  have e : ((x : Int) / 2 ^ (c % 64).toNat) = ((x / 2 ^ (c % 64).toNat : Nat) : Int) := by
    rw [Int.natCast_ediv, Int.natCast_pow]; rfl
  rw [e]; omega
end Gx
namespace Go.Proofs.YtfoemogojbnfhaaDoor
open Go Go.RowKit Gx
set_option maxHeartbeats 1000000
set_option linter.unusedVariables false
set_option linter.unusedSimpArgs false
set_option maxRecDepth 8000
attribute [local irreducible] zbj count first someIn has zbd wbits Lib.ctz zdz zci rowOk tab markP intoP behindP runTo endsIn runM anyTo allTo
theorem rising_calls (w : World) (l : List Int) (A0 : Option Addr) (c0 : Nat) (b0 : l.length ≤ c0 ∧ c0 ≤ maxLen) (l0 : zbo (Kd.int .i64) (hp w) A0 l) (bound : Int) (i1 : inK .i64 bound) :
    Calls Tryd.prog 102 #[.slice A0 l.length c0, .int .i64 bound] w fun e w' => ∃ v, e = .returned v ∧ ∃ (hn : Ghost), St w.heap.size w hn w' [] ∧ v = .bool (zdz bound (-1) l) := by
 refine zak Tryd.func102 rfl Tryd.ntmps102 rfl ?_
 have S0 := St.init w
 have bb0 := b0.1; have bc0 := b0.2; simp only [maxLen] at bc0
 have lo1 := zbb i1; have hi1 := zbc i1
 refine zac <| zae (l := [0]) rfl <| p_v (v := .bool false) rfl rfl rfl (zag rfl) <| zaa <| zac <| zae (l := [0]) rfl <| p_v (v := .int .i64 (-1)) rfl rfl rfl (zag rfl) <| zaa <| zac <| zac <| zae (l := [0, 1, 2]) rfl <| p_v (v := .slice A0 l.length c0) rfl rfl rfl (zah rfl) ?_
 refine p_v (v := .int .i64 (l.length : Int)) rfl rfl rfl (za0 u23 rfl) <| p_v (v := .int .i64 0) rfl rfl rfl (zah rfl) <| zaa <| zaq <| zbu (S := Int × Int) (fun (q_ : Int × Int) ρ w' => match q_ with | (last, t10) => ∃ (h : Ghost), Le (fun _ => none) h ∧ St w.heap.size w h w' [] ∧ ρ 1 = .int .i64 bound ∧ ρ 5 = .int .i64 last ∧ ρ 8 = .slice A0 l.length c0 ∧ ρ 9 = .int .i64 (l.length : Int) ∧ ρ 10 = .int .i64 t10 ∧ inK .i64 last ∧ inK .i64 t10 ∧ (0 ≤ t10 ∧ t10 ≤ (l.length : Int) ∧ zdz bound (-1) l = zdz bound last (l.drop t10.toNat))) (fun q_ => match q_ with | (last, t10) => (l.length - t10).toNat) ((-1), 0) ⟨(fun _ => none), Le.refl _, S0.sub [] (by decide) rfl _ rfl, rfl, rfl, rfl, rfl, rfl, (zal (by omega) (by omega)), (zal (by omega) (by omega)), (by exact ⟨by omega, by omega, rfl⟩)⟩ ?_
 rintro ⟨last, t10⟩ ih1 ρ1 w1 ⟨h1, le1, S1, r1_1, r1_5, r1_8, r1_9, r1_10, f1_0, f1_1, hI1⟩
 have lf1_0 := zbb f1_0; have hf1_0 := zbc f1_0
 have lf1_1 := zbb f1_1; have hf1_1 := zbc f1_1
 refine zac <| zae (l := [0]) rfl <| p_v (v := .bool (decide (t10 < (l.length : Int)))) rfl rfl rfl (zdy r1_10 r1_9) <| zaa <| zac ?_
 refine zan (p := t10 < (l.length : Int)) rfl (fun hc2 => ?_) (fun hc2 => ?_)
 ·skip
  refine zau <| zac <| zaq <| zac <| zae (l := [0, 1, 2]) rfl ?_
  obtain ⟨ad3, seg3, a3, rp3, ce3⟩ := za9 (q := t10) (m := 1) l0 rfl (by omega) (by omega)
  refine p_v (v := .pointer (some ad3)) rfl rfl rfl (za8 u23 ty3 r1_8 r1_10 a3 (by omega) (by omega)) ?_
  obtain ⟨rfl, in3⟩ := rp3
  have lo3 := zbb in3; have hi3 := zbc in3
  refine p_v (v := .int .i64 (at_ l t10)) rfl rfl rfl (zaj (seg := [.int .i64 (at_ l t10)]) ty3 rfl (by simp) rfl (CF.ghost ce3 (St.le0 S1))) <| p_v (v := .int .i64 (at_ l t10)) rfl rfl rfl (zag rfl) <| zaa <| zac <| zac <| zae (l := [0, 1, 2, 3, 4, 5, 6, 7]) rfl <| p_v (v := .int .i64 (at_ l t10)) rfl rfl rfl (zah rfl) <| p_v (v := .int .i64 last) rfl rfl rfl (zah r1_5) <| p_v (v := .bool (decide ((at_ l t10) ≤ last))) rfl rfl rfl (x_leq rfl rfl) <| p_v (v := .bool (decide ((at_ l t10) ≤ last))) rfl rfl rfl (zah rfl) ?_
  by_cases hc4 : (at_ l t10) ≤ last
  ·skip
   refine zbi rfl (wo 3 17 rfl rfl (bT hc4) rfl) rfl <| zbi rfl (wo 3 17 rfl rfl (bT hc4) rfl) rfl <| zbi rfl (wo 3 17 rfl rfl (bT hc4) rfl) rfl <| p_v (v := .bool true) rfl rfl rfl (zby (bT hc4) rfl) <| zaa <| zc3 (b := true) rfl ?_
   simp only [if_true, if_false, Bool.false_eq_true]
   refine zac <| zae (l := [0]) rfl <| p_v (v := .bool false) rfl rfl rfl (zag rfl) <| zaa <| zar Tryd.func102 (res1 rfl (zaw (v := .bool false) rfl)) ?_
   have q0 : (zdz bound (-1) l : Bool) = false := by
    rw [hI1.2.2, rises_step l hI1.1 (by omega), decide_eq_false (by omega)]; rfl
   refine ⟨_, rfl, h1, ?_, ?_⟩
   · exact S1.sub [] (by decide) rfl _ rfl
   · first | rfl | (simp only [q0]; rfl) | (simp only [q0])
  refine p_v (v := .int .i64 (at_ l t10)) rfl (wo 3 17 rfl rfl (bF hc4) rfl) rfl (zah rfl) <| p_v (v := .int .i64 bound) rfl (wo 3 17 rfl rfl (bF hc4) rfl) rfl (zah r1_1) <| p_v (v := .bool (decide (bound ≤ (at_ l t10)))) rfl (wo 3 17 rfl rfl (bF hc4) rfl) rfl (x_geq rfl rfl) <| p_v (v := .bool (decide (bound ≤ (at_ l t10)))) rfl rfl rfl (zc2 (bF hc4) rfl) <| zaa ?_
  refine zan (p := bound ≤ (at_ l t10)) rfl (fun hc5 => ?_) (fun hc5 => ?_)
  ·skip
   refine zac <| zae (l := [0]) rfl <| p_v (v := .bool false) rfl rfl rfl (zag rfl) <| zaa <| zar Tryd.func102 (res1 rfl (zaw (v := .bool false) rfl)) ?_
   have q0 : (zdz bound (-1) l : Bool) = false := by
    rw [hI1.2.2, rises_step l hI1.1 (by omega), decide_eq_true (by omega), decide_eq_false (by omega)]; rfl
   refine ⟨_, rfl, h1, ?_, ?_⟩
   · exact S1.sub [] (by decide) rfl _ rfl
   · first | rfl | (simp only [q0]; rfl) | (simp only [q0])
  refine zau <| zae (l := [0, 1]) rfl <| p_v (v := .int .i64 (at_ l t10)) rfl rfl rfl (zah rfl) <| p_v (v := .int .i64 (at_ l t10)) rfl rfl rfl (zag rfl) <| zaa <| zas <| zae (l := [0, 1]) rfl <| p_v (v := .int .i64 (t10 + 1)) rfl rfl rfl (zc7 r1_10 rfl (zal (by omega) (by omega))) <| p_v (v := .int .i64 (t10 + 1)) rfl rfl rfl (zah rfl) <| zaa ?_
  refine ih1 (at_ l t10, t10 + 1) _ _ (by dsimp only; omega) ⟨h1, le1, S1.sub [] (by decide) rfl _ rfl, r1_1, rfl, r1_8, r1_9, rfl, (zal (by omega) (by omega)), (zal (by omega) (by omega)), (by exact ⟨by omega, by omega, by rw [hI1.2.2, rises_step l hI1.1 (by omega), decide_eq_true (by omega), decide_eq_true (by omega)]; rfl⟩)⟩
 refine zbv rfl <| zac <| zae (l := [0]) rfl <| p_v (v := .bool true) rfl rfl rfl (zag rfl) <| zaa <| zar Tryd.func102 (res1 rfl (zaw (v := .bool true) rfl)) ?_
 have q0 : (zdz bound (-1) l : Bool) = true := by
  rw [hI1.2.2, drop_end l (by omega), rises_nil]
 refine ⟨_, rfl, h1, ?_, ?_⟩
 · exact S1.sub [] (by decide) rfl _ rfl
 · (simp only [q0])
theorem rightN_calls (w : World) (m : Mach) (A0_0 : Option Addr) (c0_0 : Nat) (b0_0 : m.spots.length ≤ c0_0 ∧ c0_0 ≤ maxLen) (l0_0 : zbo kSpot (hp w) A0_0 m.spots) (A0_1 : Option Addr) (c0_1 : Nat) (b0_1 : m.first.length ≤ c0_1 ∧ c0_1 ≤ maxLen) (l0_1 : zbo (Kd.int .i64) (hp w) A0_1 m.first) (A0_2 : Option Addr) (c0_2 : Nat) (b0_2 : m.follow.length ≤ c0_2 ∧ c0_2 ≤ maxLen) (l0_2 : zbo (Kd.int .i64).slice (hp w) A0_2 m.follow) (A0_3 : Option Addr) (c0_3 : Nat) (b0_3 : m.last.length ≤ c0_3 ∧ c0_3 ≤ maxLen) (l0_3 : zbo Kd.bool (hp w) A0_3 m.last) :
    Calls Tryd.prog 37 #[.agg #[.slice A0_0 m.spots.length c0_0, .slice A0_1 m.first.length c0_1, .slice A0_2 m.follow.length c0_2, .slice A0_3 m.last.length c0_3, .bool m.empty]] w fun e w' => ∃ v, e = .returned v ∧ ∃ (hn : Ghost), St w.heap.size w hn w' [] ∧ v = .bool (zci m) := by
 refine zak Tryd.func37 rfl Tryd.ntmps37 rfl ?_
 have S0 := St.init w
 have bb0_0 := b0_0.1; have bc0_0 := b0_0.2; simp only [maxLen] at bc0_0
 have bb0_1 := b0_1.1; have bc0_1 := b0_1.2; simp only [maxLen] at bc0_1
 have bb0_2 := b0_2.1; have bc0_2 := b0_2.2; simp only [maxLen] at bc0_2
 have bb0_3 := b0_3.1; have bc0_3 := b0_3.2; simp only [maxLen] at bc0_3
 refine zac <| zae (l := [0, 1]) rfl ?_
 obtain ⟨b1, w1, r1, g1, T1⟩ := zcb (P := Tryd.prog) S0 27 (v := .agg #[.slice A0_0 m.spots.length c0_0, .slice A0_1 m.first.length c0_1, .slice A0_2 m.follow.length c0_2, .slice A0_3 m.last.length c0_3, .bool m.empty]) [.slice A0_0 m.spots.length c0_0, .slice A0_1 m.first.length c0_1, .slice A0_2 m.follow.length c0_2, .slice A0_3 m.last.length c0_3, .bool m.empty] rfl
 have S2 := T1
 dsimp only [lAa, lAn, lA0, lAs] at S2
 refine p_v (v := .pointer (some ⟨b1, 0, none⟩)) rfl rfl rfl (zdo rfl r1) <| p_v (v := .bool false) rfl rfl rfl (zag rfl) <| zaa <| zac <| zae (l := [0, 1, 2, 3]) rfl <| p_v (v := .pointer (some ⟨b1, 0, none⟩)) rfl rfl rfl (zao fd27_0 ty22 rfl rfl) <| p_v (v := .slice A0_0 m.spots.length c0_0) rfl rfl rfl (zaj (seg := [.slice A0_0 m.spots.length c0_0]) ty22 rfl (by simp) rfl (CF.box (m := 1) (S2.box_at (j := 0) rfl) rfl)) <| p_v (v := .int .i64 (m.spots.length : Int)) rfl rfl rfl (za0 u22 rfl) <| p_v (v := .int .i64 (m.spots.length : Int)) rfl rfl rfl (zag rfl) <| zaa <| zac <| zac ?_
 refine zae (l := [0, 1, 2, 3, 4, 5, 6, 7, 8, 9, 10, 11, 12, 13, 14, 15, 16, 17, 18, 19, 20, 21, 22]) rfl <| p_v (v := .int .i64 (m.spots.length : Int)) rfl rfl rfl (zah rfl) <| p_v (v := .bool (decide (250 < (m.spots.length : Int)))) rfl rfl rfl (x_gtr rfl rfl) <| p_v (v := .bool (decide (250 < (m.spots.length : Int)))) rfl rfl rfl (zah rfl) ?_
 by_cases hc3 : 250 < (m.spots.length : Int)
 ·skip
  refine zbi rfl (wo 2 11 rfl rfl (bT hc3) rfl) rfl <| zbi rfl (wo 2 11 rfl rfl (bT hc3) rfl) rfl <| zbi rfl (wo 2 11 rfl rfl (bT hc3) rfl) rfl <| zbi rfl (wo 2 11 rfl rfl (bT hc3) rfl) rfl <| zbi rfl (wo 2 11 rfl rfl (bT hc3) rfl) rfl <| p_v (v := .bool true) rfl rfl rfl (zby (bT hc3) rfl) <| p_v (v := .bool true) rfl rfl rfl (zah rfl) <| zbi rfl rfl rfl <| zbi rfl rfl rfl <| zbi rfl rfl rfl <| zbi rfl rfl rfl <| zbi rfl rfl rfl ?_
  refine p_v (v := .bool true) rfl rfl rfl (zby rfl rfl) <| p_v (v := .bool true) rfl rfl rfl (zah rfl) <| zbi rfl rfl rfl <| zbi rfl rfl rfl <| zbi rfl rfl rfl <| zbi rfl rfl rfl <| zbi rfl rfl rfl <| p_v (v := .bool true) rfl rfl rfl (zby rfl rfl) <| zaa <| zc3 (b := true) rfl ?_
  simp only [if_true, if_false, Bool.false_eq_true]
  refine zac <| zae (l := [0]) rfl <| p_v (v := .bool false) rfl rfl rfl (zag rfl) <| zaa <| zar Tryd.func37 (res1 rfl (zaw (v := .bool false) rfl)) ?_
  have q0 : (zci m : Bool) = false := by
   exact right_no1 m (by assumption)
  refine ⟨_, rfl, (fun _ => none), ?_, ?_⟩
  · exact S2.sub [] (by decide) rfl _ rfl
  · first | rfl | (simp only [q0]; rfl) | (simp only [q0])
 refine p_v (v := .pointer (some ⟨b1, 2, none⟩)) rfl (wo 2 11 rfl rfl (bF hc3) rfl) rfl (zao fd27_2 ty24 rfl rfl) <| p_v (v := .slice A0_2 m.follow.length c0_2) rfl (wo 2 11 rfl rfl (bF hc3) rfl) rfl (zaj (seg := [.slice A0_2 m.follow.length c0_2]) ty24 rfl (by simp) rfl (CF.box (m := 1) (S2.box_at (j := 0) rfl) rfl)) <| p_v (v := .int .i64 (m.follow.length : Int)) rfl (wo 2 11 rfl rfl (bF hc3) rfl) rfl (za0 u24 rfl) <| p_v (v := .int .i64 (m.spots.length : Int)) rfl (wo 2 11 rfl rfl (bF hc3) rfl) rfl (zah rfl) <| p_v (v := .bool (decide ((m.follow.length : Int) ≠ (m.spots.length : Int)))) rfl (wo 2 11 rfl rfl (bF hc3) rfl) rfl (x_neq rfl rfl) <| p_v (v := .bool (decide ((m.follow.length : Int) ≠ (m.spots.length : Int)))) rfl rfl rfl (zc2 (bF hc3) rfl) <| p_v (v := .bool (decide ((m.follow.length : Int) ≠ (m.spots.length : Int)))) rfl rfl rfl (zah rfl) ?_
 by_cases hc4 : (m.follow.length : Int) ≠ (m.spots.length : Int)
 ·skip
  refine zbi rfl (wo 9 18 rfl rfl (bT hc4) rfl) rfl <| zbi rfl (wo 9 18 rfl rfl (bT hc4) rfl) rfl <| zbi rfl (wo 9 18 rfl rfl (bT hc4) rfl) rfl <| zbi rfl (wo 9 18 rfl rfl (bT hc4) rfl) rfl <| zbi rfl (wo 9 18 rfl rfl (bT hc4) rfl) rfl <| p_v (v := .bool true) rfl rfl rfl (zby (bT hc4) rfl) <| p_v (v := .bool true) rfl rfl rfl (zah rfl) <| zbi rfl rfl rfl <| zbi rfl rfl rfl <| zbi rfl rfl rfl <| zbi rfl rfl rfl <| zbi rfl rfl rfl ?_
  refine p_v (v := .bool true) rfl rfl rfl (zby rfl rfl) <| zaa <| zc3 (b := true) rfl ?_
  simp only [if_true, if_false, Bool.false_eq_true]
  refine zac <| zae (l := [0]) rfl <| p_v (v := .bool false) rfl rfl rfl (zag rfl) <| zaa <| zar Tryd.func37 (res1 rfl (zaw (v := .bool false) rfl)) ?_
  have q0 : (zci m : Bool) = false := by
   exact right_no2 m (by assumption)
  refine ⟨_, rfl, (fun _ => none), ?_, ?_⟩
  · exact S2.sub [] (by decide) rfl _ rfl
  · first | rfl | (simp only [q0]; rfl) | (simp only [q0])
 refine p_v (v := .pointer (some ⟨b1, 3, none⟩)) rfl (wo 9 18 rfl rfl (bF hc4) rfl) rfl (zao fd27_3 ty25 rfl rfl) <| p_v (v := .slice A0_3 m.last.length c0_3) rfl (wo 9 18 rfl rfl (bF hc4) rfl) rfl (zaj (seg := [.slice A0_3 m.last.length c0_3]) ty25 rfl (by simp) rfl (CF.box (m := 1) (S2.box_at (j := 0) rfl) rfl)) <| p_v (v := .int .i64 (m.last.length : Int)) rfl (wo 9 18 rfl rfl (bF hc4) rfl) rfl (za0 u25 rfl) <| p_v (v := .int .i64 (m.spots.length : Int)) rfl (wo 9 18 rfl rfl (bF hc4) rfl) rfl (zah rfl) <| p_v (v := .bool (decide ((m.last.length : Int) ≠ (m.spots.length : Int)))) rfl (wo 9 18 rfl rfl (bF hc4) rfl) rfl (x_neq rfl rfl) <| p_v (v := .bool (decide ((m.last.length : Int) ≠ (m.spots.length : Int)))) rfl rfl rfl (zc2 (bF hc4) rfl) <| p_v (v := .bool (decide ((m.last.length : Int) ≠ (m.spots.length : Int)))) rfl rfl rfl (zah rfl) ?_
 by_cases hc5 : (m.last.length : Int) ≠ (m.spots.length : Int)
 ·skip
  refine zbi rfl (wo 16 25 rfl rfl (bT hc5) rfl) rfl <| zbi rfl (wo 16 25 rfl rfl (bT hc5) rfl) rfl <| zbi rfl (wo 16 25 rfl rfl (bT hc5) rfl) rfl <| zbi rfl (wo 16 25 rfl rfl (bT hc5) rfl) rfl <| zbi rfl (wo 16 25 rfl rfl (bT hc5) rfl) rfl <| p_v (v := .bool true) rfl rfl rfl (zby (bT hc5) rfl) <| zaa <| zc3 (b := true) rfl ?_
  simp only [if_true, if_false, Bool.false_eq_true]
  refine zac <| zae (l := [0]) rfl <| p_v (v := .bool false) rfl rfl rfl (zag rfl) <| zaa <| zar Tryd.func37 (res1 rfl (zaw (v := .bool false) rfl)) ?_
  have q0 : (zci m : Bool) = false := by
   exact right_no3 m (by assumption)
  refine ⟨_, rfl, (fun _ => none), ?_, ?_⟩
  · exact S2.sub [] (by decide) rfl _ rfl
  · first | rfl | (simp only [q0]; rfl) | (simp only [q0])
 refine p_v (v := .pointer (some ⟨b1, 1, none⟩)) rfl (wo 16 25 rfl rfl (bF hc5) rfl) rfl (zao fd27_1 ty23 rfl rfl) <| p_v (v := .slice A0_1 m.first.length c0_1) rfl (wo 16 25 rfl rfl (bF hc5) rfl) rfl (zaj (seg := [.slice A0_1 m.first.length c0_1]) ty23 rfl (by simp) rfl (CF.box (m := 1) (S2.box_at (j := 0) rfl) rfl)) <| p_v (v := .int .i64 (m.spots.length : Int)) rfl (wo 16 25 rfl rfl (bF hc5) rfl) rfl (zah rfl) <| p_c rfl (wo 16 25 rfl rfl (bF hc5) rfl) rfl (za2 (args := [.slice A0_1 m.first.length c0_1, .int .i64 (m.spots.length : Int)]) ca102 rfl rfl) (rising_calls w1 m.first A0_1 c0_1 b0_1 (l0_1.mono (St.le0 S2)) (m.spots.length : Int) (zal (by omega) (by omega))) ?_
 rintro _ w6 ⟨h6, T6, rfl⟩
 have S7 := S2.keep (Chg.of_below T6.below)
 refine p_v (v := .bool (!(zdz (m.spots.length : Int) (-1) m.first))) rfl (wo 16 25 rfl rfl (bF hc5) rfl) rfl (x_not rfl) <| p_v (v := .bool (!(zdz (m.spots.length : Int) (-1) m.first))) rfl rfl rfl (zc2 (bF hc5) rfl) <| zaa ?_
 refine zcp (b := zdz (m.spots.length : Int) (-1) m.first) rfl (fun hc8 => ?_) (fun hc8 => ?_)
 ·skip
  refine zac <| zae (l := [0]) rfl <| p_v (v := .bool false) rfl rfl rfl (zag rfl) <| zaa <| zar Tryd.func37 (res1 rfl (zaw (v := .bool false) rfl)) ?_
  have q0 : (zci m : Bool) = false := by
   exact right_no4 m (by assumption)
  refine ⟨_, rfl, (fun _ => none), ?_, ?_⟩
  · exact S7.sub [] (by decide) rfl _ rfl
  · first | rfl | (simp only [q0]; rfl) | (simp only [q0])
 refine zau <| zac <| zac <| zae (l := [0, 1, 2, 3]) rfl <| p_v (v := .pointer (some ⟨b1, 0, none⟩)) rfl rfl rfl (zao fd27_0 ty22 rfl rfl) <| p_v (v := .slice A0_0 m.spots.length c0_0) rfl rfl rfl (zaj (seg := [.slice A0_0 m.spots.length c0_0]) ty22 rfl (by simp) rfl (CF.box (m := 1) (S7.box_at (j := 0) rfl) rfl)) <| p_v (v := .int .i64 (m.spots.length : Int)) rfl rfl rfl (za0 u22 rfl) <| p_v (v := .int .i64 0) rfl rfl rfl (zah rfl) <| zaa <| zaq <| zbu (S := Int) (fun (q_ : Int) ρ w' => match q_ with | t35 => ∃ (h : Ghost), Le (fun _ => none) h ∧ St w.heap.size w h w' [box b1 27 [.slice A0_0 m.spots.length c0_0, .slice A0_1 m.first.length c0_1, .slice A0_2 m.follow.length c0_2, .slice A0_3 m.last.length c0_3, .bool m.empty]] ∧ ρ 1 = .pointer (some ⟨b1, 0, none⟩) ∧ ρ 3 = .int .i64 (m.spots.length : Int) ∧ ρ 33 = .slice A0_0 m.spots.length c0_0 ∧ ρ 34 = .int .i64 (m.spots.length : Int) ∧ ρ 35 = .int .i64 t35 ∧ inK .i64 t35 ∧ (0 ≤ t35 ∧ t35 ≤ (m.spots.length : Int) ∧ allTo (rowOk m) t35 = true)) (fun q_ => match q_ with | t35 => (m.spots.length - t35).toNat) (0) ⟨(fun _ => none), Le.refl _, S7.sub [0] (by decide) rfl _ rfl, rfl, rfl, rfl, rfl, rfl, (zal (by omega) (by omega)), (by exact ⟨by omega, by omega, allTo_0 _⟩)⟩ ?_
 rintro t35 ih9 ρ9 w9 ⟨h9, le9, S9, r9_1, r9_3, r9_33, r9_34, r9_35, f9_0, hI9⟩
 have lf9_0 := zbb f9_0; have hf9_0 := zbc f9_0
 refine zac <| zae (l := [0]) rfl <| p_v (v := .bool (decide (t35 < (m.spots.length : Int)))) rfl rfl rfl (zdy r9_35 r9_34) <| zaa <| zac ?_
 refine zan (p := t35 < (m.spots.length : Int)) rfl (fun hc10 => ?_) (fun hc10 => ?_)
 ·skip
  refine zau <| zac <| zaq <| zac <| zae (l := [0, 1, 2, 3, 4, 5]) rfl <| p_v (v := .int .i64 t35) rfl rfl rfl (zah r9_35) ?_
  obtain ⟨ad11, seg11, a11, rp11, ce11⟩ := za9 (q := t35) (m := 5) l0_0 rfl (by omega) (by omega)
  refine p_v (v := .pointer (some ad11)) rfl rfl rfl (za8 u22 ty101 r9_33 r9_35 a11 (by omega) (by omega)) ?_
  obtain ⟨rfl, ok11⟩ := rp11
  have slook11 := u8_lo ok11; have shiok11 := u8_hi ok11
  refine p_v (v := .agg (zb8 (at_ m.spots t35)).toArray) rfl rfl rfl (zaj (seg := (zb8 (at_ m.spots t35))) ty101 rfl (by simp) rfl (CF.ghost ce11 (St.le0 S9))) ?_
  obtain ⟨b12, w12, r12, g12, T12⟩ := zcb (P := Tryd.prog) S9 101 (v := (.agg #[.int .u64 0, .int .u64 0, .int .u64 0, .int .u64 0, .int .u8 0])) (zb8 (⟨0, 0⟩ : Spot)) rfl
  have S13 := T12
  dsimp only [lAa, lAn, lA0, lAs] at S13
  refine p_v (v := .pointer (some ⟨b12, 0, none⟩)) rfl rfl rfl (zch ty101 r12) <| p_v (v := .int .i64 t35) rfl rfl rfl (zag rfl) ?_
  obtain ⟨w14, r14, g14, T14⟩ := zb9 (P := Tryd.prog) (off := 0) (v := .agg (zb8 (at_ m.spots t35)).toArray) (vs := (zb8 (at_ m.spots t35))) S13 ty101 rfl rfl (j := 1) rfl (by first | decide | exact Nat.le_of_ble_eq_true rfl) (encSpot_one _)
  have S15 := T14.fx 1 (box b12 101 (zb8 (at_ m.spots t35))) rfl
  dsimp only [lAa, lAn, lA0, lAs] at S15
  refine p_s rfl rfl (za7 rfl rfl r14) <| zaa <| zac <| zae (l := [0, 1, 2, 3, 4, 5, 6, 7, 8, 9, 10, 11, 12]) rfl <| p_v (v := .pointer (some ⟨b12, 4, none⟩)) rfl rfl rfl (zao fd101_1 ty5 rfl rfl) <| p_v (v := .int .u8 ((at_ m.spots t35).tag)) rfl rfl rfl (zaj (seg := [.int .u8 ((at_ m.spots t35).tag)]) ty5 rfl (by simp) rfl (CF.box (m := 1) (S15.box_at (j := 1) rfl) rfl)) <| p_v (v := .bool (decide (2 < ((at_ m.spots t35).tag)))) rfl rfl rfl (x_gtr rfl rfl) <| p_v (v := .bool (decide (2 < ((at_ m.spots t35).tag)))) rfl rfl rfl (zah rfl) ?_
  by_cases hc16 : 2 < ((at_ m.spots t35).tag)
  ·skip
   refine zbi rfl (wo 3 43 rfl rfl (bT hc16) rfl) rfl <| zbi rfl (wo 3 43 rfl rfl (bT hc16) rfl) rfl <| zbi rfl (wo 3 43 rfl rfl (bT hc16) rfl) rfl <| zbi rfl (wo 3 43 rfl rfl (bT hc16) rfl) rfl <| zbi rfl (wo 3 43 rfl rfl (bT hc16) rfl) rfl <| zbi rfl (wo 3 43 rfl rfl (bT hc16) rfl) rfl <| zbi rfl (wo 3 43 rfl rfl (bT hc16) rfl) rfl <| zbi rfl (wo 3 43 rfl rfl (bT hc16) rfl) rfl <| p_v (v := .bool true) rfl rfl rfl (zby (bT hc16) rfl) <| zaa <| zc3 (b := true) rfl ?_
   simp only [if_true, if_false, Bool.false_eq_true]
   refine zac <| zae (l := [0]) rfl <| p_v (v := .bool false) rfl rfl rfl (zag rfl) <| zaa <| zar Tryd.func37 (res1 rfl (zaw (v := .bool false) rfl)) ?_
   have q0 : (zci m : Bool) = false := by
    exact right_no5 m hI9.1 (by omega) (by assumption)
   refine ⟨_, rfl, h9, ?_, ?_⟩
   · exact S15.sub [] (by decide) rfl _ rfl
   · first | rfl | (simp only [q0]; rfl) | (simp only [q0])
  refine p_v (v := .pointer (some ⟨b1, 2, none⟩)) rfl (wo 3 43 rfl rfl (bF hc16) rfl) rfl (zao fd27_2 ty24 rfl r9_1) <| p_v (v := .slice A0_2 m.follow.length c0_2) rfl (wo 3 43 rfl rfl (bF hc16) rfl) rfl (zaj (seg := [.slice A0_2 m.follow.length c0_2]) ty24 rfl (by simp) rfl (CF.box (m := 1) (S15.box_at (j := 0) rfl) rfl)) <| p_v (v := .int .i64 t35) rfl (wo 3 43 rfl rfl (bF hc16) rfl) rfl (zah rfl) ?_
  obtain ⟨ad17, seg17, a17, rp17, ce17⟩ := za9 (q := t35) (m := 1) l0_2 rfl (by omega) (by omega)
  refine p_v (v := .pointer (some ad17)) rfl (wo 3 43 rfl rfl (bF hc16) rfl) rfl (za8 u24 ty23 rfl rfl a17 (by omega) (by omega)) ?_
  obtain ⟨A17, c17, rfl, lc17, cm17, ld17⟩ := rp17
  have cn17 := cm17; simp only [maxLen] at cn17
  refine p_v (v := .slice A17 (at_ m.follow t35).length c17) rfl (wo 3 43 rfl rfl (bF hc16) rfl) rfl (zaj (seg := [.slice A17 (at_ m.follow t35).length c17]) ty23 rfl (by simp) rfl (CF.ghost ce17 (St.le0 S15))) <| p_v (v := .int .i64 (m.spots.length : Int)) rfl (wo 3 43 rfl rfl (bF hc16) rfl) rfl (zah r9_3) <| p_c rfl (wo 3 43 rfl rfl (bF hc16) rfl) rfl (za2 (args := [.slice A17 (at_ m.follow t35).length c17, .int .i64 (m.spots.length : Int)]) ca102 rfl rfl) (rising_calls w14 (at_ m.follow t35) A17 c17 (And.intro lc17 cm17) (ld17.mono (St.le0 S15)) (m.spots.length : Int) (zal (by omega) (by omega))) ?_
  rintro _ w18 ⟨h18, T18, rfl⟩
  have S19 := S15.keep (Chg.of_below T18.below)
  refine p_v (v := .bool (!(zdz (m.spots.length : Int) (-1) (at_ m.follow t35)))) rfl (wo 3 43 rfl rfl (bF hc16) rfl) rfl (x_not rfl) <| p_v (v := .bool (!(zdz (m.spots.length : Int) (-1) (at_ m.follow t35)))) rfl rfl rfl (zc2 (bF hc16) rfl) <| zaa ?_
  refine zcp (b := zdz (m.spots.length : Int) (-1) (at_ m.follow t35)) rfl (fun hc20 => ?_) (fun hc20 => ?_)
  ·skip
   refine zac <| zae (l := [0]) rfl <| p_v (v := .bool false) rfl rfl rfl (zag rfl) <| zaa <| zar Tryd.func37 (res1 rfl (zaw (v := .bool false) rfl)) ?_
   have q0 : (zci m : Bool) = false := by
    exact right_no6 m hI9.1 (by omega) (by assumption)
   refine ⟨_, rfl, h9, ?_, ?_⟩
   · exact S19.sub [] (by decide) rfl _ rfl
   · first | rfl | (simp only [q0]; rfl) | (simp only [q0])
  refine zau <| zas <| zae (l := [0, 1]) rfl <| p_v (v := .int .i64 (t35 + 1)) rfl rfl rfl (zc7 r9_35 rfl (zal (by omega) (by omega))) <| p_v (v := .int .i64 (t35 + 1)) rfl rfl rfl (zah rfl) <| zaa ?_
  refine ih9 (t35 + 1) _ _ (by dsimp only; omega) ⟨h9, le9, S19.sub [0] (by decide) rfl _ rfl, r9_1, r9_3, r9_33, r9_34, rfl, (zal (by omega) (by omega)), (by exact ⟨by omega, by omega, allTo_step hI9.1 hI9.2.2 (by unfold rowOk; rw [Int.toNat_of_nonneg hI9.1, decide_eq_true (by omega), (by assumption : zdz _ _ _ = true)]; rfl)⟩)⟩
 refine zbv rfl <| zac <| zae (l := [0]) rfl <| p_v (v := .bool true) rfl rfl rfl (zag rfl) <| zaa <| zar Tryd.func37 (res1 rfl (zaw (v := .bool true) rfl)) ?_
 have q0 : (zci m : Bool) = true := by
  exact right_ok m (by omega) (by assumption) (by assumption) (by assumption) (by assumption) hI9.2.2
 refine ⟨_, rfl, h9, ?_, ?_⟩
 · exact S9.sub [] (by decide) rfl _ rfl
 · (simp only [q0])
end Go.Proofs.YtfoemogojbnfhaaDoor
namespace Gx
open Go Go.RowKit
set_option linter.unusedSimpArgs false
set_option linter.unusedSectionVars false
set_option linter.unusedVariables false
def trues (n : Nat) (l : List Bool) : Nat := (List.range n).countP fun i => at_ l ((i : Nat) : Int)
theorem trues_le (n : Nat) (l : List Bool) : trues n l ≤ n := by
  have := List.countP_le_length (p := fun i : Nat => at_ l ((i : Nat) : Int)) (l := List.range n)
  simpa [trues] using this
def Sub (n : Nat) (a b : List Bool) : Prop := ∀ i : Nat, i < n → at_ a ((i : Nat) : Int) = true → at_ b ((i : Nat) : Int) = true
theorem Sub.refl (n : Nat) (a : List Bool) : Sub n a a := fun _ _ h => h
theorem Sub.trans {n : Nat} {a b c : List Bool} (h : Sub n a b) (h2 : Sub n b c) : Sub n a c := fun i hi hx => h2 i hi (h i hi hx)
theorem marks_ext {n : Nat} {a b : List Bool} (ha : a.length = n) (hb : b.length = n) (h : ∀ i : Nat, i < n → at_ a ((i : Nat) : Int) = at_ b ((i : Nat) : Int)) : a = b :=
  list_ext ha hb fun k h0 h1 => by have := h k.toNat (by omega); rwa [Int.toNat_of_nonneg h0] at this
theorem mark_set_at {l : List Bool} {t : Int} (h0 : 0 ≤ t) (h1 : t < (l.length : Int)) (v : Bool) (i : Nat) : at_ (l.set t.toNat v) ((i : Nat) : Int) = if ((i : Nat) : Int) = t then v else at_ l ((i : Nat) : Int) := by
  unfold at_
  rw [List.getD_eq_getElem?_getD, List.getElem?_set, List.getD_eq_getElem?_getD, Int.toNat_natCast]
  by_cases h : ((i : Nat) : Int) = t
  · rw [if_pos h, if_pos (by omega), if_pos (by omega)]; rfl
  · rw [if_neg h, if_neg (by omega)]
theorem sub_set {n : Nat} {l : List Bool} {t : Int} (h0 : 0 ≤ t) (h1 : t < (l.length : Int)) : Sub n l (l.set t.toNat true) := fun i hi h => by
  rw [mark_set_at h0 h1]; split
  · rfl
  · exact h
def lfpTo (n : Nat) (F : List Bool → Nat → Bool) : Nat → List Bool
  | 0 => tab n fun _ => false
  | k + 1 => tab n (F (lfpTo n F k))
def lfp (n : Nat) (F : List Bool → Nat → Bool) : List Bool := lfpTo n F n
theorem sub_antisymm {n : Nat} {a b : List Bool} (ha : a.length = n) (hb : b.length = n) (h : Sub n a b) (h2 : Sub n b a) : a = b :=
  marks_ext ha hb fun i hi => by
    rw [Bool.eq_iff_iff]; exact ⟨h i hi, h2 i hi⟩
end Gx
namespace Gx
open Go Go.RowKit
set_option linter.unusedSimpArgs false
set_option linter.unusedSectionVars false
set_option linter.unusedVariables false
section
variable {α : Type} [Inhabited α] [DecidableEq α] {a b : List α} {t : Int}
end
structure Small (m : Mach) : Prop where
  spots : (m.spots.length : Int) ≤ 250
  first : (m.first.length : Int) ≤ 250
  follow : (m.follow.length : Int) ≤ 250
  last : (m.last.length : Int) ≤ 250
  row : ∀ i : Int, 0 ≤ i → i < (m.follow.length : Int) → ((at_ m.follow i).length : Int) ≤ 250
theorem rises_len {b : Int} : ∀ {last : Int} {l : List Int}, zdz b last l = true → last < b → (l.length : Int) ≤ b - last - 1
  | last, [], _, h => by simp; omega
  | last, n :: r, h, hb => by
    unfold zdz at h
    simp only [Bool.and_eq_true, decide_eq_true_eq] at h
    have := rises_len h.2 h.1.2
    simp; omega
theorem rises_len0 {b : Int} {l : List Int} (h : zdz b (-1) l = true) (hb : 0 ≤ b) : (l.length : Int) ≤ b := by
  rcases Int.lt_or_eq_of_le hb with h1 | h1
  · have := rises_len h (by omega); omega
  · subst h1
    cases l with
    | nil => simp
    | cons n r => have := rises_lt h n (by simp); omega
theorem Right.small' {m : Mach} (h : Right m) : Small m := by
  have h1 := h.small
  have h2 := h.follow
  have h3 := h.last
  have h4 := rises_len0 h.first (by omega)
  refine ⟨h1, by omega, by omega, by omega, fun i h0 hi => ?_⟩
  have := rises_len0 (h.row i h0 (by omega)) (by omega)
  omega
theorem some_full (s : BSet) : decide (0 < count s) = decide (s ≠ 0) := by
  apply decide_eq_decide.2
  constructor
  · intro h e
    subst e
    have : count (0 : BSet) = 0 := by decide +kernel
    omega
  · intro h
    rcases Int.lt_or_le 0 (count s) with h1 | h1
    · exact h1
    · refine (h ?_).elim
      have h2 := list_len s
      have h3 : zbj s = [] := List.eq_nil_of_length_eq_zero (by omega)
      rw [← setOf_list s, h3]; decide +kernel
end Gx
namespace Go.Proofs.YtfoemogojbnfhaaDoor
open Go Go.RowKit Gx
set_option maxHeartbeats 1000000
set_option linter.unusedVariables false
set_option linter.unusedSimpArgs false
set_option maxRecDepth 8000
attribute [local irreducible] zbj count first someIn has zbd wbits Lib.ctz zdz zci rowOk tab markP intoP behindP runTo endsIn runM anyTo allTo lfp
theorem cloneI_calls (w : World) (s : List Int) (A0 : Option Addr) (c0 : Nat) (b0 : s.length ≤ c0 ∧ c0 ≤ maxLen) (l0 : zbo (Kd.int .i64) (hp w) A0 s) (pre0 : s.length ≤ 1000000) :
    Calls Tryd.prog 87 #[.slice A0 s.length c0] w fun e w' => ∃ v, e = .returned v ∧ ∃ (hn : Ghost) (r0 : Value), St w.heap.size w hn w' [row 3 (Kd.int .i64) r0 s] ∧ v = r0 := by
 refine zak Tryd.func87 rfl Tryd.ntmps87 rfl ?_
 have S0 := St.init w
 have bb0 := b0.1; have bc0 := b0.2; simp only [maxLen] at bc0
 refine zac <| zae (l := [0]) rfl <| p_v (v := .slice none 0 0) rfl rfl rfl (zag rfl) <| zaa <| zac <| zac <| zae (l := [0, 1]) rfl <| p_v (v := .slice A0 s.length c0) rfl rfl rfl (zah rfl) <| p_v (v := .bool A0.isNone) rfl rfl rfl (x_eql_nil u23 rfl rfl) <| zaa ?_
 refine zb0 (b := A0.isNone) rfl (fun hc1 => ?_) (fun hc1 => ?_)
 ·skip
  have hnil := leads_isNone l0 hc1
  refine zac <| zae (l := [0]) rfl <| p_v (v := .slice none 0 0) rfl rfl rfl (zag rfl) <| zaa ?_
  have T2 := S0.row_nil 3 (Kd.int .i64)
  have S3 := T2
  dsimp only [lAa, lAn, lA0, lAs] at S3
  refine zar Tryd.func87 (res1 rfl (zaw (v := .slice none 0 0) rfl)) ?_
  have q0 : (s : List Int) = ([] : List Int) := by
   exact hnil
  refine ⟨_, rfl, (fun _ => none), (.slice none 0 0), ?_, ?_⟩
  · rw [q0]; exact S3.sub [0] (by decide) rfl _ rfl
  · first | rfl | (simp only [q0]; rfl) | (simp only [q0])
 refine zau <| zac <| zae (l := [0, 1, 2, 3]) rfl ?_
 obtain ⟨v4, w4, r4, g4, T4⟩ := za6 (kd := (Kd.int .i64)) (xs := ([] : List Int)) (len := 0) [] S0 u23 ty3 rfl rfl rfl rfl rfl zcc [] (zb5.nil _ _) rfl
 have S5 := T4
 dsimp only [lAa, lAn, lA0, lAs] at S5
 refine p_v (v := v4) rfl rfl rfl (zax (pv := []) rfl r4) <| p_v (v := .slice A0 s.length c0) rfl rfl rfl (zah rfl) ?_
 obtain ⟨v7, w7, r7, g7, T7⟩ := zcw (kd := (Kd.int .i64)) (A := A0) (c := c0) (ys := s) (len := s.length) 23 S5 u23 ty3 rfl rfl (j := 0) rfl rfl (news_flat (l0.mono (St.le0 S5)) (fun _ _ hr => hr)) (by first|omega|(simp;omega)|assumption) (by first|omega|(simp;omega)|assumption)
 have S8 := T7.fx 0 (row 3 (Kd.int .i64) v7 (([] : List Int) ++ s)) rfl
 dsimp only [lAa, lAn, lA0, lAs] at S8
 refine p_v (v := v7) rfl rfl rfl (zcv rfl rfl r7) <| p_v (v := v7) rfl rfl rfl (zag rfl) <| zaa <| zar Tryd.func87 (res1 rfl (zaw (v := v7) rfl)) ?_
 have q0 : (s : List Int) = ([] : List Int) ++ s := by
  rfl
 refine ⟨_, rfl, (fun _ => none), v7, ?_, ?_⟩
 · rw [q0]; exact S8.sub [0] (by decide) rfl _ rfl
 · rfl
end Go.Proofs.YtfoemogojbnfhaaDoor
namespace Gx
open Go Go.RowKit
set_option linter.unusedSimpArgs false
set_option linter.unusedSectionVars false
set_option linter.unusedVariables false
def placeF {α : Type} (f : α → Bool) : List α → Int → Int
  | [], _ => -1
  | x :: r, i => if f x then i else placeF f r (i + 1)
theorem placeF_any {α : Type} (f : α → Bool) : ∀ (l : List α) (i : Int), 0 ≤ i → decide (0 ≤ placeF f l i) = l.any f
  | [], i, _ => rfl
  | x :: r, i, h => by
    unfold placeF
    cases hx : f x with
    | true => simp [hx, h]
    | false =>
      have h1 := placeF_any f r (i + 1) (by omega)
      simp only [Bool.false_eq_true, if_false, List.any_cons, hx, Bool.false_or, h1]
theorem placeF_drop {α : Type} [Inhabited α] (f : α → Bool) (l : List α) {t : Int} (h0 : 0 ≤ t) (h1 : t < (l.length : Int)) : placeF f (l.drop t.toNat) t = if f (at_ l t) then t else placeF f (l.drop (t + 1).toNat) (t + 1) := by
  rw [drop_cons l h0 h1]; rfl
theorem placeF_nil {α : Type} (f : α → Bool) (i : Int) : placeF f [] i = -1 := rfl
structure Grow (n : Nat) (c0 c : List Bool) (Q : Prop) : Prop where
  len0 : (c0.length : Int) = n
  len : (c.length : Int) = n
  sub : Sub n c0 c
  told : c = c0 → Q
theorem Grow.keep {n : Nat} {c0 c : List Bool} {Q Q' : Prop} (g : Grow n c0 c Q) (h : c = c0 → Q → Q') : Grow n c0 c Q' := ⟨g.len0, g.len, g.sub, fun e => h e (g.told e)⟩
theorem Grow.set {n : Nat} {c0 c : List Bool} {Q Q' : Prop} (g : Grow n c0 c Q) {t : Int} (h0 : 0 ≤ t) (h1 : t < (n : Int)) (h : at_ c0 t = true → Q → Q') : Grow n c0 (c.set t.toNat true) Q' where
  len0 := g.len0
  len := by rw [List.length_set]; exact g.len
  sub := g.sub.trans (sub_set h0 (by rw [g.len]; exact h1))
  told := fun e => by
    have hs : Sub n c (c.set t.toNat true) := sub_set h0 (by rw [g.len]; exact h1)
    have e2 : c = c0 := sub_antisymm (n := n) (by have := g.len; omega) (by have := g.len0; omega) (by rw [← e]; exact hs) g.sub
    have h3 := mark_set_at (l := c) h0 (by rw [g.len]; exact h1) true t.toNat
    rw [e, Int.toNat_of_nonneg h0, if_pos rfl] at h3
    exact h h3 (g.told e2)
section
variable {m : Mach} {c0 g0 come goes : List Bool} {QC QG QC' QG' : Prop}
end
section
variable {m : Mach} {c0 g0 come goes : List Bool} {QC QG : Prop} {i k : Int}
end
end Gx
namespace Gx
open Go Go.RowKit
set_option linter.unusedSimpArgs false
set_option linter.unusedSectionVars false
set_option linter.unusedVariables false
def zba : Mach := ⟨[⟨zbd [97], 0⟩, ⟨zbd [98], 0⟩, ⟨zbd [99], 0⟩], [0], [[1, 2], [], []], [false, true, false], true⟩
def addS (out : List BSet) (s : BSet) : List BSet := if out.any fun x => decide (s = x) then out else out ++ [s]
def zds (m : Mach) (t : Int) : List BSet := ((m.spots.take t.toNat).map fun x => x.set).foldl addS []
def zdk (m : Mach) : List BSet := (m.spots.map fun x => x.set).foldl addS []
theorem sets_0 (m : Mach) : ([] : List BSet) = zds m 0 := rfl
theorem sets_step (m : Mach) {t : Int} (h0 : 0 ≤ t) (h1 : t < (m.spots.length : Int)) : zds m (t + 1) = addS (zds m t) (at_ m.spots t).set := by
  unfold zds
  rw [zdf _ h0 h1, List.map_append, List.foldl_append]; rfl
theorem sets_old (m : Mach) {t : Int} (h0 : 0 ≤ t) (h1 : t < (m.spots.length : Int)) {out : List BSet} (ho : out = zds m t) (h : (out.any fun x => decide ((at_ m.spots t).set = x)) = true) : out = zds m (t + 1) := by
  rw [sets_step m h0 h1, ← ho]
  unfold addS; rw [if_pos h]
theorem sets_new (m : Mach) {t : Int} (h0 : 0 ≤ t) (h1 : t < (m.spots.length : Int)) {out : List BSet} (ho : out = zds m t) (h : (out.any fun x => decide ((at_ m.spots t).set = x)) = false) : out ++ [(at_ m.spots t).set] = zds m (t + 1) := by
  rw [sets_step m h0 h1, ← ho]
  unfold addS; rw [if_neg (by rw [h]; simp)]
theorem sets_end (m : Mach) {t : Int} (h : (m.spots.length : Int) ≤ t) : zdk m = zds m t := by
  unfold zdk zds; rw [List.take_of_length_le (by omega)]
theorem fold_add_len : ∀ (l out : List BSet), (l.foldl addS out).length ≤ out.length + l.length
  | [], out => by simp
  | s :: l, out => by
    have := fold_add_len l (addS out s)
    have h2 : (addS out s).length ≤ out.length + 1 := by unfold addS; split <;> simp
    simp only [List.foldl_cons, List.length_cons]; omega
theorem setsTo_len' (m : Mach) {t : Int} (h0 : 0 ≤ t) : ((zds m t).length : Int) ≤ t := by
  have := fold_add_len ((m.spots.take t.toNat).map fun x => x.set) []
  have h2 := List.length_take_le t.toNat m.spots
  simp only [List.length_map, List.length_nil, Nat.zero_add] at this
  unfold zds; omega
end Gx
namespace Go.Proofs.YtfoemogojbnfhaaDoor
open Go Go.RowKit Gx
set_option maxHeartbeats 1000000
set_option linter.unusedVariables false
set_option linter.unusedSimpArgs false
set_option maxRecDepth 8000
attribute [local irreducible] zbj count first someIn has zbd wbits Lib.ctz zdz zci rowOk tab markP intoP behindP runTo endsIn runM anyTo allTo lfp placeF trues addS zds zdk
theorem indexS_calls (w : World) (s : List BSet) (A0 : Option Addr) (c0 : Nat) (b0 : s.length ≤ c0 ∧ c0 ≤ maxLen) (l0 : zbo kSet (hp w) A0 s) (x : BSet) :
    Calls Tryd.prog 159 #[.slice A0 s.length c0, .agg (zaf x).toArray] w fun e w' => ∃ v, e = .returned v ∧ ∃ (hn : Ghost), St w.heap.size w hn w' [] ∧ v = .int .i64 (placeF (fun z_ => decide (x = z_)) s 0) ∧ inK .i64 (placeF (fun z_ => decide (x = z_)) s 0) := by
 refine zak Tryd.func159 rfl Tryd.ntmps159 rfl ?_
 have S0 := St.init w
 have bb0 := b0.1; have bc0 := b0.2; simp only [maxLen] at bc0
 refine zac <| zae (l := [0, 1]) rfl ?_
 obtain ⟨b1, w1, r1, g1, T1⟩ := zcb (P := Tryd.prog) S0 74 (v := .agg (zaf x).toArray) (zaf x) rfl
 have S2 := T1
 dsimp only [lAa, lAn, lA0, lAs] at S2
 refine p_v (v := .pointer (some ⟨b1, 0, none⟩)) rfl rfl rfl (zdo rfl r1) <| p_v (v := .int .i64 0) rfl rfl rfl (zag rfl) <| zaa <| zac <| zac <| zae (l := [0, 1, 2]) rfl <| p_v (v := .slice A0 s.length c0) rfl rfl rfl (zah rfl) <| p_v (v := .int .i64 (s.length : Int)) rfl rfl rfl (za0 u62 rfl) <| p_v (v := .int .i64 0) rfl rfl rfl (zah rfl) <| zaa <| zaq <| zbu (S := Int) (fun (q_ : Int) ρ w' => match q_ with | t8 => ∃ (h : Ghost), Le (fun _ => none) h ∧ St w.heap.size w h w' [box b1 74 (zaf x)] ∧ ρ 0 = .slice A0 s.length c0 ∧ ρ 3 = .pointer (some ⟨b1, 0, none⟩) ∧ ρ 7 = .int .i64 (s.length : Int) ∧ ρ 8 = .int .i64 t8 ∧ inK .i64 t8 ∧ (0 ≤ t8 ∧ t8 ≤ (s.length : Int) ∧ placeF (fun y => decide (x = y)) s 0 = placeF (fun y => decide (x = y)) (s.drop t8.toNat) t8)) (fun q_ => match q_ with | t8 => (s.length - t8).toNat) (0) ⟨(fun _ => none), Le.refl _, S2.sub [0] (by decide) rfl _ rfl, rfl, rfl, rfl, rfl, (zal (by omega) (by omega)), (by exact ⟨by omega, by omega, rfl⟩)⟩ ?_
 rintro t8 ih3 ρ3 w3 ⟨h3, le3, S3, r3_0, r3_3, r3_7, r3_8, f3_0, hI3⟩
 have lf3_0 := zbb f3_0; have hf3_0 := zbc f3_0
 refine zac <| zae (l := [0]) rfl <| p_v (v := .bool (decide (t8 < (s.length : Int)))) rfl rfl rfl (zdy r3_8 r3_7) <| zaa <| zac ?_
 refine zan (p := t8 < (s.length : Int)) rfl (fun hc4 => ?_) (fun hc4 => ?_)
 ·skip
  refine zau <| zac <| zaq <| zac <| zae (l := [0, 1]) rfl <| p_v (v := .int .i64 t8) rfl rfl rfl (zah r3_8) <| p_v (v := .int .i64 t8) rfl rfl rfl (zag rfl) <| zaa <| zac ?_
  obtain ⟨ad5, seg5, a5, rp5, ce5⟩ := za9 (q := t8) (m := 4) l0 rfl (by omega) (by omega)
  obtain ⟨rfl, ok5⟩ := rp5
  have hf6 : (CFs ⟨b1, 0, none⟩ (zaf x)).1 w3 := (CF.box (m := 4) (S3.box_at (j := 0) rfl) rfl)
  have hf7 : (CFs ad5 (zaf (at_ s t8))).1 w3 := (CF.ghost ce5 (St.le0 S3))
  refine daS (hkC 0 hf6 (hkC 4 hf7 (hkN (w := w3)))) 6 rfl mixed ?_
  intro wd8 gd8 hd8
  have S9 := S3.keep gd8
  have hf10 := spUp gd8 hf6
  have hf11 := spUp gd8 hf7
  refine qd1 0 (i := 0) (v := .agg (zaf x).toArray) rfl rfl (by decide +kernel) rfl rfl (fun wq hq => (zaj (seg := (zaf x)) ty74 rfl (by simp) r3_3 hq)) (zbz hf10 (zam rfl)) <| qd0 (i := 1) (v := .slice A0 s.length c0) rfl (by decide +kernel) rfl rfl (zah r3_0) (zam rfl) <| qd0 (i := 2) (v := .int .i64 t8) rfl (by decide +kernel) rfl rfl (zah rfl) (zam rfl) <| qd0 (i := 3) (v := .pointer (some ad5)) rfl (by decide +kernel) rfl rfl (za8 u62 ty74 rfl rfl a5 (by omega) (by omega)) (zam rfl) <| qd1 1 (i := 4) (v := .agg (zaf (at_ s t8)).toArray) rfl rfl (by decide +kernel) rfl rfl (fun wq hq => (zaj (seg := (zaf (at_ s t8))) ty74 rfl (by simp) rfl hq)) (zbw rfl (zbz hf11 (zam rfl))) <| qd0 (i := 5) (v := .bool (decide (x = (at_ s t8)))) rfl (by decide +kernel) rfl rfl (x_eql_set u74 u56 ty56 q74 rfl rfl) (zam rfl) <| zco (by decide +kernel) ?_
  intro wd12 gd12
  have S13 := S9.keep gd12
  refine zan (p := x = (at_ s t8)) rfl (fun hc14 => ?_) (fun hc14 => ?_)
  ·skip
   refine zac <| zae (l := [0, 1]) rfl <| p_v (v := .int .i64 t8) rfl rfl rfl (zah rfl) <| p_v (v := .int .i64 t8) rfl rfl rfl (zag rfl) <| zaa <| zar Tryd.func159 (res1 rfl (zaw (v := .int .i64 t8) rfl)) ?_
   have q0 : (placeF (fun z_ => decide (x = z_)) s 0 : Int) = t8 := by
    rw [hI3.2.2, placeF_drop _ _ hI3.1 (by omega), if_pos (decide_eq_true (by assumption))]
   refine ⟨_, rfl, h3, ?_, ?_, ?_⟩
   · exact S13.sub [] (by decide) rfl _ rfl
   · first | rfl | (simp only [q0]; rfl) | (simp only [q0])
   · rw [q0]; exact f3_0
  refine zau <| zas <| zae (l := [0, 1]) rfl <| p_v (v := .int .i64 (t8 + 1)) rfl rfl rfl (zc7 r3_8 rfl (zal (by omega) (by omega))) <| p_v (v := .int .i64 (t8 + 1)) rfl rfl rfl (zah rfl) <| zaa ?_
  refine ih3 (t8 + 1) _ _ (by dsimp only; omega) ⟨h3, le3, S13.sub [0] (by decide) rfl _ rfl, r3_0, r3_3, r3_7, rfl, (zal (by omega) (by omega)), (by exact ⟨by omega, by omega, by rw [hI3.2.2, placeF_drop _ _ hI3.1 (by omega), if_neg (by simpa using (by assumption : ¬ x = at_ s t8))]⟩)⟩
 refine zbv rfl <| zac <| zae (l := [0]) rfl <| p_v (v := .int .i64 (-1)) rfl rfl rfl (zag rfl) <| zaa <| zar Tryd.func159 (res1 rfl (zaw (v := .int .i64 (-1)) rfl)) ?_
 have q0 : (placeF (fun z_ => decide (x = z_)) s 0 : Int) = (-1) := by
  rw [hI3.2.2, List.drop_of_length_le (by omega)]; exact placeF_nil _ _
 refine ⟨_, rfl, h3, ?_, ?_, ?_⟩
 · exact S3.sub [] (by decide) rfl _ rfl
 · first | rfl | (simp only [q0]; rfl) | (simp only [q0])
 · rw [q0]; exact (zal (by omega) (by omega))
theorem containsS_calls (w : World) (s : List BSet) (A0 : Option Addr) (c0 : Nat) (b0 : s.length ≤ c0 ∧ c0 ≤ maxLen) (l0 : zbo kSet (hp w) A0 s) (x : BSet) :
    Calls Tryd.prog 126 #[.slice A0 s.length c0, .agg (zaf x).toArray] w fun e w' => ∃ v, e = .returned v ∧ ∃ (hn : Ghost), St w.heap.size w hn w' [] ∧ v = .bool (s.any fun z_ => decide (x = z_)) := by
 refine zak Tryd.func126 rfl Tryd.ntmps126 rfl ?_
 have S0 := St.init w
 have bb0 := b0.1; have bc0 := b0.2; simp only [maxLen] at bc0
 refine zac <| zae (l := [0, 1]) rfl ?_
 obtain ⟨b1, w1, r1, g1, T1⟩ := zcb (P := Tryd.prog) S0 74 (v := .agg (zaf x).toArray) (zaf x) rfl
 have S2 := T1
 dsimp only [lAa, lAn, lA0, lAs] at S2
 refine p_v (v := .pointer (some ⟨b1, 0, none⟩)) rfl rfl rfl (zdo rfl r1) <| p_v (v := .bool false) rfl rfl rfl (zag rfl) <| zaa <| zac <| zae (l := [0, 1, 2, 3, 4]) rfl <| p_v (v := .slice A0 s.length c0) rfl rfl rfl (zah rfl) <| p_v (v := .agg (zaf x).toArray) rfl rfl rfl (zaj (seg := (zaf x)) ty74 rfl (by simp) rfl (CF.box (m := 4) (S2.box_at (j := 0) rfl) rfl)) <| p_c rfl rfl rfl (za2 (args := [.slice A0 s.length c0, .agg (zaf x).toArray]) ca159 rfl rfl) (indexS_calls w1 s A0 c0 b0 (l0.mono (St.le0 S2)) x) ?_
 rintro _ w3 ⟨h3, T3, rfl, in3_0⟩
 have S4 := S2.keep (Chg.of_below T3.below)
 have lo_in3_0 := zbb in3_0; have hi_in3_0 := zbc in3_0
 refine p_v (v := .bool (decide (0 ≤ (placeF (fun z_ => decide (x = z_)) s 0)))) rfl rfl rfl (x_geq rfl rfl) <| p_v (v := .bool (decide (0 ≤ (placeF (fun z_ => decide (x = z_)) s 0)))) rfl rfl rfl (zag rfl) <| zaa <| zar Tryd.func126 (res1 rfl (zaw (v := .bool (decide (0 ≤ (placeF (fun z_ => decide (x = z_)) s 0)))) rfl)) ?_
 have q0 : (s.any fun z_ => decide (x = z_) : Bool) = decide (0 ≤ (placeF (fun z_ => decide (x = z_)) s 0)) := by
  exact (placeF_any _ _ _ (by omega)).symm
 refine ⟨_, rfl, (fun _ => none), ?_, ?_⟩
 · exact S4.sub [] (by decide) rfl _ rfl
 · (simp only [q0])
theorem setsN_calls (w : World) (m : Mach) (A0_0 : Option Addr) (c0_0 : Nat) (b0_0 : m.spots.length ≤ c0_0 ∧ c0_0 ≤ maxLen) (l0_0 : zbo kSpot (hp w) A0_0 m.spots) (A0_1 : Option Addr) (c0_1 : Nat) (b0_1 : m.first.length ≤ c0_1 ∧ c0_1 ≤ maxLen) (l0_1 : zbo (Kd.int .i64) (hp w) A0_1 m.first) (A0_2 : Option Addr) (c0_2 : Nat) (b0_2 : m.follow.length ≤ c0_2 ∧ c0_2 ≤ maxLen) (l0_2 : zbo (Kd.int .i64).slice (hp w) A0_2 m.follow) (A0_3 : Option Addr) (c0_3 : Nat) (b0_3 : m.last.length ≤ c0_3 ∧ c0_3 ≤ maxLen) (l0_3 : zbo Kd.bool (hp w) A0_3 m.last) (pre0 : (m.spots.length : Int) ≤ 1000) :
    Calls Tryd.prog 63 #[.agg #[.slice A0_0 m.spots.length c0_0, .slice A0_1 m.first.length c0_1, .slice A0_2 m.follow.length c0_2, .slice A0_3 m.last.length c0_3, .bool m.empty]] w fun e w' => ∃ v, e = .returned v ∧ ∃ (hn : Ghost) (r0 : Value), St w.heap.size w hn w' [row 74 kSet r0 (zdk m)] ∧ v = r0 := by
 refine zak Tryd.func63 rfl Tryd.ntmps63 rfl ?_
 have S0 := St.init w
 have bb0_0 := b0_0.1; have bc0_0 := b0_0.2; simp only [maxLen] at bc0_0
 have bb0_1 := b0_1.1; have bc0_1 := b0_1.2; simp only [maxLen] at bc0_1
 have bb0_2 := b0_2.1; have bc0_2 := b0_2.2; simp only [maxLen] at bc0_2
 have bb0_3 := b0_3.1; have bc0_3 := b0_3.2; simp only [maxLen] at bc0_3
 refine zac <| zae (l := [0, 1]) rfl ?_
 obtain ⟨b1, w1, r1, g1, T1⟩ := zcb (P := Tryd.prog) S0 27 (v := .agg #[.slice A0_0 m.spots.length c0_0, .slice A0_1 m.first.length c0_1, .slice A0_2 m.follow.length c0_2, .slice A0_3 m.last.length c0_3, .bool m.empty]) [.slice A0_0 m.spots.length c0_0, .slice A0_1 m.first.length c0_1, .slice A0_2 m.follow.length c0_2, .slice A0_3 m.last.length c0_3, .bool m.empty] rfl
 have S2 := T1
 dsimp only [lAa, lAn, lA0, lAs] at S2
 refine p_v (v := .pointer (some ⟨b1, 0, none⟩)) rfl rfl rfl (zdo rfl r1) <| p_v (v := .slice none 0 0) rfl rfl rfl (zag rfl) <| zaa <| zac <| zae (l := [0]) rfl <| p_v (v := .slice none 0 0) rfl rfl rfl (zag rfl) <| zaa <| zac <| zac <| zae (l := [0, 1, 2, 3]) rfl <| p_v (v := .pointer (some ⟨b1, 0, none⟩)) rfl rfl rfl (zao fd27_0 ty22 rfl rfl) <| p_v (v := .slice A0_0 m.spots.length c0_0) rfl rfl rfl (zaj (seg := [.slice A0_0 m.spots.length c0_0]) ty22 rfl (by simp) rfl (CF.box (m := 1) (S2.box_at (j := 0) rfl) rfl)) ?_
 refine p_v (v := .int .i64 (m.spots.length : Int)) rfl rfl rfl (za0 u22 rfl) <| p_v (v := .int .i64 0) rfl rfl rfl (zah rfl) <| zaa <| zaq ?_
 have T3 := S2.row_nil 74 kSet
 obtain ⟨vn3, ev3, T3⟩ : ∃ v, v = (.slice none 0 0 : Value) ∧ St w.heap.size w (fun _ => none) w1 ([box b1 27 [.slice A0_0 m.spots.length c0_0, .slice A0_1 m.first.length c0_1, .slice A0_2 m.follow.length c0_2, .slice A0_3 m.last.length c0_3, .bool m.empty]] ++ [row 74 kSet v []]) := ⟨_, rfl, T3⟩
 have S4 := T3
 dsimp only [lAa, lAn, lA0, lAs] at S4
 refine zbu (S := (List BSet) × Int) (fun (q_ : (List BSet) × Int) ρ w' => match q_ with | (out, t9) => ∃ (h : Ghost) (v_out : Value), Le (fun _ => none) h ∧ St w.heap.size w h w' [row 74 kSet v_out out] ∧ ρ 3 = v_out ∧ ρ 7 = .slice A0_0 m.spots.length c0_0 ∧ ρ 8 = .int .i64 (m.spots.length : Int) ∧ ρ 9 = .int .i64 t9 ∧ inK .i64 t9 ∧ (0 ≤ t9 ∧ t9 ≤ (m.spots.length : Int) ∧ out = zds m t9)) (fun q_ => match q_ with | (out, t9) => (m.spots.length - t9).toNat) (([] : List BSet), 0) ⟨(fun _ => none), vn3, Le.refl _, S4.sub [1] (by decide) rfl _ rfl, (ev3.symm), rfl, rfl, rfl, (zal (by omega) (by omega)), (by exact ⟨by omega, by omega, sets_0 m⟩)⟩ ?_
 rintro ⟨out, t9⟩ ih5 ρ5 w5 ⟨h5, v_out, le5, S5, r5_3, r5_7, r5_8, r5_9, f5_0, hI5⟩
 have lf5_0 := zbb f5_0; have hf5_0 := zbc f5_0
 have rl5_0 := S5.row_le (j := 0) rfl; simp only [maxLen] at rl5_0
 have hl_ : (out.length : Int) ≤ t9 := by rw [hI5.2.2]; exact setsTo_len' m hI5.1
 refine zac <| zae (l := [0]) rfl <| p_v (v := .bool (decide (t9 < (m.spots.length : Int)))) rfl rfl rfl (zdy r5_9 r5_8) <| zaa <| zac ?_
 refine zan (p := t9 < (m.spots.length : Int)) rfl (fun hc6 => ?_) (fun hc6 => ?_)
 ·skip
  refine zau <| zac <| zaq <| zac <| zae (l := [0, 1, 2, 3]) rfl ?_
  obtain ⟨ad7, seg7, a7, rp7, ce7⟩ := za9 (q := t9) (m := 5) l0_0 rfl (by omega) (by omega)
  refine p_v (v := .pointer (some ad7)) rfl rfl rfl (za8 u22 ty101 r5_7 r5_9 a7 (by omega) (by omega)) ?_
  obtain ⟨rfl, ok7⟩ := rp7
  have slook7 := u8_lo ok7; have shiok7 := u8_hi ok7
  refine p_v (v := .agg (zb8 (at_ m.spots t9)).toArray) rfl rfl rfl (zaj (seg := (zb8 (at_ m.spots t9))) ty101 rfl (by simp) rfl (CF.ghost ce7 (St.le0 S5))) ?_
  obtain ⟨b8, w8, r8, g8, T8⟩ := zcb (P := Tryd.prog) S5 101 (v := (.agg #[.int .u64 0, .int .u64 0, .int .u64 0, .int .u64 0, .int .u8 0])) (zb8 (⟨0, 0⟩ : Spot)) rfl
  have S9 := T8
  dsimp only [lAa, lAn, lA0, lAs] at S9
  refine p_v (v := .pointer (some ⟨b8, 0, none⟩)) rfl rfl rfl (zch ty101 r8) ?_
  obtain ⟨w10, r10, g10, T10⟩ := zb9 (P := Tryd.prog) (off := 0) (v := .agg (zb8 (at_ m.spots t9)).toArray) (vs := (zb8 (at_ m.spots t9))) S9 ty101 rfl rfl (j := 1) rfl (by first | decide | exact Nat.le_of_ble_eq_true rfl) (encSpot_one _)
  have S11 := T10.fx 1 (box b8 101 (zb8 (at_ m.spots t9))) rfl
  dsimp only [lAa, lAn, lA0, lAs] at S11
  refine p_s rfl rfl (za7 rfl rfl r10) <| zaa <| zac <| zae (l := [0, 1, 2, 3, 4]) rfl <| p_v (v := v_out) rfl rfl rfl (zah r5_3) <| p_v (v := .pointer (some ⟨b8, 0, none⟩)) rfl rfl rfl (zao fd101_0 ty74 rfl rfl) <| p_v (v := .agg (zaf ((at_ m.spots t9).set)).toArray) rfl rfl rfl (zaj (seg := (zaf ((at_ m.spots t9).set))) ty74 rfl (by simp) rfl (CF.box (m := 4) (S11.box_at (j := 1) rfl) rfl)) ?_
  obtain ⟨A12, c12, ev12, lc12, cm12⟩ := S11.row_val (j := 0) rfl
  refine p_c rfl rfl rfl (za2 (args := [.slice A12 out.length c12, .agg (zaf ((at_ m.spots t9).set)).toArray]) ca126 rfl (zdv ev12 (zdv rfl rfl))) (containsS_calls w10 out A12 c12 (And.intro lc12 cm12) (zcz S11 (j := 0) rfl ev12) ((at_ m.spots t9).set)) ?_
  rintro _ w13 ⟨h13, T13, rfl⟩
  have S14 := S11.keep (Chg.of_below T13.below)
  refine p_v (v := .bool (!(out.any fun z_ => decide (((at_ m.spots t9).set) = z_)))) rfl rfl rfl (x_not rfl) <| zaa ?_
  refine zcp (b := out.any fun z_ => decide (((at_ m.spots t9).set) = z_)) rfl (fun hc15 => ?_) (fun hc15 => ?_)
  ·skip
   refine zae (l := [0, 1, 2, 3, 4, 5]) rfl <| p_v (v := v_out) rfl rfl rfl (zah r5_3) <| p_v (v := .pointer (some ⟨b8, 0, none⟩)) rfl rfl rfl (zao fd101_0 ty74 rfl rfl) <| p_v (v := .agg (zaf ((at_ m.spots t9).set)).toArray) rfl rfl rfl (zaj (seg := (zaf ((at_ m.spots t9).set))) ty74 rfl (by simp) rfl (CF.box (m := 4) (S14.box_at (j := 1) rfl) rfl)) ?_
   obtain ⟨v16, w16, r16, g16, T16⟩ := e_build_segs (kd := kSet) (xs := ([(at_ m.spots t9).set] : List BSet)) (len := 1) (m := 4) [(.agg (zaf ((at_ m.spots t9).set)).toArray, (zaf ((at_ m.spots t9).set)))] S14 u62 ty74 rfl rfl rfl rfl (segs_cons rfl rfl segs_nil) (cs := (zaf ((at_ m.spots t9).set))) (zb5.single (k := kSet) (h := h5) (x := (at_ m.spots t9).set) (cs := (zaf ((at_ m.spots t9).set))) ⟨rfl, trivial⟩) (by simp)
   have S17 := T16
   dsimp only [lAa, lAn, lA0, lAs] at S17
   refine p_v (v := v16) rfl rfl rfl (zax (pv := [(0, .agg (zaf ((at_ m.spots t9).set)).toArray)]) rfl r16) ?_
   obtain ⟨A19, c19, ev19, lc19, cm19⟩ := S17.row_val (j := 2) rfl
   obtain ⟨v20, w20, r20, g20, T20⟩ := zcw (kd := kSet) (A := A19) (c := c19) (ys := ([(at_ m.spots t9).set] : List BSet)) (len := ([(at_ m.spots t9).set] : List BSet).length) 62 S17 u62 ty74 rfl rfl (j := 0) rfl rfl (zdb S17 (j := 2) rfl ev19) (by first|omega|(simp;omega)|assumption) (by first|omega|(simp;omega)|assumption)
   have S21 := T20.fx 0 (row 74 kSet v20 (out ++ ([(at_ m.spots t9).set] : List BSet))) rfl
   dsimp only [lAa, lAn, lA0, lAs] at S21
   refine p_v (v := v20) rfl rfl rfl (zcv rfl ev19 r20) <| p_v (v := v20) rfl rfl rfl (zag rfl) <| zaa <| zas <| zae (l := [0, 1]) rfl <| p_v (v := .int .i64 (t9 + 1)) rfl rfl rfl (zc7 r5_9 rfl (zal (by omega) (by omega))) <| p_v (v := .int .i64 (t9 + 1)) rfl rfl rfl (zah rfl) <| zaa ?_
   refine ih5 (out ++ ([(at_ m.spots t9).set] : List BSet), t9 + 1) _ _ (by dsimp only; omega) ⟨h5, v20, le5, S21.sub [0] (by decide) rfl _ rfl, rfl, r5_7, r5_8, rfl, (zal (by omega) (by omega)), (by first | exact ⟨by omega, by omega, sets_old m hI5.1 (by omega) hI5.2.2 (by assumption)⟩ | exact ⟨by omega, by omega, sets_new m hI5.1 (by omega) hI5.2.2 (by assumption)⟩)⟩
  refine zau <| zas <| zae (l := [0, 1]) rfl <| p_v (v := .int .i64 (t9 + 1)) rfl rfl rfl (zc7 r5_9 rfl (zal (by omega) (by omega))) <| p_v (v := .int .i64 (t9 + 1)) rfl rfl rfl (zah rfl) <| zaa ?_
  refine ih5 (out, t9 + 1) _ _ (by dsimp only; omega) ⟨h5, v_out, le5, S14.sub [0] (by decide) rfl _ rfl, r5_3, r5_7, r5_8, rfl, (zal (by omega) (by omega)), (by first | exact ⟨by omega, by omega, sets_old m hI5.1 (by omega) hI5.2.2 (by assumption)⟩ | exact ⟨by omega, by omega, sets_new m hI5.1 (by omega) hI5.2.2 (by assumption)⟩)⟩
 refine zbv rfl <| zac <| zae (l := [0, 1]) rfl <| p_v (v := v_out) rfl rfl rfl (zah r5_3) <| p_v (v := v_out) rfl rfl rfl (zag rfl) <| zaa <| zar Tryd.func63 (res1 rfl (zaw (v := v_out) rfl)) ?_
 have q0 : (zdk m : List BSet) = out := by
  rw [hI5.2.2]; exact sets_end m (by omega)
 refine ⟨_, rfl, h5, v_out, ?_, ?_⟩
 · rw [q0]; exact S5.sub [0] (by decide) rfl _ rfl
 · rfl
theorem some10_calls (w : World) :
    Calls Tryd.prog 46 #[] w fun e w' => ∃ v, e = .returned v ∧ ∃ (hn : Ghost) (r0 : Value) (r1 : Value) (r2 : Value) (r3 : Value), St w.heap.size w hn w' [row 101 kSpot r0 zba.spots, row 3 (Kd.int .i64) r1 zba.first, row 23 (Kd.int .i64).slice r2 zba.follow, row 4 Kd.bool r3 zba.last] ∧ v = .agg #[r0, r1, r2, r3, .bool zba.empty] := by
 refine zak Tryd.func46 rfl Tryd.ntmps46 rfl ?_
 have S0 := St.init w
 refine zac <| zae (l := [0]) rfl ?_
 obtain ⟨b1, w1, r1, g1, T1⟩ := zcb (P := Tryd.prog) S0 27 (v := (.agg #[.slice none 0 0, .slice none 0 0, .slice none 0 0, .slice none 0 0, .bool false])) [.slice none 0 0, .slice none 0 0, .slice none 0 0, .slice none 0 0, .bool false] rfl
 have S2 := T1
 dsimp only [lAa, lAn, lA0, lAs] at S2
 refine p_v (v := .pointer (some ⟨b1, 0, none⟩)) rfl rfl rfl (zch ty27 r1) <| zaa <| zac <| zae (l := [0, 1, 2, 3, 4, 5, 6, 7, 8, 9, 10, 11, 12, 13, 14, 15, 16, 17]) rfl ?_
 obtain ⟨v3, w3, r3, g3, T3⟩ := za6 (kd := (Kd.int .u8)) (xs := ([97] : List Int)) (len := 1) [.int .u8 97] S2 u39 ty5 rfl rfl rfl rfl rfl (zbs rfl zcc) [.int .u8 97] (zb5.single (k := (Kd.int .u8)) (h := (fun _ => none)) (x := 97) (cs := [.int .u8 97]) ⟨rfl, (in_u8 (by first|omega|(simp;omega)|assumption) (by first|omega|(simp;omega)|assumption))⟩) rfl
 have S4 := T3
 dsimp only [lAa, lAn, lA0, lAs] at S4
 refine p_v (v := v3) rfl rfl rfl (zax (pv := [(0, .int .u8 97)]) rfl r3) ?_
 obtain ⟨A5, c5, ev5, lc5, cm5⟩ := S4.row_val (j := 1) rfl
 refine p_c rfl rfl rfl (za2 (args := [.slice A5 ([97] : List Int).length c5]) ca64 rfl (zdv ev5 rfl)) (of_calls w3 ([97] : List Int) A5 c5 (And.intro lc5 cm5) (zcz S4 (j := 1) rfl ev5)) ?_
 rintro _ w6 ⟨h6, T6, rfl⟩
 have S7 := S4.keep (Chg.of_below T6.below)
 refine p_v (v := .agg (zb8 (⟨zbd ([97] : List Int), 0⟩ : Spot)).toArray) rfl rfl rfl (zd9 (pv := [(0, .agg (zaf (zbd ([97] : List Int))).toArray)]) rfl (zbq pl101 ty101 rfl (cs := (zb8 (⟨zbd ([97] : List Int), 0⟩ : Spot))) rfl)) ?_
 obtain ⟨v8, w8, r8, g8, T8⟩ := za6 (kd := (Kd.int .u8)) (xs := ([98] : List Int)) (len := 1) [.int .u8 98] S7 u39 ty5 rfl rfl rfl rfl rfl (zbs rfl zcc) [.int .u8 98] (zb5.single (k := (Kd.int .u8)) (h := (fun _ => none)) (x := 98) (cs := [.int .u8 98]) ⟨rfl, (in_u8 (by first|omega|(simp;omega)|assumption) (by first|omega|(simp;omega)|assumption))⟩) rfl
 have S9 := T8
 dsimp only [lAa, lAn, lA0, lAs] at S9
 refine p_v (v := v8) rfl rfl rfl (zax (pv := [(0, .int .u8 98)]) rfl r8) ?_
 obtain ⟨A10, c10, ev10, lc10, cm10⟩ := S9.row_val (j := 2) rfl
 refine p_c rfl rfl rfl (za2 (args := [.slice A10 ([98] : List Int).length c10]) ca64 rfl (zdv ev10 rfl)) (of_calls w8 ([98] : List Int) A10 c10 (And.intro lc10 cm10) (zcz S9 (j := 2) rfl ev10)) ?_
 rintro _ w11 ⟨h11, T11, rfl⟩
 have S12 := S9.keep (Chg.of_below T11.below)
 refine p_v (v := .agg (zb8 (⟨zbd ([98] : List Int), 0⟩ : Spot)).toArray) rfl rfl rfl (zd9 (pv := [(0, .agg (zaf (zbd ([98] : List Int))).toArray)]) rfl (zbq pl101 ty101 rfl (cs := (zb8 (⟨zbd ([98] : List Int), 0⟩ : Spot))) rfl)) ?_
 obtain ⟨v13, w13, r13, g13, T13⟩ := za6 (kd := (Kd.int .u8)) (xs := ([99] : List Int)) (len := 1) [.int .u8 99] S12 u39 ty5 rfl rfl rfl rfl rfl (zbs rfl zcc) [.int .u8 99] (zb5.single (k := (Kd.int .u8)) (h := (fun _ => none)) (x := 99) (cs := [.int .u8 99]) ⟨rfl, (in_u8 (by first|omega|(simp;omega)|assumption) (by first|omega|(simp;omega)|assumption))⟩) rfl
 have S14 := T13
 dsimp only [lAa, lAn, lA0, lAs] at S14
 refine p_v (v := v13) rfl rfl rfl (zax (pv := [(0, .int .u8 99)]) rfl r13) ?_
 obtain ⟨A15, c15, ev15, lc15, cm15⟩ := S14.row_val (j := 3) rfl
 refine p_c rfl rfl rfl (za2 (args := [.slice A15 ([99] : List Int).length c15]) ca64 rfl (zdv ev15 rfl)) (of_calls w13 ([99] : List Int) A15 c15 (And.intro lc15 cm15) (zcz S14 (j := 3) rfl ev15)) ?_
 rintro _ w16 ⟨h16, T16, rfl⟩
 have S17 := S14.keep (Chg.of_below T16.below)
 refine p_v (v := .agg (zb8 (⟨zbd ([99] : List Int), 0⟩ : Spot)).toArray) rfl rfl rfl (zd9 (pv := [(0, .agg (zaf (zbd ([99] : List Int))).toArray)]) rfl (zbq pl101 ty101 rfl (cs := (zb8 (⟨zbd ([99] : List Int), 0⟩ : Spot))) rfl)) ?_
 obtain ⟨v18, w18, r18, g18, T18⟩ := e_build_segs (kd := kSpot) (xs := ([(⟨zbd ([97] : List Int), 0⟩ : Spot), (⟨zbd ([98] : List Int), 0⟩ : Spot), (⟨zbd ([99] : List Int), 0⟩ : Spot)] : List Spot)) (len := 3) (m := 5) [(.agg (zb8 (⟨zbd ([97] : List Int), 0⟩ : Spot)).toArray, (zb8 (⟨zbd ([97] : List Int), 0⟩ : Spot))), (.agg (zb8 (⟨zbd ([98] : List Int), 0⟩ : Spot)).toArray, (zb8 (⟨zbd ([98] : List Int), 0⟩ : Spot))), (.agg (zb8 (⟨zbd ([99] : List Int), 0⟩ : Spot)).toArray, (zb8 (⟨zbd ([99] : List Int), 0⟩ : Spot)))] S17 u22 ty101 rfl rfl rfl rfl (segs_cons rfl rfl (segs_cons rfl rfl (segs_cons rfl rfl segs_nil))) (cs := ((zb8 (⟨zbd ([97] : List Int), 0⟩ : Spot)) ++ ((zb8 (⟨zbd ([98] : List Int), 0⟩ : Spot)) ++ ((zb8 (⟨zbd ([99] : List Int), 0⟩ : Spot)))))) (zb5.cons (k := kSpot) (h := (fun _ => none)) (x := (⟨zbd ([97] : List Int), 0⟩ : Spot)) (cs := (zb8 (⟨zbd ([97] : List Int), 0⟩ : Spot))) ⟨rfl, (by first | assumption | (show inK .u8 _; constructor <;> decide) | (constructor <;> simp [IntKind.min, IntKind.max] <;> omega))⟩ (zb5.cons (k := kSpot) (h := (fun _ => none)) (x := (⟨zbd ([98] : List Int), 0⟩ : Spot)) (cs := (zb8 (⟨zbd ([98] : List Int), 0⟩ : Spot))) ⟨rfl, (by first | assumption | (show inK .u8 _; constructor <;> decide) | (constructor <;> simp [IntKind.min, IntKind.max] <;> omega))⟩ (zb5.single (k := kSpot) (h := (fun _ => none)) (x := (⟨zbd ([99] : List Int), 0⟩ : Spot)) (cs := (zb8 (⟨zbd ([99] : List Int), 0⟩ : Spot))) ⟨rfl, (by first | assumption | (show inK .u8 _; constructor <;> decide) | (constructor <;> simp [IntKind.min, IntKind.max] <;> omega))⟩))) (by simp)
 have S19 := T18
 dsimp only [lAa, lAn, lA0, lAs] at S19
 refine p_v (v := v18) rfl rfl rfl (zax (pv := [(0, .agg (zb8 (⟨zbd ([97] : List Int), 0⟩ : Spot)).toArray), (1, .agg (zb8 (⟨zbd ([98] : List Int), 0⟩ : Spot)).toArray), (2, .agg (zb8 (⟨zbd ([99] : List Int), 0⟩ : Spot)).toArray)]) rfl r18) ?_
 obtain ⟨v20, w20, r20, g20, T20⟩ := za6 (kd := (Kd.int .i64)) (xs := ([0] : List Int)) (len := 1) [.int .i64 0] S19 u23 ty3 rfl rfl rfl rfl rfl (zbs rfl zcc) [.int .i64 0] (zb5.single (k := (Kd.int .i64)) (h := (fun _ => none)) (x := 0) (cs := [.int .i64 0]) ⟨rfl, (zal (by first|omega|(simp;omega)|assumption) (by first|omega|(simp;omega)|assumption))⟩) rfl
 have S21 := T20
 dsimp only [lAa, lAn, lA0, lAs] at S21
 refine p_v (v := v20) rfl rfl rfl (zax (pv := [(0, .int .i64 0)]) rfl r20) ?_
 obtain ⟨v22, w22, r22, g22, T22⟩ := za6 (kd := (Kd.int .i64)) (xs := ([1, 2] : List Int)) (len := 2) [.int .i64 1, .int .i64 2] S21 u23 ty3 rfl rfl rfl rfl rfl (zbs rfl (zbs rfl zcc)) ([.int .i64 1] ++ ([.int .i64 2])) (zb5.cons (k := (Kd.int .i64)) (h := (fun _ => none)) (x := 1) (cs := [.int .i64 1]) ⟨rfl, (zal (by first|omega|(simp;omega)|assumption) (by first|omega|(simp;omega)|assumption))⟩ (zb5.single (k := (Kd.int .i64)) (h := (fun _ => none)) (x := 2) (cs := [.int .i64 2]) ⟨rfl, (zal (by first|omega|(simp;omega)|assumption) (by first|omega|(simp;omega)|assumption))⟩)) rfl
 have S23 := T22
 dsimp only [lAa, lAn, lA0, lAs] at S23
 refine p_v (v := v22) rfl rfl rfl (zax (pv := [(0, .int .i64 1), (1, .int .i64 2)]) rfl r22) ?_
 obtain ⟨v24, w24, r24, g24, T24⟩ := za6 (kd := (Kd.int .i64)) (xs := ([] : List Int)) (len := 0) [] S23 u23 ty3 rfl rfl rfl rfl rfl zcc [] (zb5.nil _ _) rfl
 have S25 := T24
 dsimp only [lAa, lAn, lA0, lAs] at S25
 refine p_v (v := v24) rfl rfl rfl (zax (pv := []) rfl r24) ?_
 obtain ⟨v26, w26, r26, g26, T26⟩ := za6 (kd := (Kd.int .i64)) (xs := ([] : List Int)) (len := 0) [] S25 u23 ty3 rfl rfl rfl rfl rfl zcc [] (zb5.nil _ _) rfl
 have S27 := T26
 dsimp only [lAa, lAn, lA0, lAs] at S27
 refine p_v (v := v26) rfl rfl rfl (zax (pv := []) rfl r26) ?_
 obtain ⟨h29, le29, T29, rp29⟩ := S27.freeze (i := 6) rfl
 have S30 := T29.fx 6 (emp) rfl
 dsimp only [lAa, lAn, lA0, lAs] at S30
 obtain ⟨A29, c29, e29, lc29, cm29, ld29⟩ := rp29
 injection e29 with e29 _; subst e29
 have cn29 := cm29; simp only [maxLen] at cn29
 obtain ⟨h31, le31, T31, rp31⟩ := S30.freeze (i := 7) rfl
 have lf31_0 := (le29).trans le31
 have S32 := T31.fx 7 (emp) rfl
 dsimp only [lAa, lAn, lA0, lAs] at S32
 obtain ⟨A31, c31, e31, lc31, cm31, ld31⟩ := rp31
 injection e31 with e31 _; subst e31
 have cn31 := cm31; simp only [maxLen] at cn31
 obtain ⟨h33, le33, T33, rp33⟩ := S32.freeze (i := 8) rfl
 have lf33_0 := (lf31_0).trans le33
 have lf33_1 := (le31).trans le33
 have S34 := T33.fx 8 (emp) rfl
 dsimp only [lAa, lAn, lA0, lAs] at S34
 obtain ⟨A33, c33, e33, lc33, cm33, ld33⟩ := rp33
 injection e33 with e33 _; subst e33
 have cn33 := cm33; simp only [maxLen] at cn33
 obtain ⟨v28, w28, r28, g28, T28⟩ := za6 (kd := (Kd.int .i64).slice) (xs := ([([1, 2] : List Int), ([] : List Int), ([] : List Int)] : List (List Int))) (len := 3) [.slice A29 ([1, 2] : List Int).length c29, .slice A31 ([] : List Int).length c31, .slice A33 ([] : List Int).length c33] S34 u24 ty23 rfl rfl rfl rfl rfl (zbs rfl (zbs rfl (zbs rfl zcc))) ([.slice A29 ([1, 2] : List Int).length c29] ++ ([.slice A31 ([] : List Int).length c31] ++ ([.slice A33 ([] : List Int).length c33]))) (zb5.cons (k := (Kd.int .i64).slice) (h := h33) (x := ([1, 2] : List Int)) (cs := [.slice A29 ([1, 2] : List Int).length c29]) ⟨_, _, rfl, (And.intro lc29 cm29).1, (And.intro lc29 cm29).2, ld29.mono lf33_1⟩ (zb5.cons (k := (Kd.int .i64).slice) (h := h33) (x := ([] : List Int)) (cs := [.slice A31 ([] : List Int).length c31]) ⟨_, _, rfl, (And.intro lc31 cm31).1, (And.intro lc31 cm31).2, ld31.mono le33⟩ (zb5.single (k := (Kd.int .i64).slice) (h := h33) (x := ([] : List Int)) (cs := [.slice A33 ([] : List Int).length c33]) ⟨_, _, rfl, (And.intro lc33 cm33).1, (And.intro lc33 cm33).2, ld33.mono (Le.refl _)⟩))) rfl
 have S35 := T28
 dsimp only [lAa, lAn, lA0, lAs] at S35
 refine p_v (v := v28) rfl rfl rfl (zax (pv := [(0, .slice A29 ([1, 2] : List Int).length c29), (1, .slice A31 ([] : List Int).length c31), (2, .slice A33 ([] : List Int).length c33)]) rfl r28) ?_
 obtain ⟨v36, w36, r36, g36, T36⟩ := za6 (kd := Kd.bool) (xs := ([false, true, false] : List Bool)) (len := 3) [.bool false, .bool true, .bool false] S35 u25 ty4 rfl rfl rfl rfl rfl (zbs rfl (zbs rfl (zbs rfl zcc))) ([.bool false] ++ ([.bool true] ++ ([.bool false]))) (zb5.cons (k := Kd.bool) (h := h33) (x := false) (cs := [.bool false]) ⟨rfl, trivial⟩ (zb5.cons (k := Kd.bool) (h := h33) (x := true) (cs := [.bool true]) ⟨rfl, trivial⟩ (zb5.single (k := Kd.bool) (h := h33) (x := false) (cs := [.bool false]) ⟨rfl, trivial⟩))) rfl
 have S37 := T36
 dsimp only [lAa, lAn, lA0, lAs] at S37
 refine p_v (v := v36) rfl rfl rfl (zax (pv := [(0, .bool false), (1, .bool true), (2, .bool false)]) rfl r36) <| p_v (v := .agg #[v18, v20, v28, v36, .bool true]) rfl rfl rfl (zd9 (pv := [(0, v18), (1, v20), (2, v28), (3, v36), (4, .bool true)]) rfl (zbq pl27 ty27 rfl (cs := [v18, v20, v28, v36, .bool true]) (fill_any (vc := [v18]) rfl (zcq S37 (j := 4) rfl) rfl rfl (fill_any (vc := [v20]) rfl (zcq S37 (j := 5) rfl) rfl rfl (fill_any (vc := [v28]) rfl (zcq S37 (j := 9) rfl) rfl rfl (fill_any (vc := [v36]) rfl (zcq S37 (j := 10) rfl) rfl rfl (fill_any (vc := [.bool true]) rfl rfl rfl rfl (fill_end rfl)))))))) ?_
 have oc39 := zcx S37 (j := 4) rfl
 have oc40 := zcx S37 (j := 5) rfl
 have oc41 := zcx S37 (j := 9) rfl
 have oc42 := zcx S37 (j := 10) rfl
 obtain ⟨w38, r38, g38, T38⟩ := zb9 (P := Tryd.prog) (off := 0) (v := .agg #[v18, v20, v28, v36, .bool true]) (vs := [v18, v20, v28, v36, .bool true]) S37 ty27 rfl rfl (j := 0) rfl (by first | decide | exact Nat.le_of_ble_eq_true rfl) (zb7 oc39 (zb7 oc40 (zb7 oc41 (zb7 oc42 (zb7 rfl zdu)))))
 have S43 := T38.fx 0 (box b1 27 [v18, v20, v28, v36, .bool true]) rfl
 dsimp only [lAa, lAn, lA0, lAs] at S43
 refine p_s rfl rfl (za7 rfl rfl r38) <| zaa <| zar Tryd.func46 (res1 rfl (zdg S43 ty27 rfl (j := 0) rfl rfl (by simp) rfl)) ?_
 have q0 : (zba.spots : List Spot) = ([(⟨zbd ([97] : List Int), 0⟩ : Spot), (⟨zbd ([98] : List Int), 0⟩ : Spot), (⟨zbd ([99] : List Int), 0⟩ : Spot)] : List Spot) := by
  rfl
 have q1 : (zba.first : List Int) = ([0] : List Int) := by
  rfl
 have q2 : (zba.follow : List (List Int)) = ([([1, 2] : List Int), ([] : List Int), ([] : List Int)] : List (List Int)) := by
  rfl
 have q3 : (zba.last : List Bool) = ([false, true, false] : List Bool) := by
  rfl
 have q4 : (zba.empty : Bool) = true := by
  rfl
 refine ⟨_, rfl, h33, v18, v20, v28, v36, ?_, ?_⟩
 · rw [q0]; rw [q1]; rw [q2]; rw [q3]; exact S43.sub [4, 5, 9, 10] (by decide) rfl _ rfl
 · first | rfl | (simp only [q0, q1, q2, q3, q4]; rfl) | (simp only [q0, q1, q2, q3, q4])
end Go.Proofs.YtfoemogojbnfhaaDoor
namespace Gx
open Go Go.RowKit
set_option linter.unusedSimpArgs false
set_option linter.unusedSectionVars false
set_option linter.unusedVariables false
theorem mem_fold : ∀ (l out : List BSet) (s : BSet), (s ∈ out ∨ s ∈ l) → s ∈ l.foldl addS out
  | [], out, s, h => by rcases h with h | h; exact h; cases h
  | x :: l, out, s, h => by
    refine mem_fold l (addS out x) s ?_
    unfold addS
    rcases h with h | h
    · left; split
      · exact h
      · exact List.mem_append_left _ h
    · rcases List.mem_cons.1 h with e | e
      · subst e; left; split
        · rename_i hx
          obtain ⟨y, hy, hq⟩ := List.any_eq_true.1 hx
          rw [of_decide_eq_true hq]; exact hy
        · simp
      · exact .inr e
theorem spot_set (m : Mach) {i : Nat} (hi : i < m.spots.length) : (at_ m.spots ((i : Nat) : Int)).set ∈ zdk m := by
  unfold zdk
  refine mem_fold _ _ _ (.inr ?_)
  exact List.mem_map.2 ⟨_, zee (by omega) (by omega), rfl⟩
def zdq (w : ByteArray) : List Int := w.data.toList.map fun b => ((b.toNat : Nat) : Int)
theorem bytesL_len (w : ByteArray) : (zdq w).length = w.size := by unfold zdq; rw [List.length_map, Array.length_toList]; rfl
theorem bytesL_at (w : ByteArray) {j : Int} (h0 : 0 ≤ j) (h1 : j < (w.size : Int)) : at_ (zdq w) j = byt w j := by
  unfold at_ byt zdq
  have : j.toNat < w.data.toList.length := by have h2 : (j.toNat : Int) < ((w.data.size : Nat) : Int) := by rw [Int.toNat_of_nonneg h0]; exact h1
                                              rw [Array.length_toList]; omega
  rw [List.getD_eq_getElem?_getD, List.getElem?_map, List.getD_eq_getElem?_getD, List.getElem?_eq_getElem this]; rfl
end Gx
namespace Gx
open Go Go.RowKit
set_option linter.unusedSimpArgs false
set_option linter.unusedSectionVars false
set_option linter.unusedVariables false
def HoldsB (w : World) (T : TypeId) (v : Value) (xs : List Int) (g : Nat) : Prop :=
  ∃ cap cur fr, v = .slice (some ⟨g, 0, none⟩) xs.length cap ∧ w.heap[g]? = some (.cells cur T fr) ∧ cur.size ≤ fr.1 ∧ xs.length ≤ cur.size ∧ xs.length ≤ cap ∧ cap ≤ maxLen ∧ (∀ i, i < xs.length → cur[i]? = some (.int .u8 (xs.getD i 0))) ∧ ∀ x ∈ xs, inK .u8 x
def rowB (T : TypeId) (v : Value) (xs : List Int) : Asrt where
  holds := fun _ w F => ∃ g, HoldsB w T v xs g ∧ F g
  mono := fun _ h => h
  far := fun {h w w' F} hf ⟨g, ⟨cap, cur, fr, h1, h2, h3⟩, h4⟩ => ⟨g, ⟨cap, cur, fr, h1, by rw [hf g h4]; exact h2, h3⟩, h4⟩
theorem St.fresh {base : Nat} {w0 w w' : World} {h : Ghost} {L : List Asrt} {A0 : Asrt} (S : St base w0 h w L) (hc : Chg w w' (fun _ => False)) (hA0 : A0.holds h w' fun b => w.heap.size ≤ b ∧ b < w'.heap.size) : St base w0 h w' (L ++ [A0]) := by
  have S' := S.keep hc
  obtain ⟨Fs, hF, hD⟩ := S.sep
  have hsame : ∀ b, b < w.heap.size → w'.heap[b]? = w.heap[b]? := fun b hb => hc.block b hb (fun x => x)
  have hfresh : ∀ b, w.heap.size ≤ b → h b = none := fun b hb => by
    cases e : h b with
    | none => rfl
    | some o => have := hp_lt (S.ghost b o e); omega
  refine ⟨S'.below, S'.bsz, S'.ghost, S'.dom, fun q => if q < L.length then Fs q else fun b => w.heap.size ≤ b ∧ b < w'.heap.size, fun q A hq => ?_, fun p q hp hq hpq b h1 h2 => ?_⟩
  · by_cases hql : q < L.length
    · rw [List.getElem?_append_left hql] at hq
      obtain ⟨hA, hU⟩ := hF q A hq
      simp only [if_pos hql]
      exact ⟨A.far (fun b hb => hsame b (hU b hb).2.1) hA, fun b hb => ⟨(hU b hb).1, Nat.lt_of_lt_of_le (hU b hb).2.1 hc.size, (hU b hb).2.2⟩⟩
    · rw [List.getElem?_append_right (by omega)] at hq
      have h0 : q - L.length = 0 := by
        have := (List.getElem?_eq_some_iff.1 hq).1
        simp at this; omega
      rw [h0] at hq
      simp only [List.getElem?_cons_zero, Option.some.injEq] at hq
      subst hq
      simp only [if_neg hql]
      exact ⟨hA0, fun b hb => ⟨Nat.le_trans S.bsz hb.1, hb.2, hfresh b hb.1⟩⟩
  · rw [List.length_append] at hp hq
    simp only [List.length_cons, List.length_nil] at hp hq
    by_cases hpl : p < L.length <;> by_cases hql : q < L.length
    · simp only [if_pos hpl] at h1; simp only [if_pos hql] at h2
      exact hD p q hpl hql hpq b h1 h2
    · simp only [if_pos hpl] at h1; simp only [if_neg hql] at h2
      have a1 := ((hF p _ (List.getElem?_eq_getElem hpl)).2 b h1).2.1
      have a2 := h2.1; omega
    · simp only [if_neg hpl] at h1; simp only [if_pos hql] at h2
      have a1 := ((hF q _ (List.getElem?_eq_getElem hql)).2 b h2).2.1
      have a2 := h1.1; omega
    · omega
section
variable {P : Program} {ρ : Env} {w w' : World} {d : Option Tmp} {ty : TypeId} {pos : String} {af : Array Edge} {gd : Option (Nat × Bool)} {x y : Operand} {base : Nat} {w0 : World} {h : Ghost} {L : List Asrt}
theorem e_str_bytes {src dst e : TypeId} (s : ByteArray) (S : St base w0 h w L) (hs : P.underlying src = some .string) (hd : P.underlying dst = some (.slice e)) (he : P.underlying e = some (.int .u8)) (hm : s.size ≤ maxLen) :
    ∃ v w', (convert src dst (.string s)).run P w = .ok v w' ∧ Chg w w' (fun _ => False) ∧ St base w0 h w' (L ++ [rowB e v (zdq s)]) := by
  have hrun := run_bytes_of_string (P := P) w src dst e s hs hd he
  generalize hcap : grownCap w s.size 0 e = cap at hrun
  have hge : s.size ≤ cap := by rw [← hcap]; exact grownCap_ge _ _ _ _
  have hle : cap ≤ maxLen := by rw [← hcap]; exact grownCap_le_maxLen _ _ _ _ hm
  have hc : Chg w (w.drew.alloc (.cells (bytesRow s cap) e ((bytesRow s cap).size, (bytesRow s cap).size + 1))) (fun _ => False) := by
    have h1 := Chg.drew w
    have h2 := Chg.alloc w.drew (.cells (bytesRow s cap) e ((bytesRow s cap).size, (bytesRow s cap).size + 1))
    exact ⟨h2.os.trans h1.os, h2.tape.trans h1.tape, h2.output.trans h1.output, Nat.le_trans h1.size h2.size, fun b hb hn => (h2.block b hb hn).trans (h1.block b hb hn)⟩
  refine ⟨_, _, hrun, hc, S.fresh hc ?_⟩
  have hsz : (bytesRow s cap).size = cap := by
    unfold bytesRow
    rw [Array.size_append, Array.size_map, Array.size_replicate]
    have : s.size = s.data.size := rfl
    omega
  refine ⟨w.heap.size, ⟨cap, bytesRow s cap, ((bytesRow s cap).size, (bytesRow s cap).size + 1), by rw [bytesL_len], ?_, Nat.le_refl _, by rw [bytesL_len, hsz]; exact hge, by rw [bytesL_len]; exact hge, hle, fun i hi => ?_, fun z hz => ?_⟩, ?_⟩
  · show (w.heap.push _)[w.heap.size]? = _
    simp
  · rw [bytesL_len] at hi
    have hi' : i < s.data.size := hi
    rw [bytesRow_at s cap i hi']
    have : (zdq s).getD i 0 = ((s.data[i].toNat : Nat) : Int) := by
      unfold zdq
      rw [List.getD_eq_getElem?_getD, List.getElem?_map, Array.getElem?_toList, Array.getElem?_eq_getElem hi']; rfl
    rw [this]
  · unfold zdq at hz
    obtain ⟨b, _, rfl⟩ := List.mem_map.1 hz
    have := b.toNat_lt
    exact in_u8 (by omega) (by omega)
  · constructor
    · exact Nat.le_refl _
    · show w.heap.size < (w.heap.push _).size
      simp
theorem x_str_bytes {src dst : TypeId} {s : ByteArray} {v : Value} (hx : ev ρ x = .string s) (hr : (convert src dst (.string s)).run P w = .ok v w') : (execOp (ev ρ) ⟨d, .convert src dst x, ty, pos, af, gd⟩).run P w = .ok (.value v) w' := by
  simp only [execOp, hx, Sem.run_bind, hr, Result.andThen_ok]; rfl
theorem St.rowB_at {j : Nat} {T : TypeId} {v : Value} {xs : List Int} (S : St base w0 h w L) (hj : L[j]? = some (rowB T v xs)) : ∃ g, HoldsB w T v xs g := by
  obtain ⟨Fs, hF, _⟩ := S.sep
  obtain ⟨g, hg, _⟩ := (hF j _ hj).1
  exact ⟨g, hg⟩
theorem rowB_val {j : Nat} {T : TypeId} {v : Value} {xs : List Int} (S : St base w0 h w L) (hj : L[j]? = some (rowB T v xs)) : ∃ A c, v = .slice A xs.length c ∧ xs.length ≤ c ∧ c ≤ maxLen := by
  obtain ⟨g, cap, cur, fr, h1, _, _, _, h4, h5, _⟩ := S.rowB_at hj
  exact ⟨_, cap, h1, h4, h5⟩
theorem rowB_le {j : Nat} {T : TypeId} {v : Value} {xs : List Int} (S : St base w0 h w L) (hj : L[j]? = some (rowB T v xs)) : xs.length ≤ maxLen := by
  obtain ⟨A, c, _, h1, h2⟩ := rowB_val S hj
  omega
theorem rowB_leads {j : Nat} {T : TypeId} {A : Option Addr} {c : Nat} {v : Value} {xs : List Int} (S : St base w0 h w L) (hj : L[j]? = some (rowB T v xs)) (hv : v = .slice A xs.length c) : zbo (Kd.int .u8) (hp w) A xs := fun hne => by
  obtain ⟨g, cap, cur, fr, h1, h2, h3, h4, h5, h6, h7, h8⟩ := S.rowB_at hj
  rw [h1] at hv
  injection hv with e1 _ _
  subst e1
  refine ⟨_, rfl, fun i z hi => ⟨[.int .u8 z], ⟨rfl, h8 z (List.mem_of_getElem? hi)⟩, fun q u hq => ?_⟩⟩
  have hq0 : q = 0 := by
    rcases q with _ | q
    · rfl
    · simp at hq
  subst hq0
  simp at hq
  subst hq
  have hil : i < xs.length := (List.getElem?_eq_some_iff.1 hi).1
  have h9 := h7 i hil
  rw [List.getD_eq_getElem?_getD, hi, Option.getD_some] at h9
  have hadd : (⟨g, 0, none⟩ : Addr).add (i * (Kd.int .u8).sz + 0) = ⟨g, i, none⟩ := by
    have e1 : (Kd.int .u8).sz = 1 := rfl
    rw [e1, Nat.mul_one, Nat.add_zero]
    unfold Addr.add; split <;> simp_all
  rw [hadd, gcell_of_block (w := w) (by rfl)]
  simp [World.cell?, h2, h9]
theorem e_indexB {j : Nat} {v : Value} {q : Int} {E : TypeId} {xs : List Int} (S : St base w0 h w L) (hj : L[j]? = some (rowB E v xs)) (h0 : 0 ≤ q) (h1 : q < (xs.length : Int)) :
    ∃ ad, (∃ g cap, v = .slice (some ⟨g, 0, none⟩) xs.length cap ∧ ad = ⟨g, q.toNat * 1, none⟩) ∧ AtOwn v 1 q ad := by
  obtain ⟨g, cap, cur, fr, e, _⟩ := S.rowB_at hj
  exact ⟨⟨g, q.toNat * 1, none⟩, ⟨g, cap, e, rfl⟩, g, by rw [e]; rfl, rfl⟩
theorem e_loadB {j : Nat} {v : Value} {q : Int} {T : TypeId} {ad : Addr} {xs : List Int} (S : St base w0 h w L) (hj : L[j]? = some (rowB T v xs)) (ha : AtOwn v 1 q ad) (h0 : 0 ≤ q) (hq : q < (xs.length : Int)) : inK .u8 (at_ xs q) ∧ CF ad [.int .u8 (at_ xs q)] w := by
  obtain ⟨g, cap, cur, fr, h1, h2, h3, h4, h5, h6, h7, h8⟩ := S.rowB_at hj
  obtain ⟨g', hg, rfl⟩ := ha
  have hgg : g' = g := by rw [h1] at hg; simpa [Value.ownBlock] using hg.symm
  subst hgg
  refine ⟨h8 _ (zee h0 hq), fun p u hp => ?_⟩
  have hp0 : p = 0 := by
    rcases p with _ | p
    · rfl
    · simp at hp
  subst hp0
  simp at hp
  subst hp
  have h9 := h7 q.toNat (by omega)
  have e1 : (⟨g', q.toNat * 1, none⟩ : Addr).add 0 = ⟨g', q.toNat, none⟩ := by rw [Nat.mul_one]; unfold Addr.add; simp
  rw [e1]
  simp only [World.cell?, h2]
  rw [show (at_ xs q) = xs.getD q.toNat 0 from rfl]
  simpa using h9
theorem e_storeB {j : Nat} {v : Value} {q z : Int} {T : TypeId} {b' : Nat} {gg : Bool} {zz : Option Value} {ad : Addr} {xs : List Int} (S : St base w0 h w L) (ht : zbm P T = some (1, b', gg, zz))
    (hj : L[j]? = some (rowB T v xs)) (hz : inK .u8 z) (hat : AtOwn v 1 q ad) (h0 : 0 ≤ q) (hq : q < (xs.length : Int)) :
    ∃ w', (storeVar T ad (.int .u8 z)).run P w = .ok () w' ∧ Chg w w' (fun b => v.ownBlock = some b) ∧ St base w0 h w' (L.set j (rowB T v (xs.set q.toNat z))) := by
  obtain ⟨i, dd, hi, hd, hs, _, hg, _⟩ := zbk ht
  obtain ⟨g', hg', rfl⟩ := hat
  obtain ⟨g, cap, cur, fr, h1, h2, h3, h4, h5, h6, h7, h8⟩ := S.rowB_at hj
  have hgg : g' = g := by rw [h1] at hg'; simpa [Value.ownBlock] using hg'.symm
  subst hgg
  have hlt : q.toNat < cur.size := by omega
  have hgl : g' < w.heap.size := (Array.getElem?_eq_some_iff.1 h2).1
  have hcell : w.cell? ⟨g', q.toNat, none⟩ = some (cur[q.toNat]) := by simp [World.cell?, h2, Array.getElem?_eq_getElem hlt]
  have hfro : w.frozen? ⟨g', q.toNat, none⟩ = false := by simp [World.frozen?, h2]; omega
  have hadd : (⟨g', q.toNat * 1, none⟩ : Addr) = ⟨g', q.toNat, none⟩ := by rw [Nat.mul_one]
  have hblk : (w.setCell ⟨g', q.toNat, none⟩ (.int .u8 z)).heap[g']? = some (.cells (cur.setIfInBounds q.toNat (.int .u8 z)) T fr) := by
    show (w.heap.modify g' _)[g']? = _
    rw [Array.getElem?_modify, if_pos rfl, h2]; rfl
  have hoth : ∀ b, b ≠ g' → (w.setCell ⟨g', q.toNat, none⟩ (.int .u8 z)).heap[b]? = w.heap[b]? := fun b hb => by
    show (w.heap.modify g' _)[b]? = _
    rw [Array.getElem?_modify, if_neg (fun e => hb e.symm)]
  have hsize : (w.setCell ⟨g', q.toNat, none⟩ (.int .u8 z)).heap.size = w.heap.size := by
    show (w.heap.modify g' _).size = _
    simp
  have hchg : Chg w (w.setCell ⟨g', q.toNat, none⟩ (.int .u8 z)) (fun b => b = g') := ⟨rfl, rfl, rfl, by rw [hsize]; exact Nat.le_refl _, fun b _ hn => hoth b hn⟩
  refine ⟨w.setCell ⟨g', q.toNat, none⟩ (.int .u8 z), ?_, hchg.mono fun b hb => by subst hb; exact hg', S.upd hj fun F hF hU => ?_⟩
  · rw [hadd]
    simp only [storeVar, Sem.run_bind, zdm hi, Result.andThen_ok]
    rw [if_neg (by rw [hs]; simp [Value.cells])]
    have e0 : (⟨g', q.toNat, none⟩ : Addr).add 0 = ⟨g', q.toNat, none⟩ := by unfold Addr.add; simp
    show ((store ((⟨g', q.toNat, none⟩ : Addr).add 0) (.int .u8 z)) >>= fun _ => storeCells ⟨g', q.toNat, none⟩ [] 1).run P w = _
    rw [e0, Sem.run_bind, run_store P w _ _ _ rfl, hcell]
    simp only [hfro]
    rfl
  · obtain ⟨g2, ⟨cap2, cur2, fr2, k1, k2, k3, k4, k5, k6, k7, k8⟩, hFg⟩ := hF
    have e2 : g2 = g' := by rw [h1] at k1; injection k1 with k1 _ _; injection k1 with k1; injection k1 with k1 _ _; exact k1.symm
    subst e2
    rw [h2] at k2
    injection k2 with k2
    injection k2 with k2 _ k9
    subst k2 k9
    refine ⟨hchg.mono fun b hb => by subst hb; exact hFg, F, ⟨g2, ⟨cap2, _, fr, by rw [List.length_set]; exact k1, hblk, by simpa using k3, by simpa using k4, by simpa using k5, k6, fun i hi => ?_, fun u hu => ?_⟩, hFg⟩, fun b hb => .inl hb⟩
    · rw [List.length_set] at hi
      rw [Array.getElem?_setIfInBounds, List.getD_eq_getElem?_getD, List.getElem?_set]
      by_cases e : q.toNat = i
      · rw [if_pos e, if_pos e, if_pos (by omega), if_pos (by omega)]; rfl
      · rw [if_neg e, if_neg e, k7 i hi, List.getD_eq_getElem?_getD]
    · rcases List.mem_or_eq_of_mem_set hu with e | e
      · exact k8 u e
      · rw [e]; exact hz
end
end Gx
namespace Gx
open Go Go.RowKit
set_option linter.unusedSimpArgs false
set_option linter.unusedSectionVars false
set_option linter.unusedVariables false
section
variable {P : Program} {f n : Nat} {k : List Item} {ρ : Env} {w : World} {R : Ending → World → Prop} {ops : Array Oper} {rest : List Nat} {i : Nat}
variable {d : Tmp} {ty : TypeId} {pos : String} {af : Array Edge} {x y : Operand} {op : Op} {gd : Option (Nat × Bool)}
theorem p_i {g : FuncId} {args : Array Value} (ho : ops[i]? = some ⟨some d, op, ty, pos, af, gd⟩) (hw : zcn ρ ops ⟨some d, op, ty, pos, af, gd⟩ = true) (hd : Nat.blt d n = true) (hr : (execOp (ev ρ) ⟨some d, op, ty, pos, af, gd⟩).run P w = .ok (.enter g args) w)
    (hc : Calls P g args w fun e w2 => ∃ v, e = .returned v ∧ Run P f n (.inRegion ops rest :: k) (upd ρ d v) w2 R) : Run P f n (.inRegion ops (i :: rest) :: k) ρ w R := p_c ho hw hd hr hc fun _ _ h => h
end
section
variable {P : Program} {f n : Nat} {k : List Item} {ρ : Env} {w : World} {R : Ending → World → Prop} {ops : Array Oper} {H : Held} {fuel : Nat} {listed : Array Bool} {i : Nat}
variable {d : Tmp} {ty : TypeId} {pos : String} {af : Array Edge} {op : Op} {gd : Option (Nat × Bool)}
theorem d_i {g : FuncId} {args : Array Value} (ho : ops[i]? = some ⟨some d, op, ty, pos, af, gd⟩) (hw : zcn ρ ops ⟨some d, op, ty, pos, af, gd⟩ = true) (hd : Nat.blt d n = true) (hr : (execOp (ev ρ) ⟨some d, op, ty, pos, af, gd⟩).run P w = .ok (.enter g args) w)
    (hc : Calls P g args w fun e w2 => ∃ v, e = .returned v ∧ ((Gr w w2 ∨ Keep ops i w2 H) ∧ RA P f n ops H fuel (listed.setIfInBounds i true) k (upd ρ d v) w2 R)) : RA1 P f n ops H fuel listed k ρ w R i := d_c ho hw hd hr hc fun _ _ h => h
end
section
variable {P : Program} {w : World} {ρ : Env} {d : Option Tmp} {x y : Operand} {ty : TypeId} {pos : String} {af : Array Edge} {g : Option (Nat × Bool)}
theorem zca {ad : Addr} (hx : ev ρ x = .pointer (some ad)) : (execOp (ev ρ) ⟨d, .nilCheck x, ty, pos, af, g⟩).run P w = .ok (.value (.pointer (some ad))) w := by
  simp only [execOp, hx]
  rfl
theorem x_eql_ptr {p : Option Addr} {t t2 e : TypeId} (hT : P.underlying t = some (.pointer e)) (hx : ev ρ x = .pointer p) (hy : ev ρ y = .pointer none) : (execOp (ev ρ) ⟨d, .binOp .eql t x y t2, ty, pos, af, g⟩).run P w = .ok (.value (.bool p.isNone)) w := by
  have hg : (eqGuard .eql t x y (.pointer p) (.pointer none)).run P w = .ok () w := by unfold eqGuard; rfl
  have h1 := run_equalIn_pointer_nil (P := P) (w := w) 9999 t p (by rw [show P.pointee t = e by simp [Program.pointee, hT]]; exact hT)
  simp only [execOp, hx, hy, Sem.run_bind, hg, Result.andThen_ok, binOp, Op.equal, Op.maxDepth]
  rw [show (10000 : Nat) = 9999 + 1 from rfl, h1]
  rfl
end
theorem shr_in {a b : Int} (h : inK .u64 a) : inK .u64 (a / 2 ^ b.toNat) := by
  have h0 := zcf h
  have h1 := zck h
  have hp : (0 : Int) < 2 ^ b.toNat := Int.pow_pos (by omega)
  refine zc0 (Int.ediv_nonneg h0 (Int.le_of_lt hp)) (Int.le_trans (Int.ediv_le_self _ h0) h1)
def GCs (ad : Addr) (cs : List Value) : Sp := ⟨fun w => ∀ j v, cs[j]? = some v → gcell (hp w) (ad.add j) = some v, fun _ _ g h j v hj => gcell_mono (Le.below (Chg.below g)) (h j v hj)⟩
section
variable {α β : Type} [DecidableEq α] {P : Program} {kt : TypeId} {ke : α → Value} {ve : β → Value} {w w' : World}
def MapH (ke : α → Value) (ve : β → Value) (b : Nat) (kvs : List (α × β)) (w : World) : Prop := ∃ es clock, w.heap[b]? = some (.map es clock) ∧ es.toList.map (fun e => (e.key, e.val)) = pairs ke ve kvs
theorem MapH.gr {b : Nat} {kvs : List (α × β)} (g : Gr w w') (h : MapH ke ve b kvs w) : MapH ke ve b kvs w' := by
  obtain ⟨es, clock, hb, hes⟩ := h
  have hlt : b < w.heap.size := (Array.getElem?_eq_some_iff.1 hb).1
  exact ⟨es, clock, by rw [← hb]; exact Chg.block g b hlt (fun x => x), hes⟩
def MapHs (ke : α → Value) (ve : β → Value) (b : Nat) (kvs : List (α × β)) : Sp := ⟨MapH ke ve b kvs, fun _ _ g h => h.gr g⟩
theorem e_lookup_h {b : Nat} {T et : TypeId} {kvs : List (α × β)} (K : KeyK P kt ke) (hm : MapH ke ve b kvs w) (hT : P.underlying T = some (.map kt et)) {z : Value} (hz : (zeroValue et).run P w = .ok z w) (d : β) (k : α) (hd : ve d = z := by rfl) :
    (Instr.lookup T (.map (some b)) (ke k) true).run P w = .ok (.tuple #[ve ((zbn k kvs).getD d), .bool (zbn k kvs).isSome]) w := by
  obtain ⟨es, clock, hb, hes⟩ := hm
  have hg : (getObj b).run P w = .ok (.map es clock) w := by simp [getObj, Sem.run, hb]
  simp only [Instr.lookup, Sem.run_bind, run_underlying hT, Result.andThen_ok, hg, K.chk, run_findKey K k hes, Sem.run_pure]
  unfold zbn put2
  cases zct k kvs 0 with
  | none => simp [hz, Sem.run_bind, hd, Sem.run_pure]
  | some p => simp [Sem.run_pure]
end
theorem zbg {a b : List Value} {m n : Nat} (ha : a.length = m) (hb : b.length = n) : (a ++ b).length = m + n := by rw [List.length_append, ha, hb]
theorem zd4 {a : List Value} {m : Nat} (h : a.length = m) : (a.drop 0).take m = a := by rw [List.drop_zero, List.take_of_length_le (by omega)]
theorem seg_mid {pre seg post : List Value} {off m : Nat} (h : pre.length = off) (h2 : seg.length = m) : ((pre ++ (seg ++ post)).drop off).take m = seg := by
  subst h; subst h2
  rw [List.drop_left, List.take_left]
theorem za5 {a pre seg post : List Value} {off na m : Nat} (ha : a.length = na) (h : na + pre.length = off) (h2 : seg.length = m) : ((a ++ (pre ++ (seg ++ post))).drop off).take m = seg := by
  rw [← List.append_assoc a pre]
  exact seg_mid (by rw [List.length_append, ha]; exact h) h2
theorem app_seg {a b seg : List Value} {k m : Nat} (h : (a.drop k).take m = seg) (h2 : seg.length = m) : ((a ++ b).drop k).take m = seg := by
  rw [← h, List.length_take, List.length_drop] at h2
  rcases Nat.eq_zero_or_pos m with h0 | h0
  · subst h0; rw [← h]; simp
  · rw [List.drop_append_of_le_length (by omega), List.take_append_of_le_length (by rw [List.length_drop]; omega), h]
theorem lput_mid {pre seg post vs : List Value} {off : Nat} (h : pre.length = off) (h2 : vs.length = seg.length) : lput (pre ++ (seg ++ post)) off vs = pre ++ (vs ++ post) := by
  subst h
  apply List.ext_getElem?
  intro q
  rw [lput_get vs _ _ _ (by simp; omega)]
  by_cases h3 : q < pre.length
  · rw [if_neg (by omega), List.getElem?_append_left h3, List.getElem?_append_left h3]
  · by_cases h4 : q < pre.length + vs.length
    · rw [if_pos ⟨by omega, h4⟩, List.getElem?_append_right (l₁ := pre) (l₂ := vs ++ post) (by omega), List.getElem?_append_left (by omega)]
    · rw [if_neg (by omega), List.getElem?_append_right (by omega), List.getElem?_append_right (by omega), List.getElem?_append_right (by omega), List.getElem?_append_right (by omega), h2]
theorem one_app {a b : List Value} (ha : ∀ u ∈ a, u.oneCell' = true) (hb : ∀ u ∈ b, u.oneCell' = true) : ∀ u ∈ a ++ b, u.oneCell' = true := fun u hu => (List.mem_append.1 hu).elim (ha u) (hb u)
theorem fill_mid {place : Nat → Option (Nat × Nat)} {cells : Array Value} {i off n : Nat} {v : Value} {vc pre seg post : List Value} {rest : List (Nat × Value)} {r : Array Value} (hp : place i = some (off, n)) (hv : v.cells = vc.toArray) (hn : vc.length = n) (hc : cells.toList = pre ++ (seg ++ post)) (h1 : pre.length = off) (h2 : seg.length = n)
    (h : Instr.fill place (pre ++ (vc ++ post)).toArray rest = some r) : Instr.fill place cells ((i, v) :: rest) = some r := by
  refine fill_any hp hv hn ?_ ?_
  · have : cells.size = cells.toList.length := by simp
    rw [this, hc]
    simp only [List.length_append, Nat.ble_eq]; omega
  · rw [hc, lput_mid h1 (by omega)]; exact h
section
variable {P : Program} {w w0 : World} {base : Nat} {h : Ghost} {L : List Asrt}
theorem e_store_mid {j b off : Nat} {T E : TypeId} {vs pre seg post : List Value} {v : Value} {m b' : Nat} {g : Bool} {z : Option Value} (S : St base w0 h w L) (ht : zbm P T = some (m, b', g, z)) (hc : v.cells = vs.toArray) (hm : vs.length = m)
    (hp : pre.length = off) (hs : seg.length = m) (hj : L[j]? = some (box b E (pre ++ (seg ++ post)))) (h1 : ∀ u ∈ vs, u.oneCell' = true) :
    ∃ w', (storeVar T ⟨b, off, none⟩ v).run P w = .ok () w' ∧ Chg w w' (fun q => q = b) ∧ St base w0 h w' (L.set j (box b E (pre ++ (vs ++ post)))) := by
  have := zb9 (v := v) (vs := vs) (off := off) S ht hc hm hj (by rw [List.length_append, List.length_append]; omega) h1
  rwa [lput_mid hp (hm.trans hs.symm)] at this
theorem zc5 {j b off na : Nat} {T E : TypeId} {vs a pre seg post : List Value} {v : Value} {m b' : Nat} {g : Bool} {z : Option Value} (S : St base w0 h w L) (ht : zbm P T = some (m, b', g, z)) (hc : v.cells = vs.toArray) (hm : vs.length = m)
    (ha : a.length = na) (hp : na + pre.length = off) (hs : seg.length = m) (hj : L[j]? = some (box b E (a ++ (pre ++ (seg ++ post))))) (h1 : ∀ u ∈ vs, u.oneCell' = true) :
    ∃ w', (storeVar T ⟨b, off, none⟩ v).run P w = .ok () w' ∧ Chg w w' (fun q => q = b) ∧ St base w0 h w' (L.set j (box b E (a ++ (pre ++ (vs ++ post))))) := by
  rw [← List.append_assoc a pre] at hj
  have := e_store_mid (v := v) (vs := vs) (pre := a ++ pre) (off := off) S ht hc hm (by rw [List.length_append, ha]; exact hp) hs hj h1
  rwa [List.append_assoc a pre] at this
theorem zc9 {j b : Nat} {T E : TypeId} {vs cs : List Value} {v : Value} {m b' : Nat} {g : Bool} {z : Option Value} (S : St base w0 h w L) (ht : zbm P T = some (m, b', g, z)) (hc : v.cells = vs.toArray) (hm : vs.length = m)
    (hs : cs.length = m) (hj : L[j]? = some (box b E cs)) (h1 : ∀ u ∈ vs, u.oneCell' = true) :
    ∃ w', (storeVar T ⟨b, 0, none⟩ v).run P w = .ok () w' ∧ Chg w w' (fun q => q = b) ∧ St base w0 h w' (L.set j (box b E vs)) := by
  have := zb9 (v := v) (vs := vs) (off := 0) S ht hc hm hj (by omega) h1
  rwa [lput_all (by omega)] at this
end
end Gx
namespace Gx
open Go Go.RowKit
set_option linter.unusedSimpArgs false
set_option linter.unusedSectionVars false
set_option linter.unusedVariables false
section
variable {S : Type} [DecidableEq S]
def addL (l : List S) (s : S) : List S := if s ∈ l then l else l ++ [s]
def placeL (s : S) (l : List S) : Int := ((l.findIdx fun x => decide (x = s) : Nat) : Int)
def rowsOf (next : S → Int → S) (n : Int) (s : S) : List S := (List.range n.toNat).map fun k => next s ((k : Nat) : Int)
def bfs (next : S → Int → S) (n : Int) (first : S) : Nat → List S
  | 0 => [first]
  | i + 1 => match (bfs next n first i)[i]? with
    | some s => (rowsOf next n s).foldl addL (bfs next n first i)
    | none => bfs next n first i
theorem addL_pre (l : List S) (s : S) : ∃ r, addL l s = l ++ r := by
  unfold addL
  split
  · exact ⟨[], by simp⟩
  · exact ⟨[s], rfl⟩
theorem addL_mem (l : List S) (s : S) : s ∈ addL l s := by
  unfold addL
  split
  · assumption
  · simp
theorem addL_nodup {l : List S} {s : S} (h : l.Nodup) : (addL l s).Nodup := by
  unfold addL
  split
  · exact h
  · rename_i hn
    rw [List.nodup_append]
    exact ⟨h, by simp, fun a ha b hb => by rw [List.mem_singleton.1 hb]; exact fun e => hn (by rw [← e]; exact ha)⟩
theorem fold_pre : ∀ (r l : List S), ∃ q, r.foldl addL l = l ++ q
  | [], l => ⟨[], by simp⟩
  | s :: r, l => by
    obtain ⟨a, ha⟩ := addL_pre l s
    obtain ⟨b, hb⟩ := fold_pre r (addL l s)
    exact ⟨a ++ b, by rw [List.foldl_cons, hb, ha, List.append_assoc]⟩
theorem fold_nodup : ∀ (r : List S) {l : List S}, l.Nodup → (r.foldl addL l).Nodup
  | [], _, h => h
  | s :: r, l, h => fold_nodup r (addL_nodup h)
theorem fold_mem : ∀ (r l : List S), ∀ x ∈ r, x ∈ r.foldl addL l
  | [], _, x, h => by cases h
  | s :: r, l, x, h => by
    rw [List.foldl_cons]
    rcases List.mem_cons.1 h with rfl | h
    · obtain ⟨q, hq⟩ := fold_pre r (addL l x)
      rw [hq]; exact List.mem_append_left _ (addL_mem l x)
    · exact fold_mem r _ x h
theorem fold_from : ∀ (r l : List S), ∀ x ∈ r.foldl addL l, x ∈ l ∨ x ∈ r
  | [], _, x, h => .inl h
  | s :: r, l, x, h => by
    rcases fold_from r _ x h with h | h
    · unfold addL at h
      split at h
      · exact .inl h
      · rcases List.mem_append.1 h with h | h
        · exact .inl h
        · rw [List.mem_singleton.1 h]; exact .inr (by simp)
    · exact .inr (List.mem_cons_of_mem _ h)
theorem bfs_step {next : S → Int → S} {n : Int} {first : S} {i : Nat} {s : S} (h : (bfs next n first i)[i]? = some s) : bfs next n first (i + 1) = (rowsOf next n s).foldl addL (bfs next n first i) := by
  show (match (bfs next n first i)[i]? with | some s => _ | none => _) = _
  rw [h]
theorem bfs_pre (next : S → Int → S) (n : Int) (first : S) (i : Nat) : ∃ q, bfs next n first (i + 1) = bfs next n first i ++ q := by
  cases h : (bfs next n first i)[i]? with
  | some s => rw [bfs_step h]; exact fold_pre _ _
  | none => exact ⟨[], by show (match (bfs next n first i)[i]? with | some s => _ | none => _) = _; rw [h]; simp⟩
theorem bfs_nodup (next : S → Int → S) (n : Int) (first : S) : ∀ i, (bfs next n first i).Nodup
  | 0 => by simp [bfs]
  | i + 1 => by
    cases h : (bfs next n first i)[i]? with
    | some s => rw [bfs_step h]; exact fold_nodup _ (bfs_nodup next n first i)
    | none =>
      have e : bfs next n first (i + 1) = bfs next n first i := by
        show (match (bfs next n first i)[i]? with | some s => _ | none => _) = _
        rw [h]
      rw [e]; exact bfs_nodup next n first i
theorem bfs_end {next : S → Int → S} {n : Int} {first : S} {i : Nat} (h : (bfs next n first i).length ≤ i) : ∀ d, bfs next n first (i + d) = bfs next n first i
  | 0 => rfl
  | d + 1 => by
    have ih := bfs_end h d
    rw [← Nat.add_assoc]
    show (match (bfs next n first (i + d))[i + d]? with | some s => _ | none => _) = _
    rw [ih, List.getElem?_eq_none (by omega)]
theorem bfs_all {next : S → Int → S} {n : Int} {first : S} {P : S → Prop} (h0 : P first) (h1 : ∀ s k, P s → 0 ≤ k → k < n → P (next s k)) : ∀ i, ∀ s ∈ bfs next n first i, P s
  | 0, s, hs => by simp only [bfs, List.mem_singleton] at hs; rw [hs]; exact h0
  | i + 1, s, hs => by
    have ih := bfs_all h0 h1 i
    cases h : (bfs next n first i)[i]? with
    | some t =>
      rw [bfs_step h] at hs
      rcases fold_from _ _ s hs with hs | hs
      · exact ih s hs
      · unfold rowsOf at hs
        obtain ⟨k, hk, rfl⟩ := List.mem_map.1 hs
        rw [List.mem_range] at hk
        exact h1 t _ (ih t (List.mem_of_getElem? h)) (by omega) (by omega)
    | none =>
      have e : bfs next n first (i + 1) = bfs next n first i := by
        show (match (bfs next n first i)[i]? with | some s => _ | none => _) = _
        rw [h]
      rw [e] at hs; exact ih s hs
open Classical in
noncomputable def allM (next : S → Int → S) (n : Int) (first : S) : List S := if h : ∃ i, (bfs next n first i).length ≤ i then bfs next n first h.choose else []
theorem allM_eq {next : S → Int → S} {n : Int} {first : S} {i : Nat} (h : (bfs next n first i).length ≤ i) : allM next n first = bfs next n first i := by
  have hx : ∃ i, (bfs next n first i).length ≤ i := ⟨i, h⟩
  unfold allM
  rw [dif_pos hx]
  have hc := hx.choose_spec
  generalize hx.choose = j at hc
  rcases Nat.le_total i j with hle | hle
  · have := bfs_end h (j - i); rwa [show i + (j - i) = j by omega] at this
  · have := bfs_end hc (i - j); rw [show j + (i - j) = i by omega] at this; exact this.symm
theorem place_mem {l : List S} {s : S} (h : s ∈ l) : 0 ≤ placeL s l ∧ placeL s l < (l.length : Int) ∧ l[(placeL s l).toNat]? = some s := by
  unfold placeL
  have hlt : l.findIdx (fun x => decide (x = s)) < l.length := List.findIdx_lt_length_of_exists ⟨s, h, by simp⟩
  refine ⟨by omega, by omega, ?_⟩
  rw [Int.toNat_natCast, List.getElem?_eq_getElem hlt]
  have := List.findIdx_getElem (w := hlt)
  rw [of_decide_eq_true this]
theorem place_app {l : List S} {s : S} (r : List S) (h : s ∈ l) : placeL s (l ++ r) = placeL s l := by
  unfold placeL
  rw [List.findIdx_append, if_pos (List.findIdx_lt_length_of_exists ⟨s, h, by simp⟩)]
theorem place_new {l : List S} {s : S} (h : s ∉ l) : placeL s (l ++ [s]) = (l.length : Int) := by
  unfold placeL
  have e : l.findIdx (fun x => decide (x = s)) = l.length := List.findIdx_eq_length.2 fun x hx => decide_eq_false fun e => h (by rw [← e]; exact hx)
  rw [List.findIdx_append, if_neg (by rw [e]; omega)]
  simp
def zdl (l : List S) : List (S × Int) := l.mapIdx fun i s => (s, ((i : Nat) : Int))
theorem numbered_app (l : List S) (s : S) : zdl (l ++ [s]) = zdl l ++ [(s, (l.length : Int))] := by
  unfold zdl
  rw [List.mapIdx_append]; simp
theorem look_app (k : S) : ∀ (a b : List (S × Int)) (i : Nat), zct k (a ++ b) i = (zct k a i).or (zct k b (i + a.length))
  | [], b, i => by simp [zct]
  | p :: a, b, i => by
    have e : ∀ (l : List (S × Int)) (j : Nat), zct k (p :: l) j = if k = p.1 then some (j, p.2) else zct k l (j + 1) := fun l j => rfl
    rw [List.cons_append, e, e]
    by_cases h : k = p.1
    · rw [if_pos h, if_pos h]; rfl
    · rw [if_neg h, if_neg h, look_app k a b (i + 1), List.length_cons, show i + 1 + a.length = i + (a.length + 1) by omega]
theorem list_snoc {P : List S → Prop} (h0 : P []) (h1 : ∀ l s, P l → P (l ++ [s])) (l : List S) : P l := by
  rw [← List.reverse_reverse l]
  induction l.reverse with
  | nil => exact h0
  | cons a r ih => rw [List.reverse_cons]; exact h1 _ _ ih
theorem numbered_len (l : List S) : (zdl l).length = l.length := by simp [zdl]
theorem look_numbered (s : S) (l : List S) : zct s (zdl l) 0 = if s ∈ l then some ((placeL s l).toNat, placeL s l) else none := by
  induction l using list_snoc with
  | h0 => rfl
  | h1 l t ih =>
    rw [numbered_app, look_app, ih]
    by_cases h : s ∈ l
    · rw [if_pos h, if_pos (List.mem_append_left _ h), place_app _ h]; rfl
    · rw [if_neg h]
      by_cases h2 : s = t
      · rw [if_pos (by simp [h2])]
        subst h2
        rw [place_new h]
        simp [zct, numbered_len]
      · rw [if_neg (by simp [h, h2])]
        simp [zct, h2]
theorem val_old {s : S} {l : List S} (h : s ∈ l) : zbn s (zdl l) = some (placeL s l) := by unfold zbn; rw [look_numbered, if_pos h]; rfl
theorem val_new {s : S} {l : List S} (h : s ∉ l) : zbn s (zdl l) = none := by unfold zbn; rw [look_numbered, if_neg h]; rfl
theorem put_new {s : S} {l : List S} (h : s ∉ l) : putAt s (l.length : Int) (zdl l) = zdl (l ++ [s]) := by
  unfold putAt
  rw [look_numbered, if_neg h, numbered_app]
end
end Gx
namespace Gx
open Go Go.RowKit
set_option linter.unusedSimpArgs false
set_option linter.unusedSectionVars false
set_option linter.unusedVariables false
structure Dfa where
  part : PartM
  next : List (List Int)
  final : List Bool
deriving DecidableEq
instance : Inhabited Dfa := ⟨⟨⟨[], 0⟩, [], []⟩⟩
section
variable {S : Type} [DecidableEq S]
def rowK (next : S → Int → S) (s : S) (k : Int) : List S := (List.range k.toNat).map fun k => next s ((k : Nat) : Int)
theorem rowK_step (next : S → Int → S) (s : S) {k : Int} (h : 0 ≤ k) : rowK next s (k + 1) = rowK next s k ++ [next s k] := by
  unfold rowK
  rw [show (k + 1).toNat = k.toNat + 1 by omega, List.range_succ, List.map_append]
  simp only [List.map_cons, List.map_nil, Int.toNat_of_nonneg h]
theorem rowK_end (next : S → Int → S) (s : S) (n : Int) : rowK next s n = rowsOf next n s := rfl
def nextTo (next : S → Int → S) (n : Int) (all : List S) (i : Nat) : List (List Int) := (all.take i).map fun s => (rowsOf next n s).map fun t => placeL t all
def Closed (next : S → Int → S) (n : Int) (all : List S) (i : Nat) : Prop := ∀ s ∈ all.take i, ∀ t ∈ rowsOf next n s, t ∈ all
structure MadeI (next : S → Int → S) (n : Int) (first : S) (fin : S → Bool) (all : List S) (mp : List (S × Int)) (nx : List (List Int)) (fl : List Bool) (i : Int) : Prop where
  lo : 0 ≤ i
  hi : i ≤ (all.length : Int)
  all_ : all = bfs next n first i.toNat
  mp_ : mp = zdl all
  nx_ : nx = nextTo next n all i.toNat
  fl_ : fl = (all.take i.toNat).map fin
  cl : Closed next n all i.toNat
structure MadeK (next : S → Int → S) (s : S) (all : List S) (all2 : List S) (mp2 : List (S × Int)) (l : List Int) (k : Int) : Prop where
  lo : 0 ≤ k
  all_ : all2 = (rowK next s k).foldl addL all
  mp_ : mp2 = zdl all2
  l_ : l = (rowK next s k).map fun t => placeL t all2
  inn : ∀ t ∈ rowK next s k, t ∈ all2
variable {next : S → Int → S} {n : Int} {first : S} {fin : S → Bool} {all all2 : List S} {mp mp2 : List (S × Int)} {nx : List (List Int)} {fl : List Bool} {l : List Int} {i k : Int} {s : S}
theorem made_0 : MadeI next n first fin [first] [(first, 0)] [] [] 0 where
  lo := by omega
  hi := by simp
  all_ := rfl
  mp_ := rfl
  nx_ := rfl
  fl_ := rfl
  cl := fun s hs => by simp at hs
theorem made_k0 (W : MadeI next n first fin all mp nx fl i) : MadeK next s all all mp [] 0 where
  lo := by omega
  all_ := rfl
  mp_ := W.mp_
  l_ := rfl
  inn := fun t ht => by simp [rowK] at ht
theorem made_old (W : MadeK next s all all2 mp2 l k) (h : (zbn (next s k) mp2).isSome = true) : MadeK next s all all2 mp2 (l ++ [(zbn (next s k) mp2).getD 0]) (k + 1) := by
  have hm : next s k ∈ all2 := by
    by_cases hc : next s k ∈ all2
    · exact hc
    · rw [W.mp_, val_new hc] at h; cases h
  have ha : addL all2 (next s k) = all2 := by unfold addL; rw [if_pos hm]
  refine ⟨by have := W.lo; omega, ?_, W.mp_, ?_, ?_⟩
  · rw [rowK_step _ _ W.lo, List.foldl_append, ← W.all_]; exact ha.symm
  · rw [rowK_step _ _ W.lo, List.map_append, ← W.l_, W.mp_, val_old hm]; rfl
  · rw [rowK_step _ _ W.lo]
    intro t ht
    rcases List.mem_append.1 ht with ht | ht
    · exact W.inn t ht
    · rw [List.mem_singleton.1 ht]; exact hm
theorem made_new (W : MadeK next s all all2 mp2 l k) (h : (zbn (next s k) mp2).isSome = false) : MadeK next s all (all2 ++ [next s k]) (putAt (next s k) (all2.length : Int) mp2) (l ++ [(all2.length : Int)]) (k + 1) := by
  have hm : next s k ∉ all2 := fun hc => by rw [W.mp_, val_old hc] at h; cases h
  have ha : addL all2 (next s k) = all2 ++ [next s k] := by unfold addL; rw [if_neg hm]
  refine ⟨by have := W.lo; omega, ?_, by rw [W.mp_]; exact put_new hm, ?_, ?_⟩
  · rw [rowK_step _ _ W.lo, List.foldl_append, ← W.all_]; exact ha.symm
  · rw [rowK_step _ _ W.lo, List.map_append, W.l_]
    congr 1
    · exact List.map_congr_left fun t ht => (place_app _ (W.inn t ht)).symm
    · simp only [List.map_cons, List.map_nil, place_new hm]
  · rw [rowK_step _ _ W.lo]
    intro t ht
    rcases List.mem_append.1 ht with ht | ht
    · exact List.mem_append_left _ (W.inn t ht)
    · exact List.mem_append_right _ ht
theorem made_next (W : MadeI next n first fin all mp nx fl i) (h1 : i < (all.length : Int)) (hs : all[i.toNat]? = some s) (K : MadeK next s all all2 mp2 l n) : MadeI next n first fin all2 mp2 (nx ++ [l]) (fl ++ [fin s]) (i + 1) := by
  have h0 := W.lo
  have hall : all2 = bfs next n first (i.toNat + 1) := by
    rw [K.all_, rowK_end, W.all_]
    exact (bfs_step (by rw [← W.all_]; exact hs)).symm
  obtain ⟨q, hq⟩ : ∃ q, all2 = all ++ q := by rw [K.all_]; exact fold_pre _ _
  have htk : all2.take (i.toNat + 1) = all.take i.toNat ++ [s] := by
    rw [hq, List.take_append_of_le_length (by omega), List.take_add_one, hs]; rfl
  have ei : (i + 1).toNat = i.toNat + 1 := by omega
  refine ⟨by omega, by rw [hq, List.length_append]; omega, by rw [ei]; exact hall, K.mp_, ?_, ?_, ?_⟩
  · unfold nextTo
    rw [ei, htk, List.map_append, W.nx_]
    congr 1
    · unfold nextTo
      refine List.map_congr_left fun t ht => List.map_congr_left fun u hu => ?_
      rw [hq]; exact (place_app _ (W.cl t ht u hu)).symm
    · rw [K.l_]; rfl
  · rw [ei, htk, List.map_append, W.fl_]; rfl
  · rw [ei]
    intro t ht u hu
    rw [htk] at ht
    rcases List.mem_append.1 ht with ht | ht
    · rw [hq]; exact List.mem_append_left _ (W.cl t ht u hu)
    · rw [List.mem_singleton.1 ht] at hu
      exact K.inn u hu
theorem made_len (W : MadeI next n first fin all mp nx fl i) : (nx.length : Int) = i ∧ (fl.length : Int) = i := by
  have h0 := W.lo
  have h1 := W.hi
  rw [W.nx_, W.fl_]
  unfold nextTo
  simp only [List.length_map, List.length_take]
  omega
theorem made_val (W : MadeK next s all all2 mp2 l k) (t : S) : 0 ≤ (zbn t mp2).getD 0 ∧ (zbn t mp2).getD 0 ≤ (all2.length : Int) := by
  rw [W.mp_]
  by_cases h : t ∈ all2
  · rw [val_old h]
    have := place_mem h
    simp only [Option.getD_some]; omega
  · rw [val_new h]
    simp only [Option.getD_none]; omega
theorem madeK_len (W : MadeK next s all all2 mp2 l k) : (l.length : Int) = k := by
  have h0 := W.lo
  rw [W.l_]
  unfold rowK
  simp only [List.length_map, List.length_range]
  omega
noncomputable def madeM (p : PartM) (first : S) (next : S → Int → S) (fin : S → Bool) : Dfa := ⟨p, nextTo next p.n (allM next p.n first) (allM next p.n first).length, (allM next p.n first).map fin⟩
theorem zbr (p : PartM) (first : S) (next : S → Int → S) (fin : S → Bool) : (madeM p first next fin).part = p := rfl
theorem zcs (p : PartM) (first : S) (next : S → Int → S) (fin : S → Bool) : (madeM p first next fin).next = nextTo next p.n (allM next p.n first) (allM next p.n first).length := rfl
theorem zcj (p : PartM) (first : S) (next : S → Int → S) (fin : S → Bool) : (madeM p first next fin).final = (allM next p.n first).map fin := rfl
theorem zcm (W : MadeI next n first fin all mp nx fl i) (h : (all.length : Int) ≤ i) : all = allM next n first ∧ nx = nextTo next n (allM next n first) (allM next n first).length ∧ fl = (allM next n first).map fin := by
  have h0 := W.lo
  have h1 := W.hi
  have ei : i.toNat = all.length := by omega
  have ha : all = allM next n first := by
    rw [allM_eq (i := i.toNat) (by rw [← W.all_]; omega)]; exact W.all_
  refine ⟨ha, ?_, ?_⟩
  · rw [W.nx_, ei, ha]
  · rw [W.fl_, ei, List.take_length, ha]
theorem nodup_lt : ∀ (N : Nat) (l : List Nat), l.Nodup → (∀ x ∈ l, x < N) → l.length ≤ N
  | 0, [], _, _ => by simp
  | 0, x :: l, _, h => by have := h x (by simp); omega
  | N + 1, l, hn, h => by
    by_cases hm : N ∈ l
    · have := nodup_lt N (l.erase N) (hn.erase N) fun x hx => by
        have h1 := h x (List.mem_of_mem_erase hx)
        have h2 : x ≠ N := fun e => by rw [e] at hx; exact (List.Nodup.not_mem_erase hn) hx
        omega
      rw [List.length_erase_of_mem hm] at this
      omega
    · have := nodup_lt N l hn fun x hx => by
        have h1 := h x hx
        have h2 : x ≠ N := fun e => hm (by rw [← e]; exact hx)
        omega
      omega
theorem map_nodup {α β : Type} {f : α → β} {P : α → Prop} (hf : ∀ a b, P a → P b → f a = f b → a = b) : ∀ {l : List α}, l.Nodup → (∀ x ∈ l, P x) → (l.map f).Nodup
  | [], _, _ => by simp
  | a :: l, hn, hp => by
    rw [List.map_cons, List.nodup_cons]
    rw [List.nodup_cons] at hn
    refine ⟨fun hc => ?_, map_nodup hf hn.2 fun x hx => hp x (List.mem_cons_of_mem _ hx)⟩
    obtain ⟨b, hb, e⟩ := List.mem_map.1 hc
    exact hn.1 (by rw [← hf b a (hp b (List.mem_cons_of_mem _ hb)) (hp a (by simp)) e]; exact hb)
theorem bfs_bound {P : S → Prop} {f : S → Nat} {N : Nat} (h0 : P first) (h1 : ∀ s k, P s → 0 ≤ k → k < n → P (next s k)) (hf : ∀ a b, P a → P b → f a = f b → a = b) (hN : ∀ a, P a → f a < N) (i : Nat) : (bfs next n first i).length ≤ N := by
  have hp := bfs_all (P := P) h0 h1 i
  have := nodup_lt N ((bfs next n first i).map f) (map_nodup hf (bfs_nodup next n first i) hp) fun x hx => by
    obtain ⟨a, ha, rfl⟩ := List.mem_map.1 hx
    exact hN a (hp a ha)
  rwa [List.length_map] at this
theorem fold_bound {P : S → Prop} {f : S → Nat} {N : Nat} (h0 : P first) (h1 : ∀ s k, P s → 0 ≤ k → k < n → P (next s k)) (hf : ∀ a b, P a → P b → f a = f b → a = b) (hN : ∀ a, P a → f a < N) (W : MadeI next n first fin all mp nx fl i) (hs : s ∈ all) (K : MadeK next s all all2 mp2 l k) (hk : k ≤ n) : all2.length ≤ N := by
  have hp : ∀ x ∈ all, P x := by rw [W.all_]; exact bfs_all (P := P) h0 h1 _
  have hn : all2.Nodup := by rw [K.all_]; exact fold_nodup _ (by rw [W.all_]; exact bfs_nodup next n first _)
  have hp2 : ∀ x ∈ all2, P x := fun x hx => by
    rw [K.all_] at hx
    rcases fold_from _ _ x hx with hx | hx
    · exact hp x hx
    · unfold rowK at hx
      obtain ⟨q, hq, rfl⟩ := List.mem_map.1 hx
      rw [List.mem_range] at hq
      exact h1 s _ (hp s hs) (by omega) (by omega)
  have := nodup_lt N (all2.map f) (map_nodup hf hn hp2) fun x hx => by
    obtain ⟨a, ha, rfl⟩ := List.mem_map.1 hx
    exact hN a (hp2 a ha)
  rwa [List.length_map] at this
end
end Gx
namespace Gx
open Go Go.RowKit
set_option linter.unusedSimpArgs false
set_option linter.unusedSectionVars false
set_option linter.unusedVariables false
def beginB : BSet := BitVec.twoPow 256 255
def putB (s : BSet) (n : Int) : BSet := s ||| BitVec.twoPow 256 n.toNat
theorem begin_words : zbl [0, 0, 0, 9223372036854775808] = beginB := by decide +kernel
theorem has_put (s : BSet) {n k : Int} (h0 : 0 ≤ n) (k0 : 0 ≤ k) (k1 : k < 256) : has (putB s n) k = (has s k || decide (k = n)) := by
  unfold has putB
  rw [BitVec.getLsbD_or, BitVec.getLsbD_twoPow]
  congr 1
  have h2 : k.toNat < 256 := by omega
  by_cases h : k = n
  · subst h; simp [h2]
  · rw [decide_eq_false h]
    have : ¬ n.toNat = k.toNat := by omega
    simp [this]
theorem put_ofPred (s : BSet) {n : Int} (h0 : 0 ≤ n) (h1 : n ≤ 255) : (ofPred fun i => s.getLsbD i || decide ((i : Int) = n)) = putB s n := by
  refine set_ext fun i hi => ?_
  rw [zdw _ hi]
  have := has_put s (n := n) (k := ((i : Nat) : Int)) h0 (by omega) (by omega)
  unfold has at this
  rw [Int.toNat_natCast] at this
  rw [this]
theorem putB_words (s : BSet) {n : Int} (h0 : 0 ≤ n) (h1 : n ≤ 255) : (zaz s).set (n / 64).toNat (ior (at_ (zaz s) (n / 64)) (2 ^ (n % 64).toNat)) = zaz (putB s n) := by
  have := put_words (fun i => s.getLsbD i) h0 h1
  rw [ofPred_self, put_ofPred s h0 h1] at this
  exact this
theorem iand_one {x : Int} (h : 0 ≤ x) : iand x 1 = x % 2 := by
  obtain ⟨n, rfl⟩ := Int.eq_ofNat_of_zero_le h
  unfold iand
  rw [Int.toNat_natCast]
  show ((n &&& 1 : Nat) : Int) = _
  rw [Nat.and_one_is_mod]; omega
theorem has_shift (s : BSet) {n : Int} (h0 : 0 ≤ n) (h1 : n < 256) : decide (iand (at_ (zaz s) (n / 64) / 2 ^ (n % 64).toNat) 1 = 1) = has s n := by
  have hw : 0 ≤ at_ (zaz s) (n / 64) := zcf (zb2 (zcr s) (by omega) (by omega))
  rw [iand_one (Int.ediv_nonneg hw (Int.le_of_lt (Int.pow_pos (by omega))))]
  exact bit_half s h0 h1 rfl
theorem has_zero (k : Int) : has (0 : BSet) k = false := by unfold has; simp
theorem has_ext {a b : BSet} (h : ∀ k : Int, 0 ≤ k → k < 256 → has a k = has b k) : a = b := set_ext fun i hi => by
  have := h ((i : Nat) : Int) (by omega) (by omega)
  unfold has at this
  rwa [Int.toNat_natCast] at this
theorem has_begin {k : Int} (h0 : 0 ≤ k) (h1 : k < 256) : has beginB k = decide (k = 255) := by
  unfold has beginB
  rw [BitVec.getLsbD_twoPow]
  by_cases h : k = 255
  · subst h; rfl
  · rw [decide_eq_false h]
    have : ¬ 255 = k.toNat := by omega
    simp [this]
def rowIn (m : Mach) (c : Int) (l : List Int) (o : BSet) : BSet := l.foldl (fun o n => if has (at_ m.spots n).set c then putB o n else o) o
def readTo (m : Mach) (c : Int) (l : List Int) (t : Int) (o : BSet) : BSet := rowIn m c (l.take t.toNat) o
def outTo (m : Mach) (c : Int) (s : BSet) (t : Int) (o : BSet) : BSet := (List.range t.toNat).foldl (fun o i => if has s ((i : Nat) : Int) then rowIn m c (at_ m.follow ((i : Nat) : Int)) o else o) o
def nextC (m : Mach) (c : Int) (s : BSet) : BSet := outTo m c s m.spots.length (if s = beginB then rowIn m c m.first 0 else 0)
def zbt (m : Mach) (bytes : List Int) (s : BSet) (k : Int) : BSet := nextC m (at_ bytes k) s
def lastB (m : Mach) (s : BSet) (t : Int) : Bool := anyTo (fun i => at_ m.last ((i : Nat) : Int) && has s ((i : Nat) : Int)) t
def zdh (m : Mach) (s : BSet) : Bool := if s = beginB then m.empty else lastB m s m.last.length
theorem read_0 (m : Mach) (c : Int) (l : List Int) (o : BSet) : o = readTo m c l 0 o := rfl
theorem read_yes {m : Mach} {c : Int} {l : List Int} {t : Int} {o : BSet} (h0 : 0 ≤ t) (h1 : t < (l.length : Int)) (h : has (at_ m.spots (at_ l t)).set c = true) : putB (readTo m c l t o) (at_ l t) = readTo m c l (t + 1) o := by
  unfold readTo rowIn
  rw [zdf _ h0 h1, List.foldl_append, List.foldl_cons, List.foldl_nil, if_pos h]
theorem read_no {m : Mach} {c : Int} {l : List Int} {t : Int} {o : BSet} (h0 : 0 ≤ t) (h1 : t < (l.length : Int)) (h : has (at_ m.spots (at_ l t)).set c = false) : readTo m c l t o = readTo m c l (t + 1) o := by
  unfold readTo rowIn
  rw [zdf _ h0 h1, List.foldl_append, List.foldl_cons, List.foldl_nil, if_neg (by rw [h]; simp)]
theorem read_end {m : Mach} {c : Int} {l : List Int} {t : Int} {o : BSet} (h : (l.length : Int) ≤ t) : readTo m c l t o = rowIn m c l o := by
  unfold readTo
  rw [List.take_of_length_le (by omega)]
theorem out_0 (m : Mach) (c : Int) (s o : BSet) : o = outTo m c s 0 o := rfl
theorem out_yes {m : Mach} {c : Int} {s o : BSet} {t : Int} (h0 : 0 ≤ t) (h : has s t = true) : rowIn m c (at_ m.follow t) (outTo m c s t o) = outTo m c s (t + 1) o := by
  unfold outTo
  rw [show (t + 1).toNat = t.toNat + 1 by omega, List.range_succ, List.foldl_append, List.foldl_cons, List.foldl_nil, Int.toNat_of_nonneg h0, if_pos h]
theorem out_no {m : Mach} {c : Int} {s o : BSet} {t : Int} (h0 : 0 ≤ t) (h : has s t = false) : outTo m c s t o = outTo m c s (t + 1) o := by
  unfold outTo
  rw [show (t + 1).toNat = t.toNat + 1 by omega, List.range_succ, List.foldl_append, List.foldl_cons, List.foldl_nil, Int.toNat_of_nonneg h0, if_neg (by rw [h]; simp)]
theorem lastB_0 (m : Mach) (s : BSet) : lastB m s 0 = false := rfl
theorem lastB_step {m : Mach} {s : BSet} {t : Int} (h0 : 0 ≤ t) (h : lastB m s t = false) (hb : (at_ m.last t && has s t) = false) : lastB m s (t + 1) = false := by
  unfold lastB at h ⊢
  rw [anyTo_step _ h0, h, Int.toNat_of_nonneg h0, hb]; rfl
theorem finalB_begin {m : Mach} {s : BSet} (h : s = beginB) : zdh m s = m.empty := by unfold zdh; rw [if_pos h]
theorem finalB_yes {m : Mach} {s : BSet} {t : Int} (h : s ≠ beginB) (h0 : 0 ≤ t) (h1 : t < (m.last.length : Int)) (hb : at_ m.last t = true) (hs : has s t = true) : zdh m s = true := by
  unfold zdh
  rw [if_neg h]
  exact (anyTo_iff _ _).2 ⟨t.toNat, by omega, by rw [Int.toNat_of_nonneg h0, hb, hs]; rfl⟩
theorem finalB_no {m : Mach} {s : BSet} {t : Int} (h : s ≠ beginB) (ht : (m.last.length : Int) ≤ t) (h1 : t ≤ m.last.length) (hl : lastB m s t = false) : zdh m s = false := by
  unfold zdh
  rw [if_neg h, show (m.last.length : Int) = t by omega]; exact hl
theorem rowIn_has (m : Mach) (c : Int) {k : Int} (k0 : 0 ≤ k) (k1 : k < 256) : ∀ (l : List Int) (o : BSet), (∀ x ∈ l, 0 ≤ x) → has (rowIn m c l o) k = (has o k || (decide (k ∈ l) && has (at_ m.spots k).set c))
  | [], o, _ => by unfold rowIn; simp
  | x :: l, o, h => by
    have hx := h x (by simp)
    have ih := rowIn_has m c k0 k1 l (if has (at_ m.spots x).set c then putB o x else o) fun y hy => h y (List.mem_cons_of_mem _ hy)
    show has (rowIn m c l (if has (at_ m.spots x).set c then putB o x else o)) k = _
    rw [ih]
    by_cases hs : has (at_ m.spots x).set c = true
    · rw [if_pos hs, has_put o hx k0 k1]
      by_cases e : k = x
      · subst e; simp [hs]
      · simp [e]
    · rw [if_neg hs]
      by_cases e : k = x
      · subst e; simp at hs; simp [hs]
      · simp [e]
theorem outTo_has {m : Mach} (hR : Right m) (c : Int) (s : BSet) {k : Int} (k0 : 0 ≤ k) (k1 : k < 256) (o : BSet) : ∀ t : Nat, t ≤ m.spots.length → has (outTo m c s ((t : Nat) : Int) o) k = (has o k || (anyTo (fun i => has s ((i : Nat) : Int) && decide (k ∈ at_ m.follow ((i : Nat) : Int))) ((t : Nat) : Int) && has (at_ m.spots k).set c))
  | 0, _ => by unfold outTo anyTo; simp
  | t + 1, ht => by
    have ih := outTo_has hR c s k0 k1 o t (by omega)
    have e : (((t + 1 : Nat) : Nat) : Int) = ((t : Nat) : Int) + 1 := by omega
    rw [e, anyTo_step _ (by omega), Int.toNat_natCast]
    cases hs : has s ((t : Nat) : Int) with
    | true =>
      rw [← out_yes (by omega) hs, rowIn_has m c k0 k1 _ _ fun x hx => (hR.rows (by omega) (by omega) x hx).1, ih]
      cases has o k <;> cases anyTo (fun i => has s ((i : Nat) : Int) && decide (k ∈ at_ m.follow ((i : Nat) : Int))) ((t : Nat) : Int) <;> cases decide (k ∈ at_ m.follow ((t : Nat) : Int)) <;> cases has (at_ m.spots k).set c <;> rfl
    | false =>
      rw [← out_no (by omega) hs, ih]
      simp
theorem nextC_has {m : Mach} (hR : Right m) (c : Int) (s : BSet) {k : Int} (k0 : 0 ≤ k) (k1 : k < 256) : has (nextC m c s) k = (((decide (s = beginB) && decide (k ∈ m.first)) || anyTo (fun i => has s ((i : Nat) : Int) && decide (k ∈ at_ m.follow ((i : Nat) : Int))) m.spots.length) && has (at_ m.spots k).set c) := by
  unfold nextC
  rw [outTo_has hR c s k0 k1 _ m.spots.length (Nat.le_refl _)]
  by_cases h : s = beginB
  · rw [if_pos h, rowIn_has m c k0 k1 _ _ fun x hx => (hR.firsts x hx).1, has_zero, decide_eq_true h]
    cases decide (k ∈ m.first) <;> cases has (at_ m.spots k).set c <;> simp
  · rw [if_neg h, has_zero, decide_eq_false h]; simp
def InB (m : Mach) (s : BSet) : Prop := s = beginB ∨ ∀ k : Int, 0 ≤ k → k < 256 → has s k = true → k < (m.spots.length : Int)
theorem nextC_in {m : Mach} (hR : Right m) (c : Int) (s : BSet) : ∀ k : Int, 0 ≤ k → k < 256 → has (nextC m c s) k = true → k < (m.spots.length : Int) := fun k k0 k1 h => by
  rw [nextC_has hR c s k0 k1] at h
  simp only [Bool.and_eq_true, Bool.or_eq_true, decide_eq_true_eq] at h
  rcases h.1 with h | h
  · exact (hR.firsts k h.2).2
  · obtain ⟨d, hd, h2⟩ := (anyTo_iff _ _).1 h
    simp only [Bool.and_eq_true, decide_eq_true_eq] at h2
    exact (hR.rows (by omega) hd k h2.2).2
theorem next_ne {m : Mach} (hR : Right m) (c : Int) (s : BSet) : nextC m c s ≠ beginB := fun e => by
  have := nextC_in hR c s 255 (by omega) (by omega) (by rw [e, has_begin (by omega) (by omega)]; rfl)
  have := hR.small
  omega
def codeB (m : Mach) (s : BSet) : Nat := if s = beginB then 2 ^ m.spots.length else s.toNat
theorem code_lt {m : Mach} {s : BSet} (h : InB m s) : codeB m s < 2 ^ m.spots.length + 1 := by
  unfold codeB
  split
  · omega
  · rcases h with h | h
    · contradiction
    · refine Nat.lt_succ_of_lt (Nat.lt_of_not_le fun hc => ?_)
      obtain ⟨i, hi, hb⟩ := Nat.exists_ge_and_testBit_of_ge_two_pow hc
      have hi2 : i < 256 := Nat.lt_of_not_le fun hge => by
        rw [Nat.testBit_lt_two_pow (Nat.lt_of_lt_of_le s.isLt (Nat.pow_le_pow_right (by omega) hge))] at hb
        cases hb
      have := h ((i : Nat) : Int) (by omega) (by omega) (by unfold has; rw [Int.toNat_natCast]; exact hb)
      omega
theorem code_inj {m : Mach} {a b : BSet} (ha : InB m a) (hb : InB m b) (h : codeB m a = codeB m b) : a = b := by
  have key : ∀ s : BSet, s ≠ beginB → InB m s → s.toNat < 2 ^ m.spots.length := fun s hs h => by
    have := code_lt h
    unfold codeB at this
    rw [if_neg hs] at this
    rcases Nat.lt_or_eq_of_le (Nat.le_of_lt_succ this) with h2 | h2
    · exact h2
    · exfalso
      rcases h with h | h
      · exact hs h
      · have hlt : m.spots.length < 256 := Nat.lt_of_not_le fun hge => by
          have := s.isLt
          have := Nat.pow_le_pow_right (n := 2) (by omega) hge
          omega
        have := h ((m.spots.length : Nat) : Int) (by omega) (by omega) (by
          unfold has
          rw [Int.toNat_natCast]
          show s.toNat.testBit m.spots.length = true
          rw [h2, Nat.testBit_two_pow_self])
        omega
  unfold codeB at h
  by_cases h1 : a = beginB
  · by_cases h2 : b = beginB
    · rw [h1, h2]
    · rw [if_pos h1, if_neg h2] at h
      have := key b h2 hb; omega
  · by_cases h2 : b = beginB
    · rw [if_neg h1, if_pos h2] at h
      have := key a h1 ha; omega
    · rw [if_neg h1, if_neg h2] at h
      exact BitVec.eq_of_toNat_eq h
end Gx
namespace Gx
open Go Go.RowKit
set_option linter.unusedSimpArgs false
set_option linter.unusedSectionVars false
set_option linter.unusedVariables false
theorem next_some (l : List Int) : ∀ x, nextOf l = some x → 0 ≤ x ∧ x ≤ (l.length : Int) ∧ (∀ v ∈ l, v < x) ∧ ∀ k : Int, 0 ≤ k → k < x → k ∈ l := by
  induction l using list_snoc with
  | h0 => intro x h; simp [nextOf] at h; subst h; exact ⟨by omega, by simp, fun v hv => (by cases hv), fun k h0 h1 => by omega⟩
  | h1 l n ih =>
    intro x h
    rw [next_app] at h
    cases hl : nextOf l with
    | none => rw [hl] at h; cases h
    | some y =>
      rw [hl] at h
      simp only [] at h
      obtain ⟨a, b, c, d⟩ := ih y hl
      by_cases h1 : n > y
      · rw [if_pos h1] at h; cases h
      · rw [if_neg h1] at h
        by_cases h2 : n = y
        · rw [if_pos h2] at h
          injection h with h
          refine ⟨by omega, by rw [List.length_append]; simp; omega, fun v hv => ?_, fun k h0 h3 => ?_⟩
          · rcases List.mem_append.1 hv with hv | hv
            · have := c v hv; omega
            · rw [List.mem_singleton.1 hv]; omega
          · by_cases h4 : k = n
            · rw [h4]; simp
            · exact List.mem_append_left _ (d k h0 (by omega))
        · rw [if_neg h2] at h
          injection h with h
          subst h
          refine ⟨by omega, by rw [List.length_append]; omega, fun v hv => ?_, fun k h0 h3 => List.mem_append_left _ (d k h0 h3)⟩
          rcases List.mem_append.1 hv with hv | hv
          · exact c v hv
          · rw [List.mem_singleton.1 hv]; omega
structure RightP (p : PartM) : Prop where
  lo : 0 ≤ p.n
  hi : p.n ≤ 256
  of_lt : ∀ c : Int, 0 ≤ c → c < 256 → at_ p.of c < p.n
  some_ : ∀ k : Int, 0 ≤ k → k < p.n → ∃ c : Int, 0 ≤ c ∧ c < 256 ∧ at_ p.of c = k
theorem rightP_of {p : PartM} (ho : zbx p) (h : zc8 p = true) : RightP p := by
  unfold zc8 at h
  cases hn : nextOf p.of with
  | none => rw [hn] at h; cases h
  | some x =>
    rw [hn] at h
    have hx : x = p.n := of_decide_eq_true h
    obtain ⟨a, b, c, d⟩ := next_some p.of x hn
    have hl : p.of.length = 256 := ho.1.1
    subst hx
    refine ⟨a, by omega, fun k h0 h1 => c _ (zee h0 (by omega)), fun k h0 h1 => ?_⟩
    obtain ⟨j, hj, e⟩ := List.getElem_of_mem (d k h0 h1)
    refine ⟨((j : Nat) : Int), by omega, by omega, ?_⟩
    have := zda (xs := p.of) (i := ((j : Nat) : Int)) (by omega) (by omega)
    rw [Int.toNat_natCast, List.getElem?_eq_getElem hj] at this
    injection this with this
    rw [← this, e]
theorem setsP_at {p : PartM} {k : Int} (h0 : 0 ≤ k) (h1 : k < p.n) (h2 : p.n ≤ 256) {c : Int} (c0 : 0 ≤ c) (c1 : c < 256) : has (at_ (zb4 p) k) c = decide (at_ p.of c = k) := by
  have hl := setsP_len p
  have e : at_ (zb4 p) k = ofPred fun c => decide (at_ p.of ((c : Nat) : Int) = k) := by
    have := zda (xs := zb4 p) (i := k) h0 (by omega)
    unfold zb4 at this
    rw [List.getElem?_map, List.getElem?_range (by unfold many; omega)] at this
    simp only [Option.map_some, Int.toNat_of_nonneg h0] at this
    injection this with this
    exact this.symm
  rw [e]
  unfold has
  rw [zdw _ (by omega), Int.toNat_of_nonneg c0]
theorem setsP_some {p : PartM} (h : RightP p) {k : Int} (h0 : 0 ≤ k) (h1 : k < p.n) : at_ (zb4 p) k ≠ 0 := fun e => by
  obtain ⟨c, c0, c1, hc⟩ := h.some_ k h0 h1
  have := setsP_at h0 h1 h.hi c0 c1
  rw [e, has_zero, decide_eq_true hc] at this
  cases this
theorem first_in {s : BSet} (h : s ≠ 0) : has s (first s) = true ∧ 0 ≤ first s ∧ first s < 256 := by
  have h1 : 0 < count s := of_decide_eq_true (by rw [some_full]; exact decide_eq_true h)
  rw [← list_len] at h1
  rw [first_list s h1]
  obtain ⟨a, b, c⟩ := list_get s (Int.le_refl 0) h1
  exact ⟨c, a, b⟩
theorem leastOf_one {s : BSet} (h : s ≠ 0) : leastOf 1 s = [first s] := by
  have h1 : 0 < ((zbj s).length : Int) := by
    rw [list_len]; exact of_decide_eq_true (by rw [some_full]; exact decide_eq_true h)
  unfold leastOf
  rw [first_list s h1]
  cases hl : zbj s with
  | nil => rw [hl] at h1; simp at h1
  | cons a r =>
    have : (min (max 1 0) (((a :: r).length : Nat) : Int)).toNat = 1 := by simp; omega
    rw [this]; rfl
def zat (p : PartM) : List Int := (zb1 p 1).flatten
def zdx (p : PartM) (t : Int) : List Int := ((zb1 p 1).take t.toNat).flatten
theorem leastB_0 (p : PartM) : ([] : List Int) = zdx p 0 := rfl
theorem leastB_step (p : PartM) {t : Int} (h0 : 0 ≤ t) (h1 : t < ((zb1 p 1).length : Int)) : zdx p t ++ at_ (zb1 p 1) t = zdx p (t + 1) := by
  unfold zdx
  rw [zdf _ h0 h1, List.flatten_append]; simp
theorem leastB_end (p : PartM) {t : Int} (h : ((zb1 p 1).length : Int) ≤ t) : zat p = zdx p t := by
  unfold zat zdx
  rw [List.take_of_length_le (by omega)]
theorem leastOf_le (s : BSet) : (leastOf 1 s).length ≤ 1 := by
  unfold leastOf
  rw [List.length_take]; omega
theorem flat_len_le : ∀ l : List (List Int), (∀ x ∈ l, x.length ≤ 1) → l.flatten.length ≤ l.length
  | [], _ => by simp
  | x :: l, h => by
    have := flat_len_le l fun y hy => h y (List.mem_cons_of_mem _ hy)
    have := h x (by simp)
    rw [List.flatten_cons, List.length_append, List.length_cons]; omega
theorem leastBTo_len (p : PartM) (t : Int) : ((zdx p t).length : Int) ≤ 256 := by
  unfold zdx
  have := flat_len_le ((zb1 p 1).take t.toNat) fun x hx => by
    have hx := List.mem_of_mem_take hx
    unfold zb1 at hx
    obtain ⟨s, _, rfl⟩ := List.mem_map.1 hx
    exact leastOf_le s
  have hl : ((zb1 p 1).length : Int) ≤ 256 := by
    unfold zb1
    rw [List.length_map]
    have := setsP_len p; omega
  rw [List.length_take] at this; omega
theorem leastP_row (p : PartM) {t : Int} (h0 : 0 ≤ t) (h1 : t < ((zb1 p 1).length : Int)) : ((at_ (zb1 p 1) t).length : Int) ≤ 1 := by
  have := zee h0 h1
  unfold zb1 at this
  obtain ⟨s, _, e⟩ := List.mem_map.1 this
  have h2 := leastOf_le s
  unfold zb1
  rw [← e]; omega
theorem leastB_map {p : PartM} (h : RightP p) : zat p = (zb4 p).map first := by
  unfold zat zb1
  have : (zb4 p).map (leastOf 1) = (zb4 p).map fun s => [first s] := by
    refine List.map_congr_left fun s hs => leastOf_one ?_
    obtain ⟨j, hj, e⟩ := List.getElem_of_mem hs
    have hl := setsP_len p
    have := setsP_some h (k := ((j : Nat) : Int)) (by omega) (by have := h.lo; omega)
    have e2 := zda (xs := zb4 p) (i := ((j : Nat) : Int)) (by omega) (by omega)
    rw [Int.toNat_natCast, List.getElem?_eq_getElem hj] at e2
    injection e2 with e2
    rw [← e2, e] at this; exact this
  rw [this]
  induction zb4 p with
  | nil => rfl
  | cons a r ih => rw [List.map_cons, List.flatten_cons, ih]; rfl
theorem leastB_len {p : PartM} (h : RightP p) : ((zat p).length : Int) = p.n := by
  rw [leastB_map h, List.length_map, setsP_len]
  have := h.lo; have := h.hi; omega
theorem leastB_at {p : PartM} (h : RightP p) {k : Int} (h0 : 0 ≤ k) (h1 : k < p.n) : 0 ≤ at_ (zat p) k ∧ at_ (zat p) k < 256 ∧ at_ p.of (at_ (zat p) k) = k := by
  have hl := setsP_len p
  have hi := h.hi
  have e : at_ (zat p) k = first (at_ (zb4 p) k) := by rw [leastB_map h]; exact at_map _ _ h0 (by omega)
  obtain ⟨a, b, c⟩ := first_in (setsP_some h h0 h1)
  rw [e]
  refine ⟨b, c, ?_⟩
  rw [setsP_at h0 h1 hi b c] at a
  exact of_decide_eq_true a
def fitsP (p : PartM) (l : List BSet) : Bool := zc8 p && !l.any (zdr p)
def okB (m : Mach) (p : PartM) : Bool := zci m && fitsP p (zdk m)
noncomputable def zai (m : Mach) (p : PartM) : Dfa := if okB m p then madeM p beginB (zbt m (zat p)) (zdh m) else ⟨⟨List.replicate 256 0, 0⟩, [], []⟩
def errB (m : Mach) (p : PartM) : Int := if okB m p then 0 else 1
theorem nextB_eq (m : Mach) (bs : List Int) (s : BSet) (k : Int) : zbt m bs s k = outTo m (at_ bs k) s m.spots.length (if s = beginB then rowIn m (at_ bs k) m.first 0 else 0) := rfl
theorem fits_no1 {p : PartM} {l : List BSet} (h : zc8 p = false) : fitsP p l = false := by unfold fitsP; rw [h]; rfl
theorem fits_no2 {p : PartM} {l : List BSet} {t : Int} (h0 : 0 ≤ t) (h1 : t < (l.length : Int)) (h : zdr p (at_ l t) = true) : fitsP p l = false := by
  unfold fitsP
  rw [List.any_eq_true.2 ⟨_, zee h0 h1, h⟩]; simp
theorem fits_yes {p : PartM} {l : List BSet} {t : Int} (hr : zc8 p = true) (h1 : (l.length : Int) ≤ t) (h : (l.take t.toNat).any (zdr p) = false) : fitsP p l = true := by
  rw [List.take_of_length_le (by omega)] at h
  unfold fitsP
  rw [hr, h]; rfl
theorem fits_right {p : PartM} {l : List BSet} (h : fitsP p l = true) : zc8 p = true := by
  unfold fitsP at h
  exact (Bool.and_eq_true_iff.1 h).1
theorem any_step {α : Type} [Inhabited α] {f : α → Bool} {l : List α} {t : Int} (h0 : 0 ≤ t) (h1 : t < (l.length : Int)) (h : (l.take t.toNat).any f = false) (hf : f (at_ l t) = false) : (l.take (t + 1).toNat).any f = false := by
  rw [zdf _ h0 h1, List.any_append, h]
  simp [hf]
theorem za1 {m : Mach} {p : PartM} (h1 : zci m = true) (h2 : fitsP p (zdk m) = true) : zai m p = madeM p beginB (zbt m (zat p)) (zdh m) := by unfold zai okB; rw [h1, h2]; rfl
theorem zbf {m : Mach} {p : PartM} (h1 : zci m = false) : zai m p = ⟨⟨List.replicate 256 0, 0⟩, [], []⟩ ∧ errB m p = 1 := by unfold zai errB okB; rw [h1]; exact ⟨rfl, rfl⟩
theorem zbe {m : Mach} {p : PartM} (h2 : fitsP p (zdk m) = false) : zai m p = ⟨⟨List.replicate 256 0, 0⟩, [], []⟩ ∧ errB m p = 1 := by unfold zai errB okB; rw [h2, Bool.and_false]; exact ⟨rfl, rfl⟩
theorem err_yes {m : Mach} {p : PartM} (h1 : zci m = true) (h2 : fitsP p (zdk m) = true) : errB m p = 0 := by unfold errB okB; rw [h1, h2]; rfl
section
variable {m : Mach} {bs : List Int} {n : Int} {fin : BSet → Bool} {all all2 : List BSet} {mp mp2 : List (BSet × Int)} {nx : List (List Int)} {fl : List Bool} {l : List Int} {i k : Int} {s : BSet}
theorem two_pow_le {a : Nat} (h : a ≤ 20) : 2 ^ a + 1 ≤ 1048577 := by
  have := Nat.pow_le_pow_right (n := 2) (by omega) h
  have e : 2 ^ 20 = 1048576 := by decide
  omega
theorem spots_bound (hR : Right m) (h20 : (m.spots.length : Int) ≤ 20) (W : MadeI (zbt m bs) n beginB fin all mp nx fl i) : (all.length : Int) ≤ 1048577 := by
  have := bfs_bound (P := InB m) (f := codeB m) (N := 2 ^ m.spots.length + 1) (next := zbt m bs) (n := n) (first := beginB) (.inl rfl) (fun s k _ _ _ => .inr (nextC_in hR _ s)) (fun a b => code_inj) (fun a h => code_lt h) i.toNat
  have h2 := two_pow_le (a := m.spots.length) (by omega)
  rw [W.all_]; omega
theorem spots_bound2 (hR : Right m) (h20 : (m.spots.length : Int) ≤ 20) (W : MadeI (zbt m bs) n beginB fin all mp nx fl i) (hs : s ∈ all) (K : MadeK (zbt m bs) s all all2 mp2 l k) (hk : k ≤ n) : (all2.length : Int) ≤ 1048577 := by
  have := fold_bound (P := InB m) (f := codeB m) (N := 2 ^ m.spots.length + 1) (.inl rfl) (fun s k _ _ _ => .inr (nextC_in hR _ s)) (fun a b => code_inj) (fun a h => code_lt h) W hs K hk
  have h2 := two_pow_le (a := m.spots.length) (by omega)
  omega
end
end Gx
namespace Gx
open Go Go.RowKit
set_option linter.unusedSimpArgs false
set_option linter.unusedSectionVars false
set_option linter.unusedVariables false
def badQ (n q : Int) : Bool := decide (q < 0) || decide (n ≤ q)
def zd0 (d : Dfa) (n : Int) (l : List Int) : Bool := decide ((l.length : Int) ≠ d.part.n) || l.any (badQ n)
def zcd (d : Dfa) : Bool := !decide ((d.next.length : Int) = 0) && decide ((d.final.length : Int) = (d.next.length : Int)) && zc8 d.part && !d.next.any (zd0 d d.next.length)
structure RightD (d : Dfa) : Prop where
  some_ : 0 < (d.next.length : Int)
  final : (d.final.length : Int) = d.next.length
  rp : zc8 d.part = true
  part : RightP d.part
  row : ∀ q : Int, 0 ≤ q → q < (d.next.length : Int) → ((at_ d.next q).length : Int) = d.part.n
  cell : ∀ q : Int, 0 ≤ q → q < (d.next.length : Int) → ∀ x ∈ at_ d.next q, 0 ≤ x ∧ x < (d.next.length : Int)
theorem bad_row {d : Dfa} {n : Int} {l : List Int} : zd0 d n l = false ↔ (l.length : Int) = d.part.n ∧ ∀ x ∈ l, 0 ≤ x ∧ x < n := by
  unfold zd0
  rw [Bool.or_eq_false_iff, decide_eq_false_iff_not, Decidable.not_not, List.any_eq_false]
  refine and_congr Iff.rfl ⟨fun h x hx => ?_, fun h x hx => ?_⟩
  · have := h x hx
    unfold badQ at this
    simp only [Bool.or_eq_true, decide_eq_true_eq, not_or] at this
    omega
  · have := h x hx
    unfold badQ
    simp only [Bool.or_eq_true, decide_eq_true_eq, not_or]
    omega
theorem rightD_of {d : Dfa} (ho : zbx d.part) (h : zcd d = true) : RightD d := by
  unfold zcd at h
  simp only [Bool.and_eq_true, Bool.not_eq_true', decide_eq_true_eq, decide_eq_false_iff_not] at h
  obtain ⟨⟨⟨h1, h2⟩, h3⟩, h4⟩ := h
  have hr : ∀ q : Int, 0 ≤ q → q < (d.next.length : Int) → zd0 d d.next.length (at_ d.next q) = false := fun q h0 hq => by
    have := List.any_eq_false.1 h4 _ (zee h0 hq)
    simpa using this
  exact ⟨by omega, h2, h3, rightP_of ho h3, fun q h0 hq => (bad_row.1 (hr q h0 hq)).1, fun q h0 hq => (bad_row.1 (hr q h0 hq)).2⟩
theorem rightD_to {d : Dfa} (h1 : 0 < (d.next.length : Int)) (h2 : (d.final.length : Int) = d.next.length) (h3 : zc8 d.part = true) (h4 : ∀ l ∈ d.next, (l.length : Int) = d.part.n ∧ ∀ x ∈ l, 0 ≤ x ∧ x < (d.next.length : Int)) : zcd d = true := by
  unfold zcd
  rw [h3, decide_eq_true h2, decide_eq_false (by omega)]
  have : d.next.any (zd0 d d.next.length) = false := List.any_eq_false.2 fun l hl => by rw [bad_row.2 (h4 l hl)]; simp
  rw [this]; rfl
theorem badQ_1 {n q : Int} (h : q < 0) : badQ n q = true := by unfold badQ; rw [decide_eq_true h]; rfl
theorem badQ_2 {n q : Int} (h : ¬ q < 0) : badQ n q = decide (n ≤ q) := by unfold badQ; rw [decide_eq_false h]; rfl
theorem badRow_1 {d : Dfa} {n : Int} {l : List Int} (h : (l.length : Int) ≠ d.part.n) : zd0 d n l = true := by unfold zd0; rw [decide_eq_true h]; rfl
theorem badRow_2 {d : Dfa} {n t : Int} {l : List Int} (h0 : 0 ≤ t) (h1 : t < (l.length : Int)) (h : badQ n (at_ l t) = true) : zd0 d n l = true := by
  unfold zd0
  rw [List.any_eq_true.2 ⟨_, zee h0 h1, h⟩]; simp
theorem badRow_3 {d : Dfa} {n t : Int} {l : List Int} (hl : ¬ (l.length : Int) ≠ d.part.n) (h1 : (l.length : Int) ≤ t) (h : (l.take t.toNat).any (badQ n) = false) : zd0 d n l = false := by
  rw [List.take_of_length_le (by omega)] at h
  unfold zd0
  rw [decide_eq_false hl, h]; rfl
theorem rightD_1 {d : Dfa} (h : (d.next.length : Int) = 0) : zcd d = false := by unfold zcd; rw [decide_eq_true h]; rfl
theorem rightD_2 {d : Dfa} (h : (d.final.length : Int) ≠ d.next.length) : zcd d = false := by unfold zcd; rw [decide_eq_false h]; simp
theorem rightD_3 {d : Dfa} (h : zc8 d.part = false) : zcd d = false := by unfold zcd; rw [h]; simp
theorem rightD_4 {d : Dfa} {t : Int} (h0 : 0 ≤ t) (h1 : t < (d.next.length : Int)) (h : zd0 d d.next.length (at_ d.next t) = true) : zcd d = false := by
  unfold zcd
  rw [List.any_eq_true.2 ⟨_, zee h0 h1, h⟩]; simp
theorem rightD_5 {d : Dfa} {t : Int} (ha : ¬ (d.next.length : Int) = 0) (hb : ¬ (d.final.length : Int) ≠ d.next.length) (hc : zc8 d.part = true) (h1 : (d.next.length : Int) ≤ t) (h : (d.next.take t.toNat).any (zd0 d d.next.length) = false) : zcd d = true := by
  rw [List.take_of_length_le (by omega)] at h
  unfold zcd
  rw [decide_eq_false ha, decide_eq_true (Decidable.not_not.1 hb), hc, h]; rfl
def goD (d : Dfa) (w : ByteArray) : Nat → Int
  | 0 => 0
  | i + 1 => at_ (at_ d.next (goD d w i)) (at_ d.part.of (byt w ((i : Nat) : Int)))
def runD (d : Dfa) (w : ByteArray) : Bool := zcd d && at_ d.final (goD d w w.size)
theorem of_in {d : Dfa} (ho : zbx d.part) (R : RightD d) (w : ByteArray) (i : Int) : 0 ≤ at_ d.part.of (byt w i) ∧ at_ d.part.of (byt w i) < d.part.n := by
  have hb := byt_range w i
  exact ⟨u8_lo (zb2 ho.1 (by omega) (by omega)), R.part.of_lt _ (by omega) (by omega)⟩
theorem goD_in {d : Dfa} (ho : zbx d.part) (R : RightD d) (w : ByteArray) : ∀ i, 0 ≤ goD d w i ∧ goD d w i < (d.next.length : Int)
  | 0 => ⟨by simp [goD], by have := R.some_; simpa [goD] using this⟩
  | i + 1 => by
    have ih := goD_in ho R w i
    have hc := of_in ho R w ((i : Nat) : Int)
    exact R.cell _ ih.1 ih.2 _ (zee hc.1 (by rw [R.row _ ih.1 ih.2]; exact hc.2))
theorem goD_0 (d : Dfa) (w : ByteArray) : (0 : Int) = goD d w (0 : Int).toNat := rfl
theorem goD_step (d : Dfa) (w : ByteArray) {t : Int} (h0 : 0 ≤ t) : at_ (at_ d.next (goD d w t.toNat)) (at_ d.part.of (byt w t)) = goD d w (t + 1).toNat := by
  rw [show (t + 1).toNat = t.toNat + 1 by omega]
  show _ = at_ (at_ d.next (goD d w t.toNat)) (at_ d.part.of (byt w ((t.toNat : Nat) : Int)))
  rw [Int.toNat_of_nonneg h0]
theorem runD_no {d : Dfa} {w : ByteArray} (h : zcd d = false) : runD d w = false := by unfold runD; rw [h]; rfl
theorem runD_yes {d : Dfa} {w : ByteArray} {t : Int} (h : zcd d = true) (ht : t = w.size) : runD d w = at_ d.final (goD d w t.toNat) := by
  unfold runD
  rw [h, ht, Int.toNat_natCast]; rfl
def zeroD : Dfa := ⟨⟨List.replicate 256 0, 0⟩, [], []⟩
def notD (d : Dfa) : Dfa := if zcd d then ⟨d.part, d.next, d.final.map fun x => !x⟩ else zeroD
def errD (d : Dfa) : Int := if zcd d then 0 else 1
theorem zcg {d : Dfa} (h : zcd d = true) : notD d = ⟨d.part, d.next, d.final.map fun x => !x⟩ := by unfold notD; rw [if_pos h]
theorem notD_no {d : Dfa} (h : zcd d = false) : notD d = zeroD := by unfold notD; rw [if_neg (by rw [h]; simp)]
theorem errD_yes {d : Dfa} (h : zcd d = true) : errD d = 0 := by unfold errD; rw [if_pos h]
theorem errD_no {d : Dfa} (h : zcd d = false) : errD d = 1 := by unfold errD; rw [if_neg (by rw [h]; simp)]
def notTo (d : Dfa) (t : Int) : List Bool := (d.final.take t.toNat).map fun x => !x
theorem not_step (d : Dfa) {t : Int} (h0 : 0 ≤ t) (h1 : t < (d.final.length : Int)) : notTo d t ++ [!at_ d.final t] = notTo d (t + 1) := by
  unfold notTo
  rw [zdf _ h0 h1, List.map_append]; rfl
theorem not_0 (d : Dfa) : ([] : List Bool) = notTo d 0 := rfl
theorem not_end (d : Dfa) {t : Int} (h : (d.final.length : Int) ≤ t) : notTo d t = d.final.map fun x => !x := by
  unfold notTo
  rw [List.take_of_length_le (by omega)]
theorem not_len (d : Dfa) {t : Int} (h0 : 0 ≤ t) : ((notTo d t).length : Int) ≤ t := by
  unfold notTo
  rw [List.length_map, List.length_take]; omega
def nextP (a b : Dfa) (s : Int × Int) (k : Int) : Int × Int := (at_ (at_ a.next s.1) k, at_ (at_ b.next s.2) k)
def howB (x y : Bool) (how : Int) : Bool := if how = 1 then x && y else if how = 2 then x || y else decide (x ≠ y)
def finalP (a b : Dfa) (how : Int) (s : Int × Int) : Bool := howB (at_ a.final s.1) (at_ b.final s.2) how
def InP (a b : Dfa) (s : Int × Int) : Prop := (0 ≤ s.1 ∧ s.1 < (a.next.length : Int)) ∧ 0 ≤ s.2 ∧ s.2 < (b.next.length : Int)
theorem nextP_in {a b : Dfa} (ha : RightD a) (hb : RightD b) (he : a.part.n = b.part.n) {s : Int × Int} (hs : InP a b s) {k : Int} (h0 : 0 ≤ k) (h1 : k < a.part.n) : InP a b (nextP a b s k) :=
  ⟨ha.cell _ hs.1.1 hs.1.2 _ (zee h0 (by rw [ha.row _ hs.1.1 hs.1.2]; exact h1)), hb.cell _ hs.2.1 hs.2.2 _ (zee h0 (by rw [hb.row _ hs.2.1 hs.2.2, ← he]; exact h1))⟩
section
variable {a b : Dfa} {fin : Int × Int → Bool} {all all2 : List (Int × Int)} {mp mp2 : List ((Int × Int) × Int)} {nx : List (List Int)} {fl : List Bool} {l : List Int} {i k : Int} {s : Int × Int}
end
end Gx
namespace Gx
open Go Go.RowKit
set_option linter.unusedSimpArgs false
set_option linter.unusedSectionVars false
set_option linter.unusedVariables false
theorem keyk_set {P : Program} {t E : TypeId} {b' : Nat} {z : Option Value} (hT : P.underlying t = some (.array 4 E)) (hE : P.underlying E = some (.int .u64)) (ht : zbm P E = some (1, b', false, z)) : KeyK P t (fun x : BSet => Value.agg (zaf x).toArray) where
  eq := fun a b w => by
    have e : decide (zaz a = zaz b) = decide (a = b) := by
      by_cases h : a = b
      · subst h; simp
      · rw [decide_eq_false h, decide_eq_false (fun e => h (words_inj e))]
    have h1 := eqIn_ints (w := w) hT hE ht (zcr a) (zcr b) 9998
    rw [e] at h1
    exact h1
  chk := fun a e w => by
    obtain ⟨ii, d2, hi, hd2, hsz, _, hg, _⟩ := zbk ht
    have pE : ∀ (i : Nat) (x : Int) (w : World), (zaf a).toArray[i]? = some (.int .u64 x) → (part E (zaf a).toArray i).run P w = .ok (.int .u64 x) w := fun i x w hx => by
      simp only [part, Sem.run_bind, run_isAgg hd2, hg, Result.andThen_ok, Bool.false_eq_true, if_false]
      rw [hx]; rfl
    have cE : ∀ (n : Nat) (x : Int) (w : World), (Instr.checkKey e (n + 1) E (.int .u64 x)).run P w = .ok () w := fun n x w => by
      rw [Instr.checkKey]
      simp only [Sem.run_bind, run_underlying hE, Result.andThen_ok]; rfl
    have p0 := fun w => pE 0 (wd a 0) w rfl
    have p1 := fun w => pE 1 (wd a 1) w rfl
    have p2 := fun w => pE 2 (wd a 2) w rfl
    have p3 := fun w => pE 3 (wd a 3) w rfl
    have main : ∀ n, (Instr.checkKey e (n + 1 + 1) t (.agg (zaf a).toArray)).run P w = .ok () w := fun n => by
      rw [Instr.checkKey]
      simp only [Sem.run_bind, run_underlying hT, Result.andThen_ok]
      simp [Std.Legacy.Range.forIn_eq_forIn_range', List.range', Std.Legacy.Range.size, Sem.run_bind, Result.andThen_ok, zdm hi, hsz, p0, p1, p2, p3, cE, Sem.run_pure]
    exact main 9998
  now := ⟨_, hT, .inl fun a b => rfl⟩
  same := fun a => by simp [zaf, zav, zaz, Instr.sameBits]
end Gx
