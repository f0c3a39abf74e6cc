/- My own library for walks through the translated code, part N4: laws of the model alone, no word of the program. -/
import Derived.Test.YtdfkpjchnndniaaDoorN3
namespace Gx
open Go Go.RowKit
set_option linter.unusedSimpArgs false
set_option linter.unusedSectionVars false
set_option linter.unusedVariables false

/-! ### Marks that grow -/
theorem tab_at' {n : Nat} {p : Nat → Bool} {i : Nat} (h1 : i < n) : at_ (tab n p) ((i : Nat) : Int) = p i := by rw [tab_at (by omega) (by omega), Int.toNat_natCast]
def trues (n : Nat) (l : List Bool) : Nat := (List.range n).countP fun i => at_ l ((i : Nat) : Int)
theorem trues_le (n : Nat) (l : List Bool) : trues n l ≤ n := by
  have := List.countP_le_length (p := fun i : Nat => at_ l ((i : Nat) : Int)) (l := List.range n)
  simpa [trues] using this
def Sub (n : Nat) (a b : List Bool) : Prop := ∀ i : Nat, i < n → at_ a ((i : Nat) : Int) = true → at_ b ((i : Nat) : Int) = true
theorem Sub.refl (n : Nat) (a : List Bool) : Sub n a a := fun _ _ h => h
theorem Sub.trans {n : Nat} {a b c : List Bool} (h : Sub n a b) (h2 : Sub n b c) : Sub n a c := fun i hi hx => h2 i hi (h i hi hx)
theorem countP_lt {p q : Nat → Bool} : ∀ (l : List Nat), (∀ x ∈ l, p x = true → q x = true) → (∃ x ∈ l, p x = false ∧ q x = true) → l.countP p < l.countP q
  | [], _, ⟨x, hx, _⟩ => by cases hx
  | a :: l, h, hx => by
    have hle : l.countP p ≤ l.countP q := List.countP_mono_left fun x hx => h x (List.mem_cons_of_mem _ hx)
    rw [List.countP_cons, List.countP_cons]
    by_cases hex : ∃ x ∈ l, p x = false ∧ q x = true
    · have := countP_lt l (fun x hx => h x (List.mem_cons_of_mem _ hx)) hex
      have h1 := h a (by simp)
      cases hp : p a <;> cases hq : q a <;> simp_all <;> omega
    · obtain ⟨x, hx, h1, h2⟩ := hx
      rcases List.mem_cons.1 hx with e | e
      · subst e; rw [h1, h2]; simp; omega
      · exact (hex ⟨x, e, h1, h2⟩).elim
theorem trues_lt {n : Nat} {a b : List Bool} (h : Sub n a b) {i : Nat} (hi : i < n) (h1 : at_ a ((i : Nat) : Int) = false) (h2 : at_ b ((i : Nat) : Int) = true) : trues n a < trues n b :=
  countP_lt _ (fun x hx => h x (List.mem_range.1 hx)) ⟨i, List.mem_range.2 hi, h1, h2⟩
theorem trues_mono {n : Nat} {a b : List Bool} (h : Sub n a b) : trues n a ≤ trues n b := List.countP_mono_left fun x hx => h x (List.mem_range.1 hx)
theorem sub_or {n : Nat} {a b : List Bool} (h : Sub n a b) : (∀ i : Nat, i < n → at_ a ((i : Nat) : Int) = at_ b ((i : Nat) : Int)) ∨ trues n a < trues n b := by
  by_cases hx : ∃ i : Nat, i < n ∧ at_ a ((i : Nat) : Int) = false ∧ at_ b ((i : Nat) : Int) = true
  · obtain ⟨i, hi, h1, h2⟩ := hx
    exact .inr (trues_lt h hi h1 h2)
  · refine .inl fun i hi => ?_
    cases ha : at_ a ((i : Nat) : Int) with
    | true => rw [h i hi ha]
    | false =>
      cases hb : at_ b ((i : Nat) : Int) with
      | false => rfl
      | true => exact (hx ⟨i, hi, ha, hb⟩).elim
theorem marks_ext {n : Nat} {a b : List Bool} (ha : a.length = n) (hb : b.length = n) (h : ∀ i : Nat, i < n → at_ a ((i : Nat) : Int) = at_ b ((i : Nat) : Int)) : a = b :=
  list_ext ha hb fun k h0 h1 => by have := h k.toNat (by omega); rwa [Int.toNat_of_nonneg h0] at this
theorem mark_set_at {l : List Bool} {t : Int} (h0 : 0 ≤ t) (h1 : t < (l.length : Int)) (v : Bool) (i : Nat) : at_ (l.set t.toNat v) ((i : Nat) : Int) = if ((i : Nat) : Int) = t then v else at_ l ((i : Nat) : Int) := by
  unfold at_
  rw [List.getD_eq_getElem?_getD, List.getElem?_set, List.getD_eq_getElem?_getD, Int.toNat_natCast]
  by_cases h : ((i : Nat) : Int) = t
  · rw [if_pos h, if_pos (by omega), if_pos (by omega)]; rfl
  · rw [if_neg h, if_neg (by omega)]
theorem sub_set {n : Nat} {l : List Bool} {t : Int} (h0 : 0 ≤ t) (h1 : t < (l.length : Int)) : Sub n l (l.set t.toNat true) := fun i hi h => by
  rw [mark_set_at h0 h1]; split
  · rfl
  · exact h
theorem trues_set {n : Nat} {l : List Bool} {t : Int} (h0 : 0 ≤ t) (h1 : t < (l.length : Int)) (hn : (l.length : Int) = n) (h : at_ l t = false) : trues n l < trues n (l.set t.toNat true) :=
  trues_lt (sub_set h0 h1) (i := t.toNat) (by omega) (by rw [Int.toNat_of_nonneg h0]; exact h) (by rw [mark_set_at h0 h1, if_pos (Int.toNat_of_nonneg h0)])
/-! ### The least marks that are closed -/
def lfpTo (n : Nat) (F : List Bool → Nat → Bool) : Nat → List Bool
  | 0 => tab n fun _ => false
  | k + 1 => tab n (F (lfpTo n F k))
def lfp (n : Nat) (F : List Bool → Nat → Bool) : List Bool := lfpTo n F n
def Mono (n : Nat) (F : List Bool → Nat → Bool) : Prop := ∀ a b, Sub n a b → ∀ i : Nat, i < n → F a i = true → F b i = true
theorem lfpTo_len (n : Nat) (F : List Bool → Nat → Bool) (k : Nat) : (lfpTo n F k).length = n := by cases k <;> exact tab_len _ _
theorem lfp_len (n : Nat) (F : List Bool → Nat → Bool) : (lfp n F).length = n := lfpTo_len _ _ _
theorem lfpTo_sub {n : Nat} {F : List Bool → Nat → Bool} (hF : Mono n F) : ∀ k, Sub n (lfpTo n F k) (lfpTo n F (k + 1))
  | 0 => fun i hi h => by rw [show lfpTo n F 0 = tab n fun _ => false from rfl, tab_at' hi] at h; cases h
  | k + 1 => fun i hi h => by
    rw [show lfpTo n F (k + 1) = tab n (F (lfpTo n F k)) from rfl, tab_at' hi] at h
    rw [show lfpTo n F (k + 1 + 1) = tab n (F (lfpTo n F (k + 1))) from rfl, tab_at' hi]
    exact hF _ _ (lfpTo_sub hF k) i hi h
theorem lfpTo_grow {n : Nat} {F : List Bool → Nat → Bool} (hF : Mono n F) : ∀ k, lfpTo n F k = lfpTo n F (k + 1) ∨ k + 1 ≤ trues n (lfpTo n F (k + 1))
  | 0 => by
    rcases sub_or (lfpTo_sub hF 0) with h | h
    · exact .inl (marks_ext (lfpTo_len _ _ _) (lfpTo_len _ _ _) h)
    · exact .inr (by omega)
  | k + 1 => by
    rcases lfpTo_grow hF k with h | h
    · left
      show tab n (F (lfpTo n F k)) = tab n (F (lfpTo n F (k + 1)))
      rw [← h]
    · rcases sub_or (lfpTo_sub hF (k + 1)) with h2 | h2
      · exact .inl (marks_ext (lfpTo_len _ _ _) (lfpTo_len _ _ _) h2)
      · exact .inr (by omega)
theorem lfp_fix {n : Nat} {F : List Bool → Nat → Bool} (hF : Mono n F) : lfp n F = tab n (F (lfp n F)) := by
  rcases lfpTo_grow hF n with h | h
  · exact h
  · have := trues_le n (lfpTo n F (n + 1)); omega
theorem lfp_closed {n : Nat} {F : List Bool → Nat → Bool} (hF : Mono n F) {i : Nat} (hi : i < n) (h : F (lfp n F) i = true) : at_ (lfp n F) ((i : Nat) : Int) = true := by
  rw [lfp_fix hF, tab_at' hi]
  exact h
theorem lfp_least {n : Nat} {F : List Bool → Nat → Bool} {P : List Bool} (hP : ∀ l, Sub n l P → ∀ i : Nat, i < n → F l i = true → at_ P ((i : Nat) : Int) = true) : Sub n (lfp n F) P := by
  have : ∀ k, Sub n (lfpTo n F k) P := fun k => by
    induction k with
    | zero => intro i hi h; rw [show lfpTo n F 0 = tab n fun _ => false from rfl, tab_at' hi] at h; cases h
    | succ k ih =>
      intro i hi h
      rw [show lfpTo n F (k + 1) = tab n (F (lfpTo n F k)) from rfl, tab_at' hi] at h
      exact hP _ ih i hi h
  exact this n
theorem sub_antisymm {n : Nat} {a b : List Bool} (ha : a.length = n) (hb : b.length = n) (h : Sub n a b) (h2 : Sub n b a) : a = b :=
  marks_ext ha hb fun i hi => by
    rw [Bool.eq_iff_iff]; exact ⟨h i hi, h2 i hi⟩
/-! ### Spots to which runs come, and from which they end well -/
def fullS (m : Mach) (i : Nat) : Bool := decide ((at_ m.spots ((i : Nat) : Int)).set ≠ 0)
def comeF (m : Mach) (l : List Bool) (i : Nat) : Bool := fullS m i && (decide (((i : Nat) : Int) ∈ m.first) || anyTo (fun j => at_ l ((j : Nat) : Int) && decide (((i : Nat) : Int) ∈ at_ m.follow ((j : Nat) : Int))) m.spots.length)
def goesF (m : Mach) (l : List Bool) (i : Nat) : Bool := fullS m i && (at_ m.last ((i : Nat) : Int) || (at_ m.follow ((i : Nat) : Int)).any fun j => at_ l j)
def comeM (m : Mach) : List Bool := lfp m.spots.length (comeF m)
def goesM (m : Mach) : List Bool := lfp m.spots.length (goesF m)
def keepF (m : Mach) (l : List Bool) (i : Nat) : Bool := at_ (comeM m) ((i : Nat) : Int) && (at_ m.last ((i : Nat) : Int) || (at_ m.follow ((i : Nat) : Int)).any fun j => at_ l j)
def keepM (m : Mach) : List Bool := lfp m.spots.length (keepF m)
theorem keepM_len (m : Mach) : (keepM m).length = m.spots.length := lfp_len _ _
theorem comeM_len (m : Mach) : (comeM m).length = m.spots.length := lfp_len _ _
theorem come_mono (m : Mach) : Mono m.spots.length (comeF m) := fun a b hab i hi h => by
  unfold comeF at h ⊢
  simp only [Bool.and_eq_true, Bool.or_eq_true, anyTo_iff] at h ⊢
  refine ⟨h.1, h.2.imp id fun ⟨d, hd, h1, h2⟩ => ⟨d, hd, hab d (by omega) h1, h2⟩⟩
theorem row_nat {m : Mach} (hR : Right m) {i : Nat} (hi : i < m.spots.length) {x : Int} (hx : x ∈ at_ m.follow ((i : Nat) : Int)) : ∃ j : Nat, x = ((j : Nat) : Int) ∧ j < m.spots.length := by
  have := hR.rows (i := i) (by omega) (by omega) x hx
  exact ⟨x.toNat, by omega, by omega⟩
theorem any_mono {m : Mach} (hR : Right m) {a b : List Bool} (hab : Sub m.spots.length a b) {i : Nat} (hi : i < m.spots.length) (h : ((at_ m.follow ((i : Nat) : Int)).any fun j => at_ a j) = true) : ((at_ m.follow ((i : Nat) : Int)).any fun j => at_ b j) = true := by
  rw [List.any_eq_true] at h ⊢
  obtain ⟨x, hx, h2⟩ := h
  obtain ⟨j, rfl, hj⟩ := row_nat hR hi hx
  exact ⟨_, hx, hab j hj h2⟩
theorem goes_mono {m : Mach} (hR : Right m) : Mono m.spots.length (goesF m) := fun a b hab i hi h => by
  unfold goesF at h ⊢
  simp only [Bool.and_eq_true, Bool.or_eq_true] at h ⊢
  exact ⟨h.1, h.2.imp id (any_mono hR hab hi)⟩
theorem keep_mono {m : Mach} (hR : Right m) : Mono m.spots.length (keepF m) := fun a b hab i hi h => by
  unfold keepF at h ⊢
  simp only [Bool.and_eq_true, Bool.or_eq_true] at h ⊢
  exact ⟨h.1, h.2.imp id (any_mono hR hab hi)⟩
theorem come_first {m : Mach} {i : Nat} (hi : i < m.spots.length) (hf : fullS m i = true) (h : ((i : Nat) : Int) ∈ m.first) : at_ (comeM m) ((i : Nat) : Int) = true :=
  lfp_closed (come_mono m) hi (by unfold comeF; rw [hf, decide_eq_true h]; rfl)
theorem come_next {m : Mach} {i j : Nat} (hi : i < m.spots.length) (hf : fullS m i = true) (hj : j < m.spots.length) (hc : at_ (comeM m) ((j : Nat) : Int) = true) (h : ((i : Nat) : Int) ∈ at_ m.follow ((j : Nat) : Int)) : at_ (comeM m) ((i : Nat) : Int) = true :=
  lfp_closed (come_mono m) hi (by
    show comeF m (comeM m) i = true
    unfold comeF
    rw [hf, Bool.true_and, Bool.or_eq_true]; right
    rw [anyTo_iff]
    exact ⟨j, by omega, by rw [hc, decide_eq_true h]; rfl⟩)
theorem come_full {m : Mach} {i : Nat} (hi : i < m.spots.length) (h : at_ (comeM m) ((i : Nat) : Int) = true) : fullS m i = true := by
  unfold comeM at h
  rw [lfp_fix (come_mono m), tab_at' hi] at h
  unfold comeF at h
  exact (Bool.and_eq_true _ _ ▸ h).1
theorem come_least {m : Mach} {P : List Bool} (h1 : ∀ i : Nat, i < m.spots.length → fullS m i = true → ((i : Nat) : Int) ∈ m.first → at_ P ((i : Nat) : Int) = true) (h2 : ∀ i j : Nat, i < m.spots.length → j < m.spots.length → fullS m i = true → at_ P ((j : Nat) : Int) = true → ((i : Nat) : Int) ∈ at_ m.follow ((j : Nat) : Int) → at_ P ((i : Nat) : Int) = true) : Sub m.spots.length (comeM m) P :=
  lfp_least fun l hl i hi h => by
    unfold comeF at h
    simp only [Bool.and_eq_true, Bool.or_eq_true, anyTo_iff, decide_eq_true_eq] at h
    rcases h.2 with h3 | ⟨d, hd, h3, h4⟩
    · exact h1 i hi h.1 h3
    · exact h2 i d hi (by omega) h.1 (hl d (by omega) h3) h4
theorem goes_last {m : Mach} (hR : Right m) {i : Nat} (hi : i < m.spots.length) (hf : fullS m i = true) (h : at_ m.last ((i : Nat) : Int) = true) : at_ (goesM m) ((i : Nat) : Int) = true :=
  lfp_closed (goes_mono hR) hi (by unfold goesF; rw [hf, h]; rfl)
theorem goes_next {m : Mach} (hR : Right m) {i : Nat} {j : Int} (hi : i < m.spots.length) (hf : fullS m i = true) (h : j ∈ at_ m.follow ((i : Nat) : Int)) (hg : at_ (goesM m) j = true) : at_ (goesM m) ((i : Nat) : Int) = true :=
  lfp_closed (goes_mono hR) hi (by
    show goesF m (goesM m) i = true
    unfold goesF
    rw [hf, Bool.true_and, Bool.or_eq_true]; right
    exact List.any_eq_true.2 ⟨j, h, hg⟩)
theorem goes_full {m : Mach} (hR : Right m) {i : Nat} (hi : i < m.spots.length) (h : at_ (goesM m) ((i : Nat) : Int) = true) : fullS m i = true := by
  unfold goesM at h
  rw [lfp_fix (goes_mono hR), tab_at' hi] at h
  unfold goesF at h
  exact (Bool.and_eq_true _ _ ▸ h).1
theorem goes_least {m : Mach} {P : List Bool} (h1 : ∀ i : Nat, i < m.spots.length → fullS m i = true → at_ m.last ((i : Nat) : Int) = true → at_ P ((i : Nat) : Int) = true) (h2 : ∀ i : Nat, i < m.spots.length → fullS m i = true → ∀ j ∈ at_ m.follow ((i : Nat) : Int), at_ P j = true → at_ P ((i : Nat) : Int) = true) (hR : Right m) : Sub m.spots.length (goesM m) P :=
  lfp_least fun l hl i hi h => by
    unfold goesF at h
    simp only [Bool.and_eq_true, Bool.or_eq_true] at h
    rcases h.2 with h3 | h3
    · exact h1 i hi h.1 h3
    · obtain ⟨x, hx, h4⟩ := List.any_eq_true.1 h3
      obtain ⟨j, rfl, hj⟩ := row_nat hR hi hx
      exact h2 i hi h.1 _ hx (hl j hj h4)
theorem keep_step {m : Mach} (hR : Right m) {i : Nat} (hi : i < m.spots.length) (hc : at_ (comeM m) ((i : Nat) : Int) = true) (h : at_ m.last ((i : Nat) : Int) = true ∨ ∃ j ∈ at_ m.follow ((i : Nat) : Int), at_ (keepM m) j = true) : at_ (keepM m) ((i : Nat) : Int) = true :=
  lfp_closed (keep_mono hR) hi (by
    show keepF m (keepM m) i = true
    unfold keepF
    rw [hc, Bool.true_and, Bool.or_eq_true]
    exact h.imp id fun ⟨j, hj, h2⟩ => List.any_eq_true.2 ⟨j, hj, h2⟩)
theorem keep_least {m : Mach} (hR : Right m) {P : List Bool} (h1 : ∀ i : Nat, i < m.spots.length → at_ (comeM m) ((i : Nat) : Int) = true → (at_ m.last ((i : Nat) : Int) = true ∨ ∃ j ∈ at_ m.follow ((i : Nat) : Int), at_ P j = true) → at_ P ((i : Nat) : Int) = true) : Sub m.spots.length (keepM m) P :=
  lfp_least fun l hl i hi h => by
    unfold keepF at h
    simp only [Bool.and_eq_true, Bool.or_eq_true] at h
    refine h1 i hi h.1 (h.2.imp id fun h3 => ?_)
    obtain ⟨x, hx, h4⟩ := List.any_eq_true.1 h3
    obtain ⟨j, rfl, hj⟩ := row_nat hR hi hx
    exact ⟨_, hx, hl j hj h4⟩
/-- A spot is kept just if a run comes to it, and goes on from it. -/
theorem keep_iff {m : Mach} (hR : Right m) {i : Nat} (hi : i < m.spots.length) : at_ (keepM m) ((i : Nat) : Int) = (at_ (comeM m) ((i : Nat) : Int) && at_ (goesM m) ((i : Nat) : Int)) := by
  have h1 : Sub m.spots.length (keepM m) (tab m.spots.length fun i => at_ (comeM m) ((i : Nat) : Int) && at_ (goesM m) ((i : Nat) : Int)) := keep_least hR fun i hi hc h => by
    rw [tab_at' hi, hc, Bool.true_and]
    rcases h with h | ⟨j, hj, h⟩
    · exact goes_last hR hi (come_full hi hc) h
    · obtain ⟨k, rfl, hk⟩ := row_nat hR hi hj
      rw [tab_at' hk, Bool.and_eq_true] at h
      exact goes_next hR hi (come_full hi hc) hj h.2
  have hq : ∀ i : Nat, i < m.spots.length → at_ (goesM m) ((i : Nat) : Int) = true → (at_ (comeM m) ((i : Nat) : Int) = true → at_ (keepM m) ((i : Nat) : Int) = true) → at_ (tab m.spots.length fun i => at_ (goesM m) ((i : Nat) : Int) && (!at_ (comeM m) ((i : Nat) : Int) || at_ (keepM m) ((i : Nat) : Int))) ((i : Nat) : Int) = true := fun i hi hg hc => by
    rw [tab_at' hi, hg, Bool.true_and]
    cases hx : at_ (comeM m) ((i : Nat) : Int) with
    | false => rfl
    | true => rw [hc hx]; rfl
  have h2 : Sub m.spots.length (goesM m) (tab m.spots.length fun i => at_ (goesM m) ((i : Nat) : Int) && (!at_ (comeM m) ((i : Nat) : Int) || at_ (keepM m) ((i : Nat) : Int))) := by
    refine goes_least (fun i hi hf hl => hq i hi (goes_last hR hi hf hl) fun hc => keep_step hR hi hc (.inl hl)) (fun i hi hf x hx hp => ?_) hR
    obtain ⟨j, rfl, hj⟩ := row_nat hR hi hx
    rw [tab_at' hj, Bool.and_eq_true] at hp
    refine hq i hi (goes_next hR hi hf hx hp.1) fun hc => keep_step hR hi hc (.inr ⟨_, hx, ?_⟩)
    have hcj := come_next hj (goes_full hR hj hp.1) hi hc hx
    have := hp.2
    rw [hcj] at this
    simpa using this
  rw [Bool.eq_iff_iff, Bool.and_eq_true]
  constructor
  · intro h
    have := h1 i hi h
    rw [tab_at' hi, Bool.and_eq_true] at this
    exact this
  · rintro ⟨hc, hg⟩
    have := h2 i hi hg
    rw [tab_at' hi, hg, hc] at this
    simpa using this
end Gx
