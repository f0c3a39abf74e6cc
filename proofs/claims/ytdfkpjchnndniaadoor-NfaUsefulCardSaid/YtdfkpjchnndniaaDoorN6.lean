/- My own library for walks through the translated code, part N6: laws of the model alone, no word of the program. -/
import Derived.Test.YtdfkpjchnndniaaDoorN5
namespace Gx
open Go Go.RowKit
set_option linter.unusedSimpArgs false
set_option linter.unusedSectionVars false
set_option linter.unusedVariables false

/-! ### The place of the first item for which something holds -/
def placeF {α : Type} (f : α → Bool) : List α → Int → Int
  | [], _ => -1
  | x :: r, i => if f x then i else placeF f r (i + 1)
theorem placeF_any {α : Type} (f : α → Bool) : ∀ (l : List α) (i : Int), 0 ≤ i → decide (0 ≤ placeF f l i) = l.any f
  | [], i, _ => rfl
  | x :: r, i, h => by
    unfold placeF
    cases hx : f x with
    | true => simp [hx, h]
    | false =>
      have h1 := placeF_any f r (i + 1) (by omega)
      simp only [Bool.false_eq_true, if_false, List.any_cons, hx, Bool.false_or, h1]
theorem placeF_drop {α : Type} [Inhabited α] (f : α → Bool) (l : List α) {t : Int} (h0 : 0 ≤ t) (h1 : t < (l.length : Int)) : placeF f (l.drop t.toNat) t = if f (at_ l t) then t else placeF f (l.drop (t + 1).toNat) (t + 1) := by
  rw [drop_cons l h0 h1]; rfl
theorem placeF_nil {α : Type} (f : α → Bool) (i : Int) : placeF f [] i = -1 := rfl
theorem placeF_in {α : Type} (f : α → Bool) : ∀ (l : List α) (i : Int), placeF f l i = -1 ∨ (i ≤ placeF f l i ∧ placeF f l i < i + l.length)
  | [], i => .inl rfl
  | x :: r, i => by
    unfold placeF
    by_cases h : f x = true
    · rw [if_pos h]; right; simp; omega
    · rw [if_neg h]
      rcases placeF_in f r (i + 1) with h1 | h1
      · exact .inl h1
      · right; simp; omega
/-! ### The useful ones: round after round till nothing more comes -/
structure UseI (m : Mach) (out : List Bool) (more : Bool) : Prop where
  len : (out.length : Int) = m.spots.length
  sound : Sub m.spots.length out (keepM m)
  done : more = false → ∀ i : Nat, i < m.spots.length → at_ (comeM m) ((i : Nat) : Int) = true → (at_ m.last ((i : Nat) : Int) = true ∨ ∃ j ∈ at_ m.follow ((i : Nat) : Int), at_ out j = true) → at_ out ((i : Nat) : Int) = true
structure UseJ (m : Mach) (o out : List Bool) (more : Bool) (t : Int) : Prop where
  len : (out.length : Int) = m.spots.length
  sound : Sub m.spots.length out (keepM m)
  same : more = false → out = o ∧ ∀ i : Nat, ((i : Nat) : Int) < t → i < m.spots.length → at_ (comeM m) ((i : Nat) : Int) = true → (at_ m.last ((i : Nat) : Int) = true ∨ ∃ j ∈ at_ m.follow ((i : Nat) : Int), at_ o j = true) → at_ o ((i : Nat) : Int) = true
  grew : more = true → trues m.spots.length o < trues m.spots.length out
theorem use_0 (m : Mach) : UseI m (List.replicate m.spots.length false) true where
  len := by simp
  sound := fun i hi h => by rw [tab_false, tab_at' hi] at h; cases h
  done := fun h => by cases h
theorem use_j0 {m : Mach} {o : List Bool} {b : Bool} (h : UseI m o b) : UseJ m o o false 0 where
  len := h.len
  sound := h.sound
  same := fun _ => ⟨rfl, fun i hi => by omega⟩
  grew := fun h => by cases h
theorem use_old {m : Mach} {o out : List Bool} {more : Bool} {t : Int} (J : UseJ m o out more t) (h0 : 0 ≤ t) (h : at_ out t = true ∨ at_ (comeM m) t = false) : UseJ m o out more (t + 1) where
  len := J.len
  sound := J.sound
  same := fun hm => by
    obtain ⟨e, hc⟩ := J.same hm
    refine ⟨e, fun i hi hn hcm hx => ?_⟩
    by_cases hit : ((i : Nat) : Int) < t
    · exact hc i hit hn hcm hx
    · have ei : ((i : Nat) : Int) = t := by omega
      rw [← ei] at h
      rw [← e]
      rcases h with h | h
      · exact h
      · rw [h] at hcm; cases hcm
  grew := J.grew
theorem use_no {m : Mach} {o out : List Bool} {more : Bool} {t : Int} (J : UseJ m o out more t) (h0 : 0 ≤ t) (h1 : at_ m.last t = false) (h2 : ((at_ m.follow t).any fun j => at_ out j) = false) : UseJ m o out more (t + 1) where
  len := J.len
  sound := J.sound
  same := fun hm => by
    obtain ⟨e, hc⟩ := J.same hm
    refine ⟨e, fun i hi hn hcm hx => ?_⟩
    by_cases hit : ((i : Nat) : Int) < t
    · exact hc i hit hn hcm hx
    · have ei : ((i : Nat) : Int) = t := by omega
      rw [ei] at hx
      rcases hx with hx | ⟨j, hj, hx⟩
      · rw [h1] at hx; cases hx
      · have := List.any_eq_false.1 h2 j hj
        rw [e] at this
        exact (this hx).elim
  grew := J.grew
theorem use_new {m : Mach} (hR : Right m) {o out : List Bool} {more : Bool} {t : Int} (J : UseJ m o out more t) (h0 : 0 ≤ t) (ht : t < (m.spots.length : Int)) (hf : at_ out t = false) (hc : at_ (comeM m) t = true) (h : at_ m.last t = true ∨ ((at_ m.follow t).any fun j => at_ out j) = true) : UseJ m o (out.set t.toNat true) true (t + 1) where
  len := by rw [List.length_set]; exact J.len
  sound := fun i hi hx => by
    rw [mark_set_at h0 (by rw [J.len]; exact ht)] at hx
    split at hx
    · rename_i e
      rw [← e] at h hc
      refine keep_step hR hi hc (h.imp id fun h3 => ?_)
      obtain ⟨x, hx2, h4⟩ := List.any_eq_true.1 h3
      obtain ⟨j, rfl, hj⟩ := row_nat hR hi hx2
      exact ⟨_, hx2, J.sound j hj h4⟩
    · exact J.sound i hi hx
  same := fun h => by cases h
  grew := fun _ => by
    have h1 := trues_set (n := m.spots.length) h0 (by rw [J.len]; exact ht) J.len hf
    cases hm : more with
    | true => have := J.grew hm; omega
    | false => rw [(J.same hm).1] at h1 ⊢; exact h1
theorem use_i {m : Mach} {o out : List Bool} {more : Bool} {t : Int} (J : UseJ m o out more t) (ht : (m.spots.length : Int) ≤ t) : UseI m out more where
  len := J.len
  sound := J.sound
  done := fun hm i hi hc hx => by
    obtain ⟨e, h⟩ := J.same hm
    rw [e] at hx ⊢
    exact h i (by omega) hi hc hx
def useN (m : Mach) (out : List Bool) (more : Bool) : Nat := 2 * (m.spots.length - trues m.spots.length out) + (if more then 1 else 0)
theorem use_dec {m : Mach} {o out : List Bool} {b more : Bool} {t : Int} (J : UseJ m o out more t) (hb : b = true) : useN m out more < useN m o b := by
  subst hb
  have h1 := trues_le m.spots.length out
  unfold useN
  cases hm : more with
  | false => rw [(J.same hm).1]; simp
  | true => have := J.grew hm; simp; omega
theorem use_end {m : Mach} (hR : Right m) {out : List Bool} {more : Bool} (h : UseI m out more) (hm : more = false) : keepM m = out :=
  sub_antisymm (n := m.spots.length) (keepM_len m) (by have := h.len; omega) (keep_least hR fun i hi hc hx => h.done hm i hi hc hx) h.sound
/-! ### The document's useful ones: as many rounds as there are spots, and one more -/
structure Grow (n : Nat) (c0 c : List Bool) (Q : Prop) : Prop where
  len0 : (c0.length : Int) = n
  len : (c.length : Int) = n
  sub : Sub n c0 c
  told : c = c0 → Q
theorem Grow.keep {n : Nat} {c0 c : List Bool} {Q Q' : Prop} (g : Grow n c0 c Q) (h : c = c0 → Q → Q') : Grow n c0 c Q' := ⟨g.len0, g.len, g.sub, fun e => h e (g.told e)⟩
theorem Grow.set {n : Nat} {c0 c : List Bool} {Q Q' : Prop} (g : Grow n c0 c Q) {t : Int} (h0 : 0 ≤ t) (h1 : t < (n : Int)) (h : at_ c0 t = true → Q → Q') : Grow n c0 (c.set t.toNat true) Q' where
  len0 := g.len0
  len := by rw [List.length_set]; exact g.len
  sub := g.sub.trans (sub_set h0 (by rw [g.len]; exact h1))
  told := fun e => by
    have hs : Sub n c (c.set t.toNat true) := sub_set h0 (by rw [g.len]; exact h1)
    have e2 : c = c0 := sub_antisymm (n := n) (by have := g.len; omega) (by have := g.len0; omega) (by rw [← e]; exact hs) g.sub
    have h3 := mark_set_at (l := c) h0 (by rw [g.len]; exact h1) true t.toNat
    rw [e, Int.toNat_of_nonneg h0, if_pos rfl] at h3
    exact h h3 (g.told e2)
def okC (m : Mach) (c : List Bool) (a : Int) : Prop := (a ∈ m.first → fullS m a.toNat = true → at_ c a = true) ∧ (at_ c a = true → ∀ x ∈ at_ m.follow a, fullS m x.toNat = true → at_ c x = true)
def okG (m : Mach) (g : List Bool) (a : Int) : Prop := fullS m a.toNat = true → (at_ m.last a = true → at_ g a = true) ∧ ∀ x ∈ at_ m.follow a, at_ g x = true → at_ g a = true
def clC (m : Mach) (c : List Bool) (i : Int) : Prop := ∀ a : Int, 0 ≤ a → a < i → okC m c a
def clG (m : Mach) (g : List Bool) (i : Int) : Prop := ∀ a : Int, 0 ≤ a → a < i → okG m g a
def clC2 (m : Mach) (c : List Bool) (i k : Int) : Prop := clC m c i ∧ (i ∈ m.first → fullS m i.toNat = true → at_ c i = true) ∧ (at_ c i = true → ∀ x ∈ (at_ m.follow i).take k.toNat, fullS m x.toNat = true → at_ c x = true)
def clG2 (m : Mach) (g : List Bool) (i k : Int) : Prop := clG m g i ∧ (fullS m i.toNat = true → (at_ m.last i = true → at_ g i = true) ∧ ∀ x ∈ (at_ m.follow i).take k.toNat, at_ g x = true → at_ g i = true)
structure RefU (m : Mach) (come goes : List Bool) (round : Int) : Prop where
  lenC : (come.length : Int) = m.spots.length
  lenG : (goes.length : Int) = m.spots.length
  soundC : Sub m.spots.length come (comeM m)
  soundG : Sub m.spots.length goes (goesM m)
  progC : Sub m.spots.length (comeM m) come ∨ round ≤ trues m.spots.length come
  progG : Sub m.spots.length (goesM m) goes ∨ round ≤ trues m.spots.length goes
structure RefI (m : Mach) (c0 g0 come goes : List Bool) (QC QG : Prop) : Prop where
  soundC : Sub m.spots.length come (comeM m)
  soundG : Sub m.spots.length goes (goesM m)
  growC : Grow m.spots.length c0 come QC
  growG : Grow m.spots.length g0 goes QG
theorem refU_0 (m : Mach) : RefU m (List.replicate m.spots.length false) (List.replicate m.spots.length false) 0 where
  lenC := by simp
  lenG := by simp
  soundC := fun i hi h => by rw [tab_false, tab_at' hi] at h; cases h
  soundG := fun i hi h => by rw [tab_false, tab_at' hi] at h; cases h
  progC := .inr (by omega)
  progG := .inr (by omega)
theorem refI_0 {m : Mach} {come goes : List Bool} {r : Int} (U : RefU m come goes r) : RefI m come goes come goes (clC m come 0) (clG m goes 0) where
  soundC := U.soundC
  soundG := U.soundG
  growC := ⟨U.lenC, U.lenC, Sub.refl _ _, fun _ a h0 h1 => by omega⟩
  growG := ⟨U.lenG, U.lenG, Sub.refl _ _, fun _ a h0 h1 => by omega⟩
section
variable {m : Mach} {c0 g0 come goes : List Bool} {QC QG QC' QG' : Prop}
theorem RefI.setC (I : RefI m c0 g0 come goes QC QG) {t : Int} (h0 : 0 ≤ t) (h1 : t < (m.spots.length : Int)) (hs : at_ (comeM m) t = true) (h : at_ c0 t = true → QC → QC') : RefI m c0 g0 (come.set t.toNat true) goes QC' QG where
  soundC := fun i hi hx => by
    rw [mark_set_at h0 (by rw [I.growC.len]; exact h1)] at hx
    split at hx
    · rename_i e; rw [e]; exact hs
    · exact I.soundC i hi hx
  soundG := I.soundG
  growC := I.growC.set h0 h1 h
  growG := I.growG
theorem RefI.setG (I : RefI m c0 g0 come goes QC QG) {t : Int} (h0 : 0 ≤ t) (h1 : t < (m.spots.length : Int)) (hs : at_ (goesM m) t = true) (h : at_ g0 t = true → QG → QG') : RefI m c0 g0 come (goes.set t.toNat true) QC QG' where
  soundC := I.soundC
  soundG := fun i hi hx => by
    rw [mark_set_at h0 (by rw [I.growG.len]; exact h1)] at hx
    split at hx
    · rename_i e; rw [e]; exact hs
    · exact I.soundG i hi hx
  growC := I.growC
  growG := I.growG.set h0 h1 h
theorem RefI.keepC (I : RefI m c0 g0 come goes QC QG) (h : come = c0 → QC → QC') : RefI m c0 g0 come goes QC' QG := ⟨I.soundC, I.soundG, I.growC.keep h, I.growG⟩
theorem RefI.keepG (I : RefI m c0 g0 come goes QC QG) (h : goes = g0 → QG → QG') : RefI m c0 g0 come goes QC QG' := ⟨I.soundC, I.soundG, I.growC, I.growG.keep h⟩
end
/-- What is known of a spot's set. -/
theorem full_at {m : Mach} {i : Int} (h0 : 0 ≤ i) : fullS m i.toNat = decide ((at_ m.spots i).set ≠ 0) := by unfold fullS; rw [Int.toNat_of_nonneg h0]
def firstC (m : Mach) (c : List Bool) (i : Int) : Prop := clC m c i ∧ (i ∈ m.first → fullS m i.toNat = true → at_ c i = true)
def lastG (m : Mach) (g : List Bool) (i : Int) : Prop := clG m g i ∧ (fullS m i.toNat = true → at_ m.last i = true → at_ g i = true)
section
variable {m : Mach} {c0 g0 come goes : List Bool} {QC QG : Prop} {i k : Int}
theorem ref_c1 (hR : Right m) (I : RefI m c0 g0 come goes (clC m c0 i) QG) (h0 : 0 ≤ i) (h1 : i < (m.spots.length : Int)) (hf : decide (i ∈ m.first) = true) (hs : decide ((at_ m.spots i).set ≠ 0) = true) : RefI m c0 g0 (come.set i.toNat true) goes (firstC m c0 i) QG :=
  I.setC h0 h1 (by have := come_first (m := m) (i := i.toNat) (by omega) (by rw [full_at h0]; exact hs) (by rw [Int.toNat_of_nonneg h0]; exact of_decide_eq_true hf); rwa [Int.toNat_of_nonneg h0] at this) fun h q => ⟨q, fun _ _ => h⟩
theorem ref_c2 (I : RefI m c0 g0 come goes (clC m c0 i) QG) (h0 : 0 ≤ i) (h : decide (i ∈ m.first) = false ∨ decide ((at_ m.spots i).set ≠ 0) = false) : RefI m c0 g0 come goes (firstC m c0 i) QG :=
  I.keepC fun _ q => ⟨q, fun h1 h2 => by
    rcases h with h | h
    · exact (of_decide_eq_false h h1).elim
    · rw [full_at h0, h] at h2; cases h2⟩
theorem ref_g1 (hR : Right m) (I : RefI m c0 g0 come goes QC (clG m g0 i)) (h0 : 0 ≤ i) (h1 : i < (m.spots.length : Int)) (hl : at_ m.last i = true) (hs : decide ((at_ m.spots i).set ≠ 0) = true) : RefI m c0 g0 come (goes.set i.toNat true) QC (lastG m g0 i) :=
  I.setG h0 h1 (by have := goes_last hR (i := i.toNat) (by omega) (by rw [full_at h0]; exact hs) (by rw [Int.toNat_of_nonneg h0]; exact hl); rwa [Int.toNat_of_nonneg h0] at this) fun h q => ⟨q, fun _ _ => h⟩
theorem ref_g2 (I : RefI m c0 g0 come goes QC (clG m g0 i)) (h0 : 0 ≤ i) (h : at_ m.last i = false ∨ decide ((at_ m.spots i).set ≠ 0) = false) : RefI m c0 g0 come goes QC (lastG m g0 i) :=
  I.keepG fun _ q => ⟨q, fun h2 h1 => by
    rcases h with h | h
    · rw [h] at h1; cases h1
    · rw [full_at h0, h] at h2; cases h2⟩
theorem ref_k0 (I : RefI m c0 g0 come goes (firstC m c0 i) (lastG m g0 i)) : RefI m c0 g0 come goes (clC2 m c0 i 0) (clG2 m g0 i 0) :=
  (I.keepC fun _ q => ⟨q.1, q.2, fun _ x hx => by simp at hx⟩).keepG fun _ q => ⟨q.1, fun hf => ⟨q.2 hf, fun x hx => by simp at hx⟩⟩
theorem ref_kc1 (hR : Right m) (I : RefI m c0 g0 come goes (clC2 m c0 i k) QG) (h0 : 0 ≤ i) (h1 : i < (m.spots.length : Int)) (k0 : 0 ≤ k) (k1 : k < ((at_ m.follow i).length : Int)) (hc : at_ come i = true) (hs : decide ((at_ m.spots (at_ (at_ m.follow i) k)).set ≠ 0) = true) : RefI m c0 g0 (come.set (at_ (at_ m.follow i) k).toNat true) goes (clC2 m c0 i (k + 1)) QG := by
  have hm := at_mem k0 k1
  have hin := hR.rows h0 h1 _ hm
  refine I.setC hin.1 hin.2 ?_ fun h q => ⟨q.1, q.2.1, fun hci x hx hf => ?_⟩
  · have := come_next (m := m) (i := (at_ (at_ m.follow i) k).toNat) (j := i.toNat) (by omega) (by rw [full_at hin.1]; exact hs) (by omega) (by rw [Int.toNat_of_nonneg h0]; have := I.soundC i.toNat (by omega) (by rw [Int.toNat_of_nonneg h0]; exact hc); rwa [Int.toNat_of_nonneg h0] at this) (by rw [Int.toNat_of_nonneg hin.1, Int.toNat_of_nonneg h0]; exact hm)
    rwa [Int.toNat_of_nonneg hin.1] at this
  · rw [take_next _ k0 k1, List.mem_append, List.mem_singleton] at hx
    rcases hx with hx | hx
    · exact q.2.2 hci x hx hf
    · rw [hx]; exact h
theorem ref_kc2 (I : RefI m c0 g0 come goes (clC2 m c0 i k) QG) (k0 : 0 ≤ k) (k1 : k < ((at_ m.follow i).length : Int)) (x0 : 0 ≤ at_ (at_ m.follow i) k) (h : at_ come i = false ∨ decide ((at_ m.spots (at_ (at_ m.follow i) k)).set ≠ 0) = false) : RefI m c0 g0 come goes (clC2 m c0 i (k + 1)) QG :=
  I.keepC fun e q => ⟨q.1, q.2.1, fun hci x hx hf => by
    rw [take_next _ k0 k1, List.mem_append, List.mem_singleton] at hx
    rcases hx with hx | hx
    · exact q.2.2 hci x hx hf
    · rcases h with h | h
      · rw [e, hci] at h; cases h
      · rw [hx, full_at x0, h] at hf; cases hf⟩
theorem ref_kg1 (hR : Right m) (I : RefI m c0 g0 come goes QC (clG2 m g0 i k)) (h0 : 0 ≤ i) (h1 : i < (m.spots.length : Int)) (k0 : 0 ≤ k) (k1 : k < ((at_ m.follow i).length : Int)) (hg : at_ goes (at_ (at_ m.follow i) k) = true) (hs : decide ((at_ m.spots i).set ≠ 0) = true) : RefI m c0 g0 come (goes.set i.toNat true) QC (clG2 m g0 i (k + 1)) := by
  have hm := at_mem k0 k1
  have hin := hR.rows h0 h1 _ hm
  refine I.setG h0 h1 ?_ fun h q => ⟨q.1, fun hf => ⟨fun _ => h, fun _ _ _ => h⟩⟩
  have hx := I.soundG (at_ (at_ m.follow i) k).toNat (by omega) (by rw [Int.toNat_of_nonneg hin.1]; exact hg)
  rw [Int.toNat_of_nonneg hin.1] at hx
  have := goes_next hR (i := i.toNat) (by omega) (by rw [full_at h0]; exact hs) (by rw [Int.toNat_of_nonneg h0]; exact hm) hx
  rwa [Int.toNat_of_nonneg h0] at this
theorem ref_kg2 (I : RefI m c0 g0 come goes QC (clG2 m g0 i k)) (h0 : 0 ≤ i) (k0 : 0 ≤ k) (k1 : k < ((at_ m.follow i).length : Int)) (h : at_ goes (at_ (at_ m.follow i) k) = false ∨ decide ((at_ m.spots i).set ≠ 0) = false) : RefI m c0 g0 come goes QC (clG2 m g0 i (k + 1)) :=
  I.keepG fun e q => ⟨q.1, fun hf => ⟨(q.2 hf).1, fun x hx hg => by
    rw [take_next _ k0 k1, List.mem_append, List.mem_singleton] at hx
    rcases hx with hx | hx
    · exact (q.2 hf).2 x hx hg
    · rcases h with h | h
      · rw [e, ← hx, hg] at h; cases h
      · rw [full_at h0, h] at hf; cases hf⟩⟩
theorem ref_k1 (I : RefI m c0 g0 come goes (clC2 m c0 i k) (clG2 m g0 i k)) (hk : ((at_ m.follow i).length : Int) ≤ k) : RefI m c0 g0 come goes (clC m c0 (i + 1)) (clG m g0 (i + 1)) := by
  refine (I.keepC fun _ q a ha hai => ?_).keepG fun _ q a ha hai => ?_
  · by_cases h : a < i
    · exact q.1 a ha h
    · have : a = i := by omega
      subst this
      refine ⟨q.2.1, fun hc x hx => q.2.2 hc x (by rwa [List.take_of_length_le (by omega)])⟩
  · by_cases h : a < i
    · exact q.1 a ha h
    · have : a = i := by omega
      subst this
      refine fun hf => ⟨(q.2 hf).1, fun x hx => (q.2 hf).2 x (by rwa [List.take_of_length_le (by omega)])⟩
theorem ref_round (hR : Right m) {r : Int} (U : RefU m c0 g0 r) (I : RefI m c0 g0 come goes (clC m c0 i) (clG m g0 i)) (hi : (m.spots.length : Int) ≤ i) : RefU m come goes (r + 1) where
  lenC := I.growC.len
  lenG := I.growG.len
  soundC := I.soundC
  soundG := I.soundG
  progC := by
    rcases sub_or I.growC.sub with h | h
    · have e : come = c0 := (marks_ext (n := m.spots.length) (by have := I.growC.len0; omega) (by have := I.growC.len; omega) h).symm
      have hcl := I.growC.told e
      left; rw [e]
      refine come_least (fun i hi2 hf hx => (hcl _ (by omega) (by omega)).1 hx (by rwa [Int.toNat_natCast])) fun i j hi2 hj hf hc hx => (hcl _ (by omega) (by omega)).2 hc _ hx (by rwa [Int.toNat_natCast])
    · rcases U.progC with h2 | h2
      · exact .inl (h2.trans I.growC.sub)
      · exact .inr (by omega)
  progG := by
    rcases sub_or I.growG.sub with h | h
    · have e : goes = g0 := (marks_ext (n := m.spots.length) (by have := I.growG.len0; omega) (by have := I.growG.len; omega) h).symm
      have hcl := I.growG.told e
      left; rw [e]
      refine goes_least (fun i hi2 hf hx => ((hcl _ (by omega) (by omega)) (by rwa [Int.toNat_natCast])).1 hx) (fun i hi2 hf x hx hc => ((hcl _ (by omega) (by omega)) (by rwa [Int.toNat_natCast])).2 x hx hc) hR
    · rcases U.progG with h2 | h2
      · exact .inl (h2.trans I.growG.sub)
      · exact .inr (by omega)
theorem ref_all {r : Int} (U : RefU m come goes r) (hr : (m.spots.length : Int) < r) : come = comeM m ∧ goes = goesM m := by
  have h1 := trues_le m.spots.length come
  have h2 := trues_le m.spots.length goes
  constructor
  · exact sub_antisymm (n := m.spots.length) (by have := U.lenC; omega) (comeM_len m) U.soundC (U.progC.resolve_right (by omega))
  · exact sub_antisymm (n := m.spots.length) (by have := U.lenG; omega) (lfp_len _ _) U.soundG (U.progG.resolve_right (by omega))
end
def andTo (m : Mach) (t : Int) : List Bool := tab m.spots.length fun i => if ((i : Nat) : Int) < t then at_ (comeM m) ((i : Nat) : Int) && at_ (goesM m) ((i : Nat) : Int) else at_ (comeM m) ((i : Nat) : Int)
theorem andTo_len (m : Mach) (t : Int) : (andTo m t).length = m.spots.length := tab_len _ _
theorem and_0 (m : Mach) : comeM m = andTo m 0 := by
  refine marks_ext (n := m.spots.length) (comeM_len m) (andTo_len m 0) fun i hi => ?_
  unfold andTo; rw [tab_at' hi, if_neg (by omega)]
theorem and_at (m : Mach) {t : Int} (h0 : 0 ≤ t) (h1 : t < (m.spots.length : Int)) : at_ (andTo m t) t = at_ (comeM m) t := by
  unfold andTo
  rw [tab_at h0 h1, Int.toNat_of_nonneg h0, if_neg (by omega)]
theorem and_step (m : Mach) {t : Int} (h0 : 0 ≤ t) (h1 : t < (m.spots.length : Int)) {v : Bool} (hv : v = (at_ (comeM m) t && at_ (goesM m) t)) : (andTo m t).set t.toNat v = andTo m (t + 1) := by
  refine marks_ext (n := m.spots.length) (by rw [List.length_set]; exact andTo_len _ _) (andTo_len _ _) fun i hi => ?_
  rw [mark_set_at h0 (by rw [andTo_len]; exact h1)]
  unfold andTo
  rw [tab_at' hi, tab_at' hi]
  by_cases h : ((i : Nat) : Int) = t
  · rw [if_pos h, if_pos (by omega), hv, h]
  · rw [if_neg h]
    by_cases h2 : ((i : Nat) : Int) < t
    · rw [if_pos h2, if_pos (by omega)]
    · rw [if_neg h2, if_neg (by omega)]
theorem and_end {m : Mach} (hR : Right m) {t : Int} (h : (m.spots.length : Int) ≤ t) : keepM m = andTo m t := by
  refine marks_ext (n := m.spots.length) (keepM_len m) (andTo_len _ _) fun i hi => ?_
  unfold andTo
  rw [tab_at' hi, if_pos (by omega)]
  exact keep_iff hR hi
end Gx
