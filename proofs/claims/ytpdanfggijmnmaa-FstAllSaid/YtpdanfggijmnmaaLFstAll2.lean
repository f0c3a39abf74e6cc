/- My own library for walks through the translated code, and the walks of the functions that the law FstAll comes to, part 3; no conditions but those that each contract tells. -/
import Derived.Laws.BytesArg
import Derived.Laws.Pointers
import Derived.Laws.Concat
import Derived.Lib.Bytealg
import Derived.Test.YtpdanfggijmnmaaLFstAll1
namespace Gx
open Go Go.RowKit
set_option linter.unusedSimpArgs false
set_option linter.unusedVariables false
set_option linter.unusedSectionVars false
def kRaw : Kd Value where
  sz := 1
  pos := by omega
  rep := fun _ x cs => cs = [x] ∧ x.oneCell' = true
  mono := fun _ h => h
  len := fun h => by rw [h.1]; rfl
  one := fun h u hu => by rw [h.1] at hu; simp at hu; subst hu; exact h.2
def rows {α : Type} (T : TypeId) (k : Kd α) (us : List Value) (xss : List (List α)) (p : Nat → Bool) : Asrt where
  holds := fun h w F => us.length = xss.length ∧ ∃ G : Nat → Nat → Prop, (∀ i, i < xss.length → p i = true → (row T k (us.getD i default) (xss.getD i default)).holds h w (G i) ∧ ∀ b, G i b → F b) ∧
    ∀ i j, i < xss.length → j < xss.length → p i = true → p j = true → i ≠ j → ∀ b, G i b → ¬ G j b
  mono := fun hl ⟨hn, G, h1, h2⟩ => ⟨hn, G, fun i hi hp => ⟨(row T k _ _).mono hl (h1 i hi hp).1, (h1 i hi hp).2⟩, h2⟩
  far := fun hf ⟨hn, G, h1, h2⟩ => ⟨hn, G, fun i hi hp => ⟨(row T k _ _).far (fun b hb => hf b ((h1 i hi hp).2 b hb)) (h1 i hi hp).1, (h1 i hi hp).2⟩, h2⟩
def grid {α : Type} (T : TypeId) (k : Kd α) (us : List Value) (xss : List (List α)) : Asrt := rows T k us xss fun _ => true
def gridB {α : Type} (T : TypeId) (k : Kd α) (us : List Value) (xss : List (List α)) (q : Int) : Asrt := rows T k us xss fun i => !decide (i = q.toNat)
section
variable {base : Nat} {w0 w : World} {h : Ghost} {L : List Asrt}
theorem St.split (S : St base w0 h w L) {j : Nat} {A A1 A2 : Asrt} (hj : L[j]? = some A)
    (hm : ∀ F, A.holds h w F → ∃ F1 F2, A1.holds h w F1 ∧ A2.holds h w F2 ∧ (∀ b, F1 b → F b) ∧ (∀ b, F2 b → F b) ∧ ∀ b, F1 b → ¬ F2 b) : St base w0 h w (L.set j A1 ++ [A2]) := by
  obtain ⟨Fs, hF, hD⟩ := S.sep
  obtain ⟨hA, hU⟩ := hF j A hj
  obtain ⟨F1, F2, h1, h2, s1, s2, hd⟩ := hm _ hA
  have hl : j < L.length := (List.getElem?_eq_some_iff.1 hj).1
  refine ⟨S.below, S.bsz, S.ghost, S.dom, fun i => if i = L.length then F2 else if i = j then F1 else Fs i, fun i B hi => ?_, fun i m hi hm' him b hb1 hb2 => ?_⟩
  · by_cases hil : i = L.length
    · subst hil
      rw [List.getElem?_append_right (by simp)] at hi
      simp at hi
      subst hi
      simp only [if_true]
      exact ⟨h2, fun b hb => hU b (s2 b hb)⟩
    · simp only [if_neg hil]
      have hlt : i < L.length := by
        have := (List.getElem?_eq_some_iff.1 hi).1
        simp at this; omega
      rw [List.getElem?_append_left (by simpa using hlt)] at hi
      by_cases hij : i = j
      · subst hij
        rw [List.getElem?_set_self hl] at hi
        injection hi with hi
        subst hi
        simp only [if_true]
        exact ⟨h1, fun b hb => hU b (s1 b hb)⟩
      · rw [List.getElem?_set_ne (fun e => hij e.symm)] at hi
        simp only [if_neg hij]
        exact hF i B hi
  · simp only [List.length_append, List.length_set, List.length_cons, List.length_nil] at hi hm'
    have old : ∀ i, i < L.length → i ≠ j → ∀ b, Fs j b → ¬ Fs i b := fun i hi hij b hb hb' => hD j i hl hi (fun e => hij e.symm) b hb hb'
    by_cases e1 : i = L.length <;> by_cases e2 : m = L.length
    · omega
    · simp only [if_pos e1] at hb1; simp only [if_neg e2] at hb2
      by_cases e3 : m = j
      · simp only [if_pos e3] at hb2; exact hd b hb2 hb1
      · simp only [if_neg e3] at hb2; exact old m (by omega) e3 b (s2 b hb1) hb2
    · simp only [if_neg e1] at hb1; simp only [if_pos e2] at hb2
      by_cases e3 : i = j
      · simp only [if_pos e3] at hb1; exact hd b hb1 hb2
      · simp only [if_neg e3] at hb1; exact old i (by omega) e3 b (s2 b hb2) hb1
    · simp only [if_neg e1] at hb1; simp only [if_neg e2] at hb2
      by_cases e3 : i = j
      · simp only [if_pos e3] at hb1
        have e4 : m ≠ j := fun e => him (by rw [e3, e])
        simp only [if_neg e4] at hb2
        exact old m (by omega) e4 b (s1 b hb1) hb2
      · simp only [if_neg e3] at hb1
        by_cases e4 : m = j
        · simp only [if_pos e4] at hb2; exact old i (by omega) e3 b (s1 b hb2) hb1
        · simp only [if_neg e4] at hb2; exact hD i m (by omega) (by omega) him b hb1 hb2
theorem St.merge (S : St base w0 h w L) {i j : Nat} {A A1 A2 : Asrt} (hi : L[i]? = some A1) (hj : L[j]? = some A2) (hij : i ≠ j)
    (hm : ∀ F1 F2, A1.holds h w F1 → A2.holds h w F2 → (∀ b, F1 b → ¬ F2 b) → A.holds h w fun b => F1 b ∨ F2 b) : St base w0 h w ((L.set i A).set j emp) := by
  obtain ⟨Fs, hF, hD⟩ := S.sep
  obtain ⟨hA, hU⟩ := hF i A1 hi
  obtain ⟨hB, hV⟩ := hF j A2 hj
  have hli : i < L.length := (List.getElem?_eq_some_iff.1 hi).1
  have hlj : j < L.length := (List.getElem?_eq_some_iff.1 hj).1
  have hA' := hm _ _ hA hB (hD i j hli hlj hij)
  refine ⟨S.below, S.bsz, S.ghost, S.dom, fun m => if m = j then fun _ => False else if m = i then fun b => Fs i b ∨ Fs j b else Fs m, fun m B hB' => ?_, fun m n hm' hn hmn b hb1 hb2 => ?_⟩
  · by_cases e1 : m = j
    · subst e1
      rw [List.getElem?_set_self (by simpa using hlj)] at hB'
      injection hB' with hB'
      subst hB'
      simp only [if_true]
      exact ⟨trivial, fun b hb => hb.elim⟩
    · simp only [if_neg e1]
      rw [List.getElem?_set_ne (fun e => e1 e.symm)] at hB'
      by_cases e2 : m = i
      · subst e2
        rw [List.getElem?_set_self hli] at hB'
        injection hB' with hB'
        subst hB'
        simp only [if_true]
        exact ⟨hA', fun b hb => hb.elim (hU b) (hV b)⟩
      · rw [List.getElem?_set_ne (fun e => e2 e.symm)] at hB'
        simp only [if_neg e2]
        exact hF m B hB'
  · simp only [List.length_set] at hm' hn
    by_cases e1 : m = j
    · simp only [if_pos e1] at hb1
    · by_cases e2 : n = j
      · simp only [if_pos e2] at hb2
      · simp only [if_neg e1] at hb1; simp only [if_neg e2] at hb2
        by_cases e3 : m = i
        · have e4 : n ≠ i := fun e => hmn (by rw [e3, e])
          simp only [if_pos e3] at hb1; simp only [if_neg e4] at hb2
          rcases hb1 with hb1 | hb1
          · exact hD i n hli hn (fun e => e4 e.symm) b hb1 hb2
          · exact hD j n hlj hn (fun e => e2 e.symm) b hb1 hb2
        · simp only [if_neg e3] at hb1
          by_cases e4 : n = i
          · simp only [if_pos e4] at hb2
            rcases hb2 with hb2 | hb2
            · exact hD m i hm' hli e3 b hb1 hb2
            · exact hD m j hm' hlj e1 b hb1 hb2
          · simp only [if_neg e4] at hb2; exact hD m n hm' hn hmn b hb1 hb2
theorem St.plus (S : St base w0 h w L) {A : Asrt} (hA : A.holds h w fun _ => False) : St base w0 h w (L ++ [A]) := by
  obtain ⟨Fs, hF, hD⟩ := S.sep
  refine ⟨S.below, S.bsz, S.ghost, S.dom, fun i => if i = L.length then fun _ => False else Fs i, fun i B hi => ?_, fun i m hi hm him b hb1 hb2 => ?_⟩
  · by_cases e : i = L.length
    · subst e
      rw [List.getElem?_append_right (Nat.le_refl _)] at hi
      simp at hi
      subst hi
      simp only [if_true]
      exact ⟨hA, fun b hb => hb.elim⟩
    · simp only [if_neg e]
      have hlt : i < L.length := by
        have := (List.getElem?_eq_some_iff.1 hi).1
        simp at this; omega
      rw [List.getElem?_append_left hlt] at hi
      exact hF i B hi
  · simp only [List.length_append, List.length_cons, List.length_nil] at hi hm
    by_cases e1 : i = L.length
    · simp only [if_pos e1] at hb1
    · by_cases e2 : m = L.length
      · simp only [if_pos e2] at hb2
      · simp only [if_neg e1] at hb1; simp only [if_neg e2] at hb2
        exact hD i m (by omega) (by omega) him b hb1 hb2
end
section
variable {base : Nat} {w0 w : World} {h : Ghost} {L : List Asrt} {α : Type} {k : Kd α} {T : TypeId} {us us2 : List Value} {xss xss2 : List (List α)} {ys : List α} {v : Value} {i j : Nat} {q : Int}
theorem St.rows_len {p : Nat → Bool} (S : St base w0 h w L) (hj : L[j]? = some (rows T k us xss p)) : us.length = xss.length := by
  obtain ⟨Fs, hF, _⟩ := S.sep
  exact (hF j _ hj).1.1
theorem zdw (S : St base w0 h w L) (hj : L[j]? = some (grid T k us xss)) : us.length = xss.length := S.rows_len hj
theorem e_focus (S : St base w0 h w L) (hj : L[j]? = some (grid T k us xss)) (h0 : 0 ≤ q) (h1 : q < (xss.length : Int)) : St base w0 h w (L.set j (gridB T k us xss q) ++ [row T k (at_ us q) (at_ xss q)]) := by
  refine S.split hj fun F hA => ?_
  obtain ⟨hn, G, g1, g2⟩ := hA
  refine ⟨fun b => ∃ i, i < xss.length ∧ i ≠ q.toNat ∧ G i b, G q.toNat, ⟨hn, G, fun i hi hp => ?_, fun i j hi hj _ _ => g2 i j hi hj rfl rfl⟩, (g1 q.toNat (by omega) rfl).1, ?_, (g1 q.toNat (by omega) rfl).2, ?_⟩
  · have hne : i ≠ q.toNat := by simpa using hp
    exact ⟨(g1 i hi rfl).1, fun b hb => ⟨i, hi, hne, hb⟩⟩
  · rintro b ⟨i, hi, _, hb⟩; exact (g1 i hi rfl).2 b hb
  · rintro b ⟨i, hi, hne, hb⟩ hb2; exact g2 i q.toNat hi (by omega) rfl rfl hne b hb hb2
theorem e_close2 (S : St base w0 h w L) (hj : L[j]? = some (gridB T k us xss q)) (hi : L[i]? = some (row T k v ys)) (hij : j ≠ i) (h0 : 0 ≤ q) (h1 : q < (xss.length : Int)) :
    St base w0 h w ((L.set j (grid T k (us.set q.toNat v) (xss.set q.toNat ys))).set i emp) := by
  refine S.merge hj hi hij fun F1 F2 hA hB hd => ?_
  obtain ⟨hn, G, g1, g2⟩ := hA
  refine ⟨by simp [hn], fun m => if m = q.toNat then F2 else G m, fun m hm _ => ?_, fun m n hm hn' _ _ hmn b hb1 hb2 => ?_⟩
  · rw [List.length_set] at hm
    by_cases e : m = q.toNat
    · subst e
      simp only [if_true]
      refine ⟨?_, fun b hb => .inr hb⟩
      have e1 : (us.set q.toNat v).getD q.toNat default = v := by simp [List.getD_eq_getElem?_getD, List.getElem?_set_self (show q.toNat < us.length by omega)]
      have e2 : (xss.set q.toNat ys).getD q.toNat default = ys := by simp [List.getD_eq_getElem?_getD, List.getElem?_set_self (show q.toNat < xss.length by omega)]
      rw [e1, e2]; exact hB
    · simp only [if_neg e]
      have h3 := g1 m hm (by simpa using e)
      refine ⟨?_, fun b hb => .inl (h3.2 b hb)⟩
      have e1 : (us.set q.toNat v).getD m default = us.getD m default := by simp [List.getD_eq_getElem?_getD, List.getElem?_set_ne (fun e' => e e'.symm)]
      have e2 : (xss.set q.toNat ys).getD m default = xss.getD m default := by simp [List.getD_eq_getElem?_getD, List.getElem?_set_ne (fun e' => e e'.symm)]
      rw [e1, e2]; exact h3.1
  · rw [List.length_set] at hm hn'
    by_cases e1 : m = q.toNat <;> by_cases e2 : n = q.toNat
    · omega
    · simp only [if_pos e1] at hb1; simp only [if_neg e2] at hb2
      exact hd b ((g1 n hn' (by simpa using e2)).2 b hb2) hb1
    · simp only [if_neg e1] at hb1; simp only [if_pos e2] at hb2
      exact hd b ((g1 m hm (by simpa using e1)).2 b hb1) hb2
    · simp only [if_neg e1] at hb1; simp only [if_neg e2] at hb2
      exact g2 m n hm hn' (by simpa using e1) (by simpa using e2) hmn b hb1 hb2
theorem set_at_self {β : Type} [Inhabited β] (l : List β) (q : Int) : l.set q.toNat (at_ l q) = l := by
  apply List.ext_getElem?
  intro m
  rw [List.getElem?_set]
  split
  · rename_i e
    subst e
    split
    · rename_i hl
      simp [at_, List.getD_eq_getElem?_getD, List.getElem?_eq_getElem hl]
    · rename_i hl
      rw [List.getElem?_eq_none (by omega)]
  · rfl
theorem e_close (S : St base w0 h w L) (hj : L[j]? = some (gridB T k us xss q)) (hi : L[i]? = some (row T k (at_ us q) ys)) (hij : j ≠ i) (h0 : 0 ≤ q) (h1 : q < (xss.length : Int)) :
    St base w0 h w ((L.set j (grid T k us (xss.set q.toNat ys))).set i emp) := by
  have := e_close2 S hj hi hij h0 h1
  rwa [set_at_self] at this
theorem e_close0 (S : St base w0 h w L) (hj : L[j]? = some (gridB T k us xss q)) (hi : L[i]? = some (row T k (at_ us q) (at_ xss q))) (hij : j ≠ i) (h0 : 0 ≤ q) (h1 : q < (xss.length : Int)) :
    St base w0 h w ((L.set j (grid T k us xss)).set i emp) := by
  have := e_close S hj hi hij h0 h1
  rwa [set_at_self] at this
theorem grid_none (S : St base w0 h w L) (T : TypeId) (k : Kd α) (n : Nat) : St base w0 h w (L ++ [grid T k (List.replicate n (.slice none 0 0)) (List.replicate n [])]) := by
  refine S.plus ⟨by simp, fun _ _ => False, fun i hi _ => ⟨?_, fun b hb => hb⟩, fun i j _ _ _ _ _ b hb => hb.elim⟩
  have hi' : i < n := by simpa using hi
  have e1 : (List.replicate n (Value.slice none 0 0)).getD i default = .slice none 0 0 := by simp [List.getD_eq_getElem?_getD, List.getElem?_replicate, hi']
  have e2 : (List.replicate n ([] : List α)).getD i default = [] := by simp [List.getD_eq_getElem?_getD, List.getElem?_replicate, hi']
  rw [e1, e2]
  exact ⟨[], World.ownsRow_nil _ _ _ _, zbu.nil _ _, fun g e => by cases e⟩
theorem grid_cat (S : St base w0 h w L) (hj : L[j]? = some (grid T k us xss)) (hi : L[i]? = some (grid T k us2 xss2)) (hij : j ≠ i) : St base w0 h w ((L.set j (grid T k (us ++ us2) (xss ++ xss2))).set i emp) := by
  refine S.merge hj hi hij fun F1 F2 hA hB hd => ?_
  obtain ⟨hn, G, g1, g2⟩ := hA
  obtain ⟨hn2, G2, g3, g4⟩ := hB
  refine ⟨by simp [hn, hn2], fun m => if m < xss.length then G m else G2 (m - xss.length), fun m hm _ => ?_, fun m n hm hn' _ _ hmn b hb1 hb2 => ?_⟩
  · rw [List.length_append] at hm
    by_cases e : m < xss.length
    · simp only [if_pos e]
      refine ⟨?_, fun b hb => .inl ((g1 m e rfl).2 b hb)⟩
      have e1 : (us ++ us2).getD m default = us.getD m default := by simp [List.getD_eq_getElem?_getD, List.getElem?_append_left (show m < us.length by omega)]
      have e2 : (xss ++ xss2).getD m default = xss.getD m default := by simp [List.getD_eq_getElem?_getD, List.getElem?_append_left e]
      rw [e1, e2]; exact (g1 m e rfl).1
    · simp only [if_neg e]
      refine ⟨?_, fun b hb => .inr ((g3 _ (by omega) rfl).2 b hb)⟩
      have e1 : (us ++ us2).getD m default = us2.getD (m - xss.length) default := by simp [List.getD_eq_getElem?_getD, List.getElem?_append_right (show us.length ≤ m by omega), hn]
      have e2 : (xss ++ xss2).getD m default = xss2.getD (m - xss.length) default := by simp [List.getD_eq_getElem?_getD, List.getElem?_append_right (show xss.length ≤ m by omega)]
      rw [e1, e2]; exact (g3 _ (by omega) rfl).1
  · rw [List.length_append] at hm hn'
    by_cases e1 : m < xss.length <;> by_cases e2 : n < xss.length
    · simp only [if_pos e1] at hb1; simp only [if_pos e2] at hb2
      exact g2 m n e1 e2 rfl rfl hmn b hb1 hb2
    · simp only [if_pos e1] at hb1; simp only [if_neg e2] at hb2
      exact hd b ((g1 m e1 rfl).2 b hb1) ((g3 _ (by omega) rfl).2 b hb2)
    · simp only [if_neg e1] at hb1; simp only [if_pos e2] at hb2
      exact hd b ((g1 n e2 rfl).2 b hb2) ((g3 _ (by omega) rfl).2 b hb1)
    · simp only [if_neg e1] at hb1; simp only [if_neg e2] at hb2
      exact g4 _ _ (by omega) (by omega) rfl rfl (by omega) b hb1 hb2
theorem rows_focus {p : Nat → Bool} (S : St base w0 h w L) (hj : L[j]? = some (rows T k us xss p)) {q : Nat} (hp : p q = true) (h1 : q < xss.length) : St base w0 h w (L.set j (rows T k us xss fun i => p i && !decide (i = q)) ++ [row T k (us.getD q default) (xss.getD q default)]) := by
  refine S.split hj fun F hA => ?_
  obtain ⟨hn, G, g1, g2⟩ := hA
  refine ⟨fun b => ∃ i, i < xss.length ∧ p i = true ∧ i ≠ q ∧ G i b, G q, ⟨hn, G, fun i hi hp' => ?_, fun i j hi hj a b => g2 i j hi hj (by simp at a; exact a.1) (by simp at b; exact b.1)⟩, (g1 q h1 hp).1, ?_, (g1 q h1 hp).2, ?_⟩
  · simp at hp'
    exact ⟨(g1 i hi hp'.1).1, fun b hb => ⟨i, hi, hp'.1, hp'.2, hb⟩⟩
  · rintro b ⟨i, hi, hpi, _, hb⟩; exact (g1 i hi hpi).2 b hb
  · rintro b ⟨i, hi, hpi, hne, hb⟩ hb2; exact g2 i q hi h1 hpi hp hne b hb hb2
theorem St.drop_last {A : Asrt} (S : St base w0 h w (L ++ [A])) : St base w0 h w L := by
  obtain ⟨Fs, hF, hD⟩ := S.sep
  refine ⟨S.below, S.bsz, S.ghost, S.dom, Fs, fun i B hi => ?_, fun i m hi hm => hD i m (by simp; omega) (by simp; omega)⟩
  have hlt := (List.getElem?_eq_some_iff.1 hi).1
  exact hF i B (by rw [List.getElem?_append_left hlt]; exact hi)
theorem grid_still (S : St base w0 h w L) (hj : L[j]? = some (grid T k us xss)) : ∀ n, n ≤ xss.length →
    ∃ h', Le h h' ∧ St base w0 h' w (L.set j (rows T k us xss fun m => decide (n ≤ m))) ∧ ∀ m, m < n → k.slice.rep h' (xss.getD m default) [us.getD m default]
  | 0, _ => ⟨h, Le.refl h, by
      have e : (rows T k us xss fun m => decide (0 ≤ m)) = grid T k us xss := by unfold grid; congr 1
      rw [e]
      have e2 : L.set j (grid T k us xss) = L := by
        have hl := (List.getElem?_eq_some_iff.1 hj).1
        have := (List.getElem?_eq_some_iff.1 hj).2
        rw [← this]; simp
      rw [e2]; exact S, fun m hm => by omega⟩
  | n + 1, hn => by
    obtain ⟨h', hl, S', hr⟩ := grid_still S hj n (by omega)
    have hlt : j < L.length := (List.getElem?_eq_some_iff.1 hj).1
    have S2 := rows_focus S' (j := j) (q := n) (List.getElem?_set_self hlt) (by simp) (by omega)
    have hlen : ((L.set j (rows T k us xss fun m => decide (n ≤ m))).set j (rows T k us xss fun i => decide (n ≤ i) && !decide (i = n))).length = L.length := by simp
    obtain ⟨h2, hl2, S3, rp⟩ := S2.freeze (i := L.length) (T := T) (k := k) (v := us.getD n default) (xs := xss.getD n default) (by rw [List.getElem?_append_right (by rw [hlen]; exact Nat.le_refl _), hlen]; simp)
    refine ⟨h2, hl.trans hl2, ?_, fun m hm => ?_⟩
    · have e : (rows T k us xss fun i => decide (n ≤ i) && !decide (i = n)) = rows T k us xss fun m => decide (n + 1 ≤ m) := by
        congr 1; funext m
        by_cases e1 : m = n
        · subst e1; simp
        · by_cases e2 : n ≤ m
          · have : n + 1 ≤ m := by omega
            simp [e1, e2, this]
          · have : ¬ n + 1 ≤ m := by omega
            simp [e1, e2, this]
      rw [e] at S3
      have e3 : ((L.set j (rows T k us xss fun m => decide (n ≤ m))).set j (rows T k us xss fun m => decide (n + 1 ≤ m)) ++ [row T k (us.getD n default) (xss.getD n default)]).set L.length emp = L.set j (rows T k us xss fun m => decide (n + 1 ≤ m)) ++ [emp] := by
        rw [List.set_set, List.set_append_right _ _ (by simp)]; simp
      rw [e3] at S3
      exact S3.drop_last
    · by_cases e : m = n
      · subst e; exact rp
      · exact k.slice.mono hl2 (hr m (by omega))
theorem grid_freeze {T2 : TypeId} (S : St base w0 h w L) (hi : L[i]? = some (row T2 kRaw v us)) (hj : L[j]? = some (grid T k us xss)) (hij : i ≠ j) :
    ∃ h', Le h h' ∧ St base w0 h' w ((L.set j emp).set i (row T2 k.slice v xss)) := by
  have hn := zdw S hj
  have hlt : j < L.length := (List.getElem?_eq_some_iff.1 hj).1
  obtain ⟨h', hl, S', hr⟩ := grid_still S hj xss.length (Nat.le_refl _)
  have S2 := S'.upd (i := j) (A' := emp) (List.getElem?_set_self hlt) fun F _ _ => ⟨⟨rfl, rfl, rfl, Nat.le_refl _, fun _ _ _ => rfl⟩, fun _ => False, trivial, fun b hb => hb.elim⟩
  rw [List.set_set] at S2
  have hi2 : (L.set j emp)[i]? = some (row T2 kRaw v us) := by rw [List.getElem?_set_ne (fun e => hij e.symm)]; exact hi
  refine ⟨h', hl, S2.upd hi2 fun F hA _ => ⟨⟨rfl, rfl, rfl, Nat.le_refl _, fun _ _ _ => rfl⟩, F, ?_, fun b hb => .inl hb⟩⟩
  obtain ⟨cs, h1, h2, h3⟩ := hA
  refine ⟨cs, by rw [← hn]; exact h1, ⟨by rw [← hn]; exact h2.1, fun m x hx => ?_⟩, h3⟩
  have hm : m < xss.length := (List.getElem?_eq_some_iff.1 hx).1
  have hm2 : m < us.length := by omega
  have h4 := (h2.2 m us[m] (List.getElem?_eq_getElem hm2)).1
  have h5 := hr m hm
  have e1 : us.getD m default = us[m] := by simp [List.getD_eq_getElem?_getD, List.getElem?_eq_getElem hm2]
  have e2 : xss.getD m default = x := by simp [List.getD_eq_getElem?_getD, hx]
  rw [e1, e2] at h5
  show k.slice.rep h' x ((cs.drop (m * 1)).take 1)
  have h4' : (cs.drop (m * 1)).take 1 = [us[m]] := h4
  rw [h4']; exact h5
end
end Gx
namespace Gx
open Go Go.RowKit
set_option linter.unusedSimpArgs false
set_option linter.unusedSectionVars false
set_option linter.unusedVariables false
theorem rises_iff {b : Int} : ∀ {last : Int} {l : List Int}, zc4 b last l = true ↔ l.Pairwise (· < ·) ∧ ∀ x ∈ l, last < x ∧ x < b
  | last, [] => by simp [zc4]
  | last, n :: r => by
    unfold zc4
    rw [Bool.and_eq_true, Bool.and_eq_true, decide_eq_true_eq, decide_eq_true_eq, rises_iff, List.pairwise_cons]
    constructor
    · rintro ⟨⟨h1, h2⟩, h3, h4⟩
      refine ⟨⟨fun x hx => (h4 x hx).1, h3⟩, fun x hx => ?_⟩
      rcases List.mem_cons.1 hx with e | e
      · subst e; exact ⟨h1, h2⟩
      · have := h4 x e; omega
    · rintro ⟨⟨h1, h2⟩, h3⟩
      have h4 := h3 n (by simp)
      exact ⟨h4, h2, fun x hx => ⟨h1 x hx, (h3 x (List.mem_cons_of_mem _ hx)).2⟩⟩
section
variable {m : Mach} (hR : Right m)
end
end Gx
namespace Gx
open Go Go.RowKit
set_option linter.unusedSimpArgs false
set_option linter.unusedVariables false
section
variable {P : Program} {w : World} {ρ : Env} {d : Option Tmp} {ty : TypeId} {pos : String} {af : Array Edge} {g : Option (Nat × Bool)} {x y : Operand}
end
section
variable {α : Type} [Inhabited α] {a b : List α} {i : Int}
theorem at_set_far (a : List α) {i j : Int} (h0 : 0 ≤ i) (h : i < j) (v : α) : at_ (a.set i.toNat v) j = at_ a j := by
  unfold at_
  rw [List.getD_eq_getElem?_getD, List.getD_eq_getElem?_getD, List.getElem?_set_ne (by omega)]
variable {t t2 : List (List α)} {k : Int}
end
end Gx
namespace Gx
open Go Go.RowKit
set_option linter.unusedSimpArgs false
set_option linter.unusedSectionVars false
set_option linter.unusedVariables false
def zay (w : ByteArray) : List Int := w.data.toList.map fun b => ((b.toNat : Nat) : Int)
theorem zdy (w : ByteArray) : (zay w).length = w.size := by unfold zay; rw [List.length_map, Array.length_toList]; rfl
theorem bytesL_at (w : ByteArray) {j : Int} (h0 : 0 ≤ j) (h1 : j < (w.size : Int)) : at_ (zay w) j = byt w j := by
  unfold at_ byt zay
  have : j.toNat < w.data.toList.length := by have h2 : (j.toNat : Int) < ((w.data.size : Nat) : Int) := by rw [Int.toNat_of_nonneg h0]; exact h1
                                              rw [Array.length_toList]; omega
  rw [List.getD_eq_getElem?_getD, List.getElem?_map, List.getD_eq_getElem?_getD, List.getElem?_eq_getElem this]; rfl
end Gx
namespace Gx
open Go Go.RowKit
set_option linter.unusedSimpArgs false
set_option linter.unusedVariables false
set_option linter.unusedSectionVars false
def endL (m : Mach) : List Int → Int → Bool
  | [], n => at_ m.last n
  | c :: cs, n => (at_ m.follow n).any fun k => has (at_ m.spots k).set c && endL m cs k
def zc1 (m : Mach) : List Int → Int → Bool
  | [], _ => false
  | c :: cs, n => has (at_ m.spots n).set c && endL m cs n
theorem endL_good (m : Mach) {cs : List Int} (h : cs ≠ []) (n : Int) : endL m cs n = (at_ m.follow n).any fun k => zc1 m cs k := by
  cases cs with
  | nil => exact absurd rfl h
  | cons c cs => rfl
theorem zcc (w : ByteArray) {i : Int} (h0 : 0 ≤ i) (h1 : i < (w.size : Int)) : (zay w).drop i.toNat = byt w i :: (zay w).drop (i + 1).toNat := by
  rw [drop_cons (zay w) h0 (by rw [zdy]; exact h1), bytesL_at w h0 h1]
theorem bytes_end (w : ByteArray) {i : Int} (h1 : (w.size : Int) ≤ i) : (zay w).drop i.toNat = [] := List.drop_of_length_le (by rw [zdy]; omega)
theorem bytes_more (w : ByteArray) {i : Int} (h0 : 0 ≤ i) (h1 : i < (w.size : Int)) : (zay w).drop i.toNat ≠ [] := by rw [zcc w h0 h1]; simp
theorem good_no {m : Mach} {w : ByteArray} {i n : Int} (h0 : 0 ≤ i) (h1 : i < (w.size : Int)) (h : has (at_ m.spots n).set (byt w i) = false) : zc1 m ((zay w).drop i.toNat) n = false := by
  rw [zcc w h0 h1]; show (_ && _) = false; rw [h]; rfl
theorem good_last {m : Mach} {w : ByteArray} {i n : Int} (h0 : 0 ≤ i) (h1 : i = (w.size : Int) - 1) (h : has (at_ m.spots n).set (byt w i) = true) : zc1 m ((zay w).drop i.toNat) n = at_ m.last n := by
  rw [zcc w h0 (by omega), bytes_end w (by omega)]; show (_ && _) = _; rw [h]; rfl
theorem good_mid {m : Mach} {w : ByteArray} {i n : Int} (h0 : 0 ≤ i) (h1 : i + 1 < (w.size : Int)) (h : has (at_ m.spots n).set (byt w i) = true) : zc1 m ((zay w).drop i.toNat) n = (at_ m.follow n).any fun k => zc1 m ((zay w).drop (i + 1).toNat) k := by
  rw [zcc w h0 (by omega)]; show (_ && _) = _; rw [h, endL_good m (bytes_more w (by omega) h1)]; rfl
def zc5 (m : Mach) (l : List Int) : List Bool := tab m.spots.length fun n => zc1 m l ((n : Nat) : Int)
theorem goodRow_len (m : Mach) (l : List Int) : (zc5 m l).length = m.spots.length := tab_len _ _
def gRowTo (m : Mach) (l : List Int) (t : Int) : List Bool := tab m.spots.length fun n => decide (((n : Nat) : Int) < t) && zc1 m l ((n : Nat) : Int)
theorem gRow_len (m : Mach) (l : List Int) (t : Int) : (gRowTo m l t).length = m.spots.length := tab_len _ _
theorem gRow_0 (m : Mach) (l : List Int) {n : Nat} (hn : n = m.spots.length) : List.replicate n false = gRowTo m l 0 := by
  rw [hn, tab_false]; exact tab_ext fun i hi => by rw [decide_eq_false (by omega)]; rfl
theorem gRow_step (m : Mach) (l : List Int) {t : Int} (h0 : 0 ≤ t) {v : Bool} (hv : v = zc1 m l t) : (gRowTo m l t).set t.toNat v = gRowTo m l (t + 1) := by
  unfold gRowTo
  rw [tab_set h0]
  refine tab_ext fun i hi => ?_
  by_cases e : i = t.toNat
  · rw [if_pos e, hv, decide_eq_true (by omega), show ((i : Nat) : Int) = t by omega]; rfl
  · rw [if_neg e]
    by_cases e2 : ((i : Nat) : Int) < t
    · rw [decide_eq_true e2, decide_eq_true (by omega)]
    · rw [decide_eq_false e2, decide_eq_false (by omega)]
theorem gRow_no (m : Mach) (l : List Int) {t : Int} (h0 : 0 ≤ t) (h : zc1 m l t = false) : gRowTo m l t = gRowTo m l (t + 1) := by
  refine tab_ext fun i hi => ?_
  by_cases e : ((i : Nat) : Int) = t
  · rw [e, h, Bool.and_false, Bool.and_false]
  · by_cases e2 : ((i : Nat) : Int) < t
    · rw [decide_eq_true e2, decide_eq_true (by omega)]
    · rw [decide_eq_false e2, decide_eq_false (by omega)]
theorem gRow_end (m : Mach) (l : List Int) {t : Int} (h : (m.spots.length : Int) ≤ t) : gRowTo m l t = zc5 m l := tab_ext fun i hi => by rw [decide_eq_true (by omega)]; rfl
theorem goodRow_at (m : Mach) (l : List Int) {k : Int} (h0 : 0 ≤ k) (h1 : k < (m.spots.length : Int)) : at_ (zc5 m l) k = zc1 m l k := by
  unfold zc5; rw [tab_at h0 h1, Int.toNat_of_nonneg h0]
def zcw (m : Mach) (w : ByteArray) (i : Int) : List (List Bool) := (List.range w.size).map fun j => if ((j : Nat) : Int) ≤ i then [] else zc5 m ((zay w).drop j)
def zcq (m : Mach) (w : ByteArray) : List (List Bool) := zcw m w (-1)
theorem goods_end (m : Mach) (w : ByteArray) : zcq m w = zcw m w (-1) := rfl
theorem goodsTo_len (m : Mach) (w : ByteArray) (i : Int) : (zcw m w i).length = w.size := by simp [zcw]
theorem goodsTo_0 (m : Mach) (w : ByteArray) {i : Int} (h : (w.size : Int) - 1 ≤ i) {n : Nat} (hn : n = w.size) : List.replicate n ([] : List Bool) = zcw m w i := by
  subst hn
  unfold zcw
  apply List.ext_getElem?
  intro j
  rw [List.getElem?_replicate, List.getElem?_map]
  by_cases hj : j < w.size
  · rw [if_pos hj, List.getElem?_range hj]; simp; omega
  · rw [if_neg hj, List.getElem?_eq_none (by simpa using Nat.le_of_not_lt hj)]; rfl
theorem goodsTo_at (m : Mach) (w : ByteArray) {i j : Int} (h0 : 0 ≤ j) (h1 : j < (w.size : Int)) (h : i < j) : at_ (zcw m w i) j = zc5 m ((zay w).drop j.toNat) := by
  unfold zcw
  rw [at_map_range _ _ h0 h1, if_neg (by omega)]
theorem goods_at (m : Mach) (w : ByteArray) {j : Int} (h0 : 0 ≤ j) (h1 : j < (w.size : Int)) : at_ (zcq m w) j = zc5 m ((zay w).drop j.toNat) := goodsTo_at m w h0 h1 (by omega)
theorem goods_len (m : Mach) (w : ByteArray) : (zcq m w).length = w.size := goodsTo_len m w _
def gIn (m : Mach) (w : ByteArray) (i t : Int) : List (List Bool) := (zcw m w i).set i.toNat (gRowTo m ((zay w).drop i.toNat) t)
theorem gIn_len (m : Mach) (w : ByteArray) (i t : Int) : (gIn m w i t).length = w.size := by unfold gIn; rw [List.length_set, goodsTo_len]
theorem gIn_at (m : Mach) (w : ByteArray) {i : Int} (t : Int) (h0 : 0 ≤ i) (h1 : i < (w.size : Int)) : at_ (gIn m w i t) i = gRowTo m ((zay w).drop i.toNat) t := by
  unfold gIn; exact at_set_self h0 (by rw [goodsTo_len]; exact h1)
theorem gIn_next (m : Mach) (w : ByteArray) {i : Int} (t : Int) (h0 : 0 ≤ i) (h1 : i + 1 < (w.size : Int)) : at_ (gIn m w i t) (i + 1) = zc5 m ((zay w).drop (i + 1).toNat) := by
  unfold gIn; rw [at_set_far _ h0 (by omega), goodsTo_at m w (by omega) h1 (by omega)]
theorem gIn_0 (m : Mach) (w : ByteArray) (i : Int) {n : Nat} (hn : n = m.spots.length) : (zcw m w i).set i.toNat (List.replicate n false) = gIn m w i 0 := by unfold gIn; rw [gRow_0 m _ hn]
theorem gIn_step (m : Mach) (w : ByteArray) {i t : Int} (h0 : 0 ≤ i) (h1 : i < (w.size : Int)) (t0 : 0 ≤ t) {v : Bool} (hv : v = zc1 m ((zay w).drop i.toNat) t) : (gIn m w i t).set i.toNat ((at_ (gIn m w i t) i).set t.toNat v) = gIn m w i (t + 1) := by
  rw [gIn_at m w t h0 h1, gRow_step m _ t0 hv]; unfold gIn; rw [List.set_set]
theorem gIn_no (m : Mach) (w : ByteArray) {i t : Int} (t0 : 0 ≤ t) (h : zc1 m ((zay w).drop i.toNat) t = false) : gIn m w i t = gIn m w i (t + 1) := by unfold gIn; rw [gRow_no m _ t0 h]
theorem gIn_end (m : Mach) (w : ByteArray) {i t : Int} (h0 : 0 ≤ i) (h1 : i < (w.size : Int)) (h : (m.spots.length : Int) ≤ t) : gIn m w i t = zcw m w (i - 1) := by
  unfold gIn
  rw [gRow_end m _ h]
  apply List.ext_getElem?
  intro j
  unfold zcw
  rw [List.getElem?_set, List.getElem?_map, List.getElem?_map, List.length_map, List.length_range]
  by_cases hj : j < w.size
  · rw [List.getElem?_range hj]
    by_cases e : i.toNat = j
    · subst e
      rw [if_pos rfl, if_pos hj]
      simp only [Option.map_some]
      rw [if_neg (by omega)]
    · rw [if_neg e]
      simp only [Option.map_some]
      by_cases e2 : ((j : Nat) : Int) ≤ i
      · rw [if_pos e2, if_pos (by omega)]
      · rw [if_neg e2, if_neg (by omega)]
  · have hn : (List.range w.size)[j]? = none := List.getElem?_eq_none (by simpa using Nat.le_of_not_lt hj)
    rw [hn]
    by_cases e : i.toNat = j
    · omega
    · rw [if_neg e]; rfl
theorem any_take_step {α : Type} [Inhabited α] {l : List α} {p : α → Bool} {t : Int} (h0 : 0 ≤ t) (h1 : t < (l.length : Int)) (h : (l.take t.toNat).any p = false) (h2 : p (at_ l t) = false) : (l.take (t + 1).toNat).any p = false := by
  rw [zdq _ h0 h1, List.any_append, h]; simp [h2]
theorem any_found {α : Type} [Inhabited α] {l : List α} {p : α → Bool} {t : Int} (h0 : 0 ≤ t) (h1 : t < (l.length : Int)) (h : p (at_ l t) = true) : l.any p = true := List.any_eq_true.2 ⟨_, zbp h0 h1, h⟩
theorem zbx {α : Type} {l : List α} {p : α → Bool} {t : Int} (h1 : (l.length : Int) ≤ t) (h : (l.take t.toNat).any p = false) : l.any p = false := by rwa [List.take_of_length_le (by omega)] at h
theorem any_row {m : Mach} (hR : Right m) {l : List Int} {n : Int} (h0 : 0 ≤ n) (h1 : n < (m.spots.length : Int)) : ((at_ m.follow n).any fun k => at_ (zc5 m l) k) = (at_ m.follow n).any fun k => zc1 m l k := by
  have e : ∀ k ∈ at_ m.follow n, at_ (zc5 m l) k = zc1 m l k := fun k hk => by
    have := hR.rows h0 h1 k hk
    exact goodRow_at m l this.1 this.2
  cases h : (at_ m.follow n).any fun k => zc1 m l k with
  | true =>
    obtain ⟨k, hk, hg⟩ := List.any_eq_true.1 h
    exact List.any_eq_true.2 ⟨k, hk, by rw [e k hk]; exact hg⟩
  | false =>
    refine List.any_eq_false.2 fun k hk => ?_
    rw [e k hk]; exact List.any_eq_false.1 h k hk
end Gx
namespace Gx
open Go Go.RowKit
set_option linter.unusedSimpArgs false
set_option linter.unusedSectionVars false
set_option linter.unusedVariables false
section
variable {P : Program} {f n : Nat} {k : List Item} {ρ : Env} {w : World} {R : Ending → World → Prop} {ops : Array Oper} {rest : List Nat} {i : Nat}
variable {d : Tmp} {ty : TypeId} {pos : String} {af : Array Edge} {x y : Operand} {op : Op} {gd : Option (Nat × Bool)}
theorem p_i {g : FuncId} {args : Array Value} (ho : ops[i]? = some ⟨some d, op, ty, pos, af, gd⟩) (hw : zb0 ρ ops ⟨some d, op, ty, pos, af, gd⟩ = true) (hd : Nat.blt d n = true) (hr : (execOp (ev ρ) ⟨some d, op, ty, pos, af, gd⟩).run P w = .ok (.enter g args) w)
    (hc : Calls P g args w fun e w2 => ∃ v, e = .returned v ∧ Run P f n (.inRegion ops rest :: k) (upd ρ d v) w2 R) : Run P f n (.inRegion ops (i :: rest) :: k) ρ w R := p_c ho hw hd hr hc fun _ _ h => h
end
section
variable {P : Program} {f n : Nat} {k : List Item} {ρ : Env} {w : World} {R : Ending → World → Prop} {ops : Array Oper} {H : Held} {fuel : Nat} {listed : Array Bool} {i : Nat}
variable {d : Tmp} {ty : TypeId} {pos : String} {af : Array Edge} {op : Op} {gd : Option (Nat × Bool)}
theorem d_i {g : FuncId} {args : Array Value} (ho : ops[i]? = some ⟨some d, op, ty, pos, af, gd⟩) (hw : zb0 ρ ops ⟨some d, op, ty, pos, af, gd⟩ = true) (hd : Nat.blt d n = true) (hr : (execOp (ev ρ) ⟨some d, op, ty, pos, af, gd⟩).run P w = .ok (.enter g args) w)
    (hc : Calls P g args w fun e w2 => ∃ v, e = .returned v ∧ ((Gr w w2 ∨ Keep ops i w2 H) ∧ RA P f n ops H fuel (listed.setIfInBounds i true) k (upd ρ d v) w2 R)) : RA1 P f n ops H fuel listed k ρ w R i := d_c ho hw hd hr hc fun _ _ h => h
end
section
variable {P : Program} {w : World} {ρ : Env} {d : Option Tmp} {x y : Operand} {ty : TypeId} {pos : String} {af : Array Edge} {g : Option (Nat × Bool)}
theorem za7 {ad : Addr} (hx : ev ρ x = .pointer (some ad)) : (execOp (ev ρ) ⟨d, .nilCheck x, ty, pos, af, g⟩).run P w = .ok (.value (.pointer (some ad))) w := by
  simp only [execOp, hx]
  rfl
end
section
variable {α β : Type} [DecidableEq α] {P : Program} {kt : TypeId} {ke : α → Value} {ve : β → Value} {w w' : World}
def MapH (ke : α → Value) (ve : β → Value) (b : Nat) (kvs : List (α × β)) (w : World) : Prop := ∃ es clock, w.heap[b]? = some (.map es clock) ∧ es.toList.map (fun e => (e.key, e.val)) = zc8 ke ve kvs
theorem MapH.gr {b : Nat} {kvs : List (α × β)} (g : Gr w w') (h : MapH ke ve b kvs w) : MapH ke ve b kvs w' := by
  obtain ⟨es, clock, hb, hes⟩ := h
  have hlt : b < w.heap.size := (Array.getElem?_eq_some_iff.1 hb).1
  exact ⟨es, clock, by rw [← hb]; exact Chg.block g b hlt (fun x => x), hes⟩
def MapHs (ke : α → Value) (ve : β → Value) (b : Nat) (kvs : List (α × β)) : Sp := ⟨MapH ke ve b kvs, fun _ _ g h => h.gr g⟩
end
section
variable {P : Program} {w w0 : World} {base : Nat} {h : Ghost} {L : List Asrt}
end
end Gx
namespace Go.Proofs.Ytpdanfggijmnmaa
open Go Go.RowKit Gx
set_option maxHeartbeats 3000000
set_option linter.unusedVariables false
set_option linter.unusedSimpArgs false
set_option maxRecDepth 8000
attribute [local irreducible] listOf zd0 first someIn has zb6 wbits Lib.ctz zc4 zbj rowOk tab markP intoP intoTo zcm zb7 zcr runTo endsIn endTo runM posTo mayP zb3 zb1 mayTo atP lastTo docAt anyTo allTo lfp trues zcw zcq gIn zc1 endL zc5 gRowTo zay
theorem goods_calls (w : World) (m : Mach) (A0_0 : Option Addr) (c0_0 : Nat) (b0_0 : m.spots.length ≤ c0_0 ∧ c0_0 ≤ maxLen) (l0_0 : zbe kSpot (hp w) A0_0 m.spots) (A0_1 : Option Addr) (c0_1 : Nat) (b0_1 : m.first.length ≤ c0_1 ∧ c0_1 ≤ maxLen) (l0_1 : zbe (Kd.int .i64) (hp w) A0_1 m.first) (A0_2 : Option Addr) (c0_2 : Nat) (b0_2 : m.follow.length ≤ c0_2 ∧ c0_2 ≤ maxLen) (l0_2 : zbe (Kd.int .i64).slice (hp w) A0_2 m.follow) (A0_3 : Option Addr) (c0_3 : Nat) (b0_3 : m.last.length ≤ c0_3 ∧ c0_3 ≤ maxLen) (l0_3 : zbe Kd.bool (hp w) A0_3 m.last) (xw : ByteArray) (s1 : xw.size ≤ maxLen) (pre0 : Right m ∧ (xw.size : Int) ≤ 1000) :
    Calls Try.prog 25 #[.agg #[.slice A0_0 m.spots.length c0_0, .slice A0_1 m.first.length c0_1, .slice A0_2 m.follow.length c0_2, .slice A0_3 m.last.length c0_3, .bool m.empty], .string xw] w fun e w' => ∃ v, e = .returned v ∧ ∃ (hn : Ghost) (r0 : Value), St w.heap.size w hn w' [row 25 Kd.bool.slice r0 (zcq m xw)] ∧ v = r0 := by
 refine zas Try.func25 rfl Try.ntmps25 rfl ?_
 have S0 := St.init w
 have bb0_0 := b0_0.1; have bc0_0 := b0_0.2; simp only [maxLen] at bc0_0
 have bb0_1 := b0_1.1; have bc0_1 := b0_1.2; simp only [maxLen] at bc0_1
 have bb0_2 := b0_2.1; have bc0_2 := b0_2.2; simp only [maxLen] at bc0_2
 have bb0_3 := b0_3.1; have bc0_3 := b0_3.2; simp only [maxLen] at bc0_3
 have sz1 := s1; simp only [maxLen] at sz1
 have hR_ := pre0.1; have hsm_ := hR_.small; have hfo_ := hR_.follow; have hla_ := hR_.last; have hw_ := pre0.2
 refine zab <| zac (l := [0, 1]) rfl ?_
 obtain ⟨b1, w1, r1, g1, T1⟩ := zc0 (P := Try.prog) S0 27 (v := .agg #[.slice A0_0 m.spots.length c0_0, .slice A0_1 m.first.length c0_1, .slice A0_2 m.follow.length c0_2, .slice A0_3 m.last.length c0_3, .bool m.empty]) [.slice A0_0 m.spots.length c0_0, .slice A0_1 m.first.length c0_1, .slice A0_2 m.follow.length c0_2, .slice A0_3 m.last.length c0_3, .bool m.empty] rfl
 have S2 := T1
 dsimp only [lAa, lAn, lA0, lAs] at S2
 refine p_v (v := .pointer (some ⟨b1, 0, none⟩)) rfl rfl rfl (x_box rfl r1) <| p_v (v := .slice none 0 0) rfl rfl rfl (zae rfl) <| zaa <| zab <| zac (l := [0, 1, 2, 3, 4]) rfl <| p_v (v := .string xw) rfl rfl rfl (zad rfl) <| p_v (v := .int .i64 (xw.size : Int)) rfl rfl rfl (zcg u9 rfl) ?_
 obtain ⟨v3, w3, r3, g3, T3⟩ := e_make (kk := .i64) (kk' := .i64) (kd := kRaw) (q := (xw.size : Int)) (z := (.slice none 0 0 : Value)) (zc := [.slice none 0 0]) S2 u50 ty25 rfl rfl ⟨rfl, rfl⟩ (by first|omega|(simp;omega)|assumption|simp) (by first|omega|(simp;omega)|assumption|simp) (by first|omega|(simp;omega)|assumption|simp)
 have S4 := T3
 dsimp only [lAa, lAn, lA0, lAs] at S4
 have T5 := grid_none S4 4 Kd.bool ((xw.size : Int)).toNat
 have S6 := T5
 dsimp only [lAa, lAn, lA0, lAs] at S6
 have gl7 := zdw S6 (j := 2) rfl
 refine p_v (v := v3) rfl rfl rfl (x_make rfl rfl r3) ?_
 obtain ⟨b8, w8, r8, g8, T8⟩ := zc0 (P := Try.prog) S6 50 (v := (.slice none 0 0)) [.slice none 0 0] rfl
 have S9 := T8
 dsimp only [lAa, lAn, lA0, lAs] at S9
 refine p_v (v := .pointer (some ⟨b8, 0, none⟩)) rfl rfl rfl (zcs ty50 r8) ?_
 have oc11 := row_one S9 (j := 1) rfl
 obtain ⟨w10, r10, g10, T10⟩ := zb9 (P := Try.prog) (off := 0) (v := v3) (vs := [v3]) S9 ty50 (row_cells S9 (j := 1) rfl) rfl (j := 3) rfl (by first | decide | exact Nat.le_of_ble_eq_true rfl) (zdf oc11 one_nil)
 have S12 := T10.fx 3 (box b8 50 [v3]) rfl
 dsimp only [lAa, lAn, lA0, lAs] at S12
 refine p_s rfl rfl (zbt rfl rfl r10) <| zaa <| zab <| zab <| zac (l := [0, 1, 2, 3, 4]) rfl <| p_v (v := .string xw) rfl rfl rfl (zad rfl) <| p_v (v := .int .i64 (xw.size : Int)) rfl rfl rfl (zcg u9 rfl) <| p_v (v := .int .i64 ((xw.size : Int) - 1)) rfl rfl rfl (x_sub rfl rfl (zai (by first|omega|(simp;omega)|assumption|simp) (by first|omega|(simp;omega)|assumption|simp))) ?_
 obtain ⟨b13, w13, r13, g13, T13⟩ := zc0 (P := Try.prog) S12 3 (v := (.int .i64 0)) [.int .i64 0] rfl
 have S14 := T13
 dsimp only [lAa, lAn, lA0, lAs] at S14
 refine p_v (v := .pointer (some ⟨b13, 0, none⟩)) rfl rfl rfl (zcs ty3 r13) ?_
 obtain ⟨w15, r15, g15, T15⟩ := zb9 (P := Try.prog) (off := 0) (v := .int .i64 ((xw.size : Int) - 1)) (vs := [.int .i64 ((xw.size : Int) - 1)]) S14 ty3 rfl rfl (j := 4) rfl (by first | decide | exact Nat.le_of_ble_eq_true rfl) (by simp [Value.oneCell'])
 have S16 := T15.fx 4 (box b13 3 [.int .i64 ((xw.size : Int) - 1)]) rfl
 dsimp only [lAa, lAn, lA0, lAs] at S16
 refine p_s rfl rfl (zbt rfl rfl r15) <| zaa <| zam <| za8 (S := (List (List Bool)) × Int) (fun (q_ : (List (List Bool)) × Int) ρ w' => match q_ with | (out, i) => ∃ (h : Ghost) (b_i : Nat) (us_out : List Value) (v_out : Value), Le (fun _ => none) h ∧ St w.heap.size w h w' [box b1 27 [.slice A0_0 m.spots.length c0_0, .slice A0_1 m.first.length c0_1, .slice A0_2 m.follow.length c0_2, .slice A0_3 m.last.length c0_3, .bool m.empty], row 25 kRaw v_out us_out, grid 4 Kd.bool us_out out, box b8 50 [v_out], box b_i 3 [.int .i64 i]] ∧ ρ 1 = .string xw ∧ ρ 2 = .pointer (some ⟨b1, 0, none⟩) ∧ ρ 5 = .pointer (some ⟨b8, 0, none⟩) ∧ ρ 6 = .pointer (some ⟨b_i, 0, none⟩) ∧ inK .i64 i ∧ (-1 ≤ i ∧ i < (xw.size : Int) ∧ out = zcw m xw i)) (fun q_ => match q_ with | (out, i) => (i + 1).toNat) (List.replicate ((xw.size : Int)).toNat ([] : List Bool), (xw.size : Int) - 1) ⟨(fun _ => none), b13, (List.replicate ((xw.size : Int)).toNat (.slice none 0 0 : Value)), v3, Le.refl _, S16.sub [0, 1, 2, 3, 4] (by decide) rfl _ rfl, rfl, rfl, rfl, rfl, (zai (by first|omega|(simp;omega)|assumption|simp) (by first|omega|(simp;omega)|assumption|simp)), (by exact ⟨by omega, by omega, goodsTo_0 m xw (by omega) (by omega)⟩)⟩ ?_
 rintro ⟨out, i⟩ ih17 ρ17 w17 ⟨h17, b_i, us_out, v_out, le17, S17, r17_1, r17_2, r17_5, r17_6, f17_0, hI17⟩
 have lf17_0 := za1 f17_0; have hf17_0 := za2 f17_0
 have rl17_1 := S17.row_le (j := 1) rfl; simp only [maxLen] at rl17_1
 have gl17_2 := zdw S17 (j := 2) rfl
 have hol_ : (out.length : Int) = xw.size := by rw [hI17.2.2, goodsTo_len]
 refine zab <| zab <| zac (l := [0, 1]) rfl <| p_v (v := .int .i64 i) rfl rfl rfl (zah (seg := [.int .i64 i]) ty3 rfl (by simp) r17_6 (CF.box (m := 1) (S17.box_at (j := 4) rfl) rfl)) <| p_v (v := .bool (decide (0 ≤ i))) rfl rfl rfl (x_geq rfl rfl) <| zaa ?_
 refine zal (p := 0 ≤ i) rfl (fun hc18 => ?_) (fun hc18 => ?_)
 ·skip
  refine zao <| zab <| zam <| zab ?_
  have hf19 : (CFs ⟨b8, 0, none⟩ [v_out]).1 w17 := (CF.box (m := 1) (S17.box_at (j := 3) rfl) rfl)
  have hf20 : (CFs ⟨b_i, 0, none⟩ [.int .i64 i]).1 w17 := (CF.box (m := 1) (S17.box_at (j := 4) rfl) rfl)
  have hf21 : (CFs ⟨b1, 0, none⟩ [.slice A0_0 m.spots.length c0_0]).1 w17 := (CF.box (m := 1) (S17.box_at (j := 0) rfl) rfl)
  refine daS (hkC 0 hf19 (hkC 1 hf20 (hkC 3 hf21 (hkN (w := w17))))) 8 rfl zdt ?_
  intro wd22 gd22 hd22
  have S23 := S17.keep gd22
  have hf24 := spUp gd22 hf19
  have hf25 := spUp gd22 hf20
  have hf26 := spUp gd22 hf21
  refine qd1 0 (i := 0) (v := v_out) rfl rfl (by decide +kernel) rfl rfl (fun wq hq => (zah (seg := [v_out]) ty50 rfl (by simp) r17_5 hq)) (za0 hf24 (zaf rfl)) <| qd1 1 (i := 1) (v := .int .i64 i) rfl rfl (by decide +kernel) rfl rfl (fun wq hq => (zah (seg := [.int .i64 i]) ty3 rfl (by simp) r17_6 hq)) (zaq rfl (za0 hf25 (zaf rfl))) <| qd0 (i := 2) (v := .pointer (some ⟨b1, 0, none⟩)) rfl (by decide +kernel) rfl rfl (zak zda ty22 rfl r17_2) (zaf rfl) <| qd1 2 (i := 3) (v := .slice A0_0 m.spots.length c0_0) rfl rfl (by decide +kernel) rfl rfl (fun wq hq => (zah (seg := [.slice A0_0 m.spots.length c0_0]) ty22 rfl (by simp) rfl hq)) (zaq rfl (zaq rfl (za0 hf26 (zaf rfl)))) <| qd0 (i := 4) (v := .int .i64 (m.spots.length : Int)) rfl (by decide +kernel) rfl rfl (zar u22 rfl) (zaf rfl) <| zc7 (i := 5) (by decide +kernel) ?_
  intro wd27 gd27
  have S28 := S23.keep gd27
  have hf29 := spUp gd27 hf24
  have hf30 := spUp gd27 hf25
  have hf31 := spUp gd27 hf26
  obtain ⟨v32, w32, r32, g32, T32⟩ := e_make (kk := .i64) (kk' := .i64) (kd := Kd.bool) (q := (m.spots.length : Int)) (z := false) (zc := [.bool false]) S28 u25 ty4 rfl rfl ⟨rfl, trivial⟩ (by first|omega|(simp;omega)|assumption|simp) (by first|omega|(simp;omega)|assumption|simp) (by first|omega|(simp;omega)|assumption|simp)
  have S33 := T32
  dsimp only [lAa, lAn, lA0, lAs] at S33
  have hf34 := spUp g32 hf29
  have hf35 := spUp g32 hf30
  have hf36 := spUp g32 hf31
  refine d_v (v := v32) rfl rfl rfl (x_make rfl rfl r32) (.inl g32) ?_
  obtain ⟨ad37, a37, at37⟩ := zba (q := i) (m := 1) S33 (j := 1) rfl rfl (by first|omega|(simp;omega)|assumption|simp) (by first|omega|(simp;omega)|assumption|simp)
  refine qd0 (i := 6) (v := .pointer (some ad37)) rfl (by decide +kernel) rfl rfl (za9 u50 ty25 rfl rfl a37 (by first|omega|(simp;omega)|assumption|simp) (by first|omega|(simp;omega)|assumption|simp)) (zaf rfl) <| zc7 (i := 7) (by decide +kernel) ?_
  intro wd38 gd38
  have S39 := S33.keep gd38
  have hf40 := spUp gd38 hf34
  have hf41 := spUp gd38 hf35
  have hf42 := spUp gd38 hf36
  have T44 := e_focus (q := i) S39 (j := 2) rfl (by first|omega|(simp;omega)|assumption|simp) (by first|omega|(simp;omega)|assumption|simp)
  have S45 : St w.heap.size w h17 wd38 [box b1 27 [.slice A0_0 m.spots.length c0_0, .slice A0_1 m.first.length c0_1, .slice A0_2 m.follow.length c0_2, .slice A0_3 m.last.length c0_3, .bool m.empty], row 25 kRaw v_out us_out, gridB 4 Kd.bool us_out out i, box b8 50 [v_out], box b_i 3 [.int .i64 i], row 4 Kd.bool v32 (List.replicate ((m.spots.length : Int)).toNat false), row 4 Kd.bool (at_ us_out i) (at_ out i)] := T44
  obtain ⟨w43, r43, g43, T43⟩ := zdc (u := v32) (q := i) v32 (vs := [v32]) S45 ty25 rfl (j := 1) rfl (row_cells S45 (j := 5) rfl) ⟨rfl, row_one S45 (j := 5) rfl⟩ at37 (by first|omega|(simp;omega)|assumption|simp) (by first|omega|(simp;omega)|assumption|simp)
  have S46 := T43.fx 1 (row 25 kRaw v_out (us_out.set (i).toNat v32)) rfl
  dsimp only [lAa, lAn, lA0, lAs] at S46
  have hf47 : (CFs ⟨b8, 0, none⟩ [v_out]).1 w43 := (CF.box (m := 1) (S46.box_at (j := 3) rfl) rfl)
  have hf48 : (CFs ⟨b_i, 0, none⟩ [.int .i64 i]).1 w43 := (CF.box (m := 1) (S46.box_at (j := 4) rfl) rfl)
  have hf49 : (CFs ⟨b1, 0, none⟩ [.slice A0_0 m.spots.length c0_0]).1 w43 := (CF.box (m := 1) (S46.box_at (j := 0) rfl) rfl)
  refine d_s rfl rfl (zbt rfl rfl r43) (.inr (zck (by decide +kernel) (zck (by decide +kernel) (zck (by decide +kernel) trivial)))) <| zbw (by decide +kernel) ?_
  intro wd50 gd50
  have S51 := S46.keep gd50
  refine zab <| zac (l := [0, 1, 2, 3]) rfl <| p_v (v := .pointer (some ⟨b1, 0, none⟩)) rfl rfl rfl (zak zda ty22 rfl r17_2) <| p_v (v := .slice A0_0 m.spots.length c0_0) rfl rfl rfl (zah (seg := [.slice A0_0 m.spots.length c0_0]) ty22 rfl (by simp) rfl (CF.box (m := 1) (S51.box_at (j := 0) rfl) rfl)) <| p_v (v := .int .i64 (m.spots.length : Int)) rfl rfl rfl (zar u22 rfl) <| p_v (v := .int .i64 0) rfl rfl rfl (zad rfl) <| zaa <| zam ?_
  have T52 := e_close2 (q := i) S51 (j := 2) (i := 5) rfl rfl (by decide) (by first|omega|(simp;omega)|assumption|simp) (by first|omega|(simp;omega)|assumption|simp)
  have S53 : St w.heap.size w h17 wd50 [box b1 27 [.slice A0_0 m.spots.length c0_0, .slice A0_1 m.first.length c0_1, .slice A0_2 m.follow.length c0_2, .slice A0_3 m.last.length c0_3, .bool m.empty], row 25 kRaw v_out (us_out.set (i).toNat v32), grid 4 Kd.bool (us_out.set (i).toNat v32) (out.set (i).toNat (List.replicate ((m.spots.length : Int)).toNat false)), box b8 50 [v_out], box b_i 3 [.int .i64 i], emp, row 4 Kd.bool (at_ us_out i) (at_ out i)] := T52
  have gl54 : (us_out.set (i).toNat v32).length = out.length := (zdw S53 (j := 2) rfl).trans List.length_set
  have gx55_ : at_ (out.set (i).toNat (List.replicate ((m.spots.length : Int)).toNat false)) i = (List.replicate ((m.spots.length : Int)).toNat false) := at_set_self (by first|omega|(simp;omega)|assumption|simp) (by skip; first|omega|(simp;omega)|assumption|simp)
  refine za8 (S := (List (List Bool)) × Int) (fun (q_ : (List (List Bool)) × Int) ρ w' => match q_ with | (out2, t29) => ∃ (h : Ghost), Le h17 h ∧ St w.heap.size w h w' [box b1 27 [.slice A0_0 m.spots.length c0_0, .slice A0_1 m.first.length c0_1, .slice A0_2 m.follow.length c0_2, .slice A0_3 m.last.length c0_3, .bool m.empty], row 25 kRaw v_out (us_out.set (i).toNat v32), grid 4 Kd.bool (us_out.set (i).toNat v32) out2, box b8 50 [v_out], box b_i 3 [.int .i64 i]] ∧ ρ 1 = .string xw ∧ ρ 2 = .pointer (some ⟨b1, 0, none⟩) ∧ ρ 5 = .pointer (some ⟨b8, 0, none⟩) ∧ ρ 6 = .pointer (some ⟨b_i, 0, none⟩) ∧ ρ 27 = .slice A0_0 m.spots.length c0_0 ∧ ρ 28 = .int .i64 (m.spots.length : Int) ∧ ρ 29 = .int .i64 t29 ∧ inK .i64 t29 ∧ (0 ≤ t29 ∧ t29 ≤ (m.spots.length : Int) ∧ out2 = gIn m xw i t29)) (fun q_ => match q_ with | (out2, t29) => (m.spots.length - t29).toNat) (out.set (i).toNat (List.replicate ((m.spots.length : Int)).toNat false), 0) ⟨h17, Le.refl _, S53.sub [0, 1, 2, 3, 4] (by decide) rfl _ rfl, r17_1, r17_2, r17_5, r17_6, rfl, rfl, rfl, (zai (by first|omega|(simp;omega)|assumption|simp) (by first|omega|(simp;omega)|assumption|simp)), (by exact ⟨by omega, by omega, by rw [hI17.2.2]; exact gIn_0 m xw i (by omega)⟩)⟩ ?_
  rintro ⟨out2, t29⟩ ih56 ρ56 w56 ⟨h56, le56, S56, r56_1, r56_2, r56_5, r56_6, r56_27, r56_28, r56_29, f56_0, hI56⟩
  have lf56_0 := za1 f56_0; have hf56_0 := za2 f56_0
  have rl56_1 := S56.row_le (j := 1) rfl; simp only [maxLen] at rl56_1
  have gl56_2 := zdw S56 (j := 2) rfl
  have hol2_ : (out2.length : Int) = xw.size := by rw [hI56.2.2, gIn_len]
  have hor_ : ((at_ out2 i).length : Int) = m.spots.length := by rw [hI56.2.2, gIn_at m xw t29 (by omega) hI17.2.1, gRow_len]
  have hnx_ := fun (h : i + 1 < (xw.size : Int)) => gIn_next m xw t29 (by omega : 0 ≤ i) h
  have hnl_ := fun (h : i + 1 < (xw.size : Int)) => show ((at_ out2 (i + 1)).length : Int) = m.spots.length by rw [hI56.2.2, hnx_ h, goodRow_len]
  refine zab <| zac (l := [0]) rfl <| p_v (v := .bool (decide (t29 < (m.spots.length : Int)))) rfl rfl rfl (zc2 r56_29 r56_28) <| zaa <| zab ?_
  refine zal (p := t29 < (m.spots.length : Int)) rfl (fun hc57 => ?_) (fun hc57 => ?_)
  ·skip
   refine zao <| zab <| zam <| zab <| zac (l := [0, 1, 2, 3, 4, 5]) rfl <| p_v (v := .int .i64 t29) rfl rfl rfl (zad r56_29) ?_
   obtain ⟨ad58, seg58, a58, rp58, ce58⟩ := zap (q := t29) (m := 5) l0_0 rfl (by first|omega|(simp;omega)|assumption|simp) (by first|omega|(simp;omega)|assumption|simp)
   refine p_v (v := .pointer (some ad58)) rfl rfl rfl (zan u22 ty43 r56_27 r56_29 a58 (by first|omega|(simp;omega)|assumption|simp) (by first|omega|(simp;omega)|assumption|simp)) ?_
   obtain ⟨rfl, ok58⟩ := rp58
   have slook58 := u8_lo ok58; have shiok58 := u8_hi ok58
   refine p_v (v := .agg (za4 (at_ m.spots t29)).toArray) rfl rfl rfl (zah (seg := (za4 (at_ m.spots t29))) ty43 rfl (by simp) rfl (CF.ghost ce58 (St.le0 S56))) ?_
   obtain ⟨b59, w59, r59, g59, T59⟩ := zc0 (P := Try.prog) S56 43 (v := (.agg #[.int .u64 0, .int .u64 0, .int .u64 0, .int .u64 0, .int .u8 0])) (za4 (⟨0, 0⟩ : Spot)) rfl
   have S60 := T59
   dsimp only [lAa, lAn, lA0, lAs] at S60
   refine p_v (v := .pointer (some ⟨b59, 0, none⟩)) rfl rfl rfl (zcs ty43 r59) <| p_v (v := .int .i64 t29) rfl rfl rfl (zae rfl) ?_
   obtain ⟨w61, r61, g61, T61⟩ := zb9 (P := Try.prog) (off := 0) (v := .agg (za4 (at_ m.spots t29)).toArray) (vs := (za4 (at_ m.spots t29))) S60 ty43 rfl rfl (j := 5) rfl (by first | decide | exact Nat.le_of_ble_eq_true rfl) (encSpot_one _)
   have S62 := T61.fx 5 (box b59 43 (za4 (at_ m.spots t29))) rfl
   dsimp only [lAa, lAn, lA0, lAs] at S62
   refine p_s rfl rfl (zbt rfl rfl r61) <| zaa <| zab <| zab ?_
   have by63 := byt_range xw i
   have hf65 : (CFs ⟨b59, 0, none⟩ (zau ((at_ m.spots t29).set))).1 w61 := (CF.box (m := 4) (S62.box_at (j := 5) rfl) rfl)
   have hf66 : (CFs ⟨b_i, 0, none⟩ [.int .i64 i]).1 w61 := (CF.box (m := 1) (S62.box_at (j := 4) rfl) rfl)
   refine daS (hkC 1 hf65 (hkC 3 hf66 (hkN (w := w61)))) 7 rfl zdt ?_
   intro wd67 gd67 hd67
   have S68 := S62.keep gd67
   have hf69 := spUp gd67 hf65
   have hf70 := spUp gd67 hf66
   refine qd0 (i := 0) (v := .pointer (some ⟨b59, 0, none⟩)) rfl (by decide +kernel) rfl rfl (zak fd43_0 ty41 rfl rfl) (zaf rfl) <| qd1 0 (i := 1) (v := .agg (zau ((at_ m.spots t29).set)).toArray) rfl rfl (by decide +kernel) rfl rfl (fun wq hq => (zah (seg := (zau ((at_ m.spots t29).set))) ty41 rfl (by simp) rfl hq)) (za0 hf69 (zaf rfl)) <| qd0 (i := 2) (v := .string xw) rfl (by decide +kernel) rfl rfl (zad r56_1) (zaf rfl) <| qd1 1 (i := 3) (v := .int .i64 i) rfl rfl (by decide +kernel) rfl rfl (fun wq hq => (zah (seg := [.int .i64 i]) ty3 rfl (by simp) r56_6 hq)) (zaq rfl (za0 hf70 (zaf rfl))) <| qd0 (i := 4) (v := .int .u8 (byt xw i)) rfl (by decide +kernel) rfl rfl (zdx u9 rfl rfl (by first|omega|(simp;omega)|assumption|simp) (by first|omega|(simp;omega)|assumption|simp)) (zaf rfl) <| d_m (i := 5) (v := .bool (has ((at_ m.spots t29).set) (byt xw i))) (fun _ => True) (fun _ ho => trivial) rfl (by decide +kernel) (by decide +kernel) (by decide +kernel) rfl rfl (fun wq => (zbd (args := [.agg (zau ((at_ m.spots t29).set)).toArray, .int .u8 (byt xw i)]) ca45 rfl rfl)) (fun wq hq => (has_calls wq ((at_ m.spots t29).set) (byt xw i) (in_u8 (by first|omega|(simp;omega)|assumption|simp) (by first|omega|(simp;omega)|assumption|simp))).mono fun e w2 he => by obtain ⟨_, rfl, _, T, rfl⟩ := he; exact ⟨rfl, Chg.of_below T.below⟩) (zaf rfl) <| qd0 (i := 6) (v := .bool (!(has ((at_ m.spots t29).set) (byt xw i)))) rfl (by decide +kernel) rfl rfl (x_not rfl) (zaf rfl) <| zbw (by decide +kernel) ?_
   intro wd71 gd71
   have S72 := S68.keep gd71
   refine zby (b := has ((at_ m.spots t29).set) (byt xw i)) rfl (fun hc73 => ?_) (fun hc73 => ?_)
   ·skip
    refine za3 rfl <| zac (l := [0, 1]) rfl <| p_v (v := .int .i64 (t29 + 1)) rfl rfl rfl (zbv r56_29 rfl (zai (by first|omega|(simp;omega)|assumption|simp) (by first|omega|(simp;omega)|assumption|simp))) <| p_v (v := .int .i64 (t29 + 1)) rfl rfl rfl (zad rfl) <| zaa ?_
    refine ih56 (out2, t29 + 1) _ _ (by dsimp only; omega) ⟨h56, le56, S72.sub [0, 1, 2, 3, 4] (by decide) rfl _ rfl, r56_1, r56_2, r56_5, r56_6, r56_27, r56_28, rfl, (zai (by first|omega|(simp;omega)|assumption|simp) (by first|omega|(simp;omega)|assumption|simp)), (by exact ⟨by omega, by omega, by rw [hI56.2.2]; first | exact gIn_no m xw hI56.1 (good_no (by omega) hI17.2.1 (by assumption)) | exact gIn_step m xw (by omega) hI17.2.1 hI56.1 (good_last (by omega) (by omega) (by assumption)).symm | exact gIn_step m xw (by omega) hI17.2.1 hI56.1 (by rw [good_mid (by omega) (by omega) (by assumption), ← any_row hR_ hI56.1 (by omega), ← hnx_ (by omega), ← hI56.2.2]; first | exact (any_found hI140.1 (by omega) (by assumption)).symm | (rw [decide_eq_true hI140.1]; exact (any_found hI140.1 (by omega) (by assumption)).symm) | exact (zbx (by omega) hI140.2.2).symm)⟩)⟩
   refine zao <| zab <| zac (l := [0, 1, 2, 3, 4]) rfl <| p_v (v := .int .i64 i) rfl rfl rfl (zah (seg := [.int .i64 i]) ty3 rfl (by simp) r56_6 (CF.box (m := 1) (S72.box_at (j := 4) rfl) rfl)) <| p_v (v := .string xw) rfl rfl rfl (zad r56_1) <| p_v (v := .int .i64 (xw.size : Int)) rfl rfl rfl (zcg u9 rfl) <| p_v (v := .int .i64 ((xw.size : Int) - 1)) rfl rfl rfl (x_sub rfl rfl (zai (by first|omega|(simp;omega)|assumption|simp) (by first|omega|(simp;omega)|assumption|simp))) <| p_v (v := .bool (decide (i = ((xw.size : Int) - 1)))) rfl rfl rfl (x_eql rfl rfl) <| zaa ?_
   refine zal (p := i = ((xw.size : Int) - 1)) rfl (fun hc74 => ?_) (fun hc74 => ?_)
   ·skip
    obtain ⟨ad75, a75, at75⟩ := zba (q := i) (m := 1) S72 (j := 1) rfl rfl (by first|omega|(simp;omega)|assumption|simp) (by first|omega|(simp;omega)|assumption|simp)
    obtain ⟨seg76, rp76, cf76⟩ := zbo (q := i) S72 (j := 1) rfl rfl at75 (by first|omega|(simp;omega)|assumption|simp) (by first|omega|(simp;omega)|assumption|simp)
    obtain ⟨rfl, _⟩ := rp76
    have T77 := e_focus (q := i) S72 (j := 2) rfl (by first|omega|(simp;omega)|assumption|simp) (by first|omega|(simp;omega)|assumption|simp)
    have S78 : St w.heap.size w h56 wd71 [box b1 27 [.slice A0_0 m.spots.length c0_0, .slice A0_1 m.first.length c0_1, .slice A0_2 m.follow.length c0_2, .slice A0_3 m.last.length c0_3, .bool m.empty], row 25 kRaw v_out (us_out.set (i).toNat v32), gridB 4 Kd.bool (us_out.set (i).toNat v32) out2 i, box b8 50 [v_out], box b_i 3 [.int .i64 i], box b59 43 (za4 (at_ m.spots t29)), row 4 Kd.bool (at_ (us_out.set (i).toNat v32) i) (at_ out2 i)] := T77
    obtain ⟨ad79, seg79, a79, rp79, ce79⟩ := zap (q := t29) (m := 1) l0_3 rfl (by first|omega|(simp;omega)|assumption|simp) (by first|omega|(simp;omega)|assumption|simp)
    obtain ⟨rfl, _⟩ := rp79
    obtain ⟨ad80, a80, at80⟩ := zba (q := t29) (m := 1) S78 (j := 6) rfl rfl (by first|omega|(simp;omega)|assumption|simp) (by first|omega|(simp;omega)|assumption|simp)
    have hf81 : (CFs ⟨b8, 0, none⟩ [v_out]).1 wd71 := (CF.box (m := 1) (S72.box_at (j := 3) rfl) rfl)
    have hf82 : (CFs ⟨b_i, 0, none⟩ [.int .i64 i]).1 wd71 := (CF.box (m := 1) (S72.box_at (j := 4) rfl) rfl)
    have hf83 : (CFs ad75 [(at_ (us_out.set (i).toNat v32) i)]).1 wd71 := cf76
    have hf84 : (CFs ⟨b1, 3, none⟩ [.slice A0_3 m.last.length c0_3]).1 wd71 := (CF.box (m := 1) (S78.box_at (j := 0) rfl) rfl)
    have hf85 : (CFs ad79 [.bool (at_ m.last t29)]).1 wd71 := (CF.ghost ce79 (St.le0 S78))
    refine daS (hkC 0 hf81 (hkC 1 hf82 (hkC 3 hf83 (hkC 6 hf84 (hkC 9 hf85 (hkN (w := wd71))))))) 12 rfl zdt ?_
    intro wd86 gd86 hd86
    have S87 := S78.keep gd86
    have hf88 := spUp gd86 hf81
    have hf89 := spUp gd86 hf82
    have hf90 := spUp gd86 hf83
    have hf91 := spUp gd86 hf84
    have hf92 := spUp gd86 hf85
    refine qd1 0 (i := 0) (v := v_out) rfl rfl (by decide +kernel) rfl rfl (fun wq hq => (zah (seg := [v_out]) ty50 rfl (by simp) r56_5 hq)) (za0 hf88 (zaf rfl)) <| qd1 1 (i := 1) (v := .int .i64 i) rfl rfl (by decide +kernel) rfl rfl (fun wq hq => (zah (seg := [.int .i64 i]) ty3 rfl (by simp) r56_6 hq)) (zaq rfl (za0 hf89 (zaf rfl))) <| qd0 (i := 2) (v := .pointer (some ad75)) rfl (by decide +kernel) rfl rfl (za9 u50 ty25 rfl rfl a75 (by first|omega|(simp;omega)|assumption|simp) (by first|omega|(simp;omega)|assumption|simp)) (zaf rfl) <| qd1 2 (i := 3) (v := (at_ (us_out.set (i).toNat v32) i)) rfl rfl (by decide +kernel) rfl rfl (fun wq hq => (zah (seg := [(at_ (us_out.set (i).toNat v32) i)]) ty25 rfl (by simp) rfl hq)) (zaq rfl (zaq rfl (za0 hf90 (zaf rfl)))) <| qd0 (i := 4) (v := .int .i64 t29) rfl (by decide +kernel) rfl rfl (zad rfl) (zaf rfl) <| qd0 (i := 5) (v := .pointer (some ⟨b1, 3, none⟩)) rfl (by decide +kernel) rfl rfl (zak fd27_3 ty25 rfl r56_2) (zaf rfl) <| qd1 3 (i := 6) (v := .slice A0_3 m.last.length c0_3) rfl rfl (by decide +kernel) rfl rfl (fun wq hq => (zah (seg := [.slice A0_3 m.last.length c0_3]) ty25 rfl (by simp) rfl hq)) (zaq rfl (zaq rfl (zaq rfl (za0 hf91 (zaf rfl))))) <| qd0 (i := 7) (v := .int .i64 t29) rfl (by decide +kernel) rfl rfl (zad rfl) (zaf rfl) <| qd0 (i := 8) (v := .pointer (some ad79)) rfl (by decide +kernel) rfl rfl (zan u25 ty4 rfl rfl a79 (by first|omega|(simp;omega)|assumption|simp) (by first|omega|(simp;omega)|assumption|simp)) (zaf rfl) <| qd1 4 (i := 9) (v := .bool (at_ m.last t29)) rfl rfl (by decide +kernel) rfl rfl (fun wq hq => (zah (seg := [.bool (at_ m.last t29)]) ty4 rfl (by simp) rfl hq)) (zaq rfl (zaq rfl (zaq rfl (zaq rfl (za0 hf92 (zaf rfl)))))) <| qd0 (i := 10) (v := .pointer (some ad80)) rfl (by decide +kernel) rfl rfl (za9 u25 ty4 rfl rfl a80 (by first|omega|(simp;omega)|assumption|simp) (by first|omega|(simp;omega)|assumption|simp)) (zaf rfl) <| zc7 (i := 11) (by decide +kernel) ?_
    intro wd93 gd93
    have S94 := S87.keep gd93
    have hf95 := spUp gd93 hf88
    have hf96 := spUp gd93 hf89
    have hf97 := spUp gd93 hf90
    have hf98 := spUp gd93 hf91
    have hf99 := spUp gd93 hf92
    obtain ⟨w100, r100, g100, T100⟩ := zdc (u := .bool (at_ m.last t29)) (q := t29) (at_ m.last t29) (vs := [.bool (at_ m.last t29)]) S94 ty4 rfl (j := 6) rfl rfl ⟨rfl, trivial⟩ at80 (by first|omega|(simp;omega)|assumption|simp) (by first|omega|(simp;omega)|assumption|simp)
    have S101 := T100.fx 6 (row 4 Kd.bool (at_ (us_out.set (i).toNat v32) i) ((at_ out2 i).set (t29).toNat (at_ m.last t29))) rfl
    dsimp only [lAa, lAn, lA0, lAs] at S101
    have hf102 : (CFs ⟨b8, 0, none⟩ [v_out]).1 w100 := (CF.box (m := 1) (S101.box_at (j := 3) rfl) rfl)
    have hf103 : (CFs ⟨b_i, 0, none⟩ [.int .i64 i]).1 w100 := (CF.box (m := 1) (S101.box_at (j := 4) rfl) rfl)
    obtain ⟨seg104, rp104, cf104⟩ := zbo (q := i) S101 (j := 1) rfl rfl at75 (by first|omega|(simp;omega)|assumption|simp) (by first|omega|(simp;omega)|assumption|simp)
    obtain ⟨rfl, _⟩ := rp104
    have hf105 : (CFs ad75 [(at_ (us_out.set (i).toNat v32) i)]).1 w100 := cf104
    have hf106 : (CFs ⟨b1, 3, none⟩ [.slice A0_3 m.last.length c0_3]).1 w100 := (CF.box (m := 1) (S101.box_at (j := 0) rfl) rfl)
    have hf107 : (CFs ad79 [.bool (at_ m.last t29)]).1 w100 := (CF.ghost ce79 (St.le0 S101))
    refine d_s rfl rfl (zbt rfl rfl r100) (.inr (zck (by decide +kernel) (zck (by decide +kernel) (zck (by decide +kernel) (zck (by decide +kernel) (zck (by decide +kernel) trivial)))))) <| zbw (by decide +kernel) ?_
    intro wd108 gd108
    have S109 := S101.keep gd108
    refine zaj <| zac (l := [0, 1]) rfl <| p_v (v := .int .i64 (t29 + 1)) rfl rfl rfl (zbv r56_29 rfl (zai (by first|omega|(simp;omega)|assumption|simp) (by first|omega|(simp;omega)|assumption|simp))) <| p_v (v := .int .i64 (t29 + 1)) rfl rfl rfl (zad rfl) <| zaa ?_
    have T110 := e_close (q := i) S109 (j := 2) (i := 6) rfl rfl (by decide) (by first|omega|(simp;omega)|assumption|simp) (by first|omega|(simp;omega)|assumption|simp)
    have S111 : St w.heap.size w h56 wd108 [box b1 27 [.slice A0_0 m.spots.length c0_0, .slice A0_1 m.first.length c0_1, .slice A0_2 m.follow.length c0_2, .slice A0_3 m.last.length c0_3, .bool m.empty], row 25 kRaw v_out (us_out.set (i).toNat v32), grid 4 Kd.bool (us_out.set (i).toNat v32) (out2.set (i).toNat ((at_ out2 i).set (t29).toNat (at_ m.last t29))), box b8 50 [v_out], box b_i 3 [.int .i64 i], box b59 43 (za4 (at_ m.spots t29)), emp] := T110
    have gl112 : (us_out.set (i).toNat v32).length = out2.length := (zdw S111 (j := 2) rfl).trans List.length_set
    have gx113_ : at_ (out2.set (i).toNat ((at_ out2 i).set (t29).toNat (at_ m.last t29))) i = ((at_ out2 i).set (t29).toNat (at_ m.last t29)) := at_set_self (by first|omega|(simp;omega)|assumption|simp) (by skip; first|omega|(simp;omega)|assumption|simp)
    refine ih56 (out2.set (i).toNat ((at_ out2 i).set (t29).toNat (at_ m.last t29)), t29 + 1) _ _ (by dsimp only; omega) ⟨h56, le56, S111.sub [0, 1, 2, 3, 4] (by decide) rfl _ rfl, r56_1, r56_2, r56_5, r56_6, r56_27, r56_28, rfl, (zai (by first|omega|(simp;omega)|assumption|simp) (by first|omega|(simp;omega)|assumption|simp)), (by exact ⟨by omega, by omega, by rw [hI56.2.2]; first | exact gIn_no m xw hI56.1 (good_no (by omega) hI17.2.1 (by assumption)) | exact gIn_step m xw (by omega) hI17.2.1 hI56.1 (good_last (by omega) (by omega) (by assumption)).symm | exact gIn_step m xw (by omega) hI17.2.1 hI56.1 (by rw [good_mid (by omega) (by omega) (by assumption), ← any_row hR_ hI56.1 (by omega), ← hnx_ (by omega), ← hI56.2.2]; first | exact (any_found hI140.1 (by omega) (by assumption)).symm | (rw [decide_eq_true hI140.1]; exact (any_found hI140.1 (by omega) (by assumption)).symm) | exact (zbx (by omega) hI140.2.2).symm)⟩)⟩
   obtain ⟨ad114, a114, at114⟩ := zba (q := i) (m := 1) S72 (j := 1) rfl rfl (by first|omega|(simp;omega)|assumption|simp) (by first|omega|(simp;omega)|assumption|simp)
   obtain ⟨seg115, rp115, cf115⟩ := zbo (q := i) S72 (j := 1) rfl rfl at114 (by first|omega|(simp;omega)|assumption|simp) (by first|omega|(simp;omega)|assumption|simp)
   obtain ⟨rfl, _⟩ := rp115
   have T116 := e_focus (q := i) S72 (j := 2) rfl (by first|omega|(simp;omega)|assumption|simp) (by first|omega|(simp;omega)|assumption|simp)
   have S117 : St w.heap.size w h56 wd71 [box b1 27 [.slice A0_0 m.spots.length c0_0, .slice A0_1 m.first.length c0_1, .slice A0_2 m.follow.length c0_2, .slice A0_3 m.last.length c0_3, .bool m.empty], row 25 kRaw v_out (us_out.set (i).toNat v32), gridB 4 Kd.bool (us_out.set (i).toNat v32) out2 i, box b8 50 [v_out], box b_i 3 [.int .i64 i], box b59 43 (za4 (at_ m.spots t29)), row 4 Kd.bool (at_ (us_out.set (i).toNat v32) i) (at_ out2 i)] := T116
   obtain ⟨ad118, seg118, a118, rp118, ce118⟩ := zap (q := t29) (m := 1) l0_2 rfl (by first|omega|(simp;omega)|assumption|simp) (by first|omega|(simp;omega)|assumption|simp)
   obtain ⟨A118, c118, rfl, lc118, cm118, ld118⟩ := rp118
   have cn118 := cm118; simp only [maxLen] at cn118
   have hf119 : (CFs ⟨b8, 0, none⟩ [v_out]).1 wd71 := (CF.box (m := 1) (S72.box_at (j := 3) rfl) rfl)
   have hf120 : (CFs ⟨b_i, 0, none⟩ [.int .i64 i]).1 wd71 := (CF.box (m := 1) (S72.box_at (j := 4) rfl) rfl)
   have hf121 : (CFs ad114 [(at_ (us_out.set (i).toNat v32) i)]).1 wd71 := cf115
   have hf122 : (CFs ⟨b1, 2, none⟩ [.slice A0_2 m.follow.length c0_2]).1 wd71 := (CF.box (m := 1) (S117.box_at (j := 0) rfl) rfl)
   have hf123 : (CFs ad118 [.slice A118 (at_ m.follow t29).length c118]).1 wd71 := (CF.ghost ce118 (St.le0 S117))
   refine daS (hkC 0 hf119 (hkC 1 hf120 (hkC 3 hf121 (hkC 6 hf122 (hkC 9 hf123 (hkN (w := wd71))))))) 14 rfl zdt ?_
   intro wd124 gd124 hd124
   have S125 := S117.keep gd124
   have hf126 := spUp gd124 hf119
   have hf127 := spUp gd124 hf120
   have hf128 := spUp gd124 hf121
   have hf129 := spUp gd124 hf122
   have hf130 := spUp gd124 hf123
   refine qd1 0 (i := 0) (v := v_out) rfl rfl (by decide +kernel) rfl rfl (fun wq hq => (zah (seg := [v_out]) ty50 rfl (by simp) r56_5 hq)) (za0 hf126 (zaf rfl)) <| qd1 1 (i := 1) (v := .int .i64 i) rfl rfl (by decide +kernel) rfl rfl (fun wq hq => (zah (seg := [.int .i64 i]) ty3 rfl (by simp) r56_6 hq)) (zaq rfl (za0 hf127 (zaf rfl))) <| qd0 (i := 2) (v := .pointer (some ad114)) rfl (by decide +kernel) rfl rfl (za9 u50 ty25 rfl rfl a114 (by first|omega|(simp;omega)|assumption|simp) (by first|omega|(simp;omega)|assumption|simp)) (zaf rfl) <| qd1 2 (i := 3) (v := (at_ (us_out.set (i).toNat v32) i)) rfl rfl (by decide +kernel) rfl rfl (fun wq hq => (zah (seg := [(at_ (us_out.set (i).toNat v32) i)]) ty25 rfl (by simp) rfl hq)) (zaq rfl (zaq rfl (za0 hf128 (zaf rfl)))) <| qd0 (i := 4) (v := .int .i64 t29) rfl (by decide +kernel) rfl rfl (zad rfl) (zaf rfl) <| qd0 (i := 5) (v := .pointer (some ⟨b1, 2, none⟩)) rfl (by decide +kernel) rfl rfl (zak fd27_2 ty24 rfl r56_2) (zaf rfl) <| qd1 3 (i := 6) (v := .slice A0_2 m.follow.length c0_2) rfl rfl (by decide +kernel) rfl rfl (fun wq hq => (zah (seg := [.slice A0_2 m.follow.length c0_2]) ty24 rfl (by simp) rfl hq)) (zaq rfl (zaq rfl (zaq rfl (za0 hf129 (zaf rfl))))) <| qd0 (i := 7) (v := .int .i64 t29) rfl (by decide +kernel) rfl rfl (zad rfl) (zaf rfl) <| qd0 (i := 8) (v := .pointer (some ad118)) rfl (by decide +kernel) rfl rfl (zan u24 ty23 rfl rfl a118 (by first|omega|(simp;omega)|assumption|simp) (by first|omega|(simp;omega)|assumption|simp)) (zaf rfl) <| qd1 4 (i := 9) (v := .slice A118 (at_ m.follow t29).length c118) rfl rfl (by decide +kernel) rfl rfl (fun wq hq => (zah (seg := [.slice A118 (at_ m.follow t29).length c118]) ty23 rfl (by simp) rfl hq)) (zaq rfl (zaq rfl (zaq rfl (zaq rfl (za0 hf130 (zaf rfl)))))) <| qd0 (i := 10) (v := .func (.func 47) #[] #[.pointer (some ⟨b8, 0, none⟩), .pointer (some ⟨b_i, 0, none⟩)]) rfl (by decide +kernel) rfl rfl (y_makeFunc (fv := []) (cv := [.pointer (some ⟨b8, 0, none⟩), .pointer (some ⟨b_i, 0, none⟩)]) rfl (zci r56_5 (zci r56_6 rfl))) (zaf rfl) <| zc7 (i := 11) (by decide +kernel) ?_
   intro wd131 gd131
   have S132 := S125.keep gd131
   have hf133 := spUp gd131 hf126
   have hf134 := spUp gd131 hf127
   have hf135 := spUp gd131 hf128
   have hf136 := spUp gd131 hf129
   have hf137 := spUp gd131 hf130
   refine d_i rfl rfl rfl (zbd (args := [.slice A118 (at_ m.follow t29).length c118, .func (.func 47) #[] #[.pointer (some ⟨b8, 0, none⟩), .pointer (some ⟨b_i, 0, none⟩)]]) ca46 rfl rfl) (zas Try.func46 rfl Try.ntmps46 rfl ?_)
   refine zab <| zac (l := [0]) rfl <| p_v (v := .bool false) rfl rfl rfl (zae rfl) <| zaa <| zab <| zac (l := [0, 1, 2, 3, 4]) rfl <| p_v (v := .slice A118 (at_ m.follow t29).length c118) rfl rfl rfl (zad rfl) <| p_v (v := .func (.func 47) #[] #[.pointer (some ⟨b8, 0, none⟩), .pointer (some ⟨b_i, 0, none⟩)]) rfl rfl rfl (zad rfl) ?_
   refine p_i rfl rfl rfl (zbd (args := [.slice A118 (at_ m.follow t29).length c118, .func (.func 47) #[] #[.pointer (some ⟨b8, 0, none⟩), .pointer (some ⟨b_i, 0, none⟩)]]) ca26 rfl rfl) (zas Try.func26 rfl Try.ntmps26 rfl ?_)
   refine zab <| zac (l := [0]) rfl <| p_v (v := .int .i64 0) rfl rfl rfl (zae rfl) <| zaa <| zab <| zab <| zac (l := [0, 1, 2]) rfl <| p_v (v := .slice A118 (at_ m.follow t29).length c118) rfl rfl rfl (zad rfl) <| p_v (v := .int .i64 ((at_ m.follow t29).length : Int)) rfl rfl rfl (zar u23 rfl) <| p_v (v := .int .i64 0) rfl rfl rfl (zad rfl) <| zaa <| zam ?_
   have T138 := e_close0 (q := i) S132 (j := 2) (i := 6) rfl rfl (by decide) (by first|omega|(simp;omega)|assumption|simp) (by first|omega|(simp;omega)|assumption|simp)
   have S139 : St w.heap.size w h56 wd131 [box b1 27 [.slice A0_0 m.spots.length c0_0, .slice A0_1 m.first.length c0_1, .slice A0_2 m.follow.length c0_2, .slice A0_3 m.last.length c0_3, .bool m.empty], row 25 kRaw v_out (us_out.set (i).toNat v32), grid 4 Kd.bool (us_out.set (i).toNat v32) out2, box b8 50 [v_out], box b_i 3 [.int .i64 i], box b59 43 (za4 (at_ m.spots t29)), emp] := T138
   have gl140 := zdw S139 (j := 2) rfl
   refine za8 (S := Int) (fun (q_ : Int) ρ w' => match q_ with | t8 => ∃ (h : Ghost), Le h56 h ∧ St w.heap.size w h w' [box b1 27 [.slice A0_0 m.spots.length c0_0, .slice A0_1 m.first.length c0_1, .slice A0_2 m.follow.length c0_2, .slice A0_3 m.last.length c0_3, .bool m.empty], row 25 kRaw v_out (us_out.set (i).toNat v32), grid 4 Kd.bool (us_out.set (i).toNat v32) out2, box b8 50 [v_out], box b_i 3 [.int .i64 i], box b59 43 (za4 (at_ m.spots t29))] ∧ ρ 0 = .slice A118 (at_ m.follow t29).length c118 ∧ ρ 1 = .func (.func 47) #[] #[.pointer (some ⟨b8, 0, none⟩), .pointer (some ⟨b_i, 0, none⟩)] ∧ ρ 7 = .int .i64 ((at_ m.follow t29).length : Int) ∧ ρ 8 = .int .i64 t8 ∧ inK .i64 t8 ∧ (0 ≤ t8 ∧ t8 ≤ ((at_ m.follow t29).length : Int) ∧ ((at_ m.follow t29).take t8.toNat).any (fun k => at_ (at_ out2 (i + 1)) k) = false)) (fun q_ => match q_ with | t8 => ((at_ m.follow t29).length - t8).toNat) (0) ⟨h56, Le.refl _, S139.sub [0, 1, 2, 3, 4, 5] (by decide) rfl _ rfl, rfl, rfl, rfl, rfl, (zai (by first|omega|(simp;omega)|assumption|simp) (by first|omega|(simp;omega)|assumption|simp)), (by exact ⟨by omega, by omega, rfl⟩)⟩ ?_
   rintro t8 ih141 ρ141 w141 ⟨h141, le141, S141, r141_0, r141_1, r141_7, r141_8, f141_0, hI141⟩
   have lf141_0 := za1 f141_0; have hf141_0 := za2 f141_0
   have rl141_1 := S141.row_le (j := 1) rfl; simp only [maxLen] at rl141_1
   have gl141_2 := zdw S141 (j := 2) rfl
   have hx_ := fun (h : t8 < ((at_ m.follow t29).length : Int)) => hR_.rows hI56.1 (by omega) _ (zbp hI141.1 h)
   have hnl2_ := hnl_ (by omega)
   refine zab <| zac (l := [0]) rfl <| p_v (v := .bool (decide (t8 < ((at_ m.follow t29).length : Int)))) rfl rfl rfl (zc2 r141_8 r141_7) <| zaa <| zab ?_
   refine zal (p := t8 < ((at_ m.follow t29).length : Int)) rfl (fun hc142 => ?_) (fun hc142 => ?_)
   ·skip
    refine zao <| zab <| zam <| zab <| zac (l := [0, 1]) rfl <| p_v (v := .int .i64 t8) rfl rfl rfl (zad r141_8) <| p_v (v := .int .i64 t8) rfl rfl rfl (zae rfl) <| zaa <| zab <| zac (l := [0, 1, 2, 3, 4, 5]) rfl <| p_v (v := .func (.func 47) #[] #[.pointer (some ⟨b8, 0, none⟩), .pointer (some ⟨b_i, 0, none⟩)]) rfl rfl rfl (zad r141_1) <| p_v (v := .slice A118 (at_ m.follow t29).length c118) rfl rfl rfl (zad r141_0) ?_
    refine p_v (v := .int .i64 t8) rfl rfl rfl (zad rfl) ?_
    obtain ⟨ad143, seg143, a143, rp143, ce143⟩ := zap (q := t8) (m := 1) ld118 rfl (by first|omega|(simp;omega)|assumption|simp) (by first|omega|(simp;omega)|assumption|simp)
    refine p_v (v := .pointer (some ad143)) rfl rfl rfl (zan u23 ty3 rfl rfl a143 (by first|omega|(simp;omega)|assumption|simp) (by first|omega|(simp;omega)|assumption|simp)) ?_
    obtain ⟨rfl, in143⟩ := rp143
    have lo143 := za1 in143; have hi143 := za2 in143
    refine p_v (v := .int .i64 (at_ (at_ m.follow t29) t8)) rfl rfl rfl (zah (seg := [.int .i64 (at_ (at_ m.follow t29) t8)]) ty3 rfl (by simp) rfl (CF.ghost ce143 (St.le0 S141))) ?_
    refine p_i rfl rfl rfl (zbd (args := [.int .i64 (at_ (at_ m.follow t29) t8), .pointer (some ⟨b8, 0, none⟩), .pointer (some ⟨b_i, 0, none⟩)]) ca47 rfl rfl) (zas Try.func47 rfl Try.ntmps47 rfl ?_)
    refine zab <| zac (l := [0]) rfl <| p_v (v := .bool false) rfl rfl rfl (zae rfl) <| zaa <| zab <| zac (l := [0, 1, 2, 3, 4, 5, 6, 7, 8]) rfl <| p_v (v := v_out) rfl rfl rfl (zah (seg := [v_out]) ty50 rfl (by simp) rfl (CF.box (m := 1) (S141.box_at (j := 3) rfl) rfl)) <| p_v (v := .int .i64 i) rfl rfl rfl (zah (seg := [.int .i64 i]) ty3 rfl (by simp) rfl (CF.box (m := 1) (S141.box_at (j := 4) rfl) rfl)) <| p_v (v := .int .i64 (i + 1)) rfl rfl rfl (zbv rfl rfl (zai (by first|omega|(simp;omega)|assumption|simp) (by first|omega|(simp;omega)|assumption|simp))) ?_
    obtain ⟨ad144, a144, at144⟩ := zba (q := i + 1) (m := 1) S141 (j := 1) rfl rfl (by first|omega|(simp;omega)|assumption|simp) (by first|omega|(simp;omega)|assumption|simp)
    refine p_v (v := .pointer (some ad144)) rfl rfl rfl (za9 u50 ty25 rfl rfl a144 (by first|omega|(simp;omega)|assumption|simp) (by first|omega|(simp;omega)|assumption|simp)) ?_
    obtain ⟨seg145, rp145, cf145⟩ := zbo (q := i + 1) S141 (j := 1) rfl rfl at144 (by first|omega|(simp;omega)|assumption|simp) (by first|omega|(simp;omega)|assumption|simp)
    obtain ⟨rfl, _⟩ := rp145
    have T146 := e_focus (q := i + 1) S141 (j := 2) rfl (by first|omega|(simp;omega)|assumption|simp) (by first|omega|(simp;omega)|assumption|simp)
    have S147 : St w.heap.size w h141 w141 [box b1 27 [.slice A0_0 m.spots.length c0_0, .slice A0_1 m.first.length c0_1, .slice A0_2 m.follow.length c0_2, .slice A0_3 m.last.length c0_3, .bool m.empty], row 25 kRaw v_out (us_out.set (i).toNat v32), gridB 4 Kd.bool (us_out.set (i).toNat v32) out2 (i + 1), box b8 50 [v_out], box b_i 3 [.int .i64 i], box b59 43 (za4 (at_ m.spots t29)), row 4 Kd.bool (at_ (us_out.set (i).toNat v32) (i + 1)) (at_ out2 (i + 1))] := T146
    refine p_v (v := (at_ (us_out.set (i).toNat v32) (i + 1))) rfl rfl rfl (zah (seg := [(at_ (us_out.set (i).toNat v32) (i + 1))]) ty25 rfl (by simp) rfl cf145) <| p_v (v := .int .i64 (at_ (at_ m.follow t29) t8)) rfl rfl rfl (zad rfl) ?_
    obtain ⟨ad148, a148, at148⟩ := zba (q := at_ (at_ m.follow t29) t8) (m := 1) S147 (j := 6) rfl rfl (by first|omega|(simp;omega)|assumption|simp) (by first|omega|(simp;omega)|assumption|simp)
    refine p_v (v := .pointer (some ad148)) rfl rfl rfl (za9 u25 ty4 rfl rfl a148 (by first|omega|(simp;omega)|assumption|simp) (by first|omega|(simp;omega)|assumption|simp)) ?_
    obtain ⟨seg149, rp149, cf149⟩ := zbo (q := at_ (at_ m.follow t29) t8) S147 (j := 6) rfl rfl at148 (by first|omega|(simp;omega)|assumption|simp) (by first|omega|(simp;omega)|assumption|simp)
    obtain ⟨rfl, _⟩ := rp149
    refine p_v (v := .bool (at_ (at_ out2 (i + 1)) (at_ (at_ m.follow t29) t8))) rfl rfl rfl (zah (seg := [.bool (at_ (at_ out2 (i + 1)) (at_ (at_ m.follow t29) t8))]) ty4 rfl (by simp) rfl cf149) <| p_v (v := .bool (at_ (at_ out2 (i + 1)) (at_ (at_ m.follow t29) t8))) rfl rfl rfl (zae rfl) <| zaa <| zav Try.func47 (res1 rfl (zax (v := .bool (at_ (at_ out2 (i + 1)) (at_ (at_ m.follow t29) t8))) rfl)) ?_
    refine ⟨_, rfl, ?_⟩
    refine zaa ?_
    refine zbs (b := at_ (at_ out2 (i + 1)) (at_ (at_ m.follow t29) t8)) rfl (fun hc150 => ?_) (fun hc150 => ?_)
    ·skip
     refine zab <| zac (l := [0, 1]) rfl <| p_v (v := .int .i64 t8) rfl rfl rfl (zad rfl) <| p_v (v := .int .i64 t8) rfl rfl rfl (zae rfl) <| zaa <| zav Try.func26 (res1 rfl (zax (v := .int .i64 t8) rfl)) ?_
     refine ⟨_, rfl, ?_⟩
     refine p_v (v := .bool (decide (0 ≤ t8))) rfl rfl rfl (x_geq rfl rfl) <| p_v (v := .bool (decide (0 ≤ t8))) rfl rfl rfl (zae rfl) <| zaa <| zav Try.func46 (res1 rfl (zax (v := .bool (decide (0 ≤ t8))) rfl)) ?_
     refine ⟨_, rfl, ?_⟩
     have hf151 : (CFs ⟨b8, 0, none⟩ [v_out]).1 w141 := (CF.box (m := 1) (S147.box_at (j := 3) rfl) rfl)
     have hf152 : (CFs ⟨b_i, 0, none⟩ [.int .i64 i]).1 w141 := (CF.box (m := 1) (S147.box_at (j := 4) rfl) rfl)
     obtain ⟨seg153, rp153, cf153⟩ := zbo (q := i) S147 (j := 1) rfl rfl at114 (by first|omega|(simp;omega)|assumption|simp) (by first|omega|(simp;omega)|assumption|simp)
     obtain ⟨rfl, _⟩ := rp153
     have hf154 : (CFs ad114 [(at_ (us_out.set (i).toNat v32) i)]).1 w141 := cf153
     have hf155 : (CFs ⟨b1, 2, none⟩ [.slice A0_2 m.follow.length c0_2]).1 w141 := (CF.box (m := 1) (S147.box_at (j := 0) rfl) rfl)
     have hf156 : (CFs ad118 [.slice A118 (at_ m.follow t29).length c118]).1 w141 := (CF.ghost ce118 (St.le0 S147))
     refine ⟨.inr (keep_v hf151 (keep_v hf152 (keep_v hf154 (keep_v hf155 (keep_v hf156 trivial))))), ?_⟩
     have T158 := e_close0 (q := i + 1) S147 (j := 2) (i := 6) rfl rfl (by decide) (by first|omega|(simp;omega)|assumption|simp) (by first|omega|(simp;omega)|assumption|simp)
     have S159 : St w.heap.size w h141 w141 [box b1 27 [.slice A0_0 m.spots.length c0_0, .slice A0_1 m.first.length c0_1, .slice A0_2 m.follow.length c0_2, .slice A0_3 m.last.length c0_3, .bool m.empty], row 25 kRaw v_out (us_out.set (i).toNat v32), grid 4 Kd.bool (us_out.set (i).toNat v32) out2, box b8 50 [v_out], box b_i 3 [.int .i64 i], box b59 43 (za4 (at_ m.spots t29)), emp] := T158
     have gl160 := zdw S159 (j := 2) rfl
     have T161 := e_focus (q := i) S159 (j := 2) rfl (by first|omega|(simp;omega)|assumption|simp) (by first|omega|(simp;omega)|assumption|simp)
     have S162 : St w.heap.size w h141 w141 [box b1 27 [.slice A0_0 m.spots.length c0_0, .slice A0_1 m.first.length c0_1, .slice A0_2 m.follow.length c0_2, .slice A0_3 m.last.length c0_3, .bool m.empty], row 25 kRaw v_out (us_out.set (i).toNat v32), gridB 4 Kd.bool (us_out.set (i).toNat v32) out2 i, box b8 50 [v_out], box b_i 3 [.int .i64 i], box b59 43 (za4 (at_ m.spots t29)), emp, row 4 Kd.bool (at_ (us_out.set (i).toNat v32) i) (at_ out2 i)] := T161
     obtain ⟨ad157, a157, at157⟩ := zba (q := t29) (m := 1) S162 (j := 7) rfl rfl (by first|omega|(simp;omega)|assumption|simp) (by first|omega|(simp;omega)|assumption|simp)
     refine qd0 (i := 12) (v := .pointer (some ad157)) rfl (by decide +kernel) rfl rfl (za9 u25 ty4 rfl rfl a157 (by first|omega|(simp;omega)|assumption|simp) (by first|omega|(simp;omega)|assumption|simp)) (zaf rfl) <| zc7 (i := 13) (by decide +kernel) ?_
     intro wd163 gd163
     have S164 := S162.keep gd163
     have hf165 := spUp gd163 hf151
     have hf166 := spUp gd163 hf152
     have hf167 := spUp gd163 hf154
     have hf168 := spUp gd163 hf155
     have hf169 := spUp gd163 hf156
     obtain ⟨w170, r170, g170, T170⟩ := zdc (u := .bool (decide (0 ≤ t8))) (q := t29) (decide (0 ≤ t8)) (vs := [.bool (decide (0 ≤ t8))]) S164 ty4 rfl (j := 7) rfl rfl ⟨rfl, trivial⟩ at157 (by first|omega|(simp;omega)|assumption|simp) (by first|omega|(simp;omega)|assumption|simp)
     have S171 := T170.fx 7 (row 4 Kd.bool (at_ (us_out.set (i).toNat v32) i) ((at_ out2 i).set (t29).toNat (decide (0 ≤ t8)))) rfl
     dsimp only [lAa, lAn, lA0, lAs] at S171
     have hf172 : (CFs ⟨b8, 0, none⟩ [v_out]).1 w170 := (CF.box (m := 1) (S171.box_at (j := 3) rfl) rfl)
     have hf173 : (CFs ⟨b_i, 0, none⟩ [.int .i64 i]).1 w170 := (CF.box (m := 1) (S171.box_at (j := 4) rfl) rfl)
     obtain ⟨seg174, rp174, cf174⟩ := zbo (q := i) S171 (j := 1) rfl rfl at114 (by first|omega|(simp;omega)|assumption|simp) (by first|omega|(simp;omega)|assumption|simp)
     obtain ⟨rfl, _⟩ := rp174
     have hf175 : (CFs ad114 [(at_ (us_out.set (i).toNat v32) i)]).1 w170 := cf174
     have hf176 : (CFs ⟨b1, 2, none⟩ [.slice A0_2 m.follow.length c0_2]).1 w170 := (CF.box (m := 1) (S171.box_at (j := 0) rfl) rfl)
     have hf177 : (CFs ad118 [.slice A118 (at_ m.follow t29).length c118]).1 w170 := (CF.ghost ce118 (St.le0 S171))
     refine d_s rfl rfl (zbt rfl rfl r170) (.inr (zck (by decide +kernel) (zck (by decide +kernel) (zck (by decide +kernel) (zck (by decide +kernel) (zck (by decide +kernel) trivial)))))) <| zbw (by decide +kernel) ?_
     intro wd178 gd178
     have S179 := S171.keep gd178
     refine zaj <| zac (l := [0, 1]) rfl <| p_v (v := .int .i64 (t29 + 1)) rfl rfl rfl (zbv r56_29 rfl (zai (by first|omega|(simp;omega)|assumption|simp) (by first|omega|(simp;omega)|assumption|simp))) <| p_v (v := .int .i64 (t29 + 1)) rfl rfl rfl (zad rfl) <| zaa ?_
     have T180 := e_close (q := i) S179 (j := 2) (i := 7) rfl rfl (by decide) (by first|omega|(simp;omega)|assumption|simp) (by first|omega|(simp;omega)|assumption|simp)
     have S181 : St w.heap.size w h141 wd178 [box b1 27 [.slice A0_0 m.spots.length c0_0, .slice A0_1 m.first.length c0_1, .slice A0_2 m.follow.length c0_2, .slice A0_3 m.last.length c0_3, .bool m.empty], row 25 kRaw v_out (us_out.set (i).toNat v32), grid 4 Kd.bool (us_out.set (i).toNat v32) (out2.set (i).toNat ((at_ out2 i).set (t29).toNat (decide (0 ≤ t8)))), box b8 50 [v_out], box b_i 3 [.int .i64 i], box b59 43 (za4 (at_ m.spots t29)), emp, emp] := T180
     have gl182 : (us_out.set (i).toNat v32).length = out2.length := (zdw S181 (j := 2) rfl).trans List.length_set
     have gx183_ : at_ (out2.set (i).toNat ((at_ out2 i).set (t29).toNat (decide (0 ≤ t8)))) i = ((at_ out2 i).set (t29).toNat (decide (0 ≤ t8))) := at_set_self (by first|omega|(simp;omega)|assumption|simp) (by skip; first|omega|(simp;omega)|assumption|simp)
     refine ih56 (out2.set (i).toNat ((at_ out2 i).set (t29).toNat (decide (0 ≤ t8))), t29 + 1) _ _ (by dsimp only; omega) ⟨h141, ((le56).trans le141), S181.sub [0, 1, 2, 3, 4] (by decide) rfl _ rfl, r56_1, r56_2, r56_5, r56_6, r56_27, r56_28, rfl, (zai (by first|omega|(simp;omega)|assumption|simp) (by first|omega|(simp;omega)|assumption|simp)), (by exact ⟨by omega, by omega, by rw [hI56.2.2]; first | exact gIn_no m xw hI56.1 (good_no (by omega) hI17.2.1 (by assumption)) | exact gIn_step m xw (by omega) hI17.2.1 hI56.1 (good_last (by omega) (by omega) (by assumption)).symm | exact gIn_step m xw (by omega) hI17.2.1 hI56.1 (by rw [good_mid (by omega) (by omega) (by assumption), ← any_row hR_ hI56.1 (by omega), ← hnx_ (by omega), ← hI56.2.2]; first | exact (any_found hI141.1 (by omega) (by assumption)).symm | (rw [decide_eq_true hI141.1]; exact (any_found hI141.1 (by omega) (by assumption)).symm) | exact (zbx (by omega) hI141.2.2).symm)⟩)⟩
    refine zao <| zaj <| zac (l := [0, 1]) rfl <| p_v (v := .int .i64 (t8 + 1)) rfl rfl rfl (zbv r141_8 rfl (zai (by first|omega|(simp;omega)|assumption|simp) (by first|omega|(simp;omega)|assumption|simp))) <| p_v (v := .int .i64 (t8 + 1)) rfl rfl rfl (zad rfl) <| zaa ?_
    have T184 := e_close0 (q := i + 1) S147 (j := 2) (i := 6) rfl rfl (by decide) (by first|omega|(simp;omega)|assumption|simp) (by first|omega|(simp;omega)|assumption|simp)
    have S185 : St w.heap.size w h141 w141 [box b1 27 [.slice A0_0 m.spots.length c0_0, .slice A0_1 m.first.length c0_1, .slice A0_2 m.follow.length c0_2, .slice A0_3 m.last.length c0_3, .bool m.empty], row 25 kRaw v_out (us_out.set (i).toNat v32), grid 4 Kd.bool (us_out.set (i).toNat v32) out2, box b8 50 [v_out], box b_i 3 [.int .i64 i], box b59 43 (za4 (at_ m.spots t29)), emp] := T184
    have gl186 := zdw S185 (j := 2) rfl
    refine ih141 (t8 + 1) _ _ (by dsimp only; omega) ⟨h141, le141, S185.sub [0, 1, 2, 3, 4, 5] (by decide) rfl _ rfl, r141_0, r141_1, r141_7, rfl, (zai (by first|omega|(simp;omega)|assumption|simp) (by first|omega|(simp;omega)|assumption|simp)), (by exact ⟨by omega, by omega, any_take_step hI141.1 (by omega) hI141.2.2 (by assumption)⟩)⟩
   refine za3 rfl <| zab <| zac (l := [0]) rfl <| p_v (v := .int .i64 (-1)) rfl rfl rfl (zae rfl) <| zaa <| zav Try.func26 (res1 rfl (zax (v := .int .i64 (-1)) rfl)) ?_
   refine ⟨_, rfl, ?_⟩
   refine p_v (v := .bool (decide (0 ≤ (-1)))) rfl rfl rfl (x_geq rfl rfl) <| p_v (v := .bool (decide (0 ≤ (-1)))) rfl rfl rfl (zae rfl) <| zaa <| zav Try.func46 (res1 rfl (zax (v := .bool (decide (0 ≤ (-1)))) rfl)) ?_
   refine ⟨_, rfl, ?_⟩
   have hf187 : (CFs ⟨b8, 0, none⟩ [v_out]).1 w141 := (CF.box (m := 1) (S141.box_at (j := 3) rfl) rfl)
   have hf188 : (CFs ⟨b_i, 0, none⟩ [.int .i64 i]).1 w141 := (CF.box (m := 1) (S141.box_at (j := 4) rfl) rfl)
   obtain ⟨seg189, rp189, cf189⟩ := zbo (q := i) S141 (j := 1) rfl rfl at114 (by first|omega|(simp;omega)|assumption|simp) (by first|omega|(simp;omega)|assumption|simp)
   obtain ⟨rfl, _⟩ := rp189
   have hf190 : (CFs ad114 [(at_ (us_out.set (i).toNat v32) i)]).1 w141 := cf189
   have hf191 : (CFs ⟨b1, 2, none⟩ [.slice A0_2 m.follow.length c0_2]).1 w141 := (CF.box (m := 1) (S141.box_at (j := 0) rfl) rfl)
   have hf192 : (CFs ad118 [.slice A118 (at_ m.follow t29).length c118]).1 w141 := (CF.ghost ce118 (St.le0 S141))
   refine ⟨.inr (keep_v hf187 (keep_v hf188 (keep_v hf190 (keep_v hf191 (keep_v hf192 trivial))))), ?_⟩
   have T194 := e_focus (q := i) S141 (j := 2) rfl (by first|omega|(simp;omega)|assumption|simp) (by first|omega|(simp;omega)|assumption|simp)
   have S195 : St w.heap.size w h141 w141 [box b1 27 [.slice A0_0 m.spots.length c0_0, .slice A0_1 m.first.length c0_1, .slice A0_2 m.follow.length c0_2, .slice A0_3 m.last.length c0_3, .bool m.empty], row 25 kRaw v_out (us_out.set (i).toNat v32), gridB 4 Kd.bool (us_out.set (i).toNat v32) out2 i, box b8 50 [v_out], box b_i 3 [.int .i64 i], box b59 43 (za4 (at_ m.spots t29)), row 4 Kd.bool (at_ (us_out.set (i).toNat v32) i) (at_ out2 i)] := T194
   obtain ⟨ad193, a193, at193⟩ := zba (q := t29) (m := 1) S195 (j := 6) rfl rfl (by first|omega|(simp;omega)|assumption|simp) (by first|omega|(simp;omega)|assumption|simp)
   refine qd0 (i := 12) (v := .pointer (some ad193)) rfl (by decide +kernel) rfl rfl (za9 u25 ty4 rfl rfl a193 (by first|omega|(simp;omega)|assumption|simp) (by first|omega|(simp;omega)|assumption|simp)) (zaf rfl) <| zc7 (i := 13) (by decide +kernel) ?_
   intro wd196 gd196
   have S197 := S195.keep gd196
   have hf198 := spUp gd196 hf187
   have hf199 := spUp gd196 hf188
   have hf200 := spUp gd196 hf190
   have hf201 := spUp gd196 hf191
   have hf202 := spUp gd196 hf192
   obtain ⟨w203, r203, g203, T203⟩ := zdc (u := .bool (decide (0 ≤ (-1)))) (q := t29) (decide (0 ≤ (-1))) (vs := [.bool (decide (0 ≤ (-1)))]) S197 ty4 rfl (j := 6) rfl rfl ⟨rfl, trivial⟩ at193 (by first|omega|(simp;omega)|assumption|simp) (by first|omega|(simp;omega)|assumption|simp)
   have S204 := T203.fx 6 (row 4 Kd.bool (at_ (us_out.set (i).toNat v32) i) ((at_ out2 i).set (t29).toNat (decide (0 ≤ (-1))))) rfl
   dsimp only [lAa, lAn, lA0, lAs] at S204
   have hf205 : (CFs ⟨b8, 0, none⟩ [v_out]).1 w203 := (CF.box (m := 1) (S204.box_at (j := 3) rfl) rfl)
   have hf206 : (CFs ⟨b_i, 0, none⟩ [.int .i64 i]).1 w203 := (CF.box (m := 1) (S204.box_at (j := 4) rfl) rfl)
   obtain ⟨seg207, rp207, cf207⟩ := zbo (q := i) S204 (j := 1) rfl rfl at114 (by first|omega|(simp;omega)|assumption|simp) (by first|omega|(simp;omega)|assumption|simp)
   obtain ⟨rfl, _⟩ := rp207
   have hf208 : (CFs ad114 [(at_ (us_out.set (i).toNat v32) i)]).1 w203 := cf207
   have hf209 : (CFs ⟨b1, 2, none⟩ [.slice A0_2 m.follow.length c0_2]).1 w203 := (CF.box (m := 1) (S204.box_at (j := 0) rfl) rfl)
   have hf210 : (CFs ad118 [.slice A118 (at_ m.follow t29).length c118]).1 w203 := (CF.ghost ce118 (St.le0 S204))
   refine d_s rfl rfl (zbt rfl rfl r203) (.inr (zck (by decide +kernel) (zck (by decide +kernel) (zck (by decide +kernel) (zck (by decide +kernel) (zck (by decide +kernel) trivial)))))) <| zbw (by decide +kernel) ?_
   intro wd211 gd211
   have S212 := S204.keep gd211
   refine zaj <| zac (l := [0, 1]) rfl <| p_v (v := .int .i64 (t29 + 1)) rfl rfl rfl (zbv r56_29 rfl (zai (by first|omega|(simp;omega)|assumption|simp) (by first|omega|(simp;omega)|assumption|simp))) <| p_v (v := .int .i64 (t29 + 1)) rfl rfl rfl (zad rfl) <| zaa ?_
   have T213 := e_close (q := i) S212 (j := 2) (i := 6) rfl rfl (by decide) (by first|omega|(simp;omega)|assumption|simp) (by first|omega|(simp;omega)|assumption|simp)
   have S214 : St w.heap.size w h141 wd211 [box b1 27 [.slice A0_0 m.spots.length c0_0, .slice A0_1 m.first.length c0_1, .slice A0_2 m.follow.length c0_2, .slice A0_3 m.last.length c0_3, .bool m.empty], row 25 kRaw v_out (us_out.set (i).toNat v32), grid 4 Kd.bool (us_out.set (i).toNat v32) (out2.set (i).toNat ((at_ out2 i).set (t29).toNat (decide (0 ≤ (-1))))), box b8 50 [v_out], box b_i 3 [.int .i64 i], box b59 43 (za4 (at_ m.spots t29)), emp] := T213
   have gl215 : (us_out.set (i).toNat v32).length = out2.length := (zdw S214 (j := 2) rfl).trans List.length_set
   have gx216_ : at_ (out2.set (i).toNat ((at_ out2 i).set (t29).toNat (decide (0 ≤ (-1))))) i = ((at_ out2 i).set (t29).toNat (decide (0 ≤ (-1)))) := at_set_self (by first|omega|(simp;omega)|assumption|simp) (by skip; first|omega|(simp;omega)|assumption|simp)
   refine ih56 (out2.set (i).toNat ((at_ out2 i).set (t29).toNat (decide (0 ≤ (-1)))), t29 + 1) _ _ (by dsimp only; omega) ⟨h141, ((le56).trans le141), S214.sub [0, 1, 2, 3, 4] (by decide) rfl _ rfl, r56_1, r56_2, r56_5, r56_6, r56_27, r56_28, rfl, (zai (by first|omega|(simp;omega)|assumption|simp) (by first|omega|(simp;omega)|assumption|simp)), (by exact ⟨by omega, by omega, by rw [hI56.2.2]; first | exact gIn_no m xw hI56.1 (good_no (by omega) hI17.2.1 (by assumption)) | exact gIn_step m xw (by omega) hI17.2.1 hI56.1 (good_last (by omega) (by omega) (by assumption)).symm | exact gIn_step m xw (by omega) hI17.2.1 hI56.1 (by rw [good_mid (by omega) (by omega) (by assumption), ← any_row hR_ hI56.1 (by omega), ← hnx_ (by omega), ← hI56.2.2]; first | exact (any_found hI141.1 (by omega) (by assumption)).symm | (rw [decide_eq_true hI141.1]; exact (any_found hI141.1 (by omega) (by assumption)).symm) | exact (zbx (by omega) hI141.2.2).symm)⟩)⟩
  refine za3 rfl <| zaj <| zab <| zab <| zac (l := [0]) rfl <| p_v (v := .int .i64 i) rfl rfl rfl (zah (seg := [.int .i64 i]) ty3 rfl (by simp) r56_6 (CF.box (m := 1) (S56.box_at (j := 4) rfl) rfl)) <| zaa <| zac (l := [0, 1]) rfl ?_
  obtain ⟨b217, w217, r217, g217, T217⟩ := zc0 (P := Try.prog) S56 3 (v := (.int .i64 0)) [.int .i64 0] rfl
  have S218 := T217
  dsimp only [lAa, lAn, lA0, lAs] at S218
  refine p_v (v := .pointer (some ⟨b217, 0, none⟩)) rfl rfl rfl (zcs ty3 r217) ?_
  obtain ⟨w219, r219, g219, T219⟩ := zb9 (P := Try.prog) (off := 0) (v := .int .i64 i) (vs := [.int .i64 i]) S218 ty3 rfl rfl (j := 5) rfl (by first | decide | exact Nat.le_of_ble_eq_true rfl) (by simp [Value.oneCell'])
  have S220 := T219.fx 5 (box b217 3 [.int .i64 i]) rfl
  dsimp only [lAa, lAn, lA0, lAs] at S220
  refine p_s rfl rfl (zbt rfl rfl r219) <| zaa <| zac (l := [0, 1, 2]) rfl <| p_v (v := .int .i64 i) rfl rfl rfl (zah (seg := [.int .i64 i]) ty3 rfl (by simp) rfl (CF.box (m := 1) (S220.box_at (j := 5) rfl) rfl)) <| p_v (v := .int .i64 (i - 1)) rfl rfl rfl (x_sub rfl rfl (zai (by first|omega|(simp;omega)|assumption|simp) (by first|omega|(simp;omega)|assumption|simp))) ?_
  obtain ⟨w221, r221, g221, T221⟩ := zb9 (P := Try.prog) (off := 0) (v := .int .i64 (i - 1)) (vs := [.int .i64 (i - 1)]) S220 ty3 rfl rfl (j := 5) rfl (by first | decide | exact Nat.le_of_ble_eq_true rfl) (by simp [Value.oneCell'])
  have S222 := T221.fx 5 (box b217 3 [.int .i64 (i - 1)]) rfl
  dsimp only [lAa, lAn, lA0, lAs] at S222
  refine p_s rfl rfl (zbt rfl rfl r221) <| zaa ?_
  refine ih17 (out2, i - 1) _ _ (by dsimp only; omega) ⟨h56, b217, (us_out.set (i).toNat v32), v_out, ((le17).trans le56), S222.sub [0, 1, 2, 3, 5] (by decide) rfl _ rfl, r56_1, r56_2, r56_5, rfl, (zai (by first|omega|(simp;omega)|assumption|simp) (by first|omega|(simp;omega)|assumption|simp)), (by exact ⟨by omega, by omega, by rw [hI56.2.2]; exact gIn_end m xw (by omega) hI17.2.1 (by omega)⟩)⟩
 refine za3 rfl <| zab <| zac (l := [0, 1]) rfl <| p_v (v := v_out) rfl rfl rfl (zah (seg := [v_out]) ty50 rfl (by simp) r17_5 (CF.box (m := 1) (S17.box_at (j := 3) rfl) rfl)) <| p_v (v := v_out) rfl rfl rfl (zae rfl) <| zaa ?_
 obtain ⟨h223, le223, T223⟩ := grid_freeze S17 (i := 1) (j := 2) rfl rfl (by decide)
 have S224 : St w.heap.size w h223 w17 [box b1 27 [.slice A0_0 m.spots.length c0_0, .slice A0_1 m.first.length c0_1, .slice A0_2 m.follow.length c0_2, .slice A0_3 m.last.length c0_3, .bool m.empty], row 25 Kd.bool.slice v_out out, emp, box b8 50 [v_out], box b_i 3 [.int .i64 i]] := T223
 refine zav Try.func25 (res1 rfl (zax (v := v_out) rfl)) ?_
 have q0 : (zcq m xw : List (List Bool)) = out := by
  rw [hI17.2.2, show i = -1 by omega]; exact goods_end m xw
 refine ⟨_, rfl, h223, v_out, ?_, ?_⟩
 · rw [q0]; exact S224.sub [1] (by decide) rfl _ rfl
 · first | rfl | (simp only [q0]; rfl) | (simp only [q0])
end Go.Proofs.Ytpdanfggijmnmaa
namespace Gx
open Go Go.RowKit
set_option linter.unusedSimpArgs false
set_option linter.unusedVariables false
set_option linter.unusedSectionVars false
def markL (m : Mach) : List Int → List Int → Option (List Int)
  | [], _ => some []
  | c :: cs, next => match next.find? (zc1 m (c :: cs)) with
    | none => none
    | some n => (markL m cs (at_ m.follow n)).map ((at_ m.spots n).tag :: ·)
def marksO (m : Mach) (w : ByteArray) : Option (List Int) := markL m (zay w) m.first
def zat (m : Mach) (w : ByteArray) : List Int := if zbj m = true ∧ 0 < w.size then (marksO m w).getD [] else []
def okMk (m : Mach) (w : ByteArray) : Bool := if zbj m = true ∧ 0 < w.size then (marksO m w).isSome else runM m w
theorem find_none {l : List Int} {p : Int → Bool} (h : l.any p = false) : l.find? p = none := by
  rw [List.find?_eq_none]; intro x hx; have := List.any_eq_false.1 h x hx; simpa using this
theorem find_at {l : List Int} {p : Int → Bool} {t : Int} (h0 : 0 ≤ t) (h1 : t < (l.length : Int)) (h : (l.take t.toNat).any p = false) (h2 : p (at_ l t) = true) : l.find? p = some (at_ l t) := by
  have e : l = l.take t.toNat ++ at_ l t :: l.drop (t + 1).toNat := by rw [← drop_cons l h0 h1, List.take_append_drop]
  rw [e, List.find?_append, find_none h]
  rw [← e]; simp [h2]
structure MarkI (m : Mach) (w : ByteArray) (out next : List Int) (i : Int) : Prop where
  all : marksO m w = (markL m ((zay w).drop i.toNat) next).map (out ++ ·)
  inn : ∀ x ∈ next, 0 ≤ x ∧ x < (m.spots.length : Int)
  len : (out.length : Int) = i
theorem mrk_0 {m : Mach} (hR : Right m) (w : ByteArray) : MarkI m w [] m.first 0 := ⟨by
  show marksO m w = (markL m (zay w) m.first).map _
  unfold marksO
  cases markL m (zay w) m.first <;> simp, hR.firsts, rfl⟩
theorem mrk_step {m : Mach} (hR : Right m) {w : ByteArray} {out next : List Int} {i t : Int} (M : MarkI m w out next i) (h0 : 0 ≤ i) (h1 : i < (w.size : Int)) (t0 : 0 ≤ t) (t1 : t < (next.length : Int)) (hn : (next.take t.toNat).any (zc1 m ((zay w).drop i.toNat)) = false) (hg : zc1 m ((zay w).drop i.toNat) (at_ next t) = true) :
    MarkI m w (out ++ [(at_ m.spots (at_ next t)).tag]) (at_ m.follow (at_ next t)) (i + 1) where
  all := by
    have hx := M.inn _ (zbp t0 t1)
    rw [M.all]
    have hf := find_at t0 t1 hn hg
    rw [zcc w h0 h1] at hf ⊢
    show ((match next.find? _ with | none => none | some n => _ : Option (List Int))).map _ = _
    rw [hf]
    show ((markL m _ _).map _).map _ = _
    cases markL m ((zay w).drop (i + 1).toNat) (at_ m.follow (at_ next t)) <;> simp
  inn := hR.rows (M.inn _ (zbp t0 t1)).1 (M.inn _ (zbp t0 t1)).2
  len := by rw [List.length_append]; have := M.len; simp; omega
theorem mrk_no {m : Mach} {w : ByteArray} {out next : List Int} {i : Int} (M : MarkI m w out next i) (h0 : 0 ≤ i) (h1 : i < (w.size : Int)) (hn : next.any (zc1 m ((zay w).drop i.toNat)) = false) : marksO m w = none := by
  rw [M.all, zcc w h0 h1]
  rw [zcc w h0 h1] at hn
  show ((match next.find? _ with | none => none | some n => _ : Option (List Int))).map _ = _
  rw [find_none hn]; rfl
theorem zdk {m : Mach} {w : ByteArray} {out next : List Int} {i : Int} (M : MarkI m w out next i) (h1 : (w.size : Int) ≤ i) : marksO m w = some out := by
  rw [M.all, bytes_end w h1]; simp [markL]
theorem zdn {m : Mach} {w : ByteArray} (h : zbj m = false) : zat m w = [] ∧ okMk m w = runM m w := by
  unfold zat okMk; rw [h]; exact ⟨if_neg (by simp), if_neg (by simp)⟩
theorem zdm {m : Mach} {w : ByteArray} (h : w = (⟨#[]⟩ : ByteArray)) : zat m w = [] ∧ okMk m w = runM m w := by
  have h0 := size_empty h
  unfold zat okMk; rw [h0]; exact ⟨if_neg (by simp), if_neg (by simp)⟩
theorem zdl {m : Mach} {w : ByteArray} (h : zbj m = true) (hw : 0 < (w.size : Int)) (hn : marksO m w = none) : zat m w = [] ∧ okMk m w = false := by
  unfold zat okMk; rw [h, hn, if_pos ⟨rfl, by omega⟩, if_pos ⟨rfl, by omega⟩]; exact ⟨rfl, rfl⟩
theorem zc9 {m : Mach} {w : ByteArray} {out : List Int} (h : zbj m = true) (hw : 0 < (w.size : Int)) (hn : marksO m w = some out) : zat m w = out ∧ okMk m w = true := by
  unfold zat okMk; rw [h, hn, if_pos ⟨rfl, by omega⟩, if_pos ⟨rfl, by omega⟩]; exact ⟨rfl, rfl⟩
def pickL (t : Int) : List Int → List Int → List Int
  | k :: ks, c :: cs => if k = t then c :: pickL t ks cs else pickL t ks cs
  | _, _ => []
theorem pickL_nil (t : Int) (b : List Int) : pickL t [] b = [] := by cases b <;> rfl
theorem pickL_app (t : Int) : ∀ (a b : List Int) (k c : Int), a.length = b.length → pickL t (a ++ [k]) (b ++ [c]) = pickL t a b ++ (if k = t then [c] else [])
  | [], [], k, c, _ => by show (if k = t then c :: pickL t [] [] else pickL t [] []) = _; rw [pickL_nil]; rfl
  | x :: a, y :: b, k, c, h => by
    have ih := pickL_app t a b k c (by simpa using h)
    show (if x = t then y :: pickL t (a ++ [k]) (b ++ [c]) else pickL t (a ++ [k]) (b ++ [c])) = (if x = t then y :: pickL t a b else pickL t a b) ++ _
    rw [ih]
    by_cases e : x = t
    · rw [if_pos e, if_pos e]; rfl
    · rw [if_neg e, if_neg e]
def zdi (t : Int) (ms : List Int) (w : ByteArray) (i : Int) : List Int := pickL t (ms.take i.toNat) ((zay w).take i.toNat)
theorem pick_0 (t : Int) (ms : List Int) (w : ByteArray) : ([] : List Int) = zdi t ms w 0 := rfl
theorem pick_len (t : Int) : ∀ a b : List Int, (pickL t a b).length ≤ a.length
  | [], b => by rw [pickL_nil]; exact Nat.le_refl _
  | _ :: _, [] => by simp [pickL]
  | k :: a, c :: b => by
    have := pick_len t a b
    show (if k = t then c :: pickL t a b else pickL t a b).length ≤ _
    split <;> simp <;> omega
theorem pickTo_len (t : Int) (ms : List Int) (w : ByteArray) {i : Int} (h : 0 ≤ i) : ((zdi t ms w i).length : Int) ≤ i := by
  have := pick_len t (ms.take i.toNat) ((zay w).take i.toNat)
  unfold zdi
  rw [List.length_take] at this; omega
theorem pick_step (t : Int) {ms : List Int} {w : ByteArray} {i : Int} (h0 : 0 ≤ i) (h1 : i < (ms.length : Int)) (h2 : i < (w.size : Int)) : zdi t ms w (i + 1) = zdi t ms w i ++ (if at_ ms i = t then [byt w i] else []) := by
  unfold zdi
  have hb : i < ((zay w).length : Int) := by rw [zdy]; exact h2
  rw [zdq _ h0 h1, zdq _ h0 hb, bytesL_at w h0 h2]
  exact pickL_app t _ _ _ _ (by rw [List.length_take, List.length_take]; omega)
theorem pick_yes {t : Int} {ms : List Int} {w : ByteArray} {i : Int} (h0 : 0 ≤ i) (h1 : i < (ms.length : Int)) (h2 : i < (w.size : Int)) (h : at_ ms i = t) : zdi t ms w i ++ [byt w i] = zdi t ms w (i + 1) := by rw [pick_step t h0 h1 h2, if_pos h]
theorem pick_not {t : Int} {ms : List Int} {w : ByteArray} {i : Int} (h0 : 0 ≤ i) (h1 : i < (ms.length : Int)) (h2 : i < (w.size : Int)) (h : at_ ms i ≠ t) : zdi t ms w i = zdi t ms w (i + 1) := by rw [pick_step t h0 h1 h2, if_neg h, List.append_nil]
theorem markL_len (m : Mach) : ∀ (l next out : List Int), markL m l next = some out → out.length = l.length
  | [], _, out, h => by injection h with h; subst h; rfl
  | c :: cs, next, out, h => by
    unfold markL at h
    cases hf : next.find? (zc1 m (c :: cs)) with
    | none => rw [hf] at h; cases h
    | some n =>
      rw [hf] at h
      cases hm : markL m cs (at_ m.follow n) with
      | none => simp [hm] at h
      | some o =>
        simp [hm] at h
        subst h
        simp [markL_len m cs _ o hm]
theorem marks_len (m : Mach) (w : ByteArray) : zat m w = [] ∨ (zat m w).length = w.size := by
  unfold zat
  split
  · cases h : marksO m w with
    | none => exact .inl rfl
    | some o => right; have := markL_len m _ _ o h; rw [zdy] at this; exact this
  · exact .inl rfl
theorem marks_le (m : Mach) (w : ByteArray) : ((zat m w).length : Int) ≤ w.size := by
  rcases marks_len m w with h | h
  · rw [h]; simp
  · omega
structure ParM where
  ok : Bool
  host : ByteArray
  path : ByteArray
deriving DecidableEq
def runPM (m : Mach) (w : ByteArray) : ParM := if okMk m w then ⟨true, strOfNums (zdi 1 (zat m w) w (zat m w).length), strOfNums (zdi 2 (zat m w) w (zat m w).length)⟩ else ⟨false, ⟨#[]⟩, ⟨#[]⟩⟩
end Gx
namespace Go.Proofs.Ytpdanfggijmnmaa
open Go Go.RowKit Gx
set_option maxHeartbeats 3000000
set_option linter.unusedVariables false
set_option linter.unusedSimpArgs false
set_option maxRecDepth 8000
attribute [local irreducible] listOf zd0 first someIn has zb6 wbits Lib.ctz zc4 zbj rowOk tab markP intoP intoTo zcm zb7 zcr runTo endsIn endTo runM posTo mayP zb3 zb1 mayTo atP lastTo docAt anyTo allTo lfp trues zcw zcq gIn zc1 endL zc5 gRowTo zay markL marksO zat okMk pickL zdi runPM
theorem marks_calls (w : World) (m : Mach) (A0_0 : Option Addr) (c0_0 : Nat) (b0_0 : m.spots.length ≤ c0_0 ∧ c0_0 ≤ maxLen) (l0_0 : zbe kSpot (hp w) A0_0 m.spots) (A0_1 : Option Addr) (c0_1 : Nat) (b0_1 : m.first.length ≤ c0_1 ∧ c0_1 ≤ maxLen) (l0_1 : zbe (Kd.int .i64) (hp w) A0_1 m.first) (A0_2 : Option Addr) (c0_2 : Nat) (b0_2 : m.follow.length ≤ c0_2 ∧ c0_2 ≤ maxLen) (l0_2 : zbe (Kd.int .i64).slice (hp w) A0_2 m.follow) (A0_3 : Option Addr) (c0_3 : Nat) (b0_3 : m.last.length ≤ c0_3 ∧ c0_3 ≤ maxLen) (l0_3 : zbe Kd.bool (hp w) A0_3 m.last) (xw : ByteArray) (s1 : xw.size ≤ maxLen) (pre0 : (xw.size : Int) ≤ 1000) :
    Calls Try.prog 11 #[.agg #[.slice A0_0 m.spots.length c0_0, .slice A0_1 m.first.length c0_1, .slice A0_2 m.follow.length c0_2, .slice A0_3 m.last.length c0_3, .bool m.empty], .string xw] w fun e w' => ∃ v, e = .returned v ∧ ∃ (hn : Ghost) (r0 : Value), St w.heap.size w hn w' [row 5 (Kd.int .u8) r0 (zat m xw)] ∧ v = .tuple #[r0, .bool (okMk m xw)] := by
 refine zas Try.func11 rfl Try.ntmps11 rfl ?_
 have S0 := St.init w
 have bb0_0 := b0_0.1; have bc0_0 := b0_0.2; simp only [maxLen] at bc0_0
 have bb0_1 := b0_1.1; have bc0_1 := b0_1.2; simp only [maxLen] at bc0_1
 have bb0_2 := b0_2.1; have bc0_2 := b0_2.2; simp only [maxLen] at bc0_2
 have bb0_3 := b0_3.1; have bc0_3 := b0_3.2; simp only [maxLen] at bc0_3
 have sz1 := s1; simp only [maxLen] at sz1
 have hw_ := pre0
 refine zab <| zac (l := [0, 1, 2]) rfl ?_
 obtain ⟨b1, w1, r1, g1, T1⟩ := zc0 (P := Try.prog) S0 27 (v := .agg #[.slice A0_0 m.spots.length c0_0, .slice A0_1 m.first.length c0_1, .slice A0_2 m.follow.length c0_2, .slice A0_3 m.last.length c0_3, .bool m.empty]) [.slice A0_0 m.spots.length c0_0, .slice A0_1 m.first.length c0_1, .slice A0_2 m.follow.length c0_2, .slice A0_3 m.last.length c0_3, .bool m.empty] rfl
 have S2 := T1
 dsimp only [lAa, lAn, lA0, lAs] at S2
 refine p_v (v := .pointer (some ⟨b1, 0, none⟩)) rfl rfl rfl (x_box rfl r1) <| p_v (v := .slice none 0 0) rfl rfl rfl (zae rfl) <| p_v (v := .bool false) rfl rfl rfl (zae rfl) <| zaa <| zab <| zab <| zac (l := [0, 1, 2, 3, 4, 5, 6]) rfl <| p_v (v := .agg #[.slice A0_0 m.spots.length c0_0, .slice A0_1 m.first.length c0_1, .slice A0_2 m.follow.length c0_2, .slice A0_3 m.last.length c0_3, .bool m.empty]) rfl rfl rfl (zah (seg := [.slice A0_0 m.spots.length c0_0, .slice A0_1 m.first.length c0_1, .slice A0_2 m.follow.length c0_2, .slice A0_3 m.last.length c0_3, .bool m.empty]) ty27 rfl (by simp) rfl (CF.box (m := 5) (S2.box_at (j := 0) rfl) rfl)) <| p_c rfl rfl rfl (zbd (args := [.agg #[.slice A0_0 m.spots.length c0_0, .slice A0_1 m.first.length c0_1, .slice A0_2 m.follow.length c0_2, .slice A0_3 m.last.length c0_3, .bool m.empty]]) ca24 rfl rfl) (rightN_calls w1 m A0_0 c0_0 b0_0 (l0_0.mono (St.le0 S2)) A0_1 c0_1 b0_1 (l0_1.mono (St.le0 S2)) A0_2 c0_2 b0_2 (l0_2.mono (St.le0 S2)) A0_3 c0_3 b0_3 (l0_3.mono (St.le0 S2))) ?_
 rintro _ w3 ⟨h3, T3, rfl⟩
 have S4 := S2.keep (Chg.of_below T3.below)
 refine p_v (v := .bool (!(zbj m))) rfl rfl rfl (x_not rfl) <| p_v (v := .bool (!(zbj m))) rfl rfl rfl (zad rfl) ?_
 rcases Bool.eq_false_or_eq_true (zbj m) with hc5 | hc5
 ·skip
  have hR_ := right_iff.1 hc5
  have hsm_ := hR_.small; have hfo_ := hR_.follow; have hla_ := hR_.last
  refine p_v (v := .string xw) rfl (wo 3 15 rfl rfl (congrArg (fun z => Value.bool (!z)) hc5) rfl) rfl (zad rfl) <| p_v (v := .bool (decide (xw = (⟨#[]⟩ : ByteArray)))) rfl (wo 3 15 rfl rfl (congrArg (fun z => Value.bool (!z)) hc5) rfl) rfl (x_eql_string rfl rfl) <| p_v (v := .bool (decide (xw = (⟨#[]⟩ : ByteArray)))) rfl rfl rfl (zbq (congrArg (fun z => Value.bool (!z)) hc5) rfl) <| zaa ?_
  refine zal (p := xw = (⟨#[]⟩ : ByteArray)) rfl (fun hc6 => ?_) (fun hc6 => ?_)
  ·skip
   refine zab <| zac (l := [0, 1, 2, 3, 4]) rfl <| p_v (v := .agg #[.slice A0_0 m.spots.length c0_0, .slice A0_1 m.first.length c0_1, .slice A0_2 m.follow.length c0_2, .slice A0_3 m.last.length c0_3, .bool m.empty]) rfl rfl rfl (zah (seg := [.slice A0_0 m.spots.length c0_0, .slice A0_1 m.first.length c0_1, .slice A0_2 m.follow.length c0_2, .slice A0_3 m.last.length c0_3, .bool m.empty]) ty27 rfl (by simp) rfl (CF.box (m := 5) (S4.box_at (j := 0) rfl) rfl)) <| p_v (v := .string xw) rfl rfl rfl (zad rfl) <| p_c rfl rfl rfl (zbd (args := [.agg #[.slice A0_0 m.spots.length c0_0, .slice A0_1 m.first.length c0_1, .slice A0_2 m.follow.length c0_2, .slice A0_3 m.last.length c0_3, .bool m.empty], .string xw]) ca20 rfl rfl) (runN_calls w3 m A0_0 c0_0 b0_0 (l0_0.mono (St.le0 S4)) A0_1 c0_1 b0_1 (l0_1.mono (St.le0 S4)) A0_2 c0_2 b0_2 (l0_2.mono (St.le0 S4)) A0_3 c0_3 b0_3 (l0_3.mono (St.le0 S4)) xw s1) ?_
   rintro _ w7 ⟨h7, T7, rfl⟩
   have S8 := S4.keep (Chg.of_below T7.below)
   refine p_v (v := .slice none 0 0) rfl rfl rfl (zae rfl) <| p_v (v := .bool (runM m xw)) rfl rfl rfl (zae rfl) <| zaa ?_
   have T10 := S8.row_nil 5 (Kd.int .u8)
   have S11 := T10
   dsimp only [lAa, lAn, lA0, lAs] at S11
   refine zav Try.func11 (res2 rfl (zax (v := .slice none 0 0) rfl) (zax (v := .bool (runM m xw)) rfl)) ?_
   have q0 : (zat m xw : List Int) = ([] : List Int) := by
    first | exact (zdn (by assumption)).1 | exact (zdn (by assumption)).2 | exact (zdm (by assumption)).1 | exact (zdm (by assumption)).2 | exact (zdl (by assumption) hz_ (mrk_no hI_.2.2 hI_.1 (by omega) (zbx (by omega) hI_.2.2))).1 | exact (zdl (by assumption) hz_ (mrk_no hI_.2.2 hI_.1 (by omega) (zbx (by omega) hI_.2.2))).2 | exact (zc9 (by assumption) hz_ (zdk hI_.2.2 (by omega))).1 | exact (zc9 (by assumption) hz_ (zdk hI_.2.2 (by omega))).2
   have q1 : (okMk m xw : Bool) = runM m xw := by
    first | exact (zdn (by assumption)).1 | exact (zdn (by assumption)).2 | exact (zdm (by assumption)).1 | exact (zdm (by assumption)).2 | exact (zdl (by assumption) hz_ (mrk_no hI_.2.2 hI_.1 (by omega) (zbx (by omega) hI_.2.2))).1 | exact (zdl (by assumption) hz_ (mrk_no hI_.2.2 hI_.1 (by omega) (zbx (by omega) hI_.2.2))).2 | exact (zc9 (by assumption) hz_ (zdk hI_.2.2 (by omega))).1 | exact (zc9 (by assumption) hz_ (zdk hI_.2.2 (by omega))).2
   refine ⟨_, rfl, (fun _ => none), (.slice none 0 0), ?_, ?_⟩
   · rw [q0]; exact S11.sub [1] (by decide) rfl _ rfl
   · first | rfl | (simp only [q0, q1]; rfl) | (simp only [q0, q1])
  have hz_ := size_some hc6
  refine zao <| zab <| zac (l := [0, 1, 2, 3, 4]) rfl <| p_v (v := .agg #[.slice A0_0 m.spots.length c0_0, .slice A0_1 m.first.length c0_1, .slice A0_2 m.follow.length c0_2, .slice A0_3 m.last.length c0_3, .bool m.empty]) rfl rfl rfl (zah (seg := [.slice A0_0 m.spots.length c0_0, .slice A0_1 m.first.length c0_1, .slice A0_2 m.follow.length c0_2, .slice A0_3 m.last.length c0_3, .bool m.empty]) ty27 rfl (by simp) rfl (CF.box (m := 5) (S4.box_at (j := 0) rfl) rfl)) <| p_v (v := .string xw) rfl rfl rfl (zad rfl) <| p_c rfl rfl rfl (zbd (args := [.agg #[.slice A0_0 m.spots.length c0_0, .slice A0_1 m.first.length c0_1, .slice A0_2 m.follow.length c0_2, .slice A0_3 m.last.length c0_3, .bool m.empty], .string xw]) ca25 rfl rfl) (goods_calls w3 m A0_0 c0_0 b0_0 (l0_0.mono (St.le0 S4)) A0_1 c0_1 b0_1 (l0_1.mono (St.le0 S4)) A0_2 c0_2 b0_2 (l0_2.mono (St.le0 S4)) A0_3 c0_3 b0_3 (l0_3.mono (St.le0 S4)) xw s1 (by first | assumption | exact ⟨by assumption, by omega⟩)) ?_
  rintro v12_0 w12 ⟨h12, _, T12, rfl⟩
  obtain ⟨k12, lk12, ll12, U12⟩ := zco S4 T12
  have S13 := U12
  dsimp only [lAa, lAn, lA0, lAs] at S13
  obtain ⟨h14, le14, T14, rp14⟩ := S13.freeze (i := 1) rfl
  have S15 := T14.fx 1 (emp) rfl
  dsimp only [lAa, lAn, lA0, lAs] at S15
  obtain ⟨A14, c14, e14, lc14, cm14, ld14⟩ := rp14
  injection e14 with e14 _; subst e14
  have cn14 := cm14; simp only [maxLen] at cn14
  obtain ⟨b16, w16, r16, g16, T16⟩ := zc0 (P := Try.prog) S15 50 (v := (.slice none 0 0)) [.slice none 0 0] rfl
  have S17 := T16
  dsimp only [lAa, lAn, lA0, lAs] at S17
  refine p_v (v := .pointer (some ⟨b16, 0, none⟩)) rfl rfl rfl (zcs ty50 r16) ?_
  obtain ⟨w18, r18, g18, T18⟩ := zb9 (P := Try.prog) (off := 0) (v := .slice A14 (zcq m xw).length c14) (vs := [.slice A14 (zcq m xw).length c14]) S17 ty50 rfl rfl (j := 2) rfl (by first | decide | exact Nat.le_of_ble_eq_true rfl) (by simp [Value.oneCell'])
  have S19 := T18.fx 2 (box b16 50 [.slice A14 (zcq m xw).length c14]) rfl
  dsimp only [lAa, lAn, lA0, lAs] at S19
  refine p_s rfl rfl (zbt rfl rfl r18) <| zaa <| zab <| zac (l := [0]) rfl <| p_v (v := .slice none 0 0) rfl rfl rfl (zae rfl) <| zaa <| zab <| zac (l := [0, 1, 2]) rfl <| p_v (v := .pointer (some ⟨b1, 1, none⟩)) rfl rfl rfl (zak fd27_1 ty23 rfl rfl) <| p_v (v := .slice A0_1 m.first.length c0_1) rfl rfl rfl (zah (seg := [.slice A0_1 m.first.length c0_1]) ty23 rfl (by simp) rfl (CF.box (m := 1) (S19.box_at (j := 0) rfl) rfl)) <| p_v (v := .slice A0_1 m.first.length c0_1) rfl rfl rfl (zae rfl) <| zaa ?_
  refine zab <| zab <| zac (l := [0, 1, 2]) rfl <| p_v (v := .string xw) rfl rfl rfl (zad rfl) <| p_v (v := .int .i64 (xw.size : Int)) rfl rfl rfl (zcg u9 rfl) <| p_v (v := .int .i64 0) rfl rfl rfl (zad rfl) <| zaa <| zam ?_
  have T20 := S19.row_nil 5 (Kd.int .u8)
  obtain ⟨vn20, ev20, T20⟩ : ∃ v, v = (.slice none 0 0 : Value) ∧ St w.heap.size w h14 w18 ([box b1 27 [.slice A0_0 m.spots.length c0_0, .slice A0_1 m.first.length c0_1, .slice A0_2 m.follow.length c0_2, .slice A0_3 m.last.length c0_3, .bool m.empty], emp, box b16 50 [.slice A14 (zcq m xw).length c14]] ++ [row 5 (Kd.int .u8) v []]) := ⟨_, rfl, T20⟩
  have S21 := T20
  dsimp only [lAa, lAn, lA0, lAs] at S21
  refine za8 (S := (List Int) × (List Int) × Int) (fun (q_ : (List Int) × (List Int) × Int) ρ w' => match q_ with | (out, next, t29) => ∃ (h : Ghost) (v_out : Value) (A_next : Option Addr) (c_next : Nat), Le h14 h ∧ St w.heap.size w h w' [box b1 27 [.slice A0_0 m.spots.length c0_0, .slice A0_1 m.first.length c0_1, .slice A0_2 m.follow.length c0_2, .slice A0_3 m.last.length c0_3, .bool m.empty], box b16 50 [.slice A14 (zcq m xw).length c14], row 5 (Kd.int .u8) v_out out] ∧ ρ 2 = .pointer (some ⟨b1, 0, none⟩) ∧ ρ 6 = .pointer (some ⟨b16, 0, none⟩) ∧ ρ 7 = v_out ∧ ρ 8 = .slice A_next next.length c_next ∧ ρ 28 = .int .i64 (xw.size : Int) ∧ ρ 29 = .int .i64 t29 ∧ (next.length ≤ c_next ∧ c_next ≤ maxLen) ∧ zbe (Kd.int .i64) (hp w) A_next next ∧ inK .i64 t29 ∧ (0 ≤ t29 ∧ t29 ≤ (xw.size : Int) ∧ MarkI m xw out next t29)) (fun q_ => match q_ with | (out, next, t29) => (xw.size - t29).toNat) (([] : List Int), m.first, 0) ⟨h14, vn20, A0_1, c0_1, Le.refl _, S21.sub [0, 2, 3] (by decide) rfl _ rfl, rfl, rfl, (ev20.symm), rfl, rfl, rfl, b0_1, l0_1, (zai (by first|omega|(simp;omega)|assumption|simp) (by first|omega|(simp;omega)|assumption|simp)), (by exact ⟨by omega, by omega, mrk_0 hR_ xw⟩)⟩ ?_
  rintro ⟨out, next, t29⟩ ih22 ρ22 w22 ⟨h22, v_out, A_next, c_next, le22, S22, r22_2, r22_6, r22_7, r22_8, r22_28, r22_29, f22_0, f22_1, f22_2, hI22⟩
  have lf22_2 := za1 f22_2; have hf22_2 := za2 f22_2
  have bl22_8 := f22_0.1; have bm22_8 := f22_0.2; simp only [maxLen] at bm22_8
  have rl22_2 := S22.row_le (j := 2) rfl; simp only [maxLen] at rl22_2
  have hol_ := hI22.2.2.len; have hgl_ := goods_len m xw
  refine zab <| zac (l := [0]) rfl <| p_v (v := .bool (decide (t29 < (xw.size : Int)))) rfl rfl rfl (zc2 r22_29 r22_28) <| zaa <| zab ?_
  refine zal (p := t29 < (xw.size : Int)) rfl (fun hc23 => ?_) (fun hc23 => ?_)
  ·skip
   refine zao <| zab <| zam <| zab <| zac (l := [0, 1, 2]) rfl <| p_v (v := .int .i64 t29) rfl rfl rfl (zad r22_29) ?_
   obtain ⟨b24, w24, r24, g24, T24⟩ := zc0 (P := Try.prog) S22 3 (v := (.int .i64 0)) [.int .i64 0] rfl
   have S25 := T24
   dsimp only [lAa, lAn, lA0, lAs] at S25
   refine p_v (v := .pointer (some ⟨b24, 0, none⟩)) rfl rfl rfl (zcs ty3 r24) ?_
   obtain ⟨w26, r26, g26, T26⟩ := zb9 (P := Try.prog) (off := 0) (v := .int .i64 t29) (vs := [.int .i64 t29]) S25 ty3 rfl rfl (j := 3) rfl (by first | decide | exact Nat.le_of_ble_eq_true rfl) (by simp [Value.oneCell'])
   have S27 := T26.fx 3 (box b24 3 [.int .i64 t29]) rfl
   dsimp only [lAa, lAn, lA0, lAs] at S27
   refine p_s rfl rfl (zbt rfl rfl r26) <| zaa <| zab <| zac (l := [0, 1, 2, 3]) rfl <| p_v (v := .slice A_next next.length c_next) rfl rfl rfl (zad r22_8) <| p_v (v := .func (.func 27) #[] #[.pointer (some ⟨b16, 0, none⟩), .pointer (some ⟨b24, 0, none⟩)]) rfl rfl rfl (y_makeFunc (fv := []) (cv := [.pointer (some ⟨b16, 0, none⟩), .pointer (some ⟨b24, 0, none⟩)]) rfl (zci r22_6 (zci rfl rfl))) ?_
   refine p_i rfl rfl rfl (zbd (args := [.slice A_next next.length c_next, .func (.func 27) #[] #[.pointer (some ⟨b16, 0, none⟩), .pointer (some ⟨b24, 0, none⟩)]]) ca26 rfl rfl) (zas Try.func26 rfl Try.ntmps26 rfl ?_)
   refine zab <| zac (l := [0]) rfl <| p_v (v := .int .i64 0) rfl rfl rfl (zae rfl) <| zaa <| zab <| zab <| zac (l := [0, 1, 2]) rfl <| p_v (v := .slice A_next next.length c_next) rfl rfl rfl (zad rfl) <| p_v (v := .int .i64 (next.length : Int)) rfl rfl rfl (zar u23 rfl) <| p_v (v := .int .i64 0) rfl rfl rfl (zad rfl) <| zaa <| zam ?_
   refine za8 (S := Int) (fun (q_ : Int) ρ w' => match q_ with | t8 => ∃ (h : Ghost), Le h22 h ∧ St w.heap.size w h w' [box b1 27 [.slice A0_0 m.spots.length c0_0, .slice A0_1 m.first.length c0_1, .slice A0_2 m.follow.length c0_2, .slice A0_3 m.last.length c0_3, .bool m.empty], box b16 50 [.slice A14 (zcq m xw).length c14], row 5 (Kd.int .u8) v_out out, box b24 3 [.int .i64 t29]] ∧ ρ 0 = .slice A_next next.length c_next ∧ ρ 1 = .func (.func 27) #[] #[.pointer (some ⟨b16, 0, none⟩), .pointer (some ⟨b24, 0, none⟩)] ∧ ρ 7 = .int .i64 (next.length : Int) ∧ ρ 8 = .int .i64 t8 ∧ inK .i64 t8 ∧ (0 ≤ t8 ∧ t8 ≤ (next.length : Int) ∧ (next.take t8.toNat).any (zc1 m ((zay xw).drop t29.toNat)) = false)) (fun q_ => match q_ with | t8 => (next.length - t8).toNat) (0) ⟨h22, Le.refl _, S27.sub [0, 1, 2, 3] (by decide) rfl _ rfl, rfl, rfl, rfl, rfl, (zai (by first|omega|(simp;omega)|assumption|simp) (by first|omega|(simp;omega)|assumption|simp)), (by exact ⟨by omega, by omega, rfl⟩)⟩ ?_
   rintro t8 ih28 ρ28 w28 ⟨h28, le28, S28, r28_0, r28_1, r28_7, r28_8, f28_0, hI28⟩
   have lf28_0 := za1 f28_0; have hf28_0 := za2 f28_0
   have rl28_2 := S28.row_le (j := 2) rfl; simp only [maxLen] at rl28_2
   have hx_ := fun (h : t8 < (next.length : Int)) => hI22.2.2.inn _ (zbp hI28.1 h)
   have hgr_ : at_ (zcq m xw) t29 = zc5 m ((zay xw).drop t29.toNat) := goods_at m xw hI22.1 (by omega)
   have hgn_ : ((at_ (zcq m xw) t29).length : Int) = m.spots.length := by rw [hgr_, goodRow_len]
   refine zab <| zac (l := [0]) rfl <| p_v (v := .bool (decide (t8 < (next.length : Int)))) rfl rfl rfl (zc2 r28_8 r28_7) <| zaa <| zab ?_
   refine zal (p := t8 < (next.length : Int)) rfl (fun hc29 => ?_) (fun hc29 => ?_)
   ·skip
    refine zao <| zab <| zam <| zab <| zac (l := [0, 1]) rfl <| p_v (v := .int .i64 t8) rfl rfl rfl (zad r28_8) <| p_v (v := .int .i64 t8) rfl rfl rfl (zae rfl) <| zaa <| zab <| zac (l := [0, 1, 2, 3, 4, 5]) rfl <| p_v (v := .func (.func 27) #[] #[.pointer (some ⟨b16, 0, none⟩), .pointer (some ⟨b24, 0, none⟩)]) rfl rfl rfl (zad r28_1) <| p_v (v := .slice A_next next.length c_next) rfl rfl rfl (zad r28_0) ?_
    refine p_v (v := .int .i64 t8) rfl rfl rfl (zad rfl) ?_
    obtain ⟨ad30, seg30, a30, rp30, ce30⟩ := zap (q := t8) (m := 1) f22_1 rfl (by first|omega|(simp;omega)|assumption|simp) (by first|omega|(simp;omega)|assumption|simp)
    refine p_v (v := .pointer (some ad30)) rfl rfl rfl (zan u23 ty3 rfl rfl a30 (by first|omega|(simp;omega)|assumption|simp) (by first|omega|(simp;omega)|assumption|simp)) ?_
    obtain ⟨rfl, in30⟩ := rp30
    have lo30 := za1 in30; have hi30 := za2 in30
    refine p_v (v := .int .i64 (at_ next t8)) rfl rfl rfl (zah (seg := [.int .i64 (at_ next t8)]) ty3 rfl (by simp) rfl (CF.ghost ce30 (St.le0 S28))) ?_
    refine p_i rfl rfl rfl (zbd (args := [.int .i64 (at_ next t8), .pointer (some ⟨b16, 0, none⟩), .pointer (some ⟨b24, 0, none⟩)]) ca27 rfl rfl) (zas Try.func27 rfl Try.ntmps27 rfl ?_)
    refine zab <| zac (l := [0]) rfl <| p_v (v := .bool false) rfl rfl rfl (zae rfl) <| zaa <| zab <| zac (l := [0, 1, 2, 3, 4, 5, 6, 7]) rfl <| p_v (v := .slice A14 (zcq m xw).length c14) rfl rfl rfl (zah (seg := [.slice A14 (zcq m xw).length c14]) ty50 rfl (by simp) rfl (CF.box (m := 1) (S28.box_at (j := 1) rfl) rfl)) <| p_v (v := .int .i64 t29) rfl rfl rfl (zah (seg := [.int .i64 t29]) ty3 rfl (by simp) rfl (CF.box (m := 1) (S28.box_at (j := 3) rfl) rfl)) ?_
    obtain ⟨ad31, seg31, a31, rp31, ce31⟩ := zap (q := t29) (m := 1) ld14 rfl (by first|omega|(simp;omega)|assumption|simp) (by first|omega|(simp;omega)|assumption|simp)
    refine p_v (v := .pointer (some ad31)) rfl rfl rfl (zan u50 ty25 rfl rfl a31 (by first|omega|(simp;omega)|assumption|simp) (by first|omega|(simp;omega)|assumption|simp)) ?_
    obtain ⟨A31, c31, rfl, lc31, cm31, ld31⟩ := rp31
    have cn31 := cm31; simp only [maxLen] at cn31
    refine p_v (v := .slice A31 (at_ (zcq m xw) t29).length c31) rfl rfl rfl (zah (seg := [.slice A31 (at_ (zcq m xw) t29).length c31]) ty25 rfl (by simp) rfl (CF.ghost ce31 (((le22).trans le28).trans S28.ghost))) <| p_v (v := .int .i64 (at_ next t8)) rfl rfl rfl (zad rfl) ?_
    obtain ⟨ad32, seg32, a32, rp32, ce32⟩ := zap (q := at_ next t8) (m := 1) ld31 rfl (by first|omega|(simp;omega)|assumption|simp) (by first|omega|(simp;omega)|assumption|simp)
    refine p_v (v := .pointer (some ad32)) rfl rfl rfl (zan u25 ty4 rfl rfl a32 (by first|omega|(simp;omega)|assumption|simp) (by first|omega|(simp;omega)|assumption|simp)) ?_
    obtain ⟨rfl, _⟩ := rp32
    refine p_v (v := .bool (at_ (at_ (zcq m xw) t29) (at_ next t8))) rfl rfl rfl (zah (seg := [.bool (at_ (at_ (zcq m xw) t29) (at_ next t8))]) ty4 rfl (by simp) rfl (CF.ghost ce32 (((le22).trans le28).trans S28.ghost))) <| p_v (v := .bool (at_ (at_ (zcq m xw) t29) (at_ next t8))) rfl rfl rfl (zae rfl) <| zaa <| zav Try.func27 (res1 rfl (zax (v := .bool (at_ (at_ (zcq m xw) t29) (at_ next t8))) rfl)) ?_
    refine ⟨_, rfl, ?_⟩
    refine zaa ?_
    refine zbs (b := at_ (at_ (zcq m xw) t29) (at_ next t8)) rfl (fun hc33 => ?_) (fun hc33 => ?_)
    ·skip
     have hgt_ : zc1 m ((zay xw).drop t29.toNat) (at_ next t8) = true := by rw [← goodRow_at m _ (hx_ (by omega)).1 (hx_ (by omega)).2, ← hgr_]; exact hc33
     refine zab <| zac (l := [0, 1]) rfl <| p_v (v := .int .i64 t8) rfl rfl rfl (zad rfl) <| p_v (v := .int .i64 t8) rfl rfl rfl (zae rfl) <| zaa <| zav Try.func26 (res1 rfl (zax (v := .int .i64 t8) rfl)) ?_
     refine ⟨_, rfl, ?_⟩
     refine p_v (v := .int .i64 t8) rfl rfl rfl (zae rfl) <| zaa <| zab <| zab <| zac (l := [0, 1]) rfl <| p_v (v := .int .i64 t8) rfl rfl rfl (zad rfl) <| p_v (v := .bool (decide (t8 < 0))) rfl rfl rfl (zc2 rfl rfl) <| zaa ?_
     have hc34 : ¬ (t8 < 0) := by
      omega
     refine zbh (b := false) (bF hc34) ?_
     simp only [if_true, if_false, Bool.false_eq_true]
     refine zao <| zab <| zac (l := [0, 1, 2, 3, 4]) rfl <| p_v (v := .slice A_next next.length c_next) rfl rfl rfl (zad r22_8) <| p_v (v := .int .i64 t8) rfl rfl rfl (zad rfl) ?_
     obtain ⟨ad35, seg35, a35, rp35, ce35⟩ := zap (q := t8) (m := 1) f22_1 rfl (by first|omega|(simp;omega)|assumption|simp) (by first|omega|(simp;omega)|assumption|simp)
     refine p_v (v := .pointer (some ad35)) rfl rfl rfl (zan u23 ty3 rfl rfl a35 (by first|omega|(simp;omega)|assumption|simp) (by first|omega|(simp;omega)|assumption|simp)) ?_
     obtain ⟨rfl, in35⟩ := rp35
     have lo35 := za1 in35; have hi35 := za2 in35
     refine p_v (v := .int .i64 (at_ next t8)) rfl rfl rfl (zah (seg := [.int .i64 (at_ next t8)]) ty3 rfl (by simp) rfl (CF.ghost ce35 (St.le0 S28))) <| p_v (v := .int .i64 (at_ next t8)) rfl rfl rfl (zae rfl) <| zaa ?_
     obtain ⟨ad36, seg36, a36, rp36, ce36⟩ := zap (q := at_ next t8) (m := 5) l0_0 rfl (by first|omega|(simp;omega)|assumption|simp) (by first|omega|(simp;omega)|assumption|simp)
     obtain ⟨rfl, ok36⟩ := rp36
     have slook36 := u8_lo ok36; have shiok36 := u8_hi ok36
     obtain ⟨ad38, seg38, a38, rp38, ce38⟩ := zap (q := at_ next t8) (m := 1) l0_2 rfl (by first|omega|(simp;omega)|assumption|simp) (by first|omega|(simp;omega)|assumption|simp)
     obtain ⟨A38, c38, rfl, lc38, cm38, ld38⟩ := rp38
     have cn38 := cm38; simp only [maxLen] at cn38
     have hf39 : (CFs ⟨b1, 0, none⟩ [.slice A0_0 m.spots.length c0_0]).1 w28 := (CF.box (m := 1) (S28.box_at (j := 0) rfl) rfl)
     have hf40 : (CFs (ad36.add 4) [.int .u8 ((at_ m.spots (at_ next t8)).tag)]).1 w28 := (CF.ghost (sub_seg (o := 4) (m := 1) (ds := [.int .u8 ((at_ m.spots (at_ next t8)).tag)]) ce36 rfl) (St.le0 S28))
     have hf41 : (CFs ⟨b1, 2, none⟩ [.slice A0_2 m.follow.length c0_2]).1 w28 := (CF.box (m := 1) (S28.box_at (j := 0) rfl) rfl)
     have hf42 : (CFs ad38 [.slice A38 (at_ m.follow (at_ next t8)).length c38]).1 w28 := (CF.ghost ce38 (St.le0 S28))
     refine daS (hkC 2 hf39 (hkC 6 hf40 (hkC 10 hf41 (hkC 13 hf42 (hkN (w := w28)))))) 16 rfl zdt ?_
     intro wd43 gd43 hd43
     have S44 := S28.keep gd43
     have hf45 := spUp gd43 hf39
     have hf46 := spUp gd43 hf40
     have hf47 := spUp gd43 hf41
     have hf48 := spUp gd43 hf42
     refine qd0 (i := 0) (v := v_out) rfl (by decide +kernel) rfl rfl (zad r22_7) (zaf rfl) <| qd0 (i := 1) (v := .pointer (some ⟨b1, 0, none⟩)) rfl (by decide +kernel) rfl rfl (zak zda ty22 rfl r22_2) (zaf rfl) <| qd1 0 (i := 2) (v := .slice A0_0 m.spots.length c0_0) rfl rfl (by decide +kernel) rfl rfl (fun wq hq => (zah (seg := [.slice A0_0 m.spots.length c0_0]) ty22 rfl (by simp) rfl hq)) (za0 hf45 (zaf rfl)) <| qd0 (i := 3) (v := .int .i64 (at_ next t8)) rfl (by decide +kernel) rfl rfl (zad rfl) (zaf rfl) <| qd0 (i := 4) (v := .pointer (some ad36)) rfl (by decide +kernel) rfl rfl (zan u22 ty43 rfl rfl a36 (by first|omega|(simp;omega)|assumption|simp) (by first|omega|(simp;omega)|assumption|simp)) (zaf rfl) <| qd0 (i := 5) (v := .pointer (some (ad36.add 4))) rfl (by decide +kernel) rfl rfl (zcu fd43_1 ty5 rfl rfl) (zaf rfl) <| qd1 1 (i := 6) (v := .int .u8 ((at_ m.spots (at_ next t8)).tag)) rfl rfl (by decide +kernel) rfl rfl (fun wq hq => (zah (seg := [.int .u8 ((at_ m.spots (at_ next t8)).tag)]) ty5 rfl (by simp) rfl hq)) (zaq rfl (za0 hf46 (zaf rfl))) <| qd0 (i := 9) (v := .pointer (some ⟨b1, 2, none⟩)) rfl (by decide +kernel) rfl rfl (zak fd27_2 ty24 rfl r22_2) (zaf rfl) <| qd1 2 (i := 10) (v := .slice A0_2 m.follow.length c0_2) rfl rfl (by decide +kernel) rfl rfl (fun wq hq => (zah (seg := [.slice A0_2 m.follow.length c0_2]) ty24 rfl (by simp) rfl hq)) (zaq rfl (zaq rfl (za0 hf47 (zaf rfl)))) <| qd0 (i := 11) (v := .int .i64 (at_ next t8)) rfl (by decide +kernel) rfl rfl (zad rfl) (zaf rfl) <| qd0 (i := 12) (v := .pointer (some ad38)) rfl (by decide +kernel) rfl rfl (zan u24 ty23 rfl rfl a38 (by first|omega|(simp;omega)|assumption|simp) (by first|omega|(simp;omega)|assumption|simp)) (zaf rfl) <| qd1 3 (i := 13) (v := .slice A38 (at_ m.follow (at_ next t8)).length c38) rfl rfl (by decide +kernel) rfl rfl (fun wq hq => (zah (seg := [.slice A38 (at_ m.follow (at_ next t8)).length c38]) ty23 rfl (by simp) rfl hq)) (zaq rfl (zaq rfl (zaq rfl (za0 hf48 (zaf rfl))))) ?_
     refine zc7 (i := 7) (by decide +kernel) ?_
     intro wd49 gd49
     have S50 := S44.keep gd49
     have hf51 := spUp gd49 hf45
     have hf52 := spUp gd49 hf46
     have hf53 := spUp gd49 hf47
     have hf54 := spUp gd49 hf48
     obtain ⟨v55, w55, r55, g55, T55⟩ := zbb (kd := (Kd.int .u8)) (xs := ([(at_ m.spots (at_ next t8)).tag] : List Int)) (len := 1) [.int .u8 ((at_ m.spots (at_ next t8)).tag)] S50 u30 ty5 rfl rfl rfl rfl rfl (zbm rfl zcb) [.int .u8 ((at_ m.spots (at_ next t8)).tag)] (zbu.single (k := (Kd.int .u8)) (h := h28) (x := (at_ m.spots (at_ next t8)).tag) (cs := [.int .u8 ((at_ m.spots (at_ next t8)).tag)]) ⟨rfl, (in_u8 (by first|omega|(simp;omega)|assumption|simp) (by first|omega|(simp;omega)|assumption|simp))⟩) rfl
     have S56 := T55
     dsimp only [lAa, lAn, lA0, lAs] at S56
     have hf57 := spUp g55 hf51
     have hf58 := spUp g55 hf52
     have hf59 := spUp g55 hf53
     have hf60 := spUp g55 hf54
     refine d_v (v := v55) rfl rfl rfl (zaw (pv := [(0, .int .u8 ((at_ m.spots (at_ next t8)).tag))]) rfl r55) (.inl g55) <| zc7 (i := 8) (by decide +kernel) ?_
     intro wd61 gd61
     have S62 := S56.keep gd61
     have hf63 := spUp gd61 hf57
     have hf64 := spUp gd61 hf58
     have hf65 := spUp gd61 hf59
     have hf66 := spUp gd61 hf60
     obtain ⟨A68, c68, ev68, lc68, cm68⟩ := S62.row_val (j := 4) rfl
     obtain ⟨v69, w69, r69, g69, T69⟩ := zdg (kd := (Kd.int .u8)) (A := A68) (c := c68) (ys := ([(at_ m.spots (at_ next t8)).tag] : List Int)) (len := ([(at_ m.spots (at_ next t8)).tag] : List Int).length) 30 S62 u30 ty5 rfl rfl (j := 2) rfl rfl (zdv S62 (j := 4) rfl ev68) (by first|omega|(simp;omega)|assumption|simp) (by first|omega|(simp;omega)|assumption|simp)
     have S70 := T69.fx 2 (row 5 (Kd.int .u8) v69 (out ++ ([(at_ m.spots (at_ next t8)).tag] : List Int))) rfl
     dsimp only [lAa, lAn, lA0, lAs] at S70
     have hf71 : (CFs ⟨b1, 0, none⟩ [.slice A0_0 m.spots.length c0_0]).1 w69 := (CF.box (m := 1) (S70.box_at (j := 0) rfl) rfl)
     have hf72 : (CFs (ad36.add 4) [.int .u8 ((at_ m.spots (at_ next t8)).tag)]).1 w69 := (CF.ghost (sub_seg (o := 4) (m := 1) (ds := [.int .u8 ((at_ m.spots (at_ next t8)).tag)]) ce36 rfl) (St.le0 S70))
     have hf73 : (CFs ⟨b1, 2, none⟩ [.slice A0_2 m.follow.length c0_2]).1 w69 := (CF.box (m := 1) (S70.box_at (j := 0) rfl) rfl)
     have hf74 : (CFs ad38 [.slice A38 (at_ m.follow (at_ next t8)).length c38]).1 w69 := (CF.ghost ce38 (St.le0 S70))
     refine d_v (v := v69) rfl rfl rfl (zde rfl ev68 r69) (.inr (keep_v hf71 (keep_v hf72 (keep_v hf73 (keep_v hf74 trivial))))) <| qd0 (i := 14) (v := v69) rfl (by decide +kernel) rfl rfl (zae rfl) (zaf rfl) <| qd0 (i := 15) (v := .slice A38 (at_ m.follow (at_ next t8)).length c38) rfl (by decide +kernel) rfl rfl (zae rfl) (zaf rfl) <| zbw (by decide +kernel) ?_
     intro wd75 gd75
     have S76 := S70.keep gd75
     refine zaj <| zac (l := [0, 1]) rfl <| p_v (v := .int .i64 (t29 + 1)) rfl rfl rfl (zbv r22_29 rfl (zai (by first|omega|(simp;omega)|assumption|simp) (by first|omega|(simp;omega)|assumption|simp))) <| p_v (v := .int .i64 (t29 + 1)) rfl rfl rfl (zad rfl) <| zaa ?_
     refine ih22 (out ++ ([(at_ m.spots (at_ next t8)).tag] : List Int), at_ m.follow (at_ next t8), t29 + 1) _ _ (by dsimp only; omega) ⟨h28, v69, A38, c38, ((le22).trans le28), S76.sub [0, 1, 2] (by decide) rfl _ rfl, r22_2, r22_6, rfl, rfl, r22_28, rfl, (And.intro lc38 cm38), ld38, (zai (by first|omega|(simp;omega)|assumption|simp) (by first|omega|(simp;omega)|assumption|simp)), (by exact ⟨by omega, by omega, mrk_step hR_ hI22.2.2 hI22.1 (by omega) hI28.1 (by omega) hI28.2.2 (by assumption)⟩)⟩
    have hgt_ : zc1 m ((zay xw).drop t29.toNat) (at_ next t8) = false := by rw [← goodRow_at m _ (hx_ (by omega)).1 (hx_ (by omega)).2, ← hgr_]; exact hc33
    refine zao <| zaj <| zac (l := [0, 1]) rfl <| p_v (v := .int .i64 (t8 + 1)) rfl rfl rfl (zbv r28_8 rfl (zai (by first|omega|(simp;omega)|assumption|simp) (by first|omega|(simp;omega)|assumption|simp))) <| p_v (v := .int .i64 (t8 + 1)) rfl rfl rfl (zad rfl) <| zaa ?_
    refine ih28 (t8 + 1) _ _ (by dsimp only; omega) ⟨h28, le28, S28.sub [0, 1, 2, 3] (by decide) rfl _ rfl, r28_0, r28_1, r28_7, rfl, (zai (by first|omega|(simp;omega)|assumption|simp) (by first|omega|(simp;omega)|assumption|simp)), (by exact ⟨by omega, by omega, any_take_step hI28.1 (by omega) hI28.2.2 (by assumption)⟩)⟩
   refine za3 rfl <| zab <| zac (l := [0]) rfl <| p_v (v := .int .i64 (-1)) rfl rfl rfl (zae rfl) <| zaa <| zav Try.func26 (res1 rfl (zax (v := .int .i64 (-1)) rfl)) ?_
   refine ⟨_, rfl, ?_⟩
   refine p_v (v := .int .i64 (-1)) rfl rfl rfl (zae rfl) <| zaa <| zab <| zab <| zac (l := [0, 1]) rfl <| p_v (v := .int .i64 (-1)) rfl rfl rfl (zad rfl) <| p_v (v := .bool (decide ((-1) < 0))) rfl rfl rfl (zc2 rfl rfl) <| zaa ?_
   have hc77 : ((-1) < 0) := by
    omega
   refine zbh (b := true) (bT hc77) ?_
   simp only [if_true, if_false, Bool.false_eq_true]
   refine zab <| zac (l := [0, 1]) rfl <| p_v (v := .slice none 0 0) rfl rfl rfl (zae rfl) <| p_v (v := .bool false) rfl rfl rfl (zae rfl) <| zaa ?_
   have T78 := S28.row_nil 5 (Kd.int .u8)
   have S79 := T78
   dsimp only [lAa, lAn, lA0, lAs] at S79
   refine zav Try.func11 (res2 rfl (zax (v := .slice none 0 0) rfl) (zax (v := .bool false) rfl)) ?_
   have q0 : (zat m xw : List Int) = ([] : List Int) := by
    first | exact (zdn (by assumption)).1 | exact (zdn (by assumption)).2 | exact (zdm (by assumption)).1 | exact (zdm (by assumption)).2 | exact (zdl (by assumption) hz_ (mrk_no hI22.2.2 hI22.1 (by omega) (zbx (by omega) hI28.2.2))).1 | exact (zdl (by assumption) hz_ (mrk_no hI22.2.2 hI22.1 (by omega) (zbx (by omega) hI28.2.2))).2 | exact (zc9 (by assumption) hz_ (zdk hI22.2.2 (by omega))).1 | exact (zc9 (by assumption) hz_ (zdk hI22.2.2 (by omega))).2
   have q1 : (okMk m xw : Bool) = false := by
    first | exact (zdn (by assumption)).1 | exact (zdn (by assumption)).2 | exact (zdm (by assumption)).1 | exact (zdm (by assumption)).2 | exact (zdl (by assumption) hz_ (mrk_no hI22.2.2 hI22.1 (by omega) (zbx (by omega) hI28.2.2))).1 | exact (zdl (by assumption) hz_ (mrk_no hI22.2.2 hI22.1 (by omega) (zbx (by omega) hI28.2.2))).2 | exact (zc9 (by assumption) hz_ (zdk hI22.2.2 (by omega))).1 | exact (zc9 (by assumption) hz_ (zdk hI22.2.2 (by omega))).2
   refine ⟨_, rfl, h28, (.slice none 0 0), ?_, ?_⟩
   · rw [q0]; exact S79.sub [4] (by decide) rfl _ rfl
   · first | rfl | (simp only [q0, q1]; rfl) | (simp only [q0, q1])
  refine za3 rfl <| zab <| zac (l := [0, 1, 2]) rfl <| p_v (v := v_out) rfl rfl rfl (zad r22_7) <| p_v (v := v_out) rfl rfl rfl (zae rfl) <| p_v (v := .bool true) rfl rfl rfl (zae rfl) <| zaa <| zav Try.func11 (res2 rfl (zax (v := v_out) rfl) (zax (v := .bool true) rfl)) ?_
  have q0 : (zat m xw : List Int) = out := by
   first | exact (zdn (by assumption)).1 | exact (zdn (by assumption)).2 | exact (zdm (by assumption)).1 | exact (zdm (by assumption)).2 | exact (zdl (by assumption) hz_ (mrk_no hI22.2.2 hI22.1 (by omega) (zbx (by omega) hI28.2.2))).1 | exact (zdl (by assumption) hz_ (mrk_no hI22.2.2 hI22.1 (by omega) (zbx (by omega) hI28.2.2))).2 | exact (zc9 (by assumption) hz_ (zdk hI22.2.2 (by omega))).1 | exact (zc9 (by assumption) hz_ (zdk hI22.2.2 (by omega))).2
  have q1 : (okMk m xw : Bool) = true := by
   first | exact (zdn (by assumption)).1 | exact (zdn (by assumption)).2 | exact (zdm (by assumption)).1 | exact (zdm (by assumption)).2 | exact (zdl (by assumption) hz_ (mrk_no hI22.2.2 hI22.1 (by omega) (zbx (by omega) hI28.2.2))).1 | exact (zdl (by assumption) hz_ (mrk_no hI22.2.2 hI22.1 (by omega) (zbx (by omega) hI28.2.2))).2 | exact (zc9 (by assumption) hz_ (zdk hI22.2.2 (by omega))).1 | exact (zc9 (by assumption) hz_ (zdk hI22.2.2 (by omega))).2
  refine ⟨_, rfl, h22, v_out, ?_, ?_⟩
  · rw [q0]; exact S22.sub [2] (by decide) rfl _ rfl
  · first | rfl | (simp only [q0, q1]; rfl) | (simp only [q0, q1])
 refine zaz rfl (wo 3 15 rfl rfl (congrArg (fun z => Value.bool (!z)) hc5) rfl) rfl <| zaz rfl (wo 3 15 rfl rfl (congrArg (fun z => Value.bool (!z)) hc5) rfl) rfl <| p_v (v := .bool true) rfl rfl rfl (zbf (congrArg (fun z => Value.bool (!z)) hc5) rfl) <| zaa <| zbh (b := true) rfl ?_
 simp only [if_true, if_false, Bool.false_eq_true]
 refine zab <| zac (l := [0, 1, 2, 3, 4]) rfl <| p_v (v := .agg #[.slice A0_0 m.spots.length c0_0, .slice A0_1 m.first.length c0_1, .slice A0_2 m.follow.length c0_2, .slice A0_3 m.last.length c0_3, .bool m.empty]) rfl rfl rfl (zah (seg := [.slice A0_0 m.spots.length c0_0, .slice A0_1 m.first.length c0_1, .slice A0_2 m.follow.length c0_2, .slice A0_3 m.last.length c0_3, .bool m.empty]) ty27 rfl (by simp) rfl (CF.box (m := 5) (S4.box_at (j := 0) rfl) rfl)) <| p_v (v := .string xw) rfl rfl rfl (zad rfl) <| p_c rfl rfl rfl (zbd (args := [.agg #[.slice A0_0 m.spots.length c0_0, .slice A0_1 m.first.length c0_1, .slice A0_2 m.follow.length c0_2, .slice A0_3 m.last.length c0_3, .bool m.empty], .string xw]) ca20 rfl rfl) (runN_calls w3 m A0_0 c0_0 b0_0 (l0_0.mono (St.le0 S4)) A0_1 c0_1 b0_1 (l0_1.mono (St.le0 S4)) A0_2 c0_2 b0_2 (l0_2.mono (St.le0 S4)) A0_3 c0_3 b0_3 (l0_3.mono (St.le0 S4)) xw s1) ?_
 rintro _ w80 ⟨h80, T80, rfl⟩
 have S81 := S4.keep (Chg.of_below T80.below)
 refine p_v (v := .slice none 0 0) rfl rfl rfl (zae rfl) <| p_v (v := .bool (runM m xw)) rfl rfl rfl (zae rfl) <| zaa ?_
 have T83 := S81.row_nil 5 (Kd.int .u8)
 have S84 := T83
 dsimp only [lAa, lAn, lA0, lAs] at S84
 refine zav Try.func11 (res2 rfl (zax (v := .slice none 0 0) rfl) (zax (v := .bool (runM m xw)) rfl)) ?_
 have q0 : (zat m xw : List Int) = ([] : List Int) := by
  first | exact (zdn (by assumption)).1 | exact (zdn (by assumption)).2 | exact (zdm (by assumption)).1 | exact (zdm (by assumption)).2 | exact (zdl (by assumption) hz_ (mrk_no hI22.2.2 hI22.1 (by omega) (zbx (by omega) hI28.2.2))).1 | exact (zdl (by assumption) hz_ (mrk_no hI22.2.2 hI22.1 (by omega) (zbx (by omega) hI28.2.2))).2 | exact (zc9 (by assumption) hz_ (zdk hI22.2.2 (by omega))).1 | exact (zc9 (by assumption) hz_ (zdk hI22.2.2 (by omega))).2
 have q1 : (okMk m xw : Bool) = runM m xw := by
  first | exact (zdn (by assumption)).1 | exact (zdn (by assumption)).2 | exact (zdm (by assumption)).1 | exact (zdm (by assumption)).2 | exact (zdl (by assumption) hz_ (mrk_no hI22.2.2 hI22.1 (by omega) (zbx (by omega) hI28.2.2))).1 | exact (zdl (by assumption) hz_ (mrk_no hI22.2.2 hI22.1 (by omega) (zbx (by omega) hI28.2.2))).2 | exact (zc9 (by assumption) hz_ (zdk hI22.2.2 (by omega))).1 | exact (zc9 (by assumption) hz_ (zdk hI22.2.2 (by omega))).2
 refine ⟨_, rfl, (fun _ => none), (.slice none 0 0), ?_, ?_⟩
 · rw [q0]; exact S84.sub [1] (by decide) rfl _ rfl
 · first | rfl | (simp only [q0, q1]; rfl) | (simp only [q0, q1])
end Go.Proofs.Ytpdanfggijmnmaa
namespace Gx
open Go Go.RowKit
set_option linter.unusedSimpArgs false
set_option linter.unusedVariables false
set_option linter.unusedSectionVars false
def zcy (p : ParM) : List Value := [.bool p.ok, .string p.host, .string p.path]
theorem encPar_one (p : ParM) : ∀ u ∈ zcy p, u.oneCell' = true := by simp [zcy, Value.oneCell']
def okPar (p : ParM) : Prop := p.host.size ≤ maxLen ∧ p.path.size ≤ maxLen
instance : Inhabited ParM := ⟨⟨false, ⟨#[]⟩, ⟨#[]⟩⟩⟩
theorem okPar_zero : okPar (⟨false, ⟨#[]⟩, ⟨#[]⟩⟩ : ParM) := ⟨by decide, by decide⟩
section
variable {P : Program}
theorem eq_par {T A B : TypeId} {b1 b2 : Nat} {z1 z2 : Option Value} (hT : P.underlying T = some (.struct (P.fieldsOf T))) (hp : P.stoodInHeld T = false) (hn : ((P.fieldsOf T).toList.all fun f => f.name != "_") = true) (hL : ((P.fieldsOf T).toList.map fun f => (f.type, f.offset)) = [(A, 0), (B, 1), (B, 2)])
    (hA : P.underlying A = some .bool) (hB : P.underlying B = some .string) (tA : zbk P A = some (1, b1, false, z1)) (tB : zbk P B = some (1, b2, false, z2)) : EqK P T zcy okPar :=
  eq_struct hT hp hn hL fun w a b ha hb d => by
    have e : decide (a = b) = ((a.ok == b.ok) && ((a.host.toList == b.host.toList) && ((a.path.toList == b.path.toList) && true))) := by
      rw [bytes_eq, bytes_eq]
      obtain ⟨o, n, q⟩ := a; obtain ⟨o', n', q'⟩ := b
      rw [Bool.and_true, Bool.eq_iff_iff]; simp
    rw [e]
    exact eqF_cons (part_one (v := .bool a.ok) tA rfl) (part_one (v := .bool b.ok) tA rfl) (run_equalIn_bool w (d + 4) A _ _ hA) (eqF_cons (part_one (v := .string a.host) tB rfl) (part_one (v := .string b.host) tB rfl) (run_equalIn_string (w := w) (d + 4) B _ _ hB) (eqF_cons (part_one (v := .string a.path) tB rfl) (part_one (v := .string b.path) tB rfl) (run_equalIn_string (w := w) (d + 4) B _ _ hB) eqF_nil))
end
theorem run_no {m : Mach} {w : ByteArray} (h : okMk m w = false) : runPM m w = ⟨false, ⟨#[]⟩, ⟨#[]⟩⟩ := by unfold runPM; rw [h]; rfl
theorem run_yes {m : Mach} {w : ByteArray} {h p : List Int} {i : Int} (ho : okMk m w = true) (hi : i = (zat m w).length) (h1 : h = zdi 1 (zat m w) w i) (h2 : p = zdi 2 (zat m w) w i) : runPM m w = ⟨true, strOfNums h, strOfNums p⟩ := by
  unfold runPM; rw [ho, h1, h2, hi]; rfl
end Gx
namespace Go.Proofs.Ytpdanfggijmnmaa
open Go Go.RowKit Gx
set_option maxHeartbeats 3000000
set_option linter.unusedVariables false
set_option linter.unusedSimpArgs false
set_option maxRecDepth 8000
attribute [local irreducible] listOf zd0 first someIn has zb6 wbits Lib.ctz zc4 zbj rowOk tab markP intoP intoTo zcm zb7 zcr runTo endsIn endTo runM posTo mayP zb3 zb1 mayTo atP lastTo docAt anyTo allTo lfp trues zcw zcq gIn zc1 endL zc5 gRowTo zay markL marksO zat okMk pickL zdi runPM
theorem eqk35 : EqK Try.prog 35 zcy okPar := eq_par (A := 4) (B := 9) (by kernel_rfl) (by kernel_rfl) (by kernel_rfl) (by kernel_rfl) u4 u9 ty4 ty9
theorem runF_calls (w : World) (m : Mach) (A0_0 : Option Addr) (c0_0 : Nat) (b0_0 : m.spots.length ≤ c0_0 ∧ c0_0 ≤ maxLen) (l0_0 : zbe kSpot (hp w) A0_0 m.spots) (A0_1 : Option Addr) (c0_1 : Nat) (b0_1 : m.first.length ≤ c0_1 ∧ c0_1 ≤ maxLen) (l0_1 : zbe (Kd.int .i64) (hp w) A0_1 m.first) (A0_2 : Option Addr) (c0_2 : Nat) (b0_2 : m.follow.length ≤ c0_2 ∧ c0_2 ≤ maxLen) (l0_2 : zbe (Kd.int .i64).slice (hp w) A0_2 m.follow) (A0_3 : Option Addr) (c0_3 : Nat) (b0_3 : m.last.length ≤ c0_3 ∧ c0_3 ≤ maxLen) (l0_3 : zbe Kd.bool (hp w) A0_3 m.last) (xw : ByteArray) (s1 : xw.size ≤ maxLen) (pre0 : (xw.size : Int) ≤ 1000) :
    Calls Try.prog 14 #[.agg #[.slice A0_0 m.spots.length c0_0, .slice A0_1 m.first.length c0_1, .slice A0_2 m.follow.length c0_2, .slice A0_3 m.last.length c0_3, .bool m.empty], .string xw] w fun e w' => ∃ v, e = .returned v ∧ ∃ (hn : Ghost), St w.heap.size w hn w' [] ∧ v = .agg (zcy (runPM m xw)).toArray ∧ okPar (runPM m xw) := by
 refine zas Try.func14 rfl Try.ntmps14 rfl ?_
 have S0 := St.init w
 have bb0_0 := b0_0.1; have bc0_0 := b0_0.2; simp only [maxLen] at bc0_0
 have bb0_1 := b0_1.1; have bc0_1 := b0_1.2; simp only [maxLen] at bc0_1
 have bb0_2 := b0_2.1; have bc0_2 := b0_2.2; simp only [maxLen] at bc0_2
 have bb0_3 := b0_3.1; have bc0_3 := b0_3.2; simp only [maxLen] at bc0_3
 have sz1 := s1; simp only [maxLen] at sz1
 have hw_ := pre0; have hmk_ := marks_le m xw
 refine zab <| zac (l := [0, 1]) rfl ?_
 obtain ⟨b1, w1, r1, g1, T1⟩ := zc0 (P := Try.prog) S0 27 (v := .agg #[.slice A0_0 m.spots.length c0_0, .slice A0_1 m.first.length c0_1, .slice A0_2 m.follow.length c0_2, .slice A0_3 m.last.length c0_3, .bool m.empty]) [.slice A0_0 m.spots.length c0_0, .slice A0_1 m.first.length c0_1, .slice A0_2 m.follow.length c0_2, .slice A0_3 m.last.length c0_3, .bool m.empty] rfl
 have S2 := T1
 dsimp only [lAa, lAn, lA0, lAs] at S2
 refine p_v (v := .pointer (some ⟨b1, 0, none⟩)) rfl rfl rfl (x_box rfl r1) ?_
 obtain ⟨b3, w3, r3, g3, T3⟩ := zc0 (P := Try.prog) S2 35 (v := (.agg #[.bool false, .string ⟨#[]⟩, .string ⟨#[]⟩])) (zcy (⟨false, (⟨#[]⟩ : ByteArray), (⟨#[]⟩ : ByteArray)⟩ : ParM)) rfl
 have S4 := T3
 dsimp only [lAa, lAn, lA0, lAs] at S4
 refine p_v (v := .pointer (some ⟨b3, 0, none⟩)) rfl rfl rfl (zcs ty35 r3) <| zaa <| zab <| zac (l := [0, 1, 2, 3, 4, 5, 6, 7]) rfl <| p_v (v := .agg #[.slice A0_0 m.spots.length c0_0, .slice A0_1 m.first.length c0_1, .slice A0_2 m.follow.length c0_2, .slice A0_3 m.last.length c0_3, .bool m.empty]) rfl rfl rfl (zah (seg := [.slice A0_0 m.spots.length c0_0, .slice A0_1 m.first.length c0_1, .slice A0_2 m.follow.length c0_2, .slice A0_3 m.last.length c0_3, .bool m.empty]) ty27 rfl (by simp) rfl (CF.box (m := 5) (S4.box_at (j := 0) rfl) rfl)) <| p_v (v := .string xw) rfl rfl rfl (zad rfl) <| p_c rfl rfl rfl (zbd (args := [.agg #[.slice A0_0 m.spots.length c0_0, .slice A0_1 m.first.length c0_1, .slice A0_2 m.follow.length c0_2, .slice A0_3 m.last.length c0_3, .bool m.empty], .string xw]) ca11 rfl rfl) (marks_calls w3 m A0_0 c0_0 b0_0 (l0_0.mono (St.le0 S4)) A0_1 c0_1 b0_1 (l0_1.mono (St.le0 S4)) A0_2 c0_2 b0_2 (l0_2.mono (St.le0 S4)) A0_3 c0_3 b0_3 (l0_3.mono (St.le0 S4)) xw s1 (by first | assumption | omega | decide)) ?_
 rintro _ w5 ⟨h5, v5_0, T5, rfl⟩
 obtain ⟨k5, lk5, ll5, U5⟩ := zco S4 T5
 have S6 := U5
 dsimp only [lAa, lAn, lA0, lAs] at S6
 obtain ⟨h7, le7, T7, rp7⟩ := S6.freeze (i := 2) rfl
 have S8 := T7.fx 2 (emp) rfl
 dsimp only [lAa, lAn, lA0, lAs] at S8
 obtain ⟨A7, c7, e7, lc7, cm7, ld7⟩ := rp7
 injection e7 with e7 _; subst e7
 have cn7 := cm7; simp only [maxLen] at cn7
 refine p_v (v := .tuple #[.slice A7 (zat m xw).length c7, .bool (okMk m xw)]) rfl rfl rfl (zad rfl) <| p_v (v := .slice A7 (zat m xw).length c7) rfl rfl rfl (zcv (vs := [.slice A7 (zat m xw).length c7, .bool (okMk m xw)]) rfl rfl) <| p_v (v := .bool (okMk m xw)) rfl rfl rfl (zcv (vs := [.slice A7 (zat m xw).length c7, .bool (okMk m xw)]) rfl rfl) <| p_v (v := .slice A7 (zat m xw).length c7) rfl rfl rfl (zae rfl) <| p_v (v := .bool (okMk m xw)) rfl rfl rfl (zae rfl) <| zaa <| zab <| zab <| zac (l := [0, 1]) rfl <| p_v (v := .bool (okMk m xw)) rfl rfl rfl (zad rfl) <| p_v (v := .bool (!(okMk m xw))) rfl rfl rfl (x_not rfl) <| zaa ?_
 refine zby (b := okMk m xw) rfl (fun hc9 => ?_) (fun hc9 => ?_)
 ·skip
  refine zab <| zac (l := [0, 1]) rfl <| p_v (v := .agg (zcy (⟨false, (⟨#[]⟩ : ByteArray), (⟨#[]⟩ : ByteArray)⟩ : ParM)).toArray) rfl rfl rfl (y_build (pv := []) rfl (zb4 pl35 ty35 rfl (cs := (zcy (⟨false, (⟨#[]⟩ : ByteArray), (⟨#[]⟩ : ByteArray)⟩ : ParM))) rfl)) ?_
  obtain ⟨w10, r10, g10, T10⟩ := zb9 (P := Try.prog) (off := 0) (v := .agg (zcy (⟨false, (⟨#[]⟩ : ByteArray), (⟨#[]⟩ : ByteArray)⟩ : ParM)).toArray) (vs := (zcy (⟨false, (⟨#[]⟩ : ByteArray), (⟨#[]⟩ : ByteArray)⟩ : ParM))) S8 ty35 rfl rfl (j := 1) rfl (by first | decide | exact Nat.le_of_ble_eq_true rfl) (encPar_one _)
  have S11 : St w.heap.size w h7 w10 [box b1 27 [.slice A0_0 m.spots.length c0_0, .slice A0_1 m.first.length c0_1, .slice A0_2 m.follow.length c0_2, .slice A0_3 m.last.length c0_3, .bool m.empty], box b3 35 (zcy (⟨false, (⟨#[]⟩ : ByteArray), (⟨#[]⟩ : ByteArray)⟩ : ParM)), emp] := T10
  refine p_s rfl rfl (zbt rfl rfl r10) <| zaa <| zav Try.func14 (res1 rfl (res_cell S11 ty35 rfl (j := 1) rfl rfl (by simp) rfl)) ?_
  have q0 : (runPM m xw : ParM) = (⟨false, (⟨#[]⟩ : ByteArray), (⟨#[]⟩ : ByteArray)⟩ : ParM) := by
   first | exact run_no (by assumption) | exact run_yes (by assumption) (by omega) hI_.2.2.1 hI_.2.2.2
  refine ⟨_, rfl, h7, ?_, ?_, ?_⟩
  · exact S11.sub [] (by decide) rfl _ rfl
  · first | rfl | (simp only [q0]; rfl) | (simp only [q0])
  · rw [q0]; first | assumption | exact okPar_zero | exact ⟨by assumption, by assumption⟩ | exact ⟨by decide, by decide⟩ | (refine And.intro ?_ ?_ <;> dsimp only <;> first | assumption | exact (by assumption : okPar _).1 | exact (by assumption : okPar _).2)
 refine zao <| zab <| zac (l := [0, 1]) rfl <| p_v (v := .slice none 0 0) rfl rfl rfl (zae rfl) <| p_v (v := .slice none 0 0) rfl rfl rfl (zae rfl) <| zaa <| zab <| zab <| zac (l := [0, 1, 2]) rfl <| p_v (v := .slice A7 (zat m xw).length c7) rfl rfl rfl (zad rfl) <| p_v (v := .int .i64 ((zat m xw).length : Int)) rfl rfl rfl (zar u30 rfl) <| p_v (v := .int .i64 0) rfl rfl rfl (zad rfl) ?_
 refine zaa <| zam ?_
 have T12 := S8.row_nil 5 (Kd.int .u8)
 obtain ⟨vn12, ev12, T12⟩ : ∃ v, v = (.slice none 0 0 : Value) ∧ St w.heap.size w h7 w5 ([box b1 27 [.slice A0_0 m.spots.length c0_0, .slice A0_1 m.first.length c0_1, .slice A0_2 m.follow.length c0_2, .slice A0_3 m.last.length c0_3, .bool m.empty], box b3 35 (zcy (⟨false, (⟨#[]⟩ : ByteArray), (⟨#[]⟩ : ByteArray)⟩ : ParM)), emp] ++ [row 5 (Kd.int .u8) v []]) := ⟨_, rfl, T12⟩
 have S13 := T12
 dsimp only [lAa, lAn, lA0, lAs] at S13
 have T14 := S13.row_nil 5 (Kd.int .u8)
 obtain ⟨vn14, ev14, T14⟩ : ∃ v, v = (.slice none 0 0 : Value) ∧ St w.heap.size w h7 w5 ([box b1 27 [.slice A0_0 m.spots.length c0_0, .slice A0_1 m.first.length c0_1, .slice A0_2 m.follow.length c0_2, .slice A0_3 m.last.length c0_3, .bool m.empty], box b3 35 (zcy (⟨false, (⟨#[]⟩ : ByteArray), (⟨#[]⟩ : ByteArray)⟩ : ParM)), emp, row 5 (Kd.int .u8) vn12 ([] : List Int)] ++ [row 5 (Kd.int .u8) v []]) := ⟨_, rfl, T14⟩
 have S15 := T14
 dsimp only [lAa, lAn, lA0, lAs] at S15
 refine za8 (S := (List Int) × (List Int) × Int) (fun (q_ : (List Int) × (List Int) × Int) ρ w' => match q_ with | (host, path, t22) => ∃ (h : Ghost) (v_host : Value) (v_path : Value), Le h7 h ∧ St w.heap.size w h w' [box b3 35 (zcy (⟨false, (⟨#[]⟩ : ByteArray), (⟨#[]⟩ : ByteArray)⟩ : ParM)), row 5 (Kd.int .u8) v_host host, row 5 (Kd.int .u8) v_path path] ∧ ρ 1 = .string xw ∧ ρ 4 = .pointer (some ⟨b3, 0, none⟩) ∧ ρ 7 = v_host ∧ ρ 8 = v_path ∧ ρ 20 = .slice A7 (zat m xw).length c7 ∧ ρ 21 = .int .i64 ((zat m xw).length : Int) ∧ ρ 22 = .int .i64 t22 ∧ inK .i64 t22 ∧ (0 ≤ t22 ∧ t22 ≤ ((zat m xw).length : Int) ∧ host = zdi 1 (zat m xw) xw t22 ∧ path = zdi 2 (zat m xw) xw t22)) (fun q_ => match q_ with | (host, path, t22) => ((zat m xw).length - t22).toNat) (([] : List Int), ([] : List Int), 0) ⟨h7, vn12, vn14, Le.refl _, S15.sub [1, 3, 4] (by decide) rfl _ rfl, rfl, rfl, (ev12.symm), (ev14.symm), rfl, rfl, rfl, (zai (by first|omega|(simp;omega)|assumption|simp) (by first|omega|(simp;omega)|assumption|simp)), (by exact ⟨by omega, by omega, pick_0 _ _ _, pick_0 _ _ _⟩)⟩ ?_
 rintro ⟨host, path, t22⟩ ih16 ρ16 w16 ⟨h16, v_host, v_path, le16, S16, r16_1, r16_4, r16_7, r16_8, r16_20, r16_21, r16_22, f16_0, hI16⟩
 have lf16_0 := za1 f16_0; have hf16_0 := za2 f16_0
 have rl16_1 := S16.row_le (j := 1) rfl; simp only [maxLen] at rl16_1
 have rl16_2 := S16.row_le (j := 2) rfl; simp only [maxLen] at rl16_2
 have hho_ : (host.length : Int) ≤ t22 := by rw [hI16.2.2.1]; exact pickTo_len _ _ _ hI16.1
 have hpa_ : (path.length : Int) ≤ t22 := by rw [hI16.2.2.2]; exact pickTo_len _ _ _ hI16.1
 refine zab <| zac (l := [0]) rfl <| p_v (v := .bool (decide (t22 < ((zat m xw).length : Int)))) rfl rfl rfl (zc2 r16_22 r16_21) <| zaa <| zab ?_
 refine zal (p := t22 < ((zat m xw).length : Int)) rfl (fun hc17 => ?_) (fun hc17 => ?_)
 ·skip
  refine zao <| zab <| zam <| zab <| zac (l := [0, 1, 2, 3, 4]) rfl <| p_v (v := .int .i64 t22) rfl rfl rfl (zad r16_22) ?_
  obtain ⟨ad18, seg18, a18, rp18, ce18⟩ := zap (q := t22) (m := 1) ld7 rfl (by first|omega|(simp;omega)|assumption|simp) (by first|omega|(simp;omega)|assumption|simp)
  refine p_v (v := .pointer (some ad18)) rfl rfl rfl (zan u30 ty5 r16_20 r16_22 a18 (by first|omega|(simp;omega)|assumption|simp) (by first|omega|(simp;omega)|assumption|simp)) ?_
  obtain ⟨rfl, in18⟩ := rp18
  have lo18 := u8_lo in18; have hi18 := u8_hi in18
  refine p_v (v := .int .u8 (at_ (zat m xw) t22)) rfl rfl rfl (zah (seg := [.int .u8 (at_ (zat m xw) t22)]) ty5 rfl (by simp) rfl (CF.ghost ce18 (le16.trans S16.ghost))) <| p_v (v := .int .i64 t22) rfl rfl rfl (zae rfl) <| p_v (v := .int .u8 (at_ (zat m xw) t22)) rfl rfl rfl (zae rfl) <| zaa <| zab <| zac (l := [0]) rfl <| p_v (v := .int .u8 (at_ (zat m xw) t22)) rfl rfl rfl (zad rfl) <| zaa <| zam <| zab <| zac (l := [0, 1]) rfl <| p_v (v := .bool (decide ((at_ (zat m xw) t22) = 1))) rfl rfl rfl (x_eql rfl rfl) ?_
  refine p_v (v := .bool (decide ((at_ (zat m xw) t22) = 1))) rfl rfl rfl (zae rfl) <| zaa ?_
  refine zal (p := (at_ (zat m xw) t22) = 1) rfl (fun hc19 => ?_) (fun hc19 => ?_)
  ·skip
   refine zac (l := [0, 1, 2, 3, 4, 5, 6]) rfl <| p_v (v := v_host) rfl rfl rfl (zad r16_7) <| p_v (v := .string xw) rfl rfl rfl (zad r16_1) <| p_v (v := .int .i64 t22) rfl rfl rfl (zad rfl) ?_
   have by20 := byt_range xw t22
   refine p_v (v := .int .u8 (byt xw t22)) rfl rfl rfl (zdx u9 rfl rfl (by first|omega|(simp;omega)|assumption|simp) (by first|omega|(simp;omega)|assumption|simp)) ?_
   obtain ⟨v21, w21, r21, g21, T21⟩ := zbb (kd := (Kd.int .u8)) (xs := ([(byt xw t22)] : List Int)) (len := 1) [.int .u8 (byt xw t22)] S16 u30 ty5 rfl rfl rfl rfl rfl (zbm rfl zcb) [.int .u8 (byt xw t22)] (zbu.single (k := (Kd.int .u8)) (h := h16) (x := (byt xw t22)) (cs := [.int .u8 (byt xw t22)]) ⟨rfl, (in_u8 (by first|omega|(simp;omega)|assumption|simp) (by first|omega|(simp;omega)|assumption|simp))⟩) rfl
   have S22 := T21
   dsimp only [lAa, lAn, lA0, lAs] at S22
   refine p_v (v := v21) rfl rfl rfl (zaw (pv := [(0, .int .u8 (byt xw t22))]) rfl r21) ?_
   obtain ⟨A24, c24, ev24, lc24, cm24⟩ := S22.row_val (j := 3) rfl
   obtain ⟨v25, w25, r25, g25, T25⟩ := zdg (kd := (Kd.int .u8)) (A := A24) (c := c24) (ys := ([(byt xw t22)] : List Int)) (len := ([(byt xw t22)] : List Int).length) 30 S22 u30 ty5 rfl rfl (j := 1) rfl rfl (zdv S22 (j := 3) rfl ev24) (by first|omega|(simp;omega)|assumption|simp) (by first|omega|(simp;omega)|assumption|simp)
   have S26 := T25.fx 1 (row 5 (Kd.int .u8) v25 (host ++ ([(byt xw t22)] : List Int))) rfl
   dsimp only [lAa, lAn, lA0, lAs] at S26
   refine p_v (v := v25) rfl rfl rfl (zde rfl ev24 r25) <| p_v (v := v25) rfl rfl rfl (zae rfl) <| zaa <| zaj <| zaj <| zac (l := [0, 1]) rfl <| p_v (v := .int .i64 (t22 + 1)) rfl rfl rfl (zbv r16_22 rfl (zai (by first|omega|(simp;omega)|assumption|simp) (by first|omega|(simp;omega)|assumption|simp))) <| p_v (v := .int .i64 (t22 + 1)) rfl rfl rfl (zad rfl) <| zaa ?_
   refine ih16 (host ++ ([(byt xw t22)] : List Int), path, t22 + 1) _ _ (by dsimp only; omega) ⟨h16, v25, v_path, le16, S26.sub [0, 1, 2] (by decide) rfl _ rfl, r16_1, r16_4, rfl, r16_8, r16_20, r16_21, rfl, (zai (by first|omega|(simp;omega)|assumption|simp) (by first|omega|(simp;omega)|assumption|simp)), (by exact ⟨by omega, by omega, by rw [hI16.2.2.1]; first | exact pick_yes hI16.1 (by omega) (by omega) (by assumption) | exact pick_not hI16.1 (by omega) (by omega) (by omega), by rw [hI16.2.2.2]; first | exact pick_yes hI16.1 (by omega) (by omega) (by assumption) | exact pick_not hI16.1 (by omega) (by omega) (by omega)⟩)⟩
  refine zab <| zac (l := [0, 1]) rfl <| p_v (v := .bool (decide ((at_ (zat m xw) t22) = 2))) rfl rfl rfl (x_eql rfl rfl) <| p_v (v := .bool (decide ((at_ (zat m xw) t22) = 2))) rfl rfl rfl (zae rfl) <| zaa ?_
  refine zal (p := (at_ (zat m xw) t22) = 2) rfl (fun hc27 => ?_) (fun hc27 => ?_)
  ·skip
   refine zac (l := [0, 1, 2, 3, 4, 5, 6]) rfl <| p_v (v := v_path) rfl rfl rfl (zad r16_8) <| p_v (v := .string xw) rfl rfl rfl (zad r16_1) <| p_v (v := .int .i64 t22) rfl rfl rfl (zad rfl) ?_
   have by28 := byt_range xw t22
   refine p_v (v := .int .u8 (byt xw t22)) rfl rfl rfl (zdx u9 rfl rfl (by first|omega|(simp;omega)|assumption|simp) (by first|omega|(simp;omega)|assumption|simp)) ?_
   obtain ⟨v29, w29, r29, g29, T29⟩ := zbb (kd := (Kd.int .u8)) (xs := ([(byt xw t22)] : List Int)) (len := 1) [.int .u8 (byt xw t22)] S16 u30 ty5 rfl rfl rfl rfl rfl (zbm rfl zcb) [.int .u8 (byt xw t22)] (zbu.single (k := (Kd.int .u8)) (h := h16) (x := (byt xw t22)) (cs := [.int .u8 (byt xw t22)]) ⟨rfl, (in_u8 (by first|omega|(simp;omega)|assumption|simp) (by first|omega|(simp;omega)|assumption|simp))⟩) rfl
   have S30 := T29
   dsimp only [lAa, lAn, lA0, lAs] at S30
   refine p_v (v := v29) rfl rfl rfl (zaw (pv := [(0, .int .u8 (byt xw t22))]) rfl r29) ?_
   obtain ⟨A32, c32, ev32, lc32, cm32⟩ := S30.row_val (j := 3) rfl
   obtain ⟨v33, w33, r33, g33, T33⟩ := zdg (kd := (Kd.int .u8)) (A := A32) (c := c32) (ys := ([(byt xw t22)] : List Int)) (len := ([(byt xw t22)] : List Int).length) 30 S30 u30 ty5 rfl rfl (j := 2) rfl rfl (zdv S30 (j := 3) rfl ev32) (by first|omega|(simp;omega)|assumption|simp) (by first|omega|(simp;omega)|assumption|simp)
   have S34 := T33.fx 2 (row 5 (Kd.int .u8) v33 (path ++ ([(byt xw t22)] : List Int))) rfl
   dsimp only [lAa, lAn, lA0, lAs] at S34
   refine p_v (v := v33) rfl rfl rfl (zde rfl ev32 r33) <| p_v (v := v33) rfl rfl rfl (zae rfl) <| zaa <| zaj <| zaj <| zac (l := [0, 1]) rfl <| p_v (v := .int .i64 (t22 + 1)) rfl rfl rfl (zbv r16_22 rfl (zai (by first|omega|(simp;omega)|assumption|simp) (by first|omega|(simp;omega)|assumption|simp))) <| p_v (v := .int .i64 (t22 + 1)) rfl rfl rfl (zad rfl) <| zaa ?_
   refine ih16 (host, path ++ ([(byt xw t22)] : List Int), t22 + 1) _ _ (by dsimp only; omega) ⟨h16, v_host, v33, le16, S34.sub [0, 1, 2] (by decide) rfl _ rfl, r16_1, r16_4, r16_7, rfl, r16_20, r16_21, rfl, (zai (by first|omega|(simp;omega)|assumption|simp) (by first|omega|(simp;omega)|assumption|simp)), (by exact ⟨by omega, by omega, by rw [hI16.2.2.1]; first | exact pick_yes hI16.1 (by omega) (by omega) (by assumption) | exact pick_not hI16.1 (by omega) (by omega) (by omega), by rw [hI16.2.2.2]; first | exact pick_yes hI16.1 (by omega) (by omega) (by assumption) | exact pick_not hI16.1 (by omega) (by omega) (by omega)⟩)⟩
  refine zao <| zaj <| zaj <| zac (l := [0, 1]) rfl <| p_v (v := .int .i64 (t22 + 1)) rfl rfl rfl (zbv r16_22 rfl (zai (by first|omega|(simp;omega)|assumption|simp) (by first|omega|(simp;omega)|assumption|simp))) <| p_v (v := .int .i64 (t22 + 1)) rfl rfl rfl (zad rfl) <| zaa ?_
  refine ih16 (host, path, t22 + 1) _ _ (by dsimp only; omega) ⟨h16, v_host, v_path, le16, S16.sub [0, 1, 2] (by decide) rfl _ rfl, r16_1, r16_4, r16_7, r16_8, r16_20, r16_21, rfl, (zai (by first|omega|(simp;omega)|assumption|simp) (by first|omega|(simp;omega)|assumption|simp)), (by exact ⟨by omega, by omega, by rw [hI16.2.2.1]; first | exact pick_yes hI16.1 (by omega) (by omega) (by assumption) | exact pick_not hI16.1 (by omega) (by omega) (by omega), by rw [hI16.2.2.2]; first | exact pick_yes hI16.1 (by omega) (by omega) (by assumption) | exact pick_not hI16.1 (by omega) (by omega) (by omega)⟩)⟩
 refine za3 rfl <| zab <| zac (l := [0, 1, 2, 3, 4, 5]) rfl <| p_v (v := v_host) rfl rfl rfl (zad r16_7) ?_
 obtain ⟨A35, c35, ev35, lc35, cm35⟩ := S16.row_val (j := 1) rfl
 have sz36 := str_small (xs := host) (Nat.le_trans (And.intro lc35 cm35).1 (And.intro lc35 cm35).2); have bdsz36 := sz36; simp only [maxLen] at bdsz36
 refine p_v (v := .string (strOfNums host)) rfl rfl rfl (x_bytes_string u30 u5 u9 ev35 (zb8 S16 (j := 1) rfl ev35)) <| p_v (v := v_path) rfl rfl rfl (zad r16_8) ?_
 obtain ⟨A37, c37, ev37, lc37, cm37⟩ := S16.row_val (j := 2) rfl
 have sz38 := str_small (xs := path) (Nat.le_trans (And.intro lc37 cm37).1 (And.intro lc37 cm37).2); have bdsz38 := sz38; simp only [maxLen] at bdsz38
 refine p_v (v := .string (strOfNums path)) rfl rfl rfl (x_bytes_string u30 u5 u9 ev37 (zb8 S16 (j := 2) rfl ev37)) <| p_v (v := .agg (zcy (⟨true, (strOfNums host), (strOfNums path)⟩ : ParM)).toArray) rfl rfl rfl (y_build (pv := [(0, .bool true), (1, .string (strOfNums host)), (2, .string (strOfNums path))]) rfl (zb4 pl35 ty35 rfl (cs := (zcy (⟨true, (strOfNums host), (strOfNums path)⟩ : ParM))) rfl)) ?_
 obtain ⟨w39, r39, g39, T39⟩ := zb9 (P := Try.prog) (off := 0) (v := .agg (zcy (⟨true, (strOfNums host), (strOfNums path)⟩ : ParM)).toArray) (vs := (zcy (⟨true, (strOfNums host), (strOfNums path)⟩ : ParM))) S16 ty35 rfl rfl (j := 0) rfl (by first | decide | exact Nat.le_of_ble_eq_true rfl) (encPar_one _)
 have S40 := T39.fx 0 (box b3 35 (zcy (⟨true, (strOfNums host), (strOfNums path)⟩ : ParM))) rfl
 dsimp only [lAa, lAn, lA0, lAs] at S40
 refine p_s rfl rfl (zbt r16_4 rfl r39) <| zaa <| zav Try.func14 (res1 rfl (res_cell S40 ty35 r16_4 (j := 0) rfl rfl (by simp) rfl)) ?_
 have q0 : (runPM m xw : ParM) = (⟨true, (strOfNums host), (strOfNums path)⟩ : ParM) := by
  first | exact run_no (by assumption) | exact run_yes (by assumption) (by omega) hI16.2.2.1 hI16.2.2.2
 refine ⟨_, rfl, h16, ?_, ?_, ?_⟩
 · exact S40.sub [] (by decide) rfl _ rfl
 · first | rfl | (simp only [q0]; rfl) | (simp only [q0])
 · rw [q0]; first | assumption | exact okPar_zero | exact ⟨by assumption, by assumption⟩ | exact ⟨by decide, by decide⟩ | (refine And.intro ?_ ?_ <;> dsimp only <;> first | assumption | exact (by assumption : okPar _).1 | exact (by assumption : okPar _).2)
end Go.Proofs.Ytpdanfggijmnmaa
namespace Gx
open Go Go.RowKit
set_option linter.unusedSimpArgs false
set_option linter.unusedVariables false
set_option linter.unusedSectionVars false
section
variable {base : Nat} {w0 w : World} {h : Ghost} {L : List Asrt}
theorem St.splitE {ι : Type} (S : St base w0 h w L) {j : Nat} {A : Asrt} {A1 A2 : ι → Asrt} (hj : L[j]? = some A)
    (hm : ∀ F, A.holds h w F → ∃ z F1 F2, (A1 z).holds h w F1 ∧ (A2 z).holds h w F2 ∧ (∀ b, F1 b → F b) ∧ (∀ b, F2 b → F b) ∧ ∀ b, F1 b → ¬ F2 b) : ∃ z, St base w0 h w (L.set j (A1 z) ++ [A2 z]) := by
  obtain ⟨Fs, hF, hD⟩ := S.sep
  obtain ⟨hA, hU⟩ := hF j A hj
  obtain ⟨z, F1, F2, h1, h2, s1, s2, hd⟩ := hm _ hA
  have hl : j < L.length := (List.getElem?_eq_some_iff.1 hj).1
  refine ⟨z, S.below, S.bsz, S.ghost, S.dom, fun i => if i = L.length then F2 else if i = j then F1 else Fs i, fun i B hi => ?_, fun i m hi hm' him b hb1 hb2 => ?_⟩
  · by_cases hil : i = L.length
    · subst hil
      rw [List.getElem?_append_right (by simp)] at hi
      simp at hi
      subst hi
      simp only [if_true]
      exact ⟨h2, fun b hb => hU b (s2 b hb)⟩
    · simp only [if_neg hil]
      have hlt : i < L.length := by
        have := (List.getElem?_eq_some_iff.1 hi).1
        simp at this; omega
      rw [List.getElem?_append_left (by simpa using hlt)] at hi
      by_cases hij : i = j
      · subst hij
        rw [List.getElem?_set_self hl] at hi
        injection hi with hi
        subst hi
        simp only [if_true]
        exact ⟨h1, fun b hb => hU b (s1 b hb)⟩
      · rw [List.getElem?_set_ne (fun e => hij e.symm)] at hi
        simp only [if_neg hij]
        exact hF i B hi
  · simp only [List.length_append, List.length_set, List.length_cons, List.length_nil] at hi hm'
    have old : ∀ i, i < L.length → i ≠ j → ∀ b, Fs j b → ¬ Fs i b := fun i hi hij b hb hb' => hD j i hl hi (fun e => hij e.symm) b hb hb'
    by_cases e1 : i = L.length <;> by_cases e2 : m = L.length
    · omega
    · simp only [if_pos e1] at hb1; simp only [if_neg e2] at hb2
      by_cases e3 : m = j
      · simp only [if_pos e3] at hb2; exact hd b hb2 hb1
      · simp only [if_neg e3] at hb2; exact old m (by omega) e3 b (s2 b hb1) hb2
    · simp only [if_neg e1] at hb1; simp only [if_pos e2] at hb2
      by_cases e3 : i = j
      · simp only [if_pos e3] at hb1; exact hd b hb1 hb2
      · simp only [if_neg e3] at hb1; exact old i (by omega) e3 b (s2 b hb2) hb1
    · simp only [if_neg e1] at hb1; simp only [if_neg e2] at hb2
      by_cases e3 : i = j
      · simp only [if_pos e3] at hb1
        have e4 : m ≠ j := fun e => him (by rw [e3, e])
        simp only [if_neg e4] at hb2
        exact old m (by omega) e4 b (s1 b hb1) hb2
      · simp only [if_neg e3] at hb1
        by_cases e4 : m = j
        · simp only [if_pos e4] at hb2; exact old i (by omega) e3 b (s1 b hb2) hb1
        · simp only [if_neg e4] at hb2; exact hD i m (by omega) (by omega) him b hb1 hb2
end
section
variable {α β : Type} [DecidableEq α]
def zbg (k : α) : List (α × β) → Nat
  | [] => 0
  | p :: r => if k = p.1 then 0 else zbg k r + 1
theorem lookAt_pos (k : α) : ∀ (l : List (α × β)) (i : Nat), zbz k l i = (l[zbg k l]?).map fun p => (i + zbg k l, p.2)
  | [], i => rfl
  | p :: r, i => by
    unfold zbz zbg
    by_cases e : k = p.1
    · rw [if_pos e, if_pos e]; rfl
    · rw [if_neg e, if_neg e, lookAt_pos k r (i + 1), List.getElem?_cons_succ]
      congr 1; funext q; rw [show i + 1 + zbg k r = i + (zbg k r + 1) by omega]
theorem pos_key (k : α) : ∀ (l : List (α × β)) (p : α × β), l[zbg k l]? = some p → p.1 = k
  | [], p, h => by cases h
  | q :: r, p, h => by
    unfold zbg at h
    by_cases e : k = q.1
    · rw [if_pos e] at h; injection h with h; rw [← h, e]
    · rw [if_neg e, List.getElem?_cons_succ] at h; exact pos_key k r p h
theorem pos_map {γ : Type} (k : α) : ∀ (l : List (α × β)) (l2 : List (α × γ)), l.map (·.1) = l2.map (·.1) → zbg k l = zbg k l2
  | [], [], _ => rfl
  | [], _ :: _, h => by cases h
  | _ :: _, [], h => by cases h
  | p :: r, q :: s, h => by
    injection h with h1 h2
    have h1' : p.1 = q.1 := h1
    unfold zbg
    rw [h1', pos_map k r s h2]
theorem pos_le (k : α) : ∀ (l : List (α × β)), zbg k l ≤ l.length
  | [] => Nat.le_refl _
  | p :: r => by
    have := pos_le k r
    unfold zbg; split <;> simp <;> omega
theorem valAt_pos (k : α) (l : List (α × β)) : zbc k l = (l[zbg k l]?).map (·.2) := by
  unfold zbc; rw [lookAt_pos]; cases l[zbg k l]? <;> rfl
theorem putAt_pos (k : α) (v : β) (l : List (α × β)) : zcz k v l = if zbg k l < l.length then l.set (zbg k l) (k, v) else l ++ [(k, v)] := by
  unfold zcz; rw [lookAt_pos]
  by_cases h : zbg k l < l.length
  · rw [if_pos h, List.getElem?_eq_getElem h]; simp
  · rw [if_neg h, List.getElem?_eq_none (by omega)]; rfl
def zcx (k : α) (d : β) (l : List (α × β)) : List (α × β) := if zbg k l < l.length then l else l ++ [(k, d)]
theorem posAt_app (k : α) (d : β) : ∀ (l : List (α × β)), zbg k l = l.length → zbg k (l ++ [(k, d)]) = l.length
  | [], _ => by simp [zbg]
  | p :: r, h => by
    have h2 := h
    unfold zbg at h2
    by_cases e : k = p.1
    · rw [if_pos e] at h2; simp at h2
    · rw [if_neg e] at h2
      show (if k = p.1 then 0 else zbg k (r ++ [(k, d)]) + 1) = _
      rw [if_neg e, posAt_app k d r (by simpa using h2)]; rfl
theorem ent_lt (k : α) (d : β) (l : List (α × β)) : zbg k (zcx k d l) < (zcx k d l).length := by
  unfold zcx
  by_cases h : zbg k l < l.length
  · rw [if_pos h]; exact h
  · rw [if_neg h, posAt_app k d l (by have := pos_le k l; omega)]; simp
theorem ent_val (k : α) (d : β) (l : List (α × β)) : zbc k (zcx k d l) = some ((zbc k l).getD d) := by
  rw [valAt_pos, valAt_pos]
  unfold zcx
  by_cases h : zbg k l < l.length
  · rw [if_pos h, List.getElem?_eq_getElem h]; rfl
  · have hp := posAt_app k d l (by have := pos_le k l; omega)
    have hn : l[zbg k l]? = none := List.getElem?_eq_none (by omega)
    have hs : (l ++ [(k, d)])[l.length]? = some (k, d) := by simp
    rw [if_neg h, hp, hs, hn]; rfl
theorem lookp_none {k : α} {l : List (α × β)} (h : zbz k l 0 = none) : ¬ zbg k l < l.length := fun hlt => by
  rw [lookAt_pos, List.getElem?_eq_getElem hlt] at h; cases h
theorem lookp_some {k : α} {l : List (α × β)} {p : Nat × β} (h : zbz k l 0 = some p) : zbg k l < l.length ∧ p.1 = zbg k l ∧ l[zbg k l]? = some (k, p.2) := by
  rw [lookAt_pos] at h
  cases hq : l[zbg k l]? with
  | none => rw [hq] at h; cases h
  | some q =>
    rw [hq] at h
    have hk := pos_key k l q hq
    simp only [Option.map_some, Option.some.injEq] at h
    subst h
    refine ⟨(List.getElem?_eq_some_iff.1 hq).1, by simp, ?_⟩
    rw [← hk]
theorem put_ent (k : α) (d v : β) (l : List (α × β)) : zcz k v (zcx k d l) = zcz k v l := by
  rw [putAt_pos, if_pos (ent_lt k d l), putAt_pos]
  unfold zcx
  by_cases h : zbg k l < l.length
  · rw [if_pos h, if_pos h]
  · have hp := posAt_app k d l (by have := pos_le k l; omega)
    rw [if_neg h, if_neg h, hp, List.set_append_right _ _ (Nat.le_refl _)]; simp
end
section
variable {α β : Type} [DecidableEq α] {P : Program} {kt : TypeId} {ke : α → Value} {ve : β → Value} {w : World} {base : Nat} {w0 : World} {h : Ghost} {L : List Asrt}
def ament (ke : α → Value) (ve : β → Value) (b : Nat) (kvs : List (α × β)) (k : α) (s : Int) : Asrt where
  holds := fun _ w F => (∃ es clock, w.heap[b]? = some (.map es clock) ∧ es.toList.map (fun e => (e.key, e.val)) = zc8 ke ve kvs ∧ Born es clock ∧ ((es[zbg k kvs]?).map fun e => (e.born : Int)) = some s) ∧ F b
  mono := fun _ h => h
  far := fun hf h => ⟨by rw [hf b h.2]; exact h.1, h.2⟩
theorem born_val {es : Array MapEntry} {clock i : Nat} {v : Value} (h : Born es clock) : Born (es.modify i fun e => { e with val := v }) clock := by
  have e : (es.modify i fun e => { e with val := v }).toList.map (·.born) = es.toList.map (·.born) := by
    apply List.ext_getElem?
    intro q
    simp only [List.getElem?_map]
    rw [Array.getElem?_toList, Array.getElem?_modify, Array.getElem?_toList]
    by_cases hq : i = q
    · subst hq; cases es[i]? <;> simp
    · simp [hq]
  refine ⟨fun x hx => ?_, by rw [e]; exact h.2⟩
  have h2 : x.born ∈ es.toList.map (·.born) := by rw [← e]; exact List.mem_map.2 ⟨x, hx, rfl⟩
  obtain ⟨y, hy, hxy⟩ := List.mem_map.1 h2
  rw [← hxy]; exact h.1 y hy
theorem born_key {es : Array MapEntry} {clock i : Nat} {k : Value} (h : Born es clock) : Born (es.modify i fun e => { e with key := k }) clock := by
  have e : (es.modify i fun e => { e with key := k }).toList.map (·.born) = es.toList.map (·.born) := by
    apply List.ext_getElem?
    intro q
    simp only [List.getElem?_map]
    rw [Array.getElem?_toList, Array.getElem?_modify, Array.getElem?_toList]
    by_cases hq : i = q
    · subst hq; cases es[i]? <;> simp
    · simp [hq]
  refine ⟨fun x hx => ?_, by rw [e]; exact h.2⟩
  have h2 : x.born ∈ es.toList.map (·.born) := by rw [← e]; exact List.mem_map.2 ⟨x, hx, rfl⟩
  obtain ⟨y, hy, hxy⟩ := List.mem_map.1 h2
  rw [← hxy]; exact h.1 y hy
theorem e_mapEntry {j b : Nat} {T et : TypeId} {kvs : List (α × β)} (K : KeyK P kt ke) (S : St base w0 h w L) (hj : L[j]? = some (amap ke ve b kvs)) (hT : P.underlying T = some (.map kt et)) {z : Value} (hz : (zeroValue et).run P w = .ok z w) (d : β) (k : α) (hd : ve d = z := by rfl) :
    ∃ (s : Nat) (w' : World), (Instr.mapEntry T (.map (some b)) (ke k)).run P w = .ok (.tuple #[ve ((zbc k kvs).getD d), .int .i64 (s : Int)]) w' ∧ Chg w w' (fun q => q = b) ∧ St base w0 h w' (L.set j (ament ke ve b (zcx k d kvs) k (s : Int))) := by
  obtain ⟨es, clock, hb, hes, hbn⟩ := S.map_born hj
  have hg : (getObj b).run P w = .ok (.map es clock) w := by simp [getObj, Sem.run, hb]
  have hlt : b < w.heap.size := (Array.getElem?_eq_some_iff.1 hb).1
  have fin : ∀ es' clock' (s : Nat), es'.toList.map (fun e => (e.key, e.val)) = zc8 ke ve (zcx k d kvs) → Born es' clock' → ((es'[zbg k (zcx k d kvs)]?).map fun e => (e.born : Int)) = some (s : Int) → St base w0 h (zc6 w b (.map es' clock')) (L.set j (ament ke ve b (zcx k d kvs) k (s : Int))) := fun es' clock' s he hbn' hs =>
    S.upd hj fun F hF _ => ⟨(zcp w b _).mono (fun q hq => by subst hq; exact hF.2), F, ⟨⟨es', clock', setBlock_at hlt _, he, hbn', hs⟩, hF.2⟩, fun q hq => .inl hq⟩
  have hlen : es.size = kvs.length := by
    have := congrArg List.length hes
    simpa [zc8] using this
  cases hl : zbz k kvs 0 with
  | none =>
    have hp := lookp_none hl
    have hle := pos_le k kvs
    have he : zcx k d kvs = kvs ++ [(k, d)] := by unfold zcx; rw [if_neg hp]
    have hpos : zbg k (zcx k d kvs) = kvs.length := by rw [he]; exact posAt_app k d kvs (by omega)
    have hv : zbc k kvs = none := by unfold zbc; rw [hl]; rfl
    refine ⟨clock, _, ?_, zcp w b _, fin (es.push { key := ke k, val := z, born := clock }) (clock + 1) clock ?_ (born_push hbn) ?_⟩
    · rw [hv]
      simp [Instr.mapEntry, Sem.run_bind, run_underlying hT, Result.andThen_ok, hg, K.chk, run_findKey K k hes, hl, put2, MapKept.run_setObj_map _ hb, zc6, hz, hd, goInt]
    · rw [he]
      simp [zc8, Array.toList_push] at hes ⊢
      exact ⟨hes, hd.symm⟩
    · rw [hpos, ← hlen]; simp
  | some p =>
    obtain ⟨hp1, hp2, hget⟩ := lookp_some hl
    obtain ⟨i, u⟩ := p
    simp only at hp2 hget
    have he : zcx k d kvs = kvs := by unfold zcx; rw [if_pos hp1]
    have hei : (es.toList.map (fun e => (e.key, e.val)))[i]? = some (ke k, ve u) := by rw [hes, hp2]; simp [zc8, hget]
    rw [List.getElem?_map, Option.map_eq_some_iff] at hei
    obtain ⟨e, he1, he2⟩ := hei
    simp only [Prod.mk.injEq] at he2
    have he3 : es[i]? = some e := by rw [← Array.getElem?_toList]; exact he1
    have hstay : (Instr.keyThatStays (ke k) (ke k)).run P w = .ok (ke k) w := by
      simp only [Instr.keyThatStays, K.same, if_true]
      rfl
    have hv : zbc k kvs = some u := by unfold zbc; rw [hl]; rfl
    refine ⟨e.born, _, ?_, zcp w b _, fin (es.modify i fun e => { e with key := ke k }) clock e.born ?_ (by have := born_modify (i := i) (k := ke k) (v := ve u) hbn; exact born_key hbn) ?_⟩
    · rw [hv]
      simp [Instr.mapEntry, Sem.run_bind, run_underlying hT, Result.andThen_ok, hg, K.chk, run_findKey K k hes, hl, put2, he3, he2.1, hstay, MapKept.run_setObj_map _ hb, zc6, goInt]
    · rw [he]
      apply List.ext_getElem?
      intro q
      have hq := congrArg (fun l : List (Value × Value) => l[q]?) hes
      simp only [zc8, List.getElem?_map] at hq ⊢
      rw [Array.getElem?_toList, Array.getElem?_modify]
      rw [Array.getElem?_toList] at hq
      by_cases hqi : i = q
      · subst hqi
        rw [he3] at hq ⊢
        simp [he2.1] at hq ⊢
        exact hq
      · simp only [hqi, if_false]; exact hq
    · rw [he, ← hp2, Array.getElem?_modify]
      simp [he3]
theorem e_entryStore {j b : Nat} {T : TypeId} {kvs : List (α × β)} {k : α} {s : Int} (S : St base w0 h w L) (hj : L[j]? = some (ament ke ve b kvs k s)) (v : β) (hk : zbg k kvs < kvs.length) :
    ∃ w', (Instr.entryStore T (.map (some b)) (.int .i64 s) (ve v)).run P w = .ok () w' ∧ Chg w w' (fun q => q = b) ∧ St base w0 h w' (L.set j (amap ke ve b (zcz k v kvs))) := by
  obtain ⟨Fs, hF, _⟩ := S.sep
  obtain ⟨⟨es, clock, hb, hes, hbn, hst⟩, _⟩ := (hF j _ hj).1
  have hg : (getObj b).run P w = .ok (.map es clock) w := by simp [getObj, Sem.run, hb]
  have hlt : b < w.heap.size := (Array.getElem?_eq_some_iff.1 hb).1
  have hget : kvs[zbg k kvs]? = some kvs[zbg k kvs] := List.getElem?_eq_getElem hk
  have hkey := pos_key k kvs _ hget
  cases he3 : es[zbg k kvs]? with
  | none => rw [he3] at hst; cases hst
  | some e =>
    rw [he3] at hst
    simp only [Option.map_some, Option.some.injEq] at hst
    have hfind : es.findIdx? (fun x => (x.born : Int) == s) = some (zbg k kvs) := by
      obtain ⟨hi, hie⟩ := Array.getElem?_eq_some_iff.1 he3
      rw [Array.findIdx?_eq_some_iff_getElem]
      refine ⟨hi, by rw [hie]; simpa using hst, fun q hq => ?_⟩
      simp only [beq_iff_eq]
      intro hc
      have hnd := hbn.2
      have h1 : (es.toList.map (·.born))[q]? = some e.born := by
        rw [List.getElem?_map, Array.getElem?_toList, Array.getElem?_eq_getElem (by omega)]
        simp; omega
      have h2 : (es.toList.map (·.born))[zbg k kvs]? = some e.born := by
        rw [List.getElem?_map, Array.getElem?_toList, he3]; rfl
      have hl1 : q < (es.toList.map (·.born)).length := (List.getElem?_eq_some_iff.1 h1).1
      have := (List.getElem?_inj hl1 hnd).1 (h1.trans h2.symm)
      omega
    refine ⟨_, ?_, zcp w b _, S.upd hj fun F hF' _ => ⟨(zcp w b _).mono (fun q hq => by subst hq; exact hF'.2), F, ⟨⟨es.modify (zbg k kvs) fun x => { x with val := ve v }, clock, setBlock_at hlt _, ?_, ?_⟩, hF'.2⟩, fun q hq => .inl hq⟩⟩
    · simp [Instr.entryStore, Sem.run_bind, Result.andThen_ok, hg, asInt, asIntOf, hfind, MapKept.run_setObj_map _ hb, zc6]
    · rw [putAt_pos, if_pos hk]
      apply List.ext_getElem?
      intro q
      have hq := congrArg (fun l : List (Value × Value) => l[q]?) hes
      simp only [zc8, List.getElem?_map] at hq ⊢
      rw [List.getElem?_set, Array.getElem?_toList, Array.getElem?_modify]
      rw [Array.getElem?_toList] at hq
      by_cases hqi : zbg k kvs = q
      · subst hqi
        rw [he3, hget] at hq
        rw [he3]
        simp at hq
        simp [hk, hq.1, hkey]
      · simp only [hqi, if_false]; exact hq
    · exact born_val hbn
end
end Gx
namespace Gx
open Go Go.RowKit
set_option linter.unusedSimpArgs false
set_option linter.unusedVariables false
set_option linter.unusedSectionVars false
section
variable {α β : Type} [DecidableEq α]
theorem ent_keys {γ : Type} {k : α} {d : β} {e : γ} {l : List (α × β)} {l2 : List (α × γ)} (h : l.map (·.1) = l2.map (·.1)) : (zcx k d l).map (·.1) = (zcx k e l2).map (·.1) := by
  have hl : l.length = l2.length := by simpa using congrArg List.length h
  unfold zcx
  rw [pos_map k l l2 h, hl]
  by_cases hp : zbg k l2 < l2.length
  · rw [if_pos hp, if_pos hp]; exact h
  · rw [if_neg hp, if_neg hp, List.map_append, List.map_append, h]; rfl
theorem ent_vals (k : α) (d : β) (l : List (α × β)) : (zcx k d l).map (·.2) = if zbg k l < l.length then l.map (·.2) else l.map (·.2) ++ [d] := by
  unfold zcx; split <;> simp
theorem put_keys {γ : Type} {k : α} {d : β} {e : γ} {l : List (α × β)} {l2 : List (α × γ)} (h : l.map (·.1) = l2.map (·.1)) : (zcz k d l).map (·.1) = (zcz k e l2).map (·.1) := by
  have hl : l.length = l2.length := by simpa using congrArg List.length h
  rw [putAt_pos, putAt_pos, pos_map k l l2 h, hl]
  by_cases hp : zbg k l2 < l2.length
  · rw [if_pos hp, if_pos hp, List.map_set, List.map_set, h]
  · rw [if_neg hp, if_neg hp, List.map_append, List.map_append, h]; rfl
theorem put_vals {k : α} {d : β} {l : List (α × β)} (hp : zbg k l < l.length) : (zcz k d l).map (·.2) = (l.map (·.2)).set (zbg k l) d := by
  rw [putAt_pos, if_pos hp, List.map_set]
theorem val_at [Inhabited β] (k : α) (l : List (α × β)) (d : β) (hp : zbg k l < l.length) : at_ (l.map (·.2)) ((zbg k l : Nat) : Int) = (zbc k l).getD d := by
  rw [valAt_pos]
  unfold at_
  rw [Int.toNat_natCast, List.getD_eq_getElem?_getD, List.getElem?_map, List.getElem?_eq_getElem hp]; rfl
end
section
variable {α β γ : Type} [DecidableEq α] {P : Program} {kt : TypeId} {ke : α → Value} {w : World} {base : Nat} {w0 : World} {h : Ghost} {L : List Asrt}
def mgrid (ke : α → Value) (T : TypeId) (k : Kd β) (b : Nat) (ah : List (α × List β)) : Asrt where
  holds := fun h w F => ∃ (zs : List (α × Value)) (F0 F1 : Nat → Prop), zs.map (·.1) = ah.map (·.1) ∧ (amap ke (fun v : Value => v) b zs).holds h w F0 ∧ (grid T k (zs.map (·.2)) (ah.map (·.2))).holds h w F1 ∧ (∀ b, F0 b → F b) ∧ (∀ b, F1 b → F b) ∧ ∀ b, F0 b → ¬ F1 b
  mono := fun hl ⟨zs, F0, F1, h1, h2, h3, h4⟩ => ⟨zs, F0, F1, h1, (amap _ _ _ _).mono hl h2, (grid T k (zs.map (·.2)) (ah.map (·.2))).mono hl h3, h4⟩
  far := fun hf ⟨zs, F0, F1, h1, h2, h3, h4, h5, h6⟩ => ⟨zs, F0, F1, h1, (amap _ _ _ _).far (fun b hb => hf b (h4 b hb)) h2, (grid T k (zs.map (·.2)) (ah.map (·.2))).far (fun b hb => hf b (h5 b hb)) h3, h4, h5, h6⟩
def mgridB (ke : α → Value) (T : TypeId) (k : Kd β) (b : Nat) (ah : List (α × List β)) (key : α) (s : Int) : Asrt where
  holds := fun h w F => ∃ (zs : List (α × Value)) (F0 F1 : Nat → Prop), (zs.map (·.1) = ah.map (·.1) ∧ zbg key ah < ah.length) ∧ (ament ke (fun v : Value => v) b zs key s).holds h w F0 ∧ (gridB T k (zs.map (·.2)) (ah.map (·.2)) ((zbg key ah : Nat) : Int)).holds h w F1 ∧ (∀ b, F0 b → F b) ∧ (∀ b, F1 b → F b) ∧ ∀ b, F0 b → ¬ F1 b
  mono := fun hl ⟨zs, F0, F1, h1, h2, h3, h4⟩ => ⟨zs, F0, F1, h1, (ament _ _ _ _ _ _).mono hl h2, (gridB T k (zs.map (·.2)) (ah.map (·.2)) ((zbg key ah : Nat) : Int)).mono hl h3, h4⟩
  far := fun hf ⟨zs, F0, F1, h1, h2, h3, h4, h5, h6⟩ => ⟨zs, F0, F1, h1, (ament _ _ _ _ _ _).far (fun b hb => hf b (h4 b hb)) h2, (gridB T k (zs.map (·.2)) (ah.map (·.2)) ((zbg key ah : Nat) : Int)).far (fun b hb => hf b (h5 b hb)) h3, h4, h5, h6⟩
variable {T : TypeId} {k : Kd β} {ah : List (α × List β)} {b j : Nat} {key : α}
theorem mgrid_new (S : St base w0 h w L) (hj : L[j]? = some (amap ke (fun v : Value => v) b ([] : List (α × Value)))) (T : TypeId) (k : Kd β) : St base w0 h w (L.set j (mgrid ke T k b [])) := by
  refine S.upd hj fun F hA _ => ⟨⟨rfl, rfl, rfl, Nat.le_refl _, fun _ _ _ => rfl⟩, F, ⟨[], F, fun _ => False, rfl, hA, ⟨rfl, fun _ _ => False, fun i hi _ => absurd hi (by simp), fun i j hi _ => absurd hi (by simp)⟩, fun _ h => h, fun _ h => h.elim, fun _ _ h => h.elim⟩, fun b hb => .inl hb⟩
theorem mgrid_split (S : St base w0 h w L) (hj : L[j]? = some (mgrid ke T k b ah)) : ∃ zs : List (α × Value), zs.map (·.1) = ah.map (·.1) ∧ St base w0 h w (L.set j (amap ke (fun v : Value => v) b zs) ++ [grid T k (zs.map (·.2)) (ah.map (·.2))]) := by
  obtain ⟨⟨zs, hz⟩, S1⟩ := S.splitE (ι := { zs : List (α × Value) // zs.map (·.1) = ah.map (·.1) }) (A1 := fun z => amap ke (fun v : Value => v) b z.1) (A2 := fun z => grid T k (z.1.map (·.2)) (ah.map (·.2))) hj
    (fun F ⟨zs, F0, F1, h1, h2, h3, h4, h5, h6⟩ => ⟨⟨zs, h1⟩, F0, F1, h2, h3, h4, h5, h6⟩)
  exact ⟨zs, hz, S1⟩
theorem e_mg_take {M et : TypeId} (K : KeyK P kt ke) (S : St base w0 h w L) (hj : L[j]? = some (mgrid ke T k b ah)) (hT : P.underlying M = some (.map kt et)) (hz : (zeroValue et).run P w = .ok (.slice none 0 0) w) (key : α) :
    ∃ (v : Value) (s : Nat) (w' : World), (Instr.mapEntry M (.map (some b)) (ke key)).run P w = .ok (.tuple #[v, .int .i64 (s : Int)]) w' ∧ Chg w w' (fun q => q = b) ∧ St base w0 h w' (L.set j (mgridB ke T k b (zcx key [] ah) key (s : Int)) ++ [row T k v ((zbc key ah).getD [])]) := by
  obtain ⟨zs, hzk, S1⟩ := mgrid_split S hj
  have hlt : j < L.length := (List.getElem?_eq_some_iff.1 hj).1
  have hj1 : (L.set j (amap ke (fun v : Value => v) b zs) ++ [grid T k (zs.map (·.2)) (ah.map (·.2))])[j]? = some (amap ke (fun v : Value => v) b zs) := by
    rw [List.getElem?_append_left (by simpa using hlt), List.getElem?_set_self hlt]
  obtain ⟨s, w', hr, hc, S2⟩ := e_mapEntry K S1 hj1 hT hz (.slice none 0 0) key
  rw [List.set_append_left _ _ (by simpa using hlt), List.set_set] at S2
  have hl : zs.length = ah.length := by simpa using congrArg List.length hzk
  have hpos : zbg key zs = zbg key ah := pos_map key zs ah hzk
  have hpe : zbg key (zcx key (.slice none 0 0 : Value) zs) = zbg key (zcx key ([] : List β) ah) := pos_map key _ _ (ent_keys hzk)
  have hlast : ∀ (A : Asrt), (L.set j (ament ke (fun v : Value => v) b (zcx key (.slice none 0 0) zs) key (s : Int)) ++ [A])[L.length]? = some A := fun A => by
    rw [List.getElem?_append_right (by simp)]; simp
  have S3 : St base w0 h w' (L.set j (ament ke (fun v : Value => v) b (zcx key (.slice none 0 0) zs) key (s : Int)) ++ [grid T k ((zcx key (.slice none 0 0 : Value) zs).map (·.2)) ((zcx key ([] : List β) ah).map (·.2))]) := by
    rw [ent_vals, ent_vals, hpos, hl]
    by_cases hp : zbg key ah < ah.length
    · rw [if_pos hp, if_pos hp]; exact S2
    · rw [if_neg hp, if_neg hp]
      have S4 := grid_none S2 T k 1
      have S5 := grid_cat S4 (j := L.length) (i := L.length + 1) (by rw [List.append_assoc, List.getElem?_append_right (by simp)]; simp; rfl) (by first | (rw [List.getElem?_append_right (by simp)]; simp; done) | (rw [List.getElem?_append_right (by simp)]; simp; rfl)) (by omega)
      have e : ∀ (X Y Z : Asrt), (((L.set j (ament ke (fun v : Value => v) b (zcx key (.slice none 0 0) zs) key (s : Int)) ++ [X]) ++ [Y]).set L.length Z).set (L.length + 1) emp = (L.set j (ament ke (fun v : Value => v) b (zcx key (.slice none 0 0) zs) key (s : Int)) ++ [Z]) ++ [emp] := fun X Y Z => by
        rw [List.append_assoc, List.set_append_right _ _ (by simp), List.set_append_right _ _ (by simp)]; simp
      rw [e] at S5
      exact S5.drop_last
  have hq := ent_lt key ([] : List β) ah
  have S6 := e_focus (q := ((zbg key (zcx key ([] : List β) ah) : Nat) : Int)) S3 (j := L.length) (hlast _) (by omega) (by rw [List.length_map]; omega)
  have e6 : ∀ (X Y Z : Asrt), ((L.set j (ament ke (fun v : Value => v) b (zcx key (.slice none 0 0) zs) key (s : Int)) ++ [X]).set L.length Y ++ [Z]) = (L.set j (ament ke (fun v : Value => v) b (zcx key (.slice none 0 0) zs) key (s : Int)) ++ [Y]) ++ [Z] := fun X Y Z => by
    rw [List.set_append_right _ _ (by simp)]; simp
  rw [e6] at S6
  have S7 := S6.merge (A := mgridB ke T k b (zcx key [] ah) key (s : Int)) (i := j) (j := L.length) (by rw [List.append_assoc, List.getElem?_append_left (by simpa using hlt), List.getElem?_set_self hlt]) (by rw [List.append_assoc, List.getElem?_append_right (by simp)]; simp) (by omega)
    (fun F1 F2 hA hB hd => ⟨zcx key (.slice none 0 0) zs, F1, F2, ⟨ent_keys hzk, hq⟩, hA, hB, fun _ h => .inl h, fun _ h => .inr h, hd⟩)
  have hv1 : at_ ((zcx key (.slice none 0 0 : Value) zs).map (·.2)) ((zbg key (zcx key ([] : List β) ah) : Nat) : Int) = (zbc key zs).getD (.slice none 0 0) := by
    rw [← hpe, val_at key _ (.slice none 0 0) (ent_lt key _ zs), ent_val]; rfl
  have hv2 : at_ ((zcx key ([] : List β) ah).map (·.2)) ((zbg key (zcx key ([] : List β) ah) : Nat) : Int) = (zbc key ah).getD [] := by
    rw [val_at key _ [] hq, ent_val]; rfl
  rw [hv1, hv2] at S7
  have e7 : ∀ (X Y Z : Asrt), ((((L.set j (ament ke (fun v : Value => v) b (zcx key (.slice none 0 0) zs) key (s : Int)) ++ [X]) ++ [Y]).set j Z).set L.length emp) = (L.set j Z ++ [emp]) ++ [Y] := fun X Y Z => by
    rw [List.append_assoc, List.set_append_left _ _ (by simpa using hlt), List.set_set, List.set_append_right _ _ (by simp)]; simp
  rw [e7] at S7
  refine ⟨_, s, w', hr, hc, ?_⟩
  refine S7.pick (List.range L.length ++ [L.length + 1]) ?_ ?_ _ ?_
  · rw [List.nodup_append]
    refine ⟨List.nodup_range, by simp, fun a ha c hc' => ?_⟩
    simp at ha hc'; omega
  · intro i hi
    simp at hi ⊢; omega
  · apply List.ext_getElem?
    intro i
    rw [List.map_append, List.getElem?_append, List.getElem?_append]
    simp only [List.length_set, List.length_map, List.length_range]
    by_cases hi : i < L.length
    · rw [if_pos hi, if_pos hi, List.getElem?_map, List.getElem?_range hi]
      simp [List.getD_eq_getElem?_getD, List.append_assoc, List.getElem?_append_left, hi]
    · rw [if_neg hi, if_neg hi]
      simp [List.getD_eq_getElem?_getD, List.append_assoc, List.getElem?_append_right]
theorem e_mg_put {M : TypeId} {i : Nat} {v : Value} {ys : List β} {s : Int} (S : St base w0 h w L) (hj : L[j]? = some (mgridB ke T k b ah key s)) (hi : L[i]? = some (row T k v ys)) (hij : j ≠ i) :
    ∃ w', (Instr.entryStore M (.map (some b)) (.int .i64 s) v).run P w = .ok () w' ∧ Chg w w' (fun q => q = b) ∧ St base w0 h w' ((L.set j (mgrid ke T k b (zcz key ys ah))).set i emp) := by
  obtain ⟨⟨zs, hzk, hq⟩, S1⟩ := S.splitE (ι := { zs : List (α × Value) // zs.map (·.1) = ah.map (·.1) ∧ zbg key ah < ah.length }) (A1 := fun z => ament ke (fun v : Value => v) b z.1 key s) (A2 := fun z => gridB T k (z.1.map (·.2)) (ah.map (·.2)) ((zbg key ah : Nat) : Int)) hj
    (fun F ⟨zs, F0, F1, h1, h2, h3, h4, h5, h6⟩ => ⟨⟨zs, h1⟩, F0, F1, h2, h3, h4, h5, h6⟩)
  have hlt : j < L.length := (List.getElem?_eq_some_iff.1 hj).1
  have hil : i < L.length := (List.getElem?_eq_some_iff.1 hi).1
  have hl : zs.length = ah.length := by simpa using congrArg List.length hzk
  have hpos : zbg key zs = zbg key ah := pos_map key zs ah hzk
  obtain ⟨w', hr, hc, S2⟩ := e_entryStore (P := P) (T := M) (ve := fun v : Value => v) S1 (j := j) (by rw [List.getElem?_append_left (by simpa using hlt), List.getElem?_set_self hlt]) v (by rw [hpos, hl]; exact hq)
  rw [List.set_append_left _ _ (by simpa using hlt), List.set_set] at S2
  have S3 := e_close2 S2 (j := L.length) (i := i) (by first | (rw [List.getElem?_append_right (by simp)]; simp; done) | (rw [List.getElem?_append_right (by simp)]; simp; rfl)) (by rw [List.getElem?_append_left (by simpa using hil), List.getElem?_set_ne hij]; exact hi) (by omega) (by omega) (by rw [List.length_map]; omega)
  have e3 : ∀ (X Y Z : Asrt), ((L.set j X ++ [Y]).set L.length Z).set i emp = (L.set j X).set i emp ++ [Z] := fun X Y Z => by
    rw [List.set_append_right _ _ (by simp), List.set_append_left _ _ (by simpa using hil)]; simp
  rw [e3] at S3
  have hu : (zs.map (·.2)).set ((zbg key ah : Nat) : Int).toNat v = (zcz key v zs).map (·.2) := by
    rw [put_vals (by rw [hpos, hl]; exact hq), hpos, Int.toNat_natCast]
  have hx : (ah.map (·.2)).set ((zbg key ah : Nat) : Int).toNat ys = (zcz key ys ah).map (·.2) := by
    rw [put_vals hq, Int.toNat_natCast]
  rw [hu, hx] at S3
  have S4 := S3.merge (A := mgrid ke T k b (zcz key ys ah)) (i := j) (j := L.length) (by rw [List.getElem?_append_left (by simpa using hlt), List.getElem?_set_ne (fun e => hij e.symm), List.getElem?_set_self hlt]) (by first | (rw [List.getElem?_append_right (by simp)]; simp; done) | (rw [List.getElem?_append_right (by simp)]; simp; rfl)) (by omega)
    (fun F1 F2 hA hB hd => ⟨zcz key v zs, F1, F2, put_keys hzk, hA, hB, fun _ h => .inl h, fun _ h => .inr h, hd⟩)
  have e4 : ∀ (X Y Z : Asrt), ((((L.set j X).set i emp ++ [Y]).set j Z).set L.length emp) = ((L.set j Z).set i emp) ++ [emp] := fun X Y Z => by
    rw [List.set_append_left _ _ (by simpa using hlt), List.set_append_right _ _ (by simp)]
    rw [List.set_comm _ _ (fun e => hij e.symm), List.set_set]; simp
  rw [e4] at S4
  exact ⟨w', hr, hc, S4.drop_last⟩
theorem e_lookup_f {ve : γ → Value} {j b : Nat} {T et : TypeId} {kvs : List (α × γ)} (K : KeyK P kt ke) (S : St base w0 h w L) (hj : L[j]? = some (amap ke ve b kvs)) (hT : P.underlying T = some (.map kt et)) {z : Value} (hz : (zeroValue et).run P w = .ok z w) (d : γ) (k : α) (hd : ve d = z := by rfl) :
    (Instr.lookup T (.map (some b)) (ke k) false).run P w = .ok (ve ((zbc k kvs).getD d)) w := by
  obtain ⟨es, clock, hb, hes⟩ := S.map_at hj
  have hg : (getObj b).run P w = .ok (.map es clock) w := by simp [getObj, Sem.run, hb]
  simp only [Instr.lookup, Sem.run_bind, run_underlying hT, Result.andThen_ok, hg, K.chk, run_findKey K k hes, Sem.run_pure]
  unfold zbc put2
  cases zbz k kvs 0 with
  | none => simp [hz, Sem.run_bind, lookVal, Sem.run_pure, hd]
  | some p => simp [lookVal, Sem.run_pure]
theorem e_mg_read [Inhabited β] {M et : TypeId} (K : KeyK P kt ke) (S : St base w0 h w L) (hj : L[j]? = some (mgrid ke T k b ah)) (hT : P.underlying M = some (.map kt et)) (hz : (zeroValue et).run P w = .ok (.slice none 0 0) w) (key : α) :
    ∃ A c, (Instr.lookup M (.map (some b)) (ke key) false).run P w = .ok (.slice A ((zbc key ah).getD []).length c) w ∧ (((zbc key ah).getD []).length ≤ c ∧ c ≤ maxLen) ∧ zbe k (hp w) A ((zbc key ah).getD []) := by
  obtain ⟨zs, hzk, S1⟩ := mgrid_split S hj
  have hlt : j < L.length := (List.getElem?_eq_some_iff.1 hj).1
  have hl : zs.length = ah.length := by simpa using congrArg List.length hzk
  have hpos : zbg key zs = zbg key ah := pos_map key zs ah hzk
  have hr := e_lookup_f (ve := fun v : Value => v) K S1 (j := j) (by rw [List.getElem?_append_left (by simpa using hlt), List.getElem?_set_self hlt]) hT hz (.slice none 0 0) key
  by_cases hp : zbg key ah < ah.length
  · have S2 := e_focus (q := ((zbg key ah : Nat) : Int)) S1 (j := L.length) (by first | (rw [List.getElem?_append_right (by simp)]; simp; done) | (rw [List.getElem?_append_right (by simp)]; simp; rfl)) (by omega) (by rw [List.length_map]; omega)
    have hlast : ∀ X Y : Asrt, ∀ Z : Asrt, ((L.set j X ++ [Y]).set L.length Y ++ [Z])[L.length + 1]? = some Z := fun X Y Z => by
      rw [List.getElem?_append_right (by simp)]; simp
    have hrow : ∀ X Y Z W : Asrt, ((L.set j X ++ [Y]).set L.length W ++ [Z])[L.length + 1]? = some Z := fun X Y Z W => by
      rw [List.getElem?_append_right (by simp)]; simp
    have hv1 : at_ (zs.map (·.2)) ((zbg key ah : Nat) : Int) = (zbc key zs).getD (.slice none 0 0) := by rw [← hpos]; exact val_at key zs _ (by rw [hpos, hl]; exact hp)
    have hv2 : at_ (ah.map (·.2)) ((zbg key ah : Nat) : Int) = (zbc key ah).getD [] := val_at key ah [] hp
    rw [hv1, hv2] at S2
    obtain ⟨A, c, ev, h1, h2⟩ := S2.row_val (hrow _ _ _ _)
    have h3 := zb8 S2 (hrow _ _ _ _) ev
    refine ⟨A, c, ?_, ⟨h1, h2⟩, h3⟩
    rw [← ev]; exact hr
  · have hn : zbc key ah = none := by rw [valAt_pos, List.getElem?_eq_none (by omega)]; rfl
    have hn2 : zbc key zs = none := by rw [valAt_pos, List.getElem?_eq_none (by omega)]; rfl
    rw [hn2] at hr
    rw [hn]
    exact ⟨none, 0, hr, by simp [maxLen], fun h => absurd rfl h⟩
end
end Gx
namespace Gx
open Go Go.RowKit
set_option linter.unusedSimpArgs false
set_option linter.unusedSectionVars false
set_option linter.unusedVariables false
structure Dfa where
  part : PartM
  next : List (List Int)
  final : List Bool
deriving DecidableEq
instance : Inhabited Dfa := ⟨⟨⟨[], 0⟩, [], []⟩⟩
section
variable {S : Type} [DecidableEq S]
variable {next : S → Int → S} {n : Int} {first : S} {fin : S → Bool} {all all2 : List S} {mp mp2 : List (S × Int)} {nx : List (List Int)} {fl : List Bool} {l : List Int} {i k : Int} {s : S}
theorem nodup_lt : ∀ (N : Nat) (l : List Nat), l.Nodup → (∀ x ∈ l, x < N) → l.length ≤ N
  | 0, [], _, _ => by simp
  | 0, x :: l, _, h => by have := h x (by simp); omega
  | N + 1, l, hn, h => by
    by_cases hm : N ∈ l
    · have := nodup_lt N (l.erase N) (hn.erase N) fun x hx => by
        have h1 := h x (List.mem_of_mem_erase hx)
        have h2 : x ≠ N := fun e => by rw [e] at hx; exact (List.Nodup.not_mem_erase hn) hx
        omega
      rw [List.length_erase_of_mem hm] at this
      omega
    · have := nodup_lt N l hn fun x hx => by
        have h1 := h x hx
        have h2 : x ≠ N := fun e => hm (by rw [← e]; exact hx)
        omega
      omega
theorem map_nodup {α β : Type} {f : α → β} {P : α → Prop} (hf : ∀ a b, P a → P b → f a = f b → a = b) : ∀ {l : List α}, l.Nodup → (∀ x ∈ l, P x) → (l.map f).Nodup
  | [], _, _ => by simp
  | a :: l, hn, hp => by
    rw [List.map_cons, List.nodup_cons]
    rw [List.nodup_cons] at hn
    refine ⟨fun hc => ?_, map_nodup hf hn.2 fun x hx => hp x (List.mem_cons_of_mem _ hx)⟩
    obtain ⟨b, hb, e⟩ := List.mem_map.1 hc
    exact hn.1 (by rw [← hf b a (hp b (List.mem_cons_of_mem _ hb)) (hp a (by simp)) e]; exact hb)
end
end Gx
namespace Gx
open Go Go.RowKit
set_option linter.unusedSimpArgs false
set_option linter.unusedSectionVars false
set_option linter.unusedVariables false
def zag (x : Int × Int) : List Value := [.int .i64 x.1, .int .i64 x.2]
def okPair (x : Int × Int) : Prop := inK .i64 x.1 ∧ inK .i64 x.2
theorem zdb (x : Int × Int) : ∀ u ∈ zag x, u.oneCell' = true := fun u hu => by
  simp only [zag, List.mem_cons, List.not_mem_nil, or_false] at hu
  rcases hu with rfl | rfl <;> rfl
def zb2 : Kd (Int × Int) := .flat zag okPair 2 (by omega) (fun _ _ => rfl) (fun x => zdb x)
section
variable {a b : Dfa} {fin : Int × Int → Bool} {all all2 : List (Int × Int)} {mp mp2 : List ((Int × Int) × Int)} {nx : List (List Int)} {fl : List Bool} {l : List Int} {i k : Int} {s : Int × Int}
end
end Gx
namespace Gx
open Go Go.RowKit
set_option linter.unusedSimpArgs false
set_option linter.unusedVariables false
set_option linter.unusedSectionVars false
section
variable {P : Program} {ρ : Env} {w w' : World} {d : Option Tmp} {ty : TypeId} {pos : String} {af : Array Edge} {g : Option (Nat × Bool)} {x y z : Operand}
theorem x_mapEntry {T : TypeId} {a k v : Value} (hx : ev ρ x = a) (hy : ev ρ y = k) (hr : (Instr.mapEntry T a k).run P w = .ok v w') : (execOp (ev ρ) ⟨d, .mapEntry T x y, ty, pos, af, g⟩).run P w = .ok (.value v) w' := by
  simp only [execOp, hx, hy, Sem.run_bind, hr, Result.andThen_ok]; rfl
theorem x_entryStore {T : TypeId} {a k v : Value} (hx : ev ρ x = a) (hy : ev ρ y = k) (hz : ev ρ z = v) (hr : (Instr.entryStore T a k v).run P w = .ok () w') : (execOp (ev ρ) ⟨d, .entryStore T x y z, ty, pos, af, g⟩).run P w = .ok .skip w' := by
  simp only [execOp, hx, hy, hz, Sem.run_bind, hr, Result.andThen_ok]; rfl
end
section
variable {α β : Type} [DecidableEq α] {P : Program} {kt : TypeId} {ke : α → Value} {ve : β → Value} {w : World}
theorem e_lookup_hf {b : Nat} {T et : TypeId} {kvs : List (α × β)} (K : KeyK P kt ke) (hm : MapH ke ve b kvs w) (hT : P.underlying T = some (.map kt et)) {z : Value} (hz : (zeroValue et).run P w = .ok z w) (d : β) (k : α) (hd : ve d = z := by rfl) :
    (Instr.lookup T (.map (some b)) (ke k) false).run P w = .ok (ve ((zbc k kvs).getD d)) w := by
  obtain ⟨es, clock, hb, hes⟩ := hm
  have hg : (getObj b).run P w = .ok (.map es clock) w := by simp [getObj, Sem.run, hb]
  simp only [Instr.lookup, Sem.run_bind, run_underlying hT, Result.andThen_ok, hg, K.chk, run_findKey K k hes, Sem.run_pure]
  unfold zbc put2
  cases zbz k kvs 0 with
  | none => simp [hz, Sem.run_bind, lookVal, Sem.run_pure, hd]
  | some p => simp [lookVal, Sem.run_pure]
end
theorem keyk_pairA {P : Program} {t E : TypeId} {b' : Nat} {z : Option Value} (hT : P.underlying t = some (.array 2 E)) (hE : P.underlying E = some (.int .i64)) (ht : zbk P E = some (1, b', false, z)) : KeyK P t (fun x : Int × Int => Value.agg (zag x).toArray) where
  eq := fun a b w => by
    obtain ⟨ii, d2, hii, hd2, hsz, _, hg, _⟩ := zbl ht
    have hc : P.cellsOf E = 1 := by simp [Program.cellsOf, hii, hsz]
    have pa : ∀ (x : Int × Int) (w : World), (part E (zag x).toArray 0).run P w = .ok (.int .i64 x.1) w := fun x w => by
      simp only [part, Sem.run_bind, run_isAgg hd2, hg, Result.andThen_ok, Bool.false_eq_true, if_false]; rfl
    have pb : ∀ (x : Int × Int) (w : World), (part E (zag x).toArray 1).run P w = .ok (.int .i64 x.2) w := fun x w => by
      simp only [part, Sem.run_bind, run_isAgg hd2, hg, Result.andThen_ok, Bool.false_eq_true, if_false]; rfl
    show (Op.equalIn 10000 t _ _).run _ _ = _
    rw [show (10000 : Nat) = 9998 + 1 + 1 from rfl, run_equalIn_array w 9999 _ _ hT hii, hc]
    obtain ⟨a1, a2⟩ := a
    obtain ⟨b1, b2⟩ := b
    have e3 := fun (w : World) (x y : Int) => run_equalIn_int (P := P) w 9998 E .i64 .i64 x y hE
    have r2 : List.range 2 = [0, 1] := rfl
    by_cases h : a1 = b1 <;> by_cases h2 : a2 = b2 <;> simp [Op.eqItems, r2, h, h2, Sem.run_pure, Sem.run_bind, pa, pb, e3]
  chk := fun a e w => by
    obtain ⟨ii, d2, hi, hd2, hsz, _, hg, _⟩ := zbl ht
    have pa : ∀ (w : World), (part E (zag a).toArray 0).run P w = .ok (.int .i64 a.1) w := fun w => by
      simp only [part, Sem.run_bind, run_isAgg hd2, hg, Result.andThen_ok, Bool.false_eq_true, if_false]; rfl
    have pb : ∀ (w : World), (part E (zag a).toArray 1).run P w = .ok (.int .i64 a.2) w := fun w => by
      simp only [part, Sem.run_bind, run_isAgg hd2, hg, Result.andThen_ok, Bool.false_eq_true, if_false]; rfl
    have cE : ∀ (n : Nat) (x : Int) (w : World), (Instr.checkKey e (n + 1) E (.int .i64 x)).run P w = .ok () w := fun n x w => by
      rw [Instr.checkKey]
      simp only [Sem.run_bind, run_underlying hE, Result.andThen_ok]; rfl
    have main : ∀ n, (Instr.checkKey e (n + 1 + 1) t (.agg (zag a).toArray)).run P w = .ok () w := fun n => by
      rw [Instr.checkKey]
      simp only [Sem.run_bind, run_underlying hT, Result.andThen_ok]
      simp [Std.Legacy.Range.forIn_eq_forIn_range', List.range', Std.Legacy.Range.size, Sem.run_bind, Result.andThen_ok, zc3 hi, hsz, pa, pb, cE, Sem.run_pure]
    exact main 9998
  now := ⟨_, hT, .inl fun a b => rfl⟩
  same := fun a => by simp [zag, Instr.sameBits]
end Gx
namespace Gx
open Go Go.RowKit
set_option linter.unusedSimpArgs false
set_option linter.unusedSectionVars false
set_option linter.unusedVariables false
inductive Path (m : Mach) (src : List Int) : List Int → Int → Prop
  | one {i c : Int} : i ∈ src → 0 ≤ c → c < 256 → has (at_ m.spots i).set c = true → Path m src [c] i
  | snoc {l : List Int} {j i c : Int} : Path m src l j → i ∈ at_ m.follow j → 0 ≤ c → c < 256 → has (at_ m.spots i).set c = true → Path m src (l ++ [c]) i
theorem Path.some {m : Mach} {src l : List Int} {i : Int} (h : Path m src l i) : 0 < l.length := by cases h <;> simp
theorem Path.inn {m : Mach} (hR : Right m) {src l : List Int} {i : Int} (hs : ∀ x ∈ src, 0 ≤ x ∧ x < (m.spots.length : Int)) (h : Path m src l i) : 0 ≤ i ∧ i < (m.spots.length : Int) := by
  induction h with
  | one h3 => exact hs _ h3
  | snoc h3 h4 h5 h6 h7 ih => exact hR.rows ih.1 ih.2 _ h4
theorem Path.run {m : Mach} (hR : Right m) {l : List Int} {i : Int} (h : Path m m.first l i) : ∀ s : ByteArray, (∀ k : Nat, k < l.length → byt s ((k : Nat) : Int) = at_ l ((k : Nat) : Int)) → at_ (runTo m s (l.length - 1)) i = true := by
  induction h with
  | one h3 h4 h5 h6 =>
    intro s hb
    have hi := hR.firsts _ h3
    have h0 := hb 0 (by simp)
    show at_ (intoP m (markP m.spots.length m.first) (byt s 0)) _ = true
    unfold intoP
    rw [tab_at hi.1 hi.2]
    unfold markP
    rw [tab_at (by omega) (by omega), Int.toNat_natCast, Int.toNat_of_nonneg hi.1, decide_eq_true h3, Bool.true_and]
    have e : byt s 0 = _ := h0
    rw [e]; exact h6
  | snoc h3 h4 h5 h6 h7 ih =>
    rename_i l j i c
    intro s hb
    have hj := Path.inn hR hR.firsts h3
    have hi := hR.rows hj.1 hj.2 _ h4
    have hl := h3.some
    have h8 := ih s fun k hk => by
      rw [hb k (by simp; omega)]
      unfold at_
      rw [List.getD_eq_getElem?_getD, List.getD_eq_getElem?_getD, List.getElem?_append_left (by omega)]
    have h9 := hb l.length (by simp)
    have e1 : at_ (l ++ [c]) ((l.length : Nat) : Int) = c := by unfold at_; simp
    rw [e1] at h9
    rw [show (l ++ [c]).length - 1 = (l.length - 1) + 1 by simp; omega]
    show at_ (intoP m (zcm m (runTo m s (l.length - 1))) (byt s ((l.length - 1 + 1 : Nat) : Int))) i = true
    rw [show l.length - 1 + 1 = l.length by omega, h9]
    unfold intoP
    rw [tab_at hi.1 hi.2]
    unfold zcm
    rw [tab_at (by omega) (by omega), Int.toNat_natCast, Int.toNat_of_nonneg hi.1, h7, Bool.and_true, anyTo_iff]
    exact ⟨j.toNat, by omega, by rw [Int.toNat_of_nonneg hj.1, h8, decide_eq_true h4]; rfl⟩
def reachF (m : Mach) (src : List Int) (l : List Bool) (i : Nat) : Bool := decide (((i : Nat) : Int) ∈ src) || anyTo (fun j => at_ l ((j : Nat) : Int) && decide (((i : Nat) : Int) ∈ at_ m.follow ((j : Nat) : Int))) m.spots.length
def reachM (m : Mach) (src : List Int) : List Bool := lfp m.spots.length (reachF m src)
structure Way (m : Mach) (src : List Int) (texts : List ByteArray) (seen : List Bool) (todo : List Int) : Prop where
  lenT : (texts.length : Int) = m.spots.length
  lenS : (seen.length : Int) = m.spots.length
  inn : ∀ x ∈ todo, 0 ≤ x ∧ x < (m.spots.length : Int)
  nodup : todo.Nodup
  mem : ∀ x : Int, 0 ≤ x → x < (m.spots.length : Int) → (at_ seen x = true ↔ x ∈ todo)
  sound : ∀ x ∈ todo, at_ (reachM m src) x = true
  text : ∀ k : Int, 0 ≤ k → k < (todo.length : Int) → Path m src (zay (at_ texts (at_ todo k))) (at_ todo k) ∧ ((at_ texts (at_ todo k)).size : Int) ≤ k + 1
  first : ∀ x ∈ src, x ∈ todo
  cnt : todo.length ≤ trues m.spots.length seen
theorem nodup_at {l : List Int} (hn : l.Nodup) {i j : Int} (hi : 0 ≤ i) (hi1 : i < (l.length : Int)) (hj : 0 ≤ j) (hj1 : j < (l.length : Int)) (h : at_ l i = at_ l j) : i = j := by
  have e1 := zdd hi hi1
  have e2 := zdd hj hj1
  rw [List.getElem?_eq_getElem (by omega)] at e1 e2
  injection e1 with e1
  injection e2 with e2
  have := (List.getElem_inj (xs := l) (h₀ := by omega) (h₁ := by omega) hn (i := i.toNat) (j := j.toNat)).1 (by rw [e1, e2, h])
  omega
theorem way_len {m : Mach} {src : List Int} {texts : List ByteArray} {seen : List Bool} {todo : List Int} (W : Way m src texts seen todo) : (todo.length : Int) ≤ m.spots.length := by
  have := W.cnt
  have := trues_le m.spots.length seen
  omega
theorem way_size {m : Mach} {src : List Int} {texts : List ByteArray} {seen : List Bool} {todo : List Int} (W : Way m src texts seen todo) {k : Int} (h0 : 0 ≤ k) (h1 : k < (todo.length : Int)) : ((at_ texts (at_ todo k)).size : Int) ≤ m.spots.length := by
  have := (W.text k h0 h1).2
  have := way_len W
  omega
end Gx
namespace Gx
open Go Go.RowKit
set_option linter.unusedSimpArgs false
set_option linter.unusedSectionVars false
set_option linter.unusedVariables false
section
variable {P : Program} {w : World} {ρ : Env} {d : Option Nat} {x y : Operand} {ty : TypeId} {pos : String} {af : Array Edge} {g : Option (Nat × Bool)}
end
structure WayI (m : Mach) (src : List Int) (to' : Int) (texts : List ByteArray) (seen : List Bool) (todo : List Int) (i : Int) : Prop where
  way : Way m src texts seen todo
  done : ∀ k : Int, 0 ≤ k → k < i → k < (todo.length : Int) → (∀ x ∈ at_ m.follow (at_ todo k), x ∈ todo) ∧ at_ todo k ≠ to'
structure WayK (m : Mach) (src : List Int) (to' a : Int) (texts : List ByteArray) (seen : List Bool) (todo : List Int) (i k : Int) : Prop where
  base : WayI m src to' texts seen todo i
  lo : 0 ≤ i
  hi : i < (todo.length : Int)
  cur : at_ todo i = a
  row : ∀ q : Int, 0 ≤ q → q < k → q < ((at_ m.follow a).length : Int) → at_ (at_ m.follow a) q ∈ todo
theorem app_at {α : Type} [Inhabited α] {l r : List α} {q : Int} (h0 : 0 ≤ q) (h : q < (l.length : Int)) : at_ (l ++ r) q = at_ l q := by
  unfold at_
  rw [List.getD_eq_getElem?_getD, List.getD_eq_getElem?_getD, List.getElem?_append_left (by omega)]
theorem WayK.inn {m : Mach} {src : List Int} {to' a : Int} {texts : List ByteArray} {seen : List Bool} {todo : List Int} {i k : Int} (W : WayK m src to' a texts seen todo i k) : 0 ≤ a ∧ a < (m.spots.length : Int) := by
  rw [← W.cur]; exact W.base.way.inn _ (zbp W.lo W.hi)
theorem WayK.size {m : Mach} {src : List Int} {to' a : Int} {texts : List ByteArray} {seen : List Bool} {todo : List Int} {i k : Int} (W : WayK m src to' a texts seen todo i k) : ((at_ texts a).size : Int) ≤ m.spots.length := by
  rw [← W.cur]; exact way_size W.base.way W.lo W.hi
theorem rises_nodup {b last : Int} {l : List Int} (h : zc4 b last l = true) : l.Nodup :=
  (rises_iff.1 h).1.imp fun hab e => by omega
end Gx
namespace Gx
open Go Go.RowKit
set_option linter.unusedSimpArgs false
set_option linter.unusedVariables false
set_option linter.unusedSectionVars false
abbrev Pr := Int × Int
def bothP (m : Mach) (x : Pr) : Prop := ¬ zd0 ((at_ m.spots x.1).set &&& (at_ m.spots x.2).set) = 0
def SuccP (m : Mach) (x y : Pr) : Prop := y.1 ∈ at_ m.follow x.1 ∧ y.2 ∈ at_ m.follow x.2
inductive Come (m : Mach) : Pr → Prop
  | first {y : Pr} : y.1 ∈ m.first → y.2 ∈ m.first → bothP m y → Come m y
  | next {x y : Pr} : Come m x → SuccP m x y → bothP m y → Come m y
inductive GoesP (m : Mach) : Pr → Prop
  | last {x : Pr} : at_ m.last x.1 = true → at_ m.last x.2 = true → GoesP m x
  | next {x y : Pr} : SuccP m x y → bothP m y → GoesP m y → GoesP m x
open Classical in
noncomputable def zcd (m : Mach) : Bool := zbj m && decide (∀ x, Come m x → GoesP m x → (at_ m.spots x.1).tag = (at_ m.spots x.2).tag)
theorem single_0 {m : Mach} (h : zbj m = false) : zcd m = false := by unfold zcd; rw [h]; rfl
open Classical in
theorem single_no {m : Mach} {x : Pr} (h1 : Come m x) (h2 : GoesP m x) (h : (at_ m.spots x.1).tag ≠ (at_ m.spots x.2).tag) : zcd m = false := by
  unfold zcd; rw [decide_eq_false (fun a => h (a x h1 h2))]; simp
open Classical in
theorem single_yes {m : Mach} (hr : zbj m = true) (h : ∀ x, Come m x → GoesP m x → (at_ m.spots x.1).tag = (at_ m.spots x.2).tag) : zcd m = true := by
  unfold zcd; rw [decide_eq_true h, hr]; rfl
def InPr (m : Mach) (x : Pr) : Prop := (0 ≤ x.1 ∧ x.1 < (m.spots.length : Int)) ∧ 0 ≤ x.2 ∧ x.2 < (m.spots.length : Int)
theorem come_in {m : Mach} (hR : Right m) {x : Pr} (h : Come m x) : InPr m x := by
  induction h with
  | first h1 h2 _ => exact ⟨hR.firsts _ h1, hR.firsts _ h2⟩
  | next _ hs _ ih => exact ⟨hR.rows ih.1.1 ih.1.2 _ hs.1, hR.rows ih.2.1 ih.2.2 _ hs.2⟩
section
variable {α β : Type} [DecidableEq α]
theorem val_put (x k : α) (v : β) (l : List (α × β)) : zbc x (zcz k v l) = if x = k then some v else zbc x l := by
  rw [putAt_pos]
  by_cases hp : zbg k l < l.length
  · rw [if_pos hp]
    have hk := pos_key k l _ (List.getElem?_eq_getElem hp)
    have hkeys : (l.set (zbg k l) (k, v)).map (·.1) = l.map (·.1) := by
      rw [List.map_set]
      apply List.ext_getElem?
      intro q
      rw [List.getElem?_set]
      split
      · rename_i e; subst e
        rw [if_pos (by simpa using hp), List.getElem?_map, List.getElem?_eq_getElem hp]
        simp [hk]
      · rfl
    have hpos : zbg x (l.set (zbg k l) (k, v)) = zbg x l := pos_map x _ _ hkeys
    rw [valAt_pos, valAt_pos, hpos, List.getElem?_set]
    by_cases e : x = k
    · subst e; rw [if_pos rfl, if_pos hp, if_pos rfl]; rfl
    · rw [if_neg e]
      by_cases e2 : zbg k l = zbg x l
      · exfalso
        have h1 := pos_key x l (l[zbg k l]) (by rw [← e2]; exact List.getElem?_eq_getElem hp)
        exact e (h1.symm.trans hk)
      · rw [if_neg e2]
  · rw [if_neg hp, valAt_app]
    by_cases e : x = k
    · subst e
      have hn : zbc x l = none := by rw [valAt_pos, List.getElem?_eq_none (by omega)]; rfl
      rw [hn, if_pos rfl]; simp [zbc, zbz]
    · rw [if_neg e]
      have : zbc x [(k, v)] = none := by simp [zbc, zbz, e]
      rw [this]; simp
end
theorem pr_nodup_at {l : List Pr} (hn : l.Nodup) {i j : Int} (hi : 0 ≤ i) (hi1 : i < (l.length : Int)) (hj : 0 ≤ j) (hj1 : j < (l.length : Int)) (h : at_ l i = at_ l j) : i = j := by
  have h1 := zdd hi hi1
  have h2 := zdd hj hj1
  rw [h] at h1
  have := (List.getElem?_inj (by omega) hn).1 (h1.trans h2.symm)
  omega
theorem pr_len {m : Mach} (hs : (m.spots.length : Int) ≤ 250) {l : List Pr} (hn : l.Nodup) (hi : ∀ x ∈ l, InPr m x) : (l.length : Int) ≤ 62500 := by
  have h1 := map_nodup (f := fun x : Pr => x.1.toNat * 250 + x.2.toNat) (P := InPr m) (fun a b ha hb e => by
    obtain ⟨a1, a2⟩ := a; obtain ⟨b1, b2⟩ := b
    obtain ⟨⟨h1, h2⟩, h3, h4⟩ := ha
    obtain ⟨⟨h5, h6⟩, h7, h8⟩ := hb
    simp only at *
    have : a1 = b1 ∧ a2 = b2 := by omega
    rw [this.1, this.2]) hn hi
  have h2 := nodup_lt 62500 _ h1 (fun x hx => by
    obtain ⟨y, hy, rfl⟩ := List.mem_map.1 hx
    obtain ⟨⟨h1, h2⟩, h3, h4⟩ := hi y hy
    show y.1.toNat * 250 + y.2.toNat < 62500
    omega)
  rw [List.length_map] at h2; omega
structure RW (m : Mach) (al0 al : List Pr) (th : List (Pr × Int)) (W : Pr → Prop) : Prop where
  mem : ∀ x, 0 < (zbc x th).getD 0 ↔ x ∈ al
  come : ∀ x ∈ al, Come m x
  nd : al.Nodup
  pre : ∃ r, al = al0 ++ r
  want : ∀ y, W y → bothP m y → y ∈ al
section
variable {m : Mach} {al0 al : List Pr} {th : List (Pr × Int)} {W W' : Pr → Prop} {k : Pr}
theorem rw_old (H : RW m al0 al th W) (hW : ∀ y, W' y → W y ∨ y = k) (h : 0 < (zbc k th).getD 0) : RW m al0 al th W' := ⟨H.mem, H.come, H.nd, H.pre, fun y hy hb => by
  rcases hW y hy with h1 | h1
  · exact H.want y h1 hb
  · rw [h1]; exact (H.mem k).1 h⟩
theorem rw_no (H : RW m al0 al th W) (hW : ∀ y, W' y → W y ∨ y = k) (h : zd0 ((at_ m.spots k.1).set &&& (at_ m.spots k.2).set) = 0) : RW m al0 al th W' := ⟨H.mem, H.come, H.nd, H.pre, fun y hy hb => by
  rcases hW y hy with h1 | h1
  · exact H.want y h1 hb
  · rw [h1] at hb; exact absurd h hb⟩
theorem rw_put (H : RW m al0 al th W) (hW : ∀ y, W' y → W y ∨ y = k) (h : ¬ 0 < (zbc k th).getD 0) (hc : Come m k) : RW m al0 (al ++ [k]) (zcz k 1 th) W' where
  mem := fun x => by
    rw [val_put, List.mem_append, List.mem_singleton]
    by_cases e : x = k
    · rw [if_pos e]; simp [e]
    · rw [if_neg e, H.mem x]; simp [e]
  come := fun x hx => by
    rcases List.mem_append.1 hx with h1 | h1
    · exact H.come x h1
    · rw [List.mem_singleton.1 h1]; exact hc
  nd := by
    rw [List.nodup_append]
    refine ⟨H.nd, by simp, fun a ha b hb => ?_⟩
    rw [List.mem_singleton.1 hb]
    intro e; subst e
    exact h ((H.mem _).2 ha)
  pre := by obtain ⟨r, hr⟩ := H.pre; exact ⟨r ++ [k], by rw [hr, List.append_assoc]⟩
  want := fun y hy hb => by
    rcases hW y hy with h1 | h1
    · exact List.mem_append.2 (.inl (H.want y h1 hb))
    · rw [h1]; simp
theorem rw_w (H : RW m al0 al th W) (hW : ∀ y, W' y → W y) : RW m al0 al th W' := ⟨H.mem, H.come, H.nd, H.pre, fun y hy => H.want y (hW y hy)⟩
theorem rw_len (hR : Right m) (H : RW m al0 al th W) : (al.length : Int) ≤ 62500 := pr_len hR.small H.nd fun x hx => come_in hR (H.come x hx)
def W0 (m : Mach) (i : Int) (y : Pr) : Prop := ∃ p : Int, 0 ≤ p ∧ p < i ∧ y.1 = at_ m.first p ∧ y.2 ∈ m.first
def W1 (m : Mach) (i j : Int) (y : Pr) : Prop := W0 m i y ∨ ∃ r : Int, 0 ≤ r ∧ r < j ∧ y = (at_ m.first i, at_ m.first r)
def W2 (m : Mach) (al : List Pr) (i : Int) (y : Pr) : Prop := (y.1 ∈ m.first ∧ y.2 ∈ m.first) ∨ ∃ p : Int, 0 ≤ p ∧ p < i ∧ SuccP m (at_ al p) y
def W3 (m : Mach) (al : List Pr) (i j : Int) (y : Pr) : Prop := W2 m al i y ∨ ∃ q : Int, 0 ≤ q ∧ q < j ∧ y.1 = at_ (at_ m.follow (at_ al i).1) q ∧ y.2 ∈ at_ m.follow (at_ al i).2
def W4 (m : Mach) (al : List Pr) (i j k : Int) (y : Pr) : Prop := W3 m al i j y ∨ ∃ r : Int, 0 ≤ r ∧ r < k ∧ y = (at_ (at_ m.follow (at_ al i).1) j, at_ (at_ m.follow (at_ al i).2) r)
theorem rw_00 : RW m [] [] [] (W0 m 0) := ⟨fun x => (by simp [zbc, zbz]), fun _ h => (by cases h), List.nodup_nil, ⟨[], rfl⟩, fun y ⟨p, h0, h1, _⟩ => absurd h0 (by omega)⟩
theorem w_01 {i : Int} : ∀ y, W1 m i 0 y → W0 m i y := fun y h => h.elim id fun ⟨r, h0, h1, _⟩ => by omega
theorem w_11 {i j : Int} : ∀ y, W1 m i (j + 1) y → W1 m i j y ∨ y = ((at_ m.first i, at_ m.first j) : Int × Int) := fun y h => by
  rcases h with h | ⟨r, h0, h1, h2⟩
  · exact .inl (.inl h)
  · by_cases e : r = j
    · subst e; exact .inr h2
    · exact .inl (.inr ⟨r, h0, by omega, h2⟩)
theorem mem_pl {l : List Int} {x : Int} (h : x ∈ l) : ∃ q : Int, 0 ≤ q ∧ q < (l.length : Int) ∧ x = at_ l q := by
  obtain ⟨n, hn, hx⟩ := List.mem_iff_getElem.1 h
  refine ⟨n, by omega, by omega, ?_⟩
  unfold at_
  rw [Int.toNat_natCast, List.getD_eq_getElem?_getD, List.getElem?_eq_getElem hn]; exact hx.symm
theorem w_10 {i j : Int} (hj : (m.first.length : Int) ≤ j) : ∀ y, W0 m (i + 1) y → W1 m i j y := fun y ⟨p, h0, h1, h2, h3⟩ => by
  by_cases e : p = i
  · subst e
    obtain ⟨q, q0, q1, q2⟩ := mem_pl h3
    exact .inr ⟨q, q0, by omega, by rw [← h2, ← q2]⟩
  · exact .inl ⟨p, h0, by omega, h2, h3⟩
theorem w_02 {al : List Pr} {i : Int} (hi : (m.first.length : Int) ≤ i) : ∀ y, W2 m al 0 y → W0 m i y := fun y h => by
  rcases h with ⟨h1, h2⟩ | ⟨p, h0, h1, _⟩
  · obtain ⟨q, q0, q1, q2⟩ := mem_pl h1
    exact ⟨q, q0, by omega, q2, h2⟩
  · omega
theorem w_23 {i : Int} : ∀ y, W3 m al i 0 y → W2 m al i y := fun y h => h.elim id fun ⟨r, h0, h1, _⟩ => by omega
theorem w_34 {i j : Int} : ∀ y, W4 m al i j 0 y → W3 m al i j y := fun y h => h.elim id fun ⟨r, h0, h1, _⟩ => by omega
theorem w_44 {i j r : Int} : ∀ y, W4 m al i j (r + 1) y → W4 m al i j r y ∨ y = ((at_ (at_ m.follow (at_ al i).1) j, at_ (at_ m.follow (at_ al i).2) r) : Int × Int) := fun y h => by
  rcases h with h | ⟨q, h0, h1, h2⟩
  · exact .inl (.inl h)
  · by_cases e : q = r
    · subst e; exact .inr h2
    · exact .inl (.inr ⟨q, h0, by omega, h2⟩)
theorem w_43 {i j r : Int} (hr : ((at_ m.follow (at_ al i).2).length : Int) ≤ r) : ∀ y, W3 m al i (j + 1) y → W4 m al i j r y := fun y h => by
  rcases h with h | ⟨q, h0, h1, h2, h3⟩
  · exact .inl (.inl h)
  · by_cases e : q = j
    · subst e
      obtain ⟨p, p0, p1, p2⟩ := mem_pl h3
      exact .inr ⟨p, p0, by omega, by rw [← h2, ← p2]⟩
    · exact .inl (.inr ⟨q, h0, by omega, h2, h3⟩)
theorem rw_next {al2 : List Pr} {i j : Int} (H : RW m al2 al th (W3 m al2 i j)) (hi0 : 0 ≤ i) (hi : i < (al2.length : Int)) (hj : ((at_ m.follow (at_ al2 i).1).length : Int) ≤ j) : RW m [] al th (W2 m al (i + 1)) := by
  obtain ⟨r, hr⟩ := H.pre
  refine ⟨H.mem, H.come, H.nd, ⟨al, rfl⟩, fun y hy hb => H.want y ?_ hb⟩
  rcases hy with hy | ⟨p, h0, h1, h2⟩
  · exact .inl (.inl hy)
  · have e : at_ al p = at_ al2 p := by
      rw [hr]; exact app_at h0 (by omega)
    rw [e] at h2
    by_cases e2 : p = i
    · subst e2
      obtain ⟨q, q0, q1, q2⟩ := mem_pl h2.1
      exact .inr ⟨q, q0, by omega, q2, h2.2⟩
    · exact .inl (.inr ⟨p, h0, by omega, h2⟩)
theorem rw_in (H : RW m [] al th W) : RW m al al th W := ⟨H.mem, H.come, H.nd, ⟨[], by simp⟩, H.want⟩
theorem come_all {i : Int} (H : RW m [] al th (W2 m al i)) (hi : (al.length : Int) ≤ i) {y : Pr} (h : Come m y) : y ∈ al := by
  induction h with
  | first h1 h2 hb => exact H.want _ (.inl ⟨h1, h2⟩) hb
  | next _ hs hb ih =>
    obtain ⟨n, hn, hx⟩ := List.mem_iff_getElem.1 ih
    refine H.want _ (.inr ⟨n, by omega, by omega, ?_⟩) hb
    have : at_ al ((n : Nat) : Int) = al[n] := by unfold at_; rw [Int.toNat_natCast, List.getD_eq_getElem?_getD, List.getElem?_eq_getElem hn]; rfl
    rw [this, hx]; exact hs
end
end Gx
namespace Gx
open Go Go.RowKit
set_option linter.unusedSimpArgs false
set_option linter.unusedSectionVars false
set_option linter.unusedVariables false
def ltL : List Int → List Int → Bool
  | _, [] => false
  | [], _ :: _ => true
  | a :: x, b :: y => decide (a < b) || (decide (a = b) && ltL x y)
def lessL (x y : List Int) : Bool := decide (x.length < y.length) || (decide (x.length = y.length) && ltL x y)
def leL (x y : List Int) : Prop := x = y ∨ lessL x y = true
theorem bytesL_range (w : ByteArray) : ∀ x ∈ zay w, 0 ≤ x ∧ x < 256 := fun x hx => by
  unfold zay at hx
  obtain ⟨b, _, rfl⟩ := List.mem_map.1 hx
  have := b.toNat_lt
  omega
end Gx
namespace Gx
open Go Go.RowKit
set_option linter.unusedSimpArgs false
set_option linter.unusedSectionVars false
set_option linter.unusedVariables false
structure StepM where
  st : Int
  fr : Int
  by_ : Int
deriving DecidableEq
instance : Inhabited StepM := ⟨⟨0, 0, 0⟩⟩
end Gx
namespace Gx
open Go Go.RowKit
set_option linter.unusedSimpArgs false
set_option linter.unusedSectionVars false
set_option linter.unusedVariables false
section
variable {α β : Type} [DecidableEq α]
def KN (kvs : List (α × β)) : Prop := (kvs.map (·.1)).Nodup
theorem look_some {k : α} : ∀ {kvs : List (α × β)} {i j : Nat} {v : β}, zbz k kvs i = some (j, v) → (k, v) ∈ kvs
  | [], _, _, _, h => by simp [zbz] at h
  | p :: r, i, j, v, h => by
    unfold zbz at h
    by_cases hk : k = p.1
    · rw [if_pos hk] at h
      simp only [Option.some.injEq, Prod.mk.injEq] at h
      rw [hk, ← h.2]; exact List.mem_cons_self ..
    · rw [if_neg hk] at h
      exact List.mem_cons_of_mem _ (look_some h)
theorem look_noneK {k : α} : ∀ {kvs : List (α × β)} {i : Nat}, zbz k kvs i = none → ∀ p ∈ kvs, p.1 ≠ k
  | [], _, _, p, hp => by cases hp
  | q :: r, i, h, p, hp => by
    unfold zbz at h
    by_cases hk : k = q.1
    · rw [if_pos hk] at h; cases h
    · rw [if_neg hk] at h
      rcases List.mem_cons.1 hp with rfl | hp
      · exact fun e => hk e.symm
      · exact look_noneK h p hp
theorem val_mem {k : α} {kvs : List (α × β)} {v : β} (h : zbc k kvs = some v) : (k, v) ∈ kvs := by
  unfold zbc at h
  rw [Option.map_eq_some_iff] at h
  obtain ⟨⟨j, u⟩, h1, h2⟩ := h
  simp only at h2
  rw [← h2]; exact look_some h1
theorem val_none {k : α} {kvs : List (α × β)} (h : zbc k kvs = none) : ∀ p ∈ kvs, p.1 ≠ k := by
  unfold zbc at h
  rw [Option.map_eq_none_iff] at h
  exact look_noneK h
theorem putAt_new {k : α} {v : β} {kvs : List (α × β)} (h : zbc k kvs = none) : zcz k v kvs = kvs ++ [(k, v)] := by
  unfold zbc at h
  rw [Option.map_eq_none_iff] at h
  unfold zcz
  rw [h]
end
structure Off (t : Int) (O : Int → List Int → Prop) (kvs : List (Int × ByteArray)) : Prop where
  kn : KN kvs
  len : ∀ i u, O i u → (u.length : Int) = t
  yes : ∀ p ∈ kvs, O p.1 (zay p.2) ∧ ∀ u, O p.1 u → leL (zay p.2) u
  all : ∀ i u, O i u → ∃ s, (i, s) ∈ kvs
theorem Off.congr {t : Int} {O O' : Int → List Int → Prop} {kvs : List (Int × ByteArray)} (h : Off t O kvs) (e : ∀ i u, O' i u ↔ O i u) : Off t O' kvs :=
  ⟨h.kn, fun i u hO => h.len i u ((e i u).1 hO), fun p hp => ⟨(e _ _).2 (h.yes p hp).1, fun u hu => (h.yes p hp).2 u ((e _ _).1 hu)⟩, fun i u hO => h.all i u ((e i u).1 hO)⟩
end Gx
namespace Gx
open Go Go.RowKit
set_option linter.unusedSimpArgs false
set_option linter.unusedVariables false
set_option linter.unusedSectionVars false
abbrev getA (y : Pr) (ah : List (Pr × List Pr)) : List Pr := (zbc y ah).getD []
structure AH (m : Mach) (ah : List (Pr × List Pr)) (A : Pr → Pr → Prop) : Prop where
  mem : ∀ y x, x ∈ getA y ah ↔ A y x
  nd : ∀ y, (getA y ah).Nodup
section
variable {m : Mach} {al : List Pr} {ah : List (Pr × List Pr)} {i j k : Int}
def A5 (m : Mach) (al : List Pr) (i : Int) (y x : Pr) : Prop := ∃ p : Int, 0 ≤ p ∧ p < i ∧ x = at_ al p ∧ SuccP m x y ∧ y ∈ al
def A6 (m : Mach) (al : List Pr) (i j : Int) (y x : Pr) : Prop := A5 m al i y x ∨ (x = at_ al i ∧ y ∈ al ∧ ∃ q : Int, 0 ≤ q ∧ q < j ∧ y.1 = at_ (at_ m.follow (at_ al i).1) q ∧ y.2 ∈ at_ m.follow (at_ al i).2)
def A7 (m : Mach) (al : List Pr) (i j k : Int) (y x : Pr) : Prop := A6 m al i j y x ∨ (x = at_ al i ∧ y ∈ al ∧ ∃ r : Int, 0 ≤ r ∧ r < k ∧ y = (at_ (at_ m.follow (at_ al i).1) j, at_ (at_ m.follow (at_ al i).2) r))
theorem ah_iff {A B : Pr → Pr → Prop} (H : AH m ah A) (h : ∀ y x, A y x ↔ B y x) : AH m ah B := ⟨fun y x => (H.mem y x).trans (h y x), H.nd⟩
theorem ah_0 : AH m [] (A5 m al 0) := ⟨fun y x => by
  constructor
  · intro h; simp [getA, zbc, zbz] at h
  · rintro ⟨p, h0, h1, _⟩; omega, fun y => by simp [getA, zbc, zbz]⟩
theorem ah_56 (H : AH m ah (A5 m al i)) : AH m ah (A6 m al i 0) := ah_iff H fun y x => ⟨.inl, fun h => h.elim id fun ⟨_, _, q, h0, h1, _⟩ => by omega⟩
theorem ah_67 (H : AH m ah (A6 m al i j)) : AH m ah (A7 m al i j 0) := ah_iff H fun y x => ⟨.inl, fun h => h.elim id fun ⟨_, _, q, h0, h1, _⟩ => by omega⟩
theorem ah_76 (H : AH m ah (A7 m al i j k)) (j0 : 0 ≤ j) (hk : ((at_ m.follow (at_ al i).2).length : Int) ≤ k) (hk2 : k ≤ ((at_ m.follow (at_ al i).2).length : Int)) : AH m ah (A6 m al i (j + 1)) := ah_iff H fun y x => by
  constructor
  · rintro (h | ⟨h1, h2, r, r0, r1, h3⟩)
    · rcases h with h | ⟨h1, h2, q, q0, q1, h3⟩
      · exact .inl h
      · exact .inr ⟨h1, h2, q, q0, by omega, h3⟩
    · refine .inr ⟨h1, h2, j, j0, by omega, by rw [h3], ?_⟩
      rw [h3]; exact zbp r0 (by omega)
  · rintro (h | ⟨h1, h2, q, q0, q1, h3, h4⟩)
    · exact .inl (.inl h)
    · by_cases e : q = j
      · subst e
        obtain ⟨r, r0, r1, r2⟩ := mem_pl h4
        exact .inr ⟨h1, h2, r, r0, by omega, by rw [← h3, ← r2]⟩
      · exact .inl (.inr ⟨h1, h2, q, q0, by omega, h3, h4⟩)
theorem ah_65 (H : AH m ah (A6 m al i j)) (i0 : 0 ≤ i) (hj : ((at_ m.follow (at_ al i).1).length : Int) ≤ j) (hj2 : j ≤ ((at_ m.follow (at_ al i).1).length : Int)) : AH m ah (A5 m al (i + 1)) := ah_iff H fun y x => by
  constructor
  · rintro (⟨p, p0, p1, h⟩ | ⟨h1, h2, q, q0, q1, h3, h4⟩)
    · exact ⟨p, p0, by omega, h⟩
    · refine ⟨i, i0, by omega, h1, ⟨?_, ?_⟩, h2⟩
      · rw [h3, h1]; exact zbp q0 (by omega)
      · rw [h1]; exact h4
  · rintro ⟨p, p0, p1, h1, h2, h3⟩
    by_cases e : p = i
    · subst e
      rw [h1] at h2
      obtain ⟨q, q0, q1, q2⟩ := mem_pl h2.1
      exact .inr ⟨h1, h3, q, q0, by omega, q2, h2.2⟩
    · exact .inl ⟨p, p0, by omega, h1, h2, h3⟩
theorem ah_skip (H : AH m ah (A7 m al i j k)) (h : ((at_ (at_ m.follow (at_ al i).1) j, at_ (at_ m.follow (at_ al i).2) k) : Pr) ∉ al) : AH m ah (A7 m al i j (k + 1)) := ah_iff H fun y x => by
  constructor
  · rintro (h1 | ⟨h1, h2, r, r0, r1, h3⟩)
    · exact .inl h1
    · exact .inr ⟨h1, h2, r, r0, by omega, h3⟩
  · rintro (h1 | ⟨h1, h2, r, r0, r1, h3⟩)
    · exact .inl h1
    · by_cases e : r = k
      · subst e; rw [h3] at h2; exact absurd h2 h
      · exact .inr ⟨h1, h2, r, r0, by omega, h3⟩
theorem ah_put (hR : Right m) (hal : ∀ x ∈ al, InPr m x) (hnd : al.Nodup) (H : AH m ah (A7 m al i j k)) (i0 : 0 ≤ i) (i1 : i < (al.length : Int)) (j0 : 0 ≤ j) (j1 : j < ((at_ m.follow (at_ al i).1).length : Int)) (k0 : 0 ≤ k) (k1 : k < ((at_ m.follow (at_ al i).2).length : Int))
    (h : ((at_ (at_ m.follow (at_ al i).1) j, at_ (at_ m.follow (at_ al i).2) k) : Pr) ∈ al) :
    AH m (zcz ((at_ (at_ m.follow (at_ al i).1) j, at_ (at_ m.follow (at_ al i).2) k) : Pr) ((zbc ((at_ (at_ m.follow (at_ al i).1) j, at_ (at_ m.follow (at_ al i).2) k) : Pr) ah).getD [] ++ [at_ al i]) ah) (A7 m al i j (k + 1)) := by
  have hx := hal _ (zbp i0 i1)
  have hn1 := rises_nodup (hR.row _ hx.1.1 hx.1.2)
  have hn2 := rises_nodup (hR.row _ hx.2.1 hx.2.2)
  have hnew : ¬ A7 m al i j k ((at_ (at_ m.follow (at_ al i).1) j, at_ (at_ m.follow (at_ al i).2) k) : Pr) (at_ al i) := by
    rintro ((⟨p, p0, p1, h1, _⟩ | ⟨_, _, q, q0, q1, h1, _⟩) | ⟨_, _, r, r0, r1, h1⟩)
    · have := pr_nodup_at hnd i0 i1 p0 (by omega) h1; omega
    · have := nodup_at hn1 j0 j1 q0 (by omega) h1; omega
    · have := nodup_at hn2 k0 k1 r0 (by omega) (congrArg Prod.snd h1); omega
  have hold := mt (H.mem _ _).1 hnew
  refine ⟨fun y x => ?_, fun y => ?_⟩
  · show x ∈ (zbc y (zcz _ _ ah)).getD [] ↔ _
    rw [val_put]
    by_cases e : y = ((at_ (at_ m.follow (at_ al i).1) j, at_ (at_ m.follow (at_ al i).2) k) : Pr)
    · subst e
      rw [if_pos rfl, Option.getD_some, List.mem_append, List.mem_singleton]
      constructor
      · rintro (h1 | h1)
        · rcases (H.mem _ _).1 h1 with h2 | ⟨h2, h3, r, r0, r1, h4⟩
          · exact .inl h2
          · exact .inr ⟨h2, h3, r, r0, by omega, h4⟩
        · exact .inr ⟨h1, h, k, k0, by omega, rfl⟩
      · rintro (h1 | ⟨h1, _, _⟩)
        · exact .inl ((H.mem _ _).2 (.inl h1))
        · exact .inr h1
    · rw [if_neg e]
      refine (H.mem y x).trans ⟨?_, ?_⟩
      · rintro (h1 | ⟨h1, h2, r, r0, r1, h3⟩)
        · exact .inl h1
        · exact .inr ⟨h1, h2, r, r0, by omega, h3⟩
      · rintro (h1 | ⟨h1, h2, r, r0, r1, h3⟩)
        · exact .inl h1
        · by_cases e2 : r = k
          · subst e2; exact absurd h3 e
          · exact .inr ⟨h1, h2, r, r0, by omega, h3⟩
  · show ((zbc y (zcz _ _ ah)).getD []).Nodup
    rw [val_put]
    by_cases e : y = ((at_ (at_ m.follow (at_ al i).1) j, at_ (at_ m.follow (at_ al i).2) k) : Pr)
    · subst e
      rw [if_pos rfl, Option.getD_some, List.nodup_append]
      refine ⟨H.nd _, by simp, fun a ha b hb => ?_⟩
      rw [List.mem_singleton.1 hb]
      intro e2; subst e2; exact hold ha
    · rw [if_neg e]; exact H.nd y
theorem a7_al (hal : ∀ p : Int, 0 ≤ p → p ≤ i → at_ al p ∈ al) (i0 : 0 ≤ i) {y x : Pr} (h : A7 m al i j k y x) : x ∈ al := by
  rcases h with (⟨p, p0, p1, h1, _⟩ | ⟨h1, _⟩) | ⟨h1, _⟩
  · rw [h1]; exact hal p p0 (by omega)
  · rw [h1]; exact hal i i0 (Int.le_refl _)
  · rw [h1]; exact hal i i0 (Int.le_refl _)
theorem ah_len (hR : Right m) (hal : ∀ x ∈ al, InPr m x) (H : AH m ah (A7 m al i j k)) (i0 : 0 ≤ i) (i1 : i < (al.length : Int)) (y : Pr) : (((zbc y ah).getD []).length : Int) ≤ 62500 :=
  pr_len hR.small (H.nd y) fun x hx => hal x (a7_al (fun p p0 p1 => zbp p0 (by omega)) i0 ((H.mem y x).1 hx))
theorem ah_len5 (hR : Right m) (hal : ∀ x ∈ al, InPr m x) (H : AH m ah (A5 m al i)) (i1 : i ≤ (al.length : Int)) (y : Pr) : (((zbc y ah).getD []).length : Int) ≤ 62500 :=
  pr_len hR.small (H.nd y) fun x hx => by
    obtain ⟨p, p0, p1, h1, _⟩ := (H.mem y x).1 hx
    exact hal x (by rw [h1]; exact zbp p0 (by omega))
structure TI (m : Mach) (al todo : List Pr) (i : Int) : Prop where
  mem : ∀ x, x ∈ todo ↔ ∃ p : Int, 0 ≤ p ∧ p < i ∧ x = at_ al p ∧ at_ m.last x.1 = true ∧ at_ m.last x.2 = true
  len : (todo.length : Int) ≤ i
theorem ti_0 : TI m al [] 0 := ⟨fun x => ⟨fun h => (by cases h), fun ⟨p, h0, h1, _⟩ => absurd h0 (by omega)⟩, by simp⟩
theorem ti_yes {todo : List Pr} (H : TI m al todo i) (i0 : 0 ≤ i) (h1 : at_ m.last (at_ al i).1 = true) (h2 : at_ m.last (at_ al i).2 = true) : TI m al (todo ++ [at_ al i]) (i + 1) := ⟨fun x => by
  rw [List.mem_append, List.mem_singleton, H.mem x]
  constructor
  · rintro (⟨p, p0, p1, h⟩ | h)
    · exact ⟨p, p0, by omega, h⟩
    · exact ⟨i, i0, by omega, h, by rw [h]; exact h1, by rw [h]; exact h2⟩
  · rintro ⟨p, p0, p1, h⟩
    by_cases e : p = i
    · subst e; exact .inr h.1
    · exact .inl ⟨p, p0, by omega, h⟩, by rw [List.length_append]; have := H.len; simp; omega⟩
theorem ti_no {todo : List Pr} (H : TI m al todo i) (h : at_ m.last (at_ al i).1 = false ∨ at_ m.last (at_ al i).2 = false) : TI m al todo (i + 1) := ⟨fun x => by
  rw [H.mem x]
  constructor
  · rintro ⟨p, p0, p1, h⟩; exact ⟨p, p0, by omega, h⟩
  · rintro ⟨p, p0, p1, h1, h2, h3⟩
    by_cases e : p = i
    · subst e
      rw [h1] at h2 h3
      rcases h with h | h
      · rw [h] at h2; cases h2
      · rw [h] at h3; cases h3
    · exact ⟨p, p0, by omega, h1, h2, h3⟩, by have := H.len; omega⟩
abbrev hasO (out : List (Pr × Int)) (x : Pr) : Prop := ¬ (zbc x out).getD 0 = 0
structure E8 (m : Mach) (al : List Pr) (ah : List (Pr × List Pr)) (todo : List Pr) (out : List (Pr × Int)) : Prop where
  todoIn : ∀ x ∈ todo, x ∈ al ∧ GoesP m x
  outIn : ∀ p ∈ out, p.1 ∈ al ∧ GoesP m p.1 ∧ p.2 = 1
  nd : (out.map (·.1)).Nodup
  lasts : ∀ x ∈ al, at_ m.last x.1 = true → at_ m.last x.2 = true → hasO out x ∨ x ∈ todo
  clos : ∀ y, hasO out y → ∀ x ∈ getA y ah, hasO out x ∨ x ∈ todo
  len : (todo.length : Int) ≤ 62500 + 62500 * out.length
theorem e8_0 {todo : List Pr} (H : TI m al todo i) (hi : (al.length : Int) ≤ i) (hi2 : i ≤ (al.length : Int)) (hl : (al.length : Int) ≤ 62500) : E8 m al ah todo [] where
  todoIn := fun x hx => by
    obtain ⟨p, p0, p1, h1, h2, h3⟩ := (H.mem x).1 hx
    exact ⟨by rw [h1]; exact zbp p0 (by omega), .last h2 h3⟩
  outIn := fun p hp => by cases hp
  nd := List.nodup_nil
  lasts := fun x hx h1 h2 => by
    obtain ⟨n, hn, he⟩ := List.mem_iff_getElem.1 hx
    refine .inr ((H.mem x).2 ⟨n, by omega, by omega, ?_, h1, h2⟩)
    unfold at_; rw [Int.toNat_natCast, List.getD_eq_getElem?_getD, List.getElem?_eq_getElem hn]; exact he.symm
  clos := fun y hy => by exfalso; exact hy (by simp [zbc, zbz])
  len := by have := H.len; simp; omega
theorem hasO_mem {out : List (Pr × Int)} {x : Pr} (h : hasO out x) : x ∈ out.map (·.1) := by
  unfold hasO at h
  rw [valAt_pos] at h
  cases hq : out[zbg x out]? with
  | none => rw [hq] at h; exact absurd rfl h
  | some q =>
    have := pos_key x out q hq
    exact List.mem_map.2 ⟨q, List.mem_of_getElem? hq, this⟩
theorem out_len (hR : Right m) (hal : ∀ x ∈ al, InPr m x) {todo : List Pr} {out : List (Pr × Int)} (H : E8 m al ah todo out) : (out.length : Int) ≤ 62500 := by
  have := pr_len hR.small H.nd fun x hx => by
    obtain ⟨p, hp, rfl⟩ := List.mem_map.1 hx
    exact hal _ (H.outIn p hp).1
  rw [List.length_map] at this; exact this
theorem last_cut {todo : List Pr} (h : 0 < (todo.length : Int)) : todo = todo.take ((todo.length : Int) - 1).toNat ++ [at_ todo ((todo.length : Int) - 1)] := by
  have h1 := drop_cons todo (t := (todo.length : Int) - 1) (by omega) (by omega)
  have h2 : todo.drop ((todo.length : Int) - 1 + 1).toNat = [] := List.drop_of_length_le (by omega)
  rw [h2] at h1
  rw [← h1, List.take_append_drop]
theorem e8_old {todo : List Pr} {out : List (Pr × Int)} (H : E8 m al ah todo out) (h : 0 < (todo.length : Int)) (hh : ¬ (zbc (at_ todo ((todo.length : Int) - 1)) out).getD 0 = 0) : E8 m al ah (todo.take ((todo.length : Int) - 1).toNat) out := by
  have e := last_cut h
  have cut : ∀ x, x ∈ todo → hasO out x ∨ x ∈ todo.take ((todo.length : Int) - 1).toNat := fun x hx => by
    rw [e] at hx
    rcases List.mem_append.1 hx with h1 | h1
    · exact .inr h1
    · rw [List.mem_singleton.1 h1]; exact .inl hh
  refine ⟨fun x hx => H.todoIn x (List.mem_of_mem_take hx), H.outIn, H.nd, fun x hx h1 h2 => (H.lasts x hx h1 h2).elim .inl (cut x), fun y hy x hx => (H.clos y hy x hx).elim .inl (cut x), ?_⟩
  have := H.len
  rw [List.length_take]; omega
theorem e8_new (hR : Right m) (hal : ∀ x ∈ al, Come m x ∧ InPr m x) (hal2 : ∀ x ∈ al, bothP m x) (HA : AH m ah (A5 m al i)) (hi : i ≤ (al.length : Int)) {todo : List Pr} {out : List (Pr × Int)} (H : E8 m al ah todo out) (h : 0 < (todo.length : Int)) (hh : (zbc (at_ todo ((todo.length : Int) - 1)) out).getD 0 = 0) :
    E8 m al ah (todo.take ((todo.length : Int) - 1).toNat ++ (zbc (at_ todo ((todo.length : Int) - 1)) ah).getD []) (zcz (at_ todo ((todo.length : Int) - 1)) 1 out) ∧ (zcz (at_ todo ((todo.length : Int) - 1)) 1 out).length = out.length + 1 := by
  generalize hx0 : at_ todo ((todo.length : Int) - 1) = x0 at *
  have e := last_cut h
  rw [hx0] at e
  have hin : x0 ∈ todo := by rw [← hx0]; exact zbp (by omega) (by omega)
  obtain ⟨hx1, hx2⟩ := H.todoIn x0 hin
  have hnot : x0 ∉ out.map (·.1) := fun hm => by
    obtain ⟨p, hp, hpe⟩ := List.mem_map.1 hm
    have hv : ∃ v, zbc x0 out = some v ∧ (x0, v) ∈ out := by
      cases hq : zbc x0 out with
      | none => exact absurd hpe (val_none hq p hp)
      | some v => exact ⟨v, rfl, val_mem hq⟩
    obtain ⟨v, hv1, hv2⟩ := hv
    have := (H.outIn _ hv2).2.2
    rw [hv1] at hh
    simp only at this
    rw [this] at hh; simp at hh
  have hnone : zbc x0 out = none := by
    cases hq : zbc x0 out with
    | none => rfl
    | some v => exact absurd (List.mem_map.2 ⟨_, val_mem hq, rfl⟩) hnot
  have hput := putAt_new (v := (1 : Int)) hnone
  have hasP : ∀ x, hasO out x → hasO (zcz x0 1 out) x := fun x hx => by
    unfold hasO; rw [val_put]; split
    · simp
    · exact hx
  have has0 : hasO (zcz x0 1 out) x0 := by unfold hasO; rw [val_put, if_pos rfl]; simp
  have mv : ∀ x, hasO out x ∨ x ∈ todo → hasO (zcz x0 1 out) x ∨ x ∈ todo.take ((todo.length : Int) - 1).toNat ++ (zbc x0 ah).getD [] := fun x hx => by
    rcases hx with hx | hx
    · exact .inl (hasP x hx)
    · rw [e] at hx
      rcases List.mem_append.1 hx with h1 | h1
      · exact .inr (List.mem_append.2 (.inl h1))
      · rw [List.mem_singleton.1 h1]; exact .inl has0
  refine ⟨⟨fun x hx => ?_, fun p hp => ?_, ?_, fun x hx h1 h2 => mv x (H.lasts x hx h1 h2), fun y hy x hx => ?_, ?_⟩, by rw [hput]; simp⟩
  · rcases List.mem_append.1 hx with h1 | h1
    · exact H.todoIn x (List.mem_of_mem_take h1)
    · obtain ⟨p, p0, p1, h2, h3, h4⟩ := (HA.mem x0 x).1 h1
      exact ⟨by rw [h2]; exact zbp p0 (by omega), .next h3 (hal2 _ h4) hx2⟩
  · rw [hput] at hp
    rcases List.mem_append.1 hp with h1 | h1
    · exact H.outIn p h1
    · rw [List.mem_singleton.1 h1]; exact ⟨hx1, hx2, rfl⟩
  · rw [hput, List.map_append, List.nodup_append]
    refine ⟨H.nd, by simp, fun a ha b hb => ?_⟩
    have : b = x0 := by simpa using hb
    subst this
    intro e2; subst e2; exact hnot ha
  · by_cases ey : y = x0
    · subst ey; exact .inr (List.mem_append.2 (.inr hx))
    · have hy' : hasO out y := by
        unfold hasO at hy ⊢; rw [val_put, if_neg ey] at hy; exact hy
      exact mv x (H.clos y hy' x hx)
  · have h1 := H.len
    have h2 := ah_len5 hR (fun x hx => (hal x hx).2) HA hi x0
    rw [hput, List.length_append, List.length_append, List.length_take]
    simp only [List.length_cons, List.length_nil]
    omega
theorem e8_all {todo : List Pr} {out : List (Pr × Int)} (hcl : ∀ x y, x ∈ al → SuccP m x y → bothP m y → y ∈ al) (HA : AH m ah (A5 m al i)) (hi : (al.length : Int) ≤ i) (hi2 : i ≤ (al.length : Int)) (H : E8 m al ah todo out) (h : ¬ 0 < (todo.length : Int)) {x : Pr} (hg : GoesP m x) (hx : x ∈ al) : hasO out x := by
  have hn : todo = [] := List.eq_nil_of_length_eq_zero (by omega)
  subst hn
  induction hg with
  | last h1 h2 => exact (H.lasts _ hx h1 h2).elim id fun h => by cases h
  | @next x y hs hb _ ih =>
    have hy := hcl x y hx hs hb
    have h1 := ih hy
    obtain ⟨n, hn, he⟩ := List.mem_iff_getElem.1 hx
    refine (H.clos y h1 x ((HA.mem y x).2 ⟨n, by omega, by omega, ?_, hs, hy⟩)).elim id fun h => by cases h
    unfold at_; rw [Int.toNat_natCast, List.getD_eq_getElem?_getD, List.getElem?_eq_getElem hn]; exact he.symm
theorem rw_ge {al0 : List Pr} {th : List (Pr × Int)} {W : Pr → Prop} (H : RW m al0 al th W) : (al0.length : Int) ≤ al.length := by
  obtain ⟨r, hr⟩ := H.pre
  rw [hr, List.length_append]; omega
theorem come_both {x : Pr} (h : Come m x) : bothP m x := by cases h <;> assumption
theorem left_step {out left la lb : List (Pr × Int)} {p0 : Pr × Int} {Q : Pr × Int → Prop} (h : left = la ++ p0 :: lb) (H : (∀ p ∈ left, p ∈ out) ∧ ∀ p ∈ out, p ∈ left ∨ Q p) (hq : Q p0) : (∀ p ∈ la ++ lb, p ∈ out) ∧ ∀ p ∈ out, p ∈ la ++ lb ∨ Q p := by
  subst h
  refine ⟨fun p hp => H.1 p (by rcases List.mem_append.1 hp with h | h <;> simp [h]), fun p hp => ?_⟩
  rcases H.2 p hp with h1 | h1
  · rcases List.mem_append.1 h1 with h2 | h2
    · exact .inl (List.mem_append.2 (.inl h2))
    · rcases List.mem_cons.1 h2 with h3 | h3
      · rw [h3]; exact .inr hq
      · exact .inl (List.mem_append.2 (.inr h3))
  · exact .inr h1
theorem single_fin {th : List (Pr × Int)} {j : Int} {todo : List Pr} {out left : List (Pr × Int)} (hr : zbj m = true) (H : RW m [] al th (W2 m al j)) (hj : (al.length : Int) ≤ j) (HA : AH m ah (A5 m al i)) (hi : (al.length : Int) ≤ i) (hi2 : i ≤ (al.length : Int)) (H8 : E8 m al ah todo out) (h : ¬ 0 < (todo.length : Int))
    (hl : left = []) (H9 : ∀ p ∈ out, p ∈ left ∨ (at_ m.spots p.1.1).tag = (at_ m.spots p.1.2).tag) : zcd m = true :=
  single_yes hr fun x hc hg => by
    have hx := come_all H hj hc
    have ho := e8_all (fun x y hx hs hb => come_all H hj (.next (H.come x hx) hs hb)) HA hi hi2 H8 h hg hx
    obtain ⟨p, hp, rfl⟩ := List.mem_map.1 (hasO_mem ho)
    rcases H9 p hp with h1 | h1
    · rw [hl] at h1; cases h1
    · exact h1
end
end Gx
