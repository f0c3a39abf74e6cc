/- My own library for walks through the translated code, part N11: laws of the model alone, no word of the program. -/
import Derived.Test.YtdfkpjchnndniaaDoorN10
import Derived.Test.YtdfkpjchnndniaaDoorN8
namespace Gx
open Go Go.RowKit
set_option linter.unusedSimpArgs false
set_option linter.unusedSectionVars false
set_option linter.unusedVariables false

/-! ### Texts of paths -/
theorem bytesL_app (a b : ByteArray) : bytesL (a ++ b) = bytesL a ++ bytesL b := by
  unfold bytesL
  rw [ByteArray.data_append, Array.toList_append, List.map_append]
theorem bytesL_one {c : Int} (h0 : 0 ≤ c) (h1 : c < 256) : bytesL (strOfNums [c]) = [c] := by
  have e : (strOfNums [c]).data.toList = [UInt8.ofNat c.toNat] := rfl
  unfold bytesL
  rw [e]
  obtain ⟨n, rfl⟩ := Int.eq_ofNat_of_zero_le h0
  simp
  omega
theorem str_one (c : Int) : (strOfNums [c]).size = 1 := rfl
theorem size_add (a b : ByteArray) : (a ++ b).size = a.size + b.size := by simp
inductive Path (m : Mach) (src : List Int) : List Int → Int → Prop
  | one {i c : Int} : i ∈ src → 0 ≤ c → c < 256 → has (at_ m.spots i).set c = true → Path m src [c] i
  | snoc {l : List Int} {j i c : Int} : Path m src l j → i ∈ at_ m.follow j → 0 ≤ c → c < 256 → has (at_ m.spots i).set c = true → Path m src (l ++ [c]) i
theorem Path.some {m : Mach} {src l : List Int} {i : Int} (h : Path m src l i) : 0 < l.length := by cases h <;> simp
theorem Path.join {m : Mach} {src l l' : List Int} {i j : Int} (h : Path m src l i) (h2 : Path m (at_ m.follow i) l' j) : Path m src (l ++ l') j := by
  induction h2 with
  | one h3 h4 h5 h6 => exact .snoc h h3 h4 h5 h6
  | snoc h3 h4 h5 h6 h7 ih => rw [← List.append_assoc]; exact .snoc ih h4 h5 h6 h7
theorem Path.inn {m : Mach} (hR : Right m) {src l : List Int} {i : Int} (hs : ∀ x ∈ src, 0 ≤ x ∧ x < (m.spots.length : Int)) (h : Path m src l i) : 0 ≤ i ∧ i < (m.spots.length : Int) := by
  induction h with
  | one h3 => exact hs _ h3
  | snoc h3 h4 h5 h6 h7 ih => exact hR.rows ih.1 ih.2 _ h4
theorem Path.run {m : Mach} (hR : Right m) {l : List Int} {i : Int} (h : Path m m.first l i) : ∀ s : ByteArray, (∀ k : Nat, k < l.length → byt s ((k : Nat) : Int) = at_ l ((k : Nat) : Int)) → at_ (runTo m s (l.length - 1)) i = true := by
  induction h with
  | one h3 h4 h5 h6 =>
    intro s hb
    have hi := hR.firsts _ h3
    have h0 := hb 0 (by simp)
    show at_ (intoP m (markP m.spots.length m.first) (byt s 0)) _ = true
    unfold intoP
    rw [tab_at hi.1 hi.2]
    unfold markP
    rw [tab_at (by omega) (by omega), Int.toNat_natCast, Int.toNat_of_nonneg hi.1, decide_eq_true h3, Bool.true_and]
    have e : byt s 0 = _ := h0
    rw [e]; exact h6
  | snoc h3 h4 h5 h6 h7 ih =>
    rename_i l j i c
    intro s hb
    have hj := Path.inn hR hR.firsts h3
    have hi := hR.rows hj.1 hj.2 _ h4
    have hl := h3.some
    have h8 := ih s fun k hk => by
      rw [hb k (by simp; omega)]
      unfold at_
      rw [List.getD_eq_getElem?_getD, List.getD_eq_getElem?_getD, List.getElem?_append_left (by omega)]
    have h9 := hb l.length (by simp)
    have e1 : at_ (l ++ [c]) ((l.length : Nat) : Int) = c := by unfold at_; simp
    rw [e1] at h9
    rw [show (l ++ [c]).length - 1 = (l.length - 1) + 1 by simp; omega]
    show at_ (intoP m (behindP m (runTo m s (l.length - 1))) (byt s ((l.length - 1 + 1 : Nat) : Int))) i = true
    rw [show l.length - 1 + 1 = l.length by omega, h9]
    unfold intoP
    rw [tab_at hi.1 hi.2]
    unfold behindP
    rw [tab_at (by omega) (by omega), Int.toNat_natCast, Int.toNat_of_nonneg hi.1, h7, Bool.and_true, anyTo_iff]
    exact ⟨j.toNat, by omega, by rw [Int.toNat_of_nonneg hj.1, h8, decide_eq_true h4]; rfl⟩
theorem path_takes {m : Mach} (hR : Right m) {s : ByteArray} {i : Int} (h : Path m m.first (bytesL s) i) (hl : at_ m.last i = true) : runM m s = true := by
  have hs := h.some
  rw [bytesL_len] at hs
  have hi := Path.inn hR hR.firsts h
  have h1 := Path.run hR h s fun k hk => by rw [bytesL_len] at hk; rw [bytesL_at s (by omega) (by omega)]
  rw [bytesL_len] at h1
  unfold runM
  rw [right_iff.2 hR, if_neg (by omega), Bool.true_and]
  unfold endsIn
  rw [anyTo_iff]
  exact ⟨i.toNat, by omega, by rw [Int.toNat_of_nonneg hi.1, h1, hl]; rfl⟩
theorem marks_of (P : Nat → Prop) : ∃ f : Nat → Bool, ∀ i, f i = true ↔ P i := Classical.axiomOfChoice (r := fun i (b : Bool) => b = true ↔ P i) fun i => by
  rcases Classical.em (P i) with h | h
  · exact ⟨true, by simp [h]⟩
  · exact ⟨false, by simp [h]⟩
/-! ### What is reached from some -/
def reachF (m : Mach) (src : List Int) (l : List Bool) (i : Nat) : Bool := decide (((i : Nat) : Int) ∈ src) || anyTo (fun j => at_ l ((j : Nat) : Int) && decide (((i : Nat) : Int) ∈ at_ m.follow ((j : Nat) : Int))) m.spots.length
def reachM (m : Mach) (src : List Int) : List Bool := lfp m.spots.length (reachF m src)
theorem reach_mono (m : Mach) (src : List Int) : Mono m.spots.length (reachF m src) := fun a b hab i hi h => by
  unfold reachF at h ⊢
  simp only [Bool.or_eq_true, anyTo_iff, Bool.and_eq_true] at h ⊢
  exact h.imp id fun ⟨d, hd, h1, h2⟩ => ⟨d, hd, hab d (by omega) h1, h2⟩
theorem reach_src {m : Mach} {src : List Int} {i : Int} (h0 : 0 ≤ i) (h1 : i < (m.spots.length : Int)) (h : i ∈ src) : at_ (reachM m src) i = true := by
  have := lfp_closed (reach_mono m src) (i := i.toNat) (by omega) (by unfold reachF; rw [Int.toNat_of_nonneg h0, decide_eq_true h]; rfl)
  rwa [Int.toNat_of_nonneg h0] at this
theorem reach_next {m : Mach} {src : List Int} {i j : Int} (h0 : 0 ≤ i) (h1 : i < (m.spots.length : Int)) (j0 : 0 ≤ j) (j1 : j < (m.spots.length : Int)) (hj : at_ (reachM m src) j = true) (h : i ∈ at_ m.follow j) : at_ (reachM m src) i = true := by
  have := lfp_closed (reach_mono m src) (i := i.toNat) (by omega) (by
    show reachF m src (reachM m src) i.toNat = true
    unfold reachF
    rw [Bool.or_eq_true]; right
    rw [anyTo_iff]
    exact ⟨j.toNat, by omega, by rw [Int.toNat_of_nonneg j0, Int.toNat_of_nonneg h0, hj, decide_eq_true h]; rfl⟩)
  rwa [Int.toNat_of_nonneg h0] at this
theorem reach_least {m : Mach} {src : List Int} {P : Int → Prop} (h1 : ∀ x ∈ src, P x) (h2 : ∀ i j : Int, 0 ≤ j → j < (m.spots.length : Int) → P j → i ∈ at_ m.follow j → P i) {i : Int} (h0 : 0 ≤ i) (hi : i < (m.spots.length : Int)) (h : at_ (reachM m src) i = true) : P i := by
  obtain ⟨f, hf⟩ := marks_of fun i => P ((i : Nat) : Int)
  have hs : Sub m.spots.length (reachM m src) (tab m.spots.length f) := lfp_least fun l hl i hi h => by
    rw [tab_at' hi]
    unfold reachF at h
    simp only [Bool.or_eq_true, anyTo_iff, Bool.and_eq_true, decide_eq_true_eq] at h
    refine (hf _).2 ?_
    rcases h with h | ⟨d, hd, h3, h4⟩
    · exact h1 _ h
    · have := hl d (by omega) h3
      rw [tab_at' (by omega)] at this
      exact h2 _ _ (by omega) (by omega) ((hf _).1 this) h4
  have := hs i.toNat (by omega) (by rwa [Int.toNat_of_nonneg h0])
  rw [tab_at' (by omega)] at this
  have h3 := (hf _).1 this
  rwa [Int.toNat_of_nonneg h0] at h3
/-- Where all sets have bytes, what runs come to is what is reached. -/
theorem come_reach {m : Mach} {i : Nat} (hi : i < m.spots.length) (h : at_ (comeM m) ((i : Nat) : Int) = true) : at_ (reachM m m.first) ((i : Nat) : Int) = true :=
  come_least (P := reachM m m.first) (fun i hi _ hx => reach_src (by omega) (by omega) hx) (fun i j hi hj _ hp hx => reach_next (by omega) (by omega) (by omega) (by omega) hp hx) i hi h
theorem goes_reach {m : Mach} (hR : Right m) {i : Nat} (hi : i < m.spots.length) (h : at_ (goesM m) ((i : Nat) : Int) = true) : at_ m.last ((i : Nat) : Int) = true ∨ ∃ j : Int, 0 ≤ j ∧ j < (m.spots.length : Int) ∧ at_ m.last j = true ∧ at_ (reachM m (at_ m.follow ((i : Nat) : Int))) j = true := by
  obtain ⟨f, hf⟩ := marks_of fun i => at_ m.last ((i : Nat) : Int) = true ∨ ∃ j : Int, 0 ≤ j ∧ j < (m.spots.length : Int) ∧ at_ m.last j = true ∧ at_ (reachM m (at_ m.follow ((i : Nat) : Int))) j = true
  have hs : Sub m.spots.length (goesM m) (tab m.spots.length f) := by
    refine goes_least (fun i hi _ hl => ?_) (fun i hi _ x hx hp => ?_) hR
    · rw [tab_at' hi]; exact (hf _).2 (.inl hl)
    · obtain ⟨j, rfl, hj⟩ := row_nat hR hi hx
      rw [tab_at' hj] at hp
      rw [tab_at' hi]
      refine (hf _).2 (.inr ?_)
      rcases (hf _).1 hp with hl | ⟨q, q0, q1, hl, hq⟩
      · exact ⟨_, by omega, by omega, hl, reach_src (by omega) (by omega) hx⟩
      · refine ⟨q, q0, q1, hl, reach_least (P := fun z => 0 ≤ z ∧ z < (m.spots.length : Int) ∧ at_ (reachM m (at_ m.follow ((i : Nat) : Int))) z = true) (fun z hz => ?_) (fun a b hb0 hb1 hb hab => ?_) q0 q1 hq |>.2.2⟩
        · have := hR.rows (i := ((j : Nat) : Int)) (by omega) (by omega) z hz
          exact ⟨this.1, this.2, reach_next this.1 this.2 (by omega) (by omega) (reach_src (by omega) (by omega) hx) hz⟩
        · have := hR.rows hb0 hb1 a hab
          exact ⟨this.1, this.2, reach_next this.1 this.2 hb0 hb1 hb.2.2 hab⟩
  have := hs i hi h
  rw [tab_at' hi] at this
  exact (hf _).1 this
/-! ### The search for a text -/
theorem first_has {s : BSet} (h : s ≠ 0) : has s (first s) = true ∧ 0 ≤ first s ∧ first s < 256 := by
  have h1 : 0 < count s := of_decide_eq_true (by rw [some_full]; exact decide_eq_true h)
  rw [← list_len] at h1
  rw [first_list s h1]
  obtain ⟨a, b, c⟩ := list_get s (Int.le_refl 0) h1
  exact ⟨c, a, b⟩
def Full (m : Mach) : Prop := ∀ i : Int, 0 ≤ i → i < (m.spots.length : Int) → (at_ m.spots i).set ≠ 0
theorem at_putG {α : Type} [Inhabited α] {l : List α} {t : Int} (h0 : 0 ≤ t) (h1 : t < (l.length : Int)) (v : α) {i : Int} (hi : 0 ≤ i) : at_ (l.set t.toNat v) i = if i = t then v else at_ l i := by
  unfold at_
  rw [List.getD_eq_getElem?_getD, List.getElem?_set, List.getD_eq_getElem?_getD]
  by_cases h : i = t
  · rw [if_pos h, if_pos (by omega), if_pos (by omega)]; rfl
  · rw [if_neg h, if_neg (by omega)]
structure Way (m : Mach) (src : List Int) (texts : List ByteArray) (seen : List Bool) (todo : List Int) : Prop where
  lenT : (texts.length : Int) = m.spots.length
  lenS : (seen.length : Int) = m.spots.length
  inn : ∀ x ∈ todo, 0 ≤ x ∧ x < (m.spots.length : Int)
  nodup : todo.Nodup
  mem : ∀ x : Int, 0 ≤ x → x < (m.spots.length : Int) → (at_ seen x = true ↔ x ∈ todo)
  sound : ∀ x ∈ todo, at_ (reachM m src) x = true
  text : ∀ k : Int, 0 ≤ k → k < (todo.length : Int) → Path m src (bytesL (at_ texts (at_ todo k))) (at_ todo k) ∧ ((at_ texts (at_ todo k)).size : Int) ≤ k + 1
  first : ∀ x ∈ src, x ∈ todo
  cnt : todo.length ≤ trues m.spots.length seen
structure Way0 (m : Mach) (src : List Int) (texts : List ByteArray) (seen : List Bool) (i : Int) : Prop where
  lenT : (texts.length : Int) = m.spots.length
  lenS : (seen.length : Int) = m.spots.length
  mem : ∀ x : Int, 0 ≤ x → x < (m.spots.length : Int) → (at_ seen x = true ↔ x ∈ src.take i.toNat)
  text : ∀ k : Int, 0 ≤ k → k < i → k < (src.length : Int) → Path m src (bytesL (at_ texts (at_ src k))) (at_ src k) ∧ ((at_ texts (at_ src k)).size : Int) ≤ 1
  cnt : i.toNat ≤ trues m.spots.length seen
theorem way0_0 (m : Mach) (src : List Int) : Way0 m src (List.replicate m.spots.length (⟨#[]⟩ : ByteArray)) (List.replicate m.spots.length false) 0 where
  lenT := by simp
  lenS := by simp
  mem := fun x h0 h1 => by rw [tab_false, tab_at h0 h1]; simp
  text := fun k h0 h1 => by omega
  cnt := by simp
theorem nodup_at {l : List Int} (hn : l.Nodup) {i j : Int} (hi : 0 ≤ i) (hi1 : i < (l.length : Int)) (hj : 0 ≤ j) (hj1 : j < (l.length : Int)) (h : at_ l i = at_ l j) : i = j := by
  have e1 := at_some hi hi1
  have e2 := at_some hj hj1
  rw [List.getElem?_eq_getElem (by omega)] at e1 e2
  injection e1 with e1
  injection e2 with e2
  have := (List.getElem_inj (xs := l) (h₀ := by omega) (h₁ := by omega) hn (i := i.toNat) (j := j.toNat)).1 (by rw [e1, e2, h])
  omega
theorem way0_step {m : Mach} (hF : Full m) {src : List Int} {texts : List ByteArray} {seen : List Bool} {i : Int} (hs : ∀ x ∈ src, 0 ≤ x ∧ x < (m.spots.length : Int)) (hn : src.Nodup) (W : Way0 m src texts seen i) (h0 : 0 ≤ i) (h1 : i < (src.length : Int)) :
    Way0 m src (texts.set (at_ src i).toNat (strOfNums [first (at_ m.spots (at_ src i)).set])) (seen.set (at_ src i).toNat true) (i + 1) := by
  have hin := hs _ (at_mem h0 h1)
  have hf := first_has (hF _ hin.1 hin.2)
  refine ⟨by rw [List.length_set]; exact W.lenT, by rw [List.length_set]; exact W.lenS, fun x x0 x1 => ?_, fun k k0 k1 k2 => ?_, ?_⟩
  · rw [at_putG hin.1 (by rw [W.lenS]; exact hin.2) true x0, take_next _ h0 h1, List.mem_append, List.mem_singleton, ← W.mem x x0 x1]
    by_cases e : x = at_ src i
    · rw [if_pos e]; simp [e]
    · rw [if_neg e]; simp [e]
  · have hk := hs _ (at_mem k0 k2)
    rw [at_putG hin.1 (by rw [W.lenT]; exact hin.2) _ hk.1]
    by_cases e : at_ src k = at_ src i
    · rw [if_pos e, bytesL_one hf.2.1 hf.2.2, e]
      exact ⟨.one (at_mem h0 h1) hf.2.1 hf.2.2 hf.1, by rw [str_one]; omega⟩
    · rw [if_neg e]
      refine W.text k k0 ?_ k2
      rcases Int.lt_or_eq_of_le (show k ≤ i by omega) with h | h
      · exact h
      · rw [h] at e; exact (e rfl).elim
  · have hns : at_ seen (at_ src i) = false := by
      cases hc : at_ seen (at_ src i) with
      | false => rfl
      | true =>
        have := (W.mem _ hin.1 hin.2).1 hc
        obtain ⟨k, hk, e⟩ := List.getElem_of_mem this
        rw [List.length_take] at hk
        rw [List.getElem_take] at e
        have e2 := nodup_at hn (i := ((k : Nat) : Int)) (j := i) (by omega) (by omega) h0 h1 (by
          rw [← e]
          have := at_some (xs := src) (i := ((k : Nat) : Int)) (by omega) (by omega)
          rw [Int.toNat_natCast, List.getElem?_eq_getElem (by omega)] at this
          injection this with this
          exact this.symm)
        omega
    have h2 := trues_set (n := m.spots.length) hin.1 (by rw [W.lenS]; exact hin.2) W.lenS hns
    have := W.cnt
    omega
theorem way_of0 {m : Mach} {src : List Int} {texts : List ByteArray} {seen : List Bool} {i : Int} (hs : ∀ x ∈ src, 0 ≤ x ∧ x < (m.spots.length : Int)) (hn : src.Nodup) (W : Way0 m src texts seen i) (h1 : (src.length : Int) ≤ i) : Way m src texts seen src where
  lenT := W.lenT
  lenS := W.lenS
  inn := hs
  nodup := hn
  mem := fun x h0 h2 => by rw [W.mem x h0 h2, List.take_of_length_le (by omega)]
  sound := fun x hx => reach_src (hs x hx).1 (hs x hx).2 hx
  text := fun k h0 hk => by have := W.text k h0 (by omega) hk; exact ⟨this.1, by omega⟩
  first := fun x hx => hx
  cnt := by have := W.cnt; omega
theorem way_len {m : Mach} {src : List Int} {texts : List ByteArray} {seen : List Bool} {todo : List Int} (W : Way m src texts seen todo) : (todo.length : Int) ≤ m.spots.length := by
  have := W.cnt
  have := trues_le m.spots.length seen
  omega
theorem way_size {m : Mach} {src : List Int} {texts : List ByteArray} {seen : List Bool} {todo : List Int} (W : Way m src texts seen todo) {k : Int} (h0 : 0 ≤ k) (h1 : k < (todo.length : Int)) : ((at_ texts (at_ todo k)).size : Int) ≤ m.spots.length := by
  have := (W.text k h0 h1).2
  have := way_len W
  omega
theorem way_add {m : Mach} (hR : Right m) (hF : Full m) {src : List Int} {texts : List ByteArray} {seen : List Bool} {todo : List Int} (W : Way m src texts seen todo) {i k : Int} (h0 : 0 ≤ i) (h1 : i < (todo.length : Int)) (k0 : 0 ≤ k) (k1 : k < ((at_ m.follow (at_ todo i)).length : Int)) (hn : at_ seen (at_ (at_ m.follow (at_ todo i)) k) = false) :
    Way m src (texts.set (at_ (at_ m.follow (at_ todo i)) k).toNat (at_ texts (at_ todo i) ++ strOfNums [first (at_ m.spots (at_ (at_ m.follow (at_ todo i)) k)).set])) (seen.set (at_ (at_ m.follow (at_ todo i)) k).toNat true) (todo ++ [at_ (at_ m.follow (at_ todo i)) k]) := by
  have hat := W.inn _ (at_mem h0 h1)
  have hmem := at_mem k0 k1
  have hin := hR.rows hat.1 hat.2 _ hmem
  generalize at_ (at_ m.follow (at_ todo i)) k = x at hn hmem hin ⊢
  have hf := first_has (hF x hin.1 hin.2)
  have hx : x ∉ todo := fun h => by rw [(W.mem x hin.1 hin.2).2 h] at hn; cases hn
  have ht := W.text i h0 h1
  refine ⟨by rw [List.length_set]; exact W.lenT, by rw [List.length_set]; exact W.lenS, fun y hy => ?_, ?_, fun y y0 y1 => ?_, fun y hy => ?_, fun q q0 q1 => ?_, fun y hy => List.mem_append_left _ (W.first y hy), ?_⟩
  · rcases List.mem_append.1 hy with h | h
    · exact W.inn y h
    · rw [List.mem_singleton.1 h]; exact hin
  · rw [List.nodup_append]
    exact ⟨W.nodup, by simp, fun a ha b hb => by rw [List.mem_singleton.1 hb]; exact fun e => hx (e ▸ ha)⟩
  · rw [at_putG hin.1 (by rw [W.lenS]; exact hin.2) true y0, List.mem_append, List.mem_singleton]
    by_cases e : y = x
    · rw [if_pos e]; simp [e]
    · rw [if_neg e, W.mem y y0 y1]; simp [e]
  · rcases List.mem_append.1 hy with h | h
    · exact W.sound y h
    · rw [List.mem_singleton.1 h]
      exact reach_next hin.1 hin.2 hat.1 hat.2 (W.sound _ (at_mem h0 h1)) hmem
  · rw [List.length_append] at q1
    simp only [List.length_cons, List.length_nil] at q1
    rcases Int.lt_or_eq_of_le (show q ≤ (todo.length : Int) by omega) with h | h
    · have e : at_ (todo ++ [x]) q = at_ todo q := by
        unfold at_
        rw [List.getD_eq_getElem?_getD, List.getD_eq_getElem?_getD, List.getElem?_append_left (by omega)]
      have hq := W.inn _ (at_mem q0 h)
      rw [e, at_putG hin.1 (by rw [W.lenT]; exact hin.2) _ hq.1, if_neg (fun e2 => hx (by rw [← e2]; exact at_mem q0 h))]
      exact W.text q q0 h
    · have e : at_ (todo ++ [x]) q = x := by rw [h]; unfold at_; simp
      rw [e, at_putG hin.1 (by rw [W.lenT]; exact hin.2) _ hin.1, if_pos rfl, bytesL_app, bytesL_one hf.2.1 hf.2.2, size_add, str_one]
      exact ⟨.snoc ht.1 hmem hf.2.1 hf.2.2 hf.1, by omega⟩
  · have h2 := trues_set (n := m.spots.length) hin.1 (by rw [W.lenS]; exact hin.2) W.lenS hn
    have := W.cnt
    rw [List.length_append]; simp only [List.length_cons, List.length_nil]; omega
theorem way_none {m : Mach} {src : List Int} {texts : List ByteArray} {seen : List Bool} {todo : List Int} (W : Way m src texts seen todo) (hR : Right m) {t to' : Int} (h0 : 0 ≤ to') (h1 : to' < (m.spots.length : Int)) (hn : ∀ k : Int, 0 ≤ k → k < t → k < (todo.length : Int) → (∀ x ∈ at_ m.follow (at_ todo k), x ∈ todo) ∧ at_ todo k ≠ to') (ht : (todo.length : Int) ≤ t) : at_ (reachM m src) to' = false := by
  cases hc : at_ (reachM m src) to' with
  | false => rfl
  | true =>
    have : to' ∈ todo := reach_least (P := fun x => x ∈ todo) W.first (fun i j j0 j1 hj hij => by
      obtain ⟨k, hk, e⟩ := List.getElem_of_mem hj
      have e2 : at_ todo ((k : Nat) : Int) = j := by
        have := at_some (xs := todo) (i := ((k : Nat) : Int)) (by omega) (by omega)
        rw [Int.toNat_natCast, List.getElem?_eq_getElem hk] at this
        injection this with this
        rw [← this, e]
      exact (hn ((k : Nat) : Int) (by omega) (by omega) (by omega)).1 i (by rw [e2]; exact hij)) h0 h1 hc
    obtain ⟨k, hk, e⟩ := List.getElem_of_mem this
    have e2 : at_ todo ((k : Nat) : Int) = to' := by
      have := at_some (xs := todo) (i := ((k : Nat) : Int)) (by omega) (by omega)
      rw [Int.toNat_natCast, List.getElem?_eq_getElem hk] at this
      injection this with this
      rw [← this, e]
    exact ((hn ((k : Nat) : Int) (by omega) (by omega) (by omega)).2 e2).elim
end Gx
