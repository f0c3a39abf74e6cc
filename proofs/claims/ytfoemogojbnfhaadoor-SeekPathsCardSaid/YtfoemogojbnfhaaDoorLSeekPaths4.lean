/- My own library for walks through the translated code, and the walks of the functions that the law SeekPaths comes to, part 5; no conditions but those that each contract tells. -/
import Derived.Test.YtfoemogojbnfhaaDoorProg
import Derived.Lib.Strings
import Derived.Lib.Slices
import Derived.Lib.Walk
import Derived.Lib.Bytealg
import Derived.KernelRfl
import Derived.Maps.RangeRun
import Derived.Laws.Concat
import Derived.Test.YtfoemogojbnfhaaDoorLSeekPaths3
namespace Gx
open Go Go.RowKit
set_option linter.unusedSimpArgs false
set_option linter.unusedSectionVars false
set_option linter.unusedVariables false
theorem range_head (p : Nat → Bool) : ∀ (n a : Nat), p a = true → ∀ (l : List Nat), l = List.range' n (a + 1 - n) → n ≤ a → ∀ x, (l.filter p).head? = some x → x ≤ a := by
  intro n a hp l hl hn x hx
  have hm : x ∈ l.filter p := List.mem_of_mem_head? hx
  rw [hl, List.mem_filter, List.mem_range'_1] at hm
  omega
theorem first_le {s : BSet} {c : Int} (c0 : 0 ≤ c) (c1 : c < 256) (h : has s c = true) : first s ≤ c := by
  unfold first elems elemsTo
  have hs : List.range 256 = List.range' 0 (c.toNat + 1 - 0) ++ List.range' (c.toNat + 1) (256 - (c.toNat + 1)) := by
    rw [List.range_eq_range']
    have e := List.range'_append (s := 0) (m := c.toNat + 1) (n := 256 - (c.toNat + 1)) (step := 1)
    rw [show 0 + 1 * (c.toNat + 1) = c.toNat + 1 by omega, show c.toNat + 1 + (256 - (c.toNat + 1)) = 256 by omega] at e
    exact e.symm
  rw [hs, List.filter_append]
  have hm : c.toNat ∈ (List.range' 0 (c.toNat + 1 - 0)).filter fun i => s.getLsbD i := List.mem_filter.2 ⟨List.mem_range'_1.2 (by omega), h⟩
  cases hq : (List.range' 0 (c.toNat + 1 - 0)).filter fun i => s.getLsbD i with
  | nil => rw [hq] at hm; cases hm
  | cons a r =>
    have := range_head (fun i => s.getLsbD i) 0 c.toNat h _ rfl (by omega) a (by rw [hq]; rfl)
    simp only [List.cons_append, List.head?_cons, Option.getD_some]
    omega
theorem next_take (l : List Int) : ∀ x, nextOf l = some x → ∀ t, ∃ y, nextOf (l.take t) = some y := by
  induction l using list_snoc with
  | h0 => intro x h t; exact ⟨0, by simp [nextOf]⟩
  | h1 l n ih =>
    intro x h t
    by_cases ht : t ≤ l.length
    · rw [List.take_append_of_le_length ht]
      rw [next_app] at h
      cases hl : nextOf l with
      | none => rw [hl] at h; cases h
      | some y => exact ih y hl t
    · rw [List.take_of_length_le (by simp; omega)]; exact ⟨x, h⟩
theorem class_first {p : PartM} (ho : okPart p) (hp : rightP p = true) {c k : Int} (c0 : 0 ≤ c) (c1 : c < 256) (hf : ∀ d : Int, 0 ≤ d → d < c → at_ p.of d ≠ at_ p.of c) (k0 : 0 ≤ k) (hk : k < at_ p.of c) : ∃ d : Int, 0 ≤ d ∧ d < c ∧ at_ p.of d = k := by
  have hl : p.of.length = 256 := ho.1.1
  obtain ⟨x, hx⟩ : ∃ x, nextOf p.of = some x := by
    unfold rightP at hp
    cases hn : nextOf p.of with
    | none => rw [hn] at hp; cases hp
    | some x => exact ⟨x, rfl⟩
  obtain ⟨y, hy⟩ := next_take p.of x hx c.toNat
  obtain ⟨z, hz⟩ := next_take p.of x hx (c + 1).toNat
  rw [take_next _ c0 (by omega), next_app, hy] at hz
  have hs := next_some _ y hy
  have hle : at_ p.of c ≤ y := by
    by_cases h : at_ p.of c > y
    · simp only [] at hz; rw [if_pos h] at hz; cases hz
    · omega
  have hm := hs.2.2.2 k k0 (by omega)
  obtain ⟨j, hj, e⟩ := List.getElem_of_mem hm
  have hj2 : j < c.toNat := by rw [List.length_take] at hj; omega
  refine ⟨((j : Nat) : Int), by omega, by omega, ?_⟩
  rw [List.getElem_take] at e
  exact at_get (by rw [Int.toNat_natCast, List.getElem?_eq_getElem (by omega), e])
theorem leastB_le_byte {p : PartM} (hR : RightP p) {c : Int} (c0 : 0 ≤ c) (c1 : c < 256) (k0 : 0 ≤ at_ p.of c) : at_ (leastB p) (at_ p.of c) ≤ c := by
  have hk := hR.of_lt c c0 c1
  have hl := setsP_len p
  rw [leastB_map hR, at_map _ _ k0 (by have := hR.hi; omega)]
  exact first_le c0 c1 (by rw [setsP_at k0 hk hR.hi c0 c1]; simp)
theorem leastB_lt {p : PartM} (ho : okPart p) (hp : rightP p = true) {a b : Int} (a0 : 0 ≤ a) (hab : a < b) (hb : b < p.n) : at_ (leastB p) a < at_ (leastB p) b := by
  have hR := rightP_of ho hp
  have la := leastB_at hR a0 (by omega)
  have lb := leastB_at hR (by omega) hb
  obtain ⟨d, d0, d1, hd⟩ := class_first ho hp lb.1 lb.2.1 (fun d d0 d1 e => by
    rw [lb.2.2] at e
    have := leastB_le_byte hR d0 (by omega) (by rw [e]; omega)
    rw [e] at this; omega) a0 (by rw [lb.2.2]; exact hab)
  have := leastB_le_byte hR d0 (by omega) (by rw [hd]; exact a0)
  rw [hd] at this; omega
theorem least_at_one {p : PartM} (hR : RightP p) {k : Int} (k0 : 0 ≤ k) (k1 : k < p.n) : ((at_ (leastP p 1) k).length : Int) = 1 ∧ at_ (at_ (leastP p 1) k) 0 = at_ (leastB p) k := by
  have hl := setsP_len p
  have hi := hR.hi
  have e : at_ (leastP p 1) k = leastOf 1 (at_ (setsP p) k) := by unfold leastP; exact at_map _ _ k0 (by omega)
  rw [e, leastOf_one (setsP_some hR k0 k1), leastB_map hR, at_map _ _ k0 (by omega)]
  exact ⟨rfl, rfl⟩
def goL (d : Dfa) (l : List Int) : Int := l.foldl (fun q c => at_ (at_ d.next q) (at_ d.part.of c)) 0
theorem goL_snoc (d : Dfa) (l : List Int) (c : Int) : goL d (l ++ [c]) = at_ (at_ d.next (goL d l)) (at_ d.part.of c) := by unfold goL; rw [List.foldl_append]; rfl
theorem goD_take (d : Dfa) (w : ByteArray) : ∀ i, i ≤ w.size → goD d w i = goL d ((bytesL w).take i)
  | 0, _ => rfl
  | i + 1, h => by
    have e : (bytesL w).take (i + 1) = (bytesL w).take i ++ [byt w ((i : Nat) : Int)] := by
      have := take_next (bytesL w) (t := ((i : Nat) : Int)) (by omega) (by rw [bytesL_len]; omega)
      rw [bytesL_at w (by omega) (by omega), show (((i : Nat) : Int) + 1).toNat = i + 1 by omega, Int.toNat_natCast] at this
      exact this
    rw [e, goL_snoc, ← goD_take d w i (by omega)]; rfl
theorem goD_list (d : Dfa) (w : ByteArray) : goD d w w.size = goL d (bytesL w) := by
  rw [goD_take d w _ (Nat.le_refl _), List.take_of_length_le (by rw [bytesL_len]; exact Nat.le_refl _)]
def InW (l : List Int) : Prop := ∀ x ∈ l, 0 ≤ x ∧ x < 256
theorem goL_in {d : Dfa} (ho : okPart d.part) (R : RightD d) (l : List Int) : InW l → 0 ≤ goL d l ∧ goL d l < (d.next.length : Int) := by
  induction l using list_snoc with
  | h0 => intro _; exact ⟨Int.le_refl _, R.some_⟩
  | h1 l c ih =>
    intro h
    have := ih fun x hx => h x (by simp [hx])
    have hc := h c (by simp)
    rw [goL_snoc]
    exact R.cell _ this.1 this.2 _ (at_mem (u8_lo (okInts_at ho.1 (by omega) (by omega))) (by rw [R.row _ this.1 this.2]; exact R.part.of_lt _ hc.1 hc.2))
theorem runD_list {d : Dfa} (h : rightD d = true) (w : ByteArray) : runD d w = at_ d.final (goL d (bytesL w)) := by
  unfold runD
  rw [h, goD_list]; rfl
def IsLeastW (T : ByteArray → Bool) (v : ByteArray) : Prop := T v = true ∧ ∀ w, T w = true → lessW w v = false
open Classical in
noncomputable def wordW (T : ByteArray → Bool) : ByteArray := if h : ∃ v, IsLeastW T v then h.choose else ⟨#[]⟩
open Classical in
noncomputable def okW (T : ByteArray → Bool) : Bool := decide (∃ v, IsLeastW T v)
theorem leastW_one {T : ByteArray → Bool} {a b : ByteArray} (ha : IsLeastW T a) (hb : IsLeastW T b) : a = b := by
  have h1 := ha.2 b hb.1
  have h2 := hb.2 a ha.1
  rcases lessL_tri (bytesL a) (bytesL b) with h | h | h
  · unfold lessW at h2; rw [h] at h2; cases h2
  · exact bytesL_inj h
  · unfold lessW at h1; rw [h] at h1; cases h1
open Classical in
theorem word_is {T : ByteArray → Bool} {v : ByteArray} (h : IsLeastW T v) : wordW T = v ∧ okW T = true := by
  have hx : ∃ v, IsLeastW T v := ⟨v, h⟩
  constructor
  · unfold wordW
    rw [dif_pos hx]
    exact leastW_one hx.choose_spec h
  · unfold okW; exact decide_eq_true hx
open Classical in
theorem word_no {T : ByteArray → Bool} (h : ∀ w, T w = false) : wordW T = ⟨#[]⟩ ∧ okW T = false := by
  have hx : ¬ ∃ v, IsLeastW T v := fun ⟨v, hv⟩ => by have := hv.1; rw [h v] at this; cases this
  exact ⟨by unfold wordW; rw [dif_neg hx], by unfold okW; exact decide_eq_false hx⟩
theorem at_app1 {α : Type} [Inhabited α] (l r : List α) {i : Int} (h0 : 0 ≤ i) (h1 : i < (l.length : Int)) : at_ (l ++ r) i = at_ l i := by
  unfold at_
  rw [List.getD_eq_getElem?_getD, List.getD_eq_getElem?_getD, List.getElem?_append_left (by omega)]
theorem at_app2 {α : Type} [Inhabited α] (l : List α) (x : α) : at_ (l ++ [x]) ((l.length : Nat) : Int) = x := by
  unfold at_
  rw [List.getD_eq_getElem?_getD, Int.toNat_natCast]; simp
structure StepM where
  st : Int
  fr : Int
  by_ : Int
deriving DecidableEq
instance : Inhabited StepM := ⟨⟨0, 0, 0⟩⟩
def encStep (s : StepM) : List Value := [.int .i64 s.st, .int .i64 s.fr, .int .u8 s.by_]
def okStep (s : StepM) : Prop := inK .i64 s.st ∧ inK .i64 s.fr ∧ inK .u8 s.by_
theorem encStep_one (s : StepM) : ∀ u ∈ encStep s, u.oneCell' = true := fun u hu => by
  simp only [encStep, List.mem_cons, List.not_mem_nil, or_false] at hu
  rcases hu with rfl | rfl | rfl <;> rfl
def kStep : Kd StepM := .flat encStep okStep 3 (by omega) (fun _ _ => rfl) (fun x => encStep_one x)
def wordT (l : List StepM) : Nat → Int → List Int
  | 0, _ => []
  | n + 1, i => if i ≤ 0 then [] else wordT l n (at_ l i).fr ++ [(at_ l i).by_]
def wordS (l : List StepM) (i : Int) : List Int := wordT l i.toNat i
def Chain (l : List StepM) : Prop := ∀ j : Int, 0 < j → j < (l.length : Int) → 0 ≤ (at_ l j).fr ∧ (at_ l j).fr < j
theorem wordT_fuel {l : List StepM} (hc : Chain l) : ∀ (n m : Nat) (i : Int), i < (l.length : Int) → i.toNat ≤ n → i.toNat ≤ m → wordT l n i = wordT l m i
  | 0, 0, _, _, _, _ => rfl
  | 0, m + 1, i, _, h, _ => by
    show [] = if i ≤ 0 then [] else _
    rw [if_pos (by omega)]
  | n + 1, 0, i, _, _, h => by
    show (if i ≤ 0 then [] else _) = []
    rw [if_pos (by omega)]
  | n + 1, m + 1, i, hi, h1, h2 => by
    show (if i ≤ 0 then [] else _) = if i ≤ 0 then [] else _
    by_cases h : i ≤ 0
    · rw [if_pos h, if_pos h]
    · rw [if_neg h, if_neg h]
      have := hc i (by omega) hi
      rw [wordT_fuel hc n m (at_ l i).fr (by omega) (by omega) (by omega)]
theorem wordS_0 (l : List StepM) : wordS l 0 = [] := rfl
theorem wordS_end (l : List StepM) {i : Int} (h : i ≤ 0) : wordS l i = [] := by
  unfold wordS
  rw [show i.toNat = 0 by omega]; rfl
theorem wordS_step {l : List StepM} (hc : Chain l) {i : Int} (h0 : 0 < i) (h1 : i < (l.length : Int)) : wordS l i = wordS l (at_ l i).fr ++ [(at_ l i).by_] := by
  have := hc i h0 h1
  unfold wordS
  obtain ⟨n, hn⟩ : ∃ n, i.toNat = n + 1 := ⟨i.toNat - 1, by omega⟩
  rw [hn]
  show (if i ≤ 0 then [] else _) = _
  rw [if_neg (by omega), wordT_fuel hc n (at_ l i).fr.toNat _ (by omega) (by omega) (Nat.le_refl _)]
theorem wordS_len {l : List StepM} (hc : Chain l) : ∀ (n : Nat) (i : Int), i.toNat ≤ n → i < (l.length : Int) → (wordS l i).length ≤ i.toNat
  | 0, i, h, _ => by rw [wordS_end l (by omega)]; simp
  | n + 1, i, h, hi => by
    by_cases h0 : 0 < i
    · have := hc i h0 hi
      have := wordS_len hc n (at_ l i).fr (by omega) (by omega)
      rw [wordS_step hc h0 hi, List.length_append, List.length_cons, List.length_nil]; omega
    · rw [wordS_end l (by omega)]; simp
theorem chain_app {l : List StepM} (hc : Chain l) {s : StepM} (h0 : 0 ≤ s.fr) (h1 : s.fr < (l.length : Int)) : Chain (l ++ [s]) := by
  intro j j0 j1
  rw [List.length_append, List.length_cons, List.length_nil] at j1
  by_cases h : j < (l.length : Int)
  · rw [at_app1 _ _ (by omega) h]; exact hc j j0 h
  · rw [show j = (l.length : Int) by omega, at_app2]; exact ⟨h0, h1⟩
theorem wordS_app {l : List StepM} (hc : Chain l) {s : StepM} (h0 : 0 ≤ s.fr) (h1 : s.fr < (l.length : Int)) : ∀ (n : Nat) (i : Int), i.toNat ≤ n → i < (l.length : Int) → wordS (l ++ [s]) i = wordS l i
  | 0, i, h, _ => by rw [wordS_end _ (by omega), wordS_end _ (by omega)]
  | n + 1, i, h, hi => by
    by_cases hp : 0 < i
    · have := hc i hp hi
      rw [wordS_step (chain_app hc h0 h1) hp (by rw [List.length_append]; simp; omega), wordS_step hc hp hi, at_app1 _ _ (by omega) hi, wordS_app hc h0 h1 n (at_ l i).fr (by omega) (by omega)]
    · rw [wordS_end _ (by omega), wordS_end _ (by omega)]
end Gx
namespace Gx
open Go Go.RowKit
set_option linter.unusedSimpArgs false
set_option linter.unusedSectionVars false
set_option linter.unusedVariables false
def cc (d : Dfa) (k : Int) : Int := if k < d.part.n then at_ (leastB d.part) k else 256
structure Bf (d : Dfa) (seen : List Bool) (l : List StepM) : Prop where
  some_ : 0 < (l.length : Int)
  slen : (seen.length : Int) = d.next.length
  chain : Chain l
  st : ∀ j : Int, 0 ≤ j → j < (l.length : Int) → 0 ≤ (at_ l j).st ∧ (at_ l j).st < (d.next.length : Int)
  inw : ∀ j : Int, 0 ≤ j → j < (l.length : Int) → InW (wordS l j)
  go : ∀ j : Int, 0 ≤ j → j < (l.length : Int) → goL d (wordS l j) = (at_ l j).st
  seen_ : ∀ q : Int, 0 ≤ q → q < (d.next.length : Int) → (at_ seen q = true ↔ ∃ j : Int, 0 ≤ j ∧ j < (l.length : Int) ∧ (at_ l j).st = q)
  one : ∀ i j : Int, 0 ≤ i → i < (l.length : Int) → 0 ≤ j → j < (l.length : Int) → (at_ l i).st = (at_ l j).st → i = j
  mono : ∀ i j : Int, 0 ≤ i → i < j → j < (l.length : Int) → lessL (wordS l i) (wordS l j) = true
def Covers (d : Dfa) (l : List StepM) (j k : Int) : Prop := ∃ m : Int, 0 ≤ m ∧ m < (l.length : Int) ∧ (at_ l m).st = at_ (at_ d.next (at_ l j).st) k ∧ leL (wordS l m) (wordS l j ++ [cc d k])
structure BfI (d : Dfa) (seen : List Bool) (l : List StepM) (i : Int) : Prop where
  b : Bf d seen l
  lo : 0 ≤ i
  hi : i ≤ (l.length : Int)
  bound : i < (l.length : Int) → ∀ j : Int, 0 ≤ j → j < (l.length : Int) → lessL (wordS l j) (wordS l i ++ [cc d 0]) = true
  done : ∀ j : Int, 0 ≤ j → j < i → ∀ k : Int, 0 ≤ k → k < d.part.n → Covers d l j k
  nofin : ∀ j : Int, 0 ≤ j → j < i → at_ d.final (at_ l j).st = false
structure BfK (d : Dfa) (seen : List Bool) (l : List StepM) (i k : Int) : Prop where
  b : Bf d seen l
  lo : 0 ≤ i
  hi : i < (l.length : Int)
  k0 : 0 ≤ k
  k1 : k ≤ d.part.n
  bound : ∀ j : Int, 0 ≤ j → j < (l.length : Int) → lessL (wordS l j) (wordS l i ++ [cc d k]) = true
  done : ∀ j : Int, 0 ≤ j → j < i → ∀ k : Int, 0 ≤ k → k < d.part.n → Covers d l j k
  now : ∀ k' : Int, 0 ≤ k' → k' < k → Covers d l i k'
  nofin : ∀ j : Int, 0 ≤ j → j ≤ i → at_ d.final (at_ l j).st = false
def step0 : List StepM := [⟨0, 0, 0⟩]
theorem bf_0 {d : Dfa} (R : RightD d) : BfI d ((List.replicate d.next.length false).set 0 true) step0 0 := by
  have h1 : ∀ j : Int, 0 ≤ j → j < (step0.length : Int) → j = 0 := fun j h0 h1 => by
    simp only [step0, List.length_cons, List.length_nil] at h1; omega
  have hs := R.some_
  refine ⟨⟨by simp [step0], by simp, fun j h0 h2 => ?_, fun j h0 h2 => ?_, fun j h0 h2 => ?_, fun j h0 h2 => ?_, fun q q0 q1 => ?_, fun i j i0 i1 j0 j1 _ => ?_, fun i j i0 i1 j1 => ?_⟩, by omega, by simp [step0], fun _ j h0 h2 => ?_, fun j h0 h2 => by omega, fun j h0 h2 => by omega⟩
  · have := h1 j (by omega) h2; omega
  · rw [h1 j h0 h2]; exact ⟨Int.le_refl _, R.some_⟩
  · rw [h1 j h0 h2]; intro x hx; cases hx
  · rw [h1 j h0 h2]; rfl
  · have e := at_putG (l := List.replicate d.next.length false) (t := 0) (by omega) (by simp; omega) true q0
    rw [show ((0 : Int)).toNat = 0 from rfl] at e
    rw [e]
    by_cases hq : q = 0
    · rw [if_pos hq]
      exact ⟨fun _ => ⟨0, by omega, by simp [step0], by rw [hq]; rfl⟩, fun _ => rfl⟩
    · rw [if_neg hq]
      have e2 : at_ (List.replicate d.next.length false) q = false := by
        unfold at_
        rw [List.getD_eq_getElem?_getD, List.getElem?_replicate]
        split <;> rfl
      rw [e2]
      refine ⟨fun h => (by cases h), fun ⟨j, j0, j1, hj⟩ => ?_⟩
      rw [h1 j j0 j1] at hj
      exact absurd hj.symm hq
  · have := h1 i i0 i1; have := h1 j j0 j1; omega
  · have := h1 j (by omega) j1; omega
  · rw [h1 j h0 h2, wordS_0]; exact lessL_app [] _
theorem bf_len {d : Dfa} {seen : List Bool} {l : List StepM} (B : Bf d seen l) : l.length ≤ d.next.length := by
  have := nodup_lt d.next.length (l.map fun s => s.st.toNat) (by
    refine List.pairwise_iff_getElem.2 fun i j hi hj hij e => ?_
    rw [List.length_map] at hi hj
    rw [List.getElem_map, List.getElem_map] at e
    have ei : at_ l ((i : Nat) : Int) = l[i] := at_get (by rw [Int.toNat_natCast, List.getElem?_eq_getElem hi])
    have ej : at_ l ((j : Nat) : Int) = l[j] := at_get (by rw [Int.toNat_natCast, List.getElem?_eq_getElem hj])
    have hi2 := B.st ((i : Nat) : Int) (by omega) (by omega)
    have hj2 := B.st ((j : Nat) : Int) (by omega) (by omega)
    have := B.one ((i : Nat) : Int) ((j : Nat) : Int) (by omega) (by omega) (by omega) (by omega) (by rw [ei] at hi2 ⊢; rw [ej] at hj2 ⊢; omega)
    omega) fun x hx => by
    obtain ⟨s, hs, rfl⟩ := List.mem_map.1 hx
    obtain ⟨j, hj, e⟩ := List.getElem_of_mem hs
    have ej : at_ l ((j : Nat) : Int) = l[j] := at_get (by rw [Int.toNat_natCast, List.getElem?_eq_getElem hj])
    have := B.st ((j : Nat) : Int) (by omega) (by omega)
    rw [ej, e] at this; omega
  rwa [List.length_map] at this
theorem cc_lt {d : Dfa} {k : Int} (h : k < d.part.n) : cc d k = at_ (leastB d.part) k := if_pos h
theorem cc_rise {d : Dfa} (ho : okPart d.part) (R : RightD d) {k : Int} (k0 : 0 ≤ k) (k1 : k < d.part.n) : cc d k < cc d (k + 1) := by
  rw [cc_lt k1]
  unfold cc
  split
  · exact leastB_lt ho R.rp k0 (by omega) (by assumption)
  · exact (leastB_at R.part k0 k1).2.1
section
variable {d : Dfa} {seen : List Bool} {l : List StepM} {i k : Int}
theorem bf_k0 (W : BfI d seen l i) (R : RightD d) (hi : i < (l.length : Int)) (hf : at_ d.final (at_ l i).st = false) : BfK d seen l i 0 where
  b := W.b
  lo := W.lo
  hi := hi
  k0 := Int.le_refl _
  k1 := R.part.lo
  bound := W.bound hi
  done := W.done
  now := fun k' h0 h1 => by omega
  nofin := fun j j0 j1 => by
    by_cases h : j = i
    · rw [h]; exact hf
    · exact W.nofin j j0 (by omega)
theorem less_up {x y : List Int} {a b : Int} (h : lessL x (y ++ [a]) = true) (hab : a < b) : lessL x (y ++ [b]) = true := lessL_trans h ((lessL_snoc _ _ _ _).2 (.inr ⟨rfl, hab⟩))
theorem bf_next (K : BfK d seen l i d.part.n) : BfI d seen l (i + 1) where
  b := K.b
  lo := by have := K.lo; omega
  hi := by have := K.hi; omega
  bound := fun h j j0 j1 => lessL_trans (K.bound j j0 j1) ((lessL_snoc _ _ _ _).2 (.inl (K.b.mono i (i + 1) K.lo (by omega) h)))
  done := fun j j0 j1 k k0 k1 => by
    by_cases h : j = i
    · rw [h]; exact K.now k k0 k1
    · exact K.done j j0 (by omega) k k0 k1
  nofin := fun j j0 j1 => K.nofin j j0 (by omega)
theorem bf_old (K : BfK d seen l i k) (ho : okPart d.part) (R : RightD d) (hk : k < d.part.n) (h : at_ seen (at_ (at_ d.next (at_ l i).st) k) = true) : BfK d seen l i (k + 1) := by
  have hst := K.b.st i K.lo K.hi
  have hq := R.cell _ hst.1 hst.2 _ (at_mem K.k0 (by rw [R.row _ hst.1 hst.2]; exact hk))
  have k0 := K.k0
  refine ⟨K.b, K.lo, K.hi, by omega, by omega, fun j j0 j1 => less_up (K.bound j j0 j1) (cc_rise ho R k0 hk), K.done, fun k' h0 h1 => ?_, K.nofin⟩
  by_cases e : k' = k
  · subst e
    obtain ⟨m, m0, m1, hm⟩ := (K.b.seen_ _ hq.1 hq.2).1 h
    exact ⟨m, m0, m1, hm, .inr (K.bound m m0 m1)⟩
  · exact K.now k' h0 (by omega)
theorem bf_new (K : BfK d seen l i k) (ho : okPart d.part) (R : RightD d) (hk : k < d.part.n) (h : at_ seen (at_ (at_ d.next (at_ l i).st) k) = false) : BfK d (seen.set (at_ (at_ d.next (at_ l i).st) k).toNat true) (l ++ [⟨at_ (at_ d.next (at_ l i).st) k, i, at_ (leastB d.part) k⟩]) i (k + 1) := by
  have hst := K.b.st i K.lo K.hi
  have hq := R.cell _ hst.1 hst.2 _ (at_mem K.k0 (by rw [R.row _ hst.1 hst.2]; exact hk))
  have k0 := K.k0
  have lo := K.lo
  have hi := K.hi
  have hc := leastB_at R.part k0 hk
  generalize hn : at_ (at_ d.next (at_ l i).st) k = q at *
  have hs0 : (⟨q, i, at_ (leastB d.part) k⟩ : StepM).fr = i := rfl
  have ha1 : ∀ j : Int, 0 ≤ j → j < (l.length : Int) → at_ (l ++ [⟨q, i, at_ (leastB d.part) k⟩]) j = at_ l j := fun j j0 j1 => at_app1 _ _ j0 j1
  have ha2 : at_ (l ++ [⟨q, i, at_ (leastB d.part) k⟩]) (l.length : Int) = ⟨q, i, at_ (leastB d.part) k⟩ := at_app2 _ _
  have hch : Chain (l ++ [⟨q, i, at_ (leastB d.part) k⟩]) := chain_app K.b.chain lo hi
  have hw1 : ∀ j : Int, 0 ≤ j → j < (l.length : Int) → wordS (l ++ [⟨q, i, at_ (leastB d.part) k⟩]) j = wordS l j := fun j j0 j1 => wordS_app K.b.chain (s := ⟨q, i, at_ (leastB d.part) k⟩) lo hi j.toNat j (Nat.le_refl _) j1
  have hln : ((l ++ [(⟨q, i, at_ (leastB d.part) k⟩ : StepM)]).length : Int) = (l.length : Int) + 1 := by rw [List.length_append]; rfl
  have hw2 : wordS (l ++ [⟨q, i, at_ (leastB d.part) k⟩]) (l.length : Int) = wordS l i ++ [cc d k] := by
    rw [wordS_step hch (by have := K.b.some_; omega) (by rw [hln]; omega), ha2, hw1 i lo hi, cc_lt hk]
  have hcase : ∀ j : Int, j < (l.length : Int) + 1 → j < (l.length : Int) ∨ j = (l.length : Int) := fun j h => by omega
  have up : ∀ j k' : Int, 0 ≤ j → j < (l.length : Int) → Covers d l j k' → Covers d (l ++ [⟨q, i, at_ (leastB d.part) k⟩]) j k' := fun j k' j0 j1 ⟨m, m0, m1, h1, h2⟩ => ⟨m, m0, by omega, by rw [ha1 m m0 m1, ha1 j j0 j1]; exact h1, by rw [hw1 m m0 m1, hw1 j j0 j1]; exact h2⟩
  have hnone : ∀ j : Int, 0 ≤ j → j < (l.length : Int) → (at_ l j).st ≠ q := fun j j0 j1 e => by
    have := (K.b.seen_ q hq.1 hq.2).2 ⟨j, j0, j1, e⟩
    rw [h] at this; cases this
  refine ⟨⟨by have := K.b.some_; omega, by rw [List.length_set]; exact K.b.slen, hch, fun j j0 j1 => ?_, fun j j0 j1 => ?_, fun j j0 j1 => ?_, fun r r0 r1 => ?_, fun a b a0 a1 b0 b1 e => ?_, fun a b a0 hab b1 => ?_⟩, lo, by omega, by omega, by omega, fun j j0 j1 => ?_, fun j j0 j1 k' h0 h1 => up j k' j0 (by omega) (K.done j j0 j1 k' h0 h1), fun k' h0 h1 => ?_, fun j j0 j1 => ?_⟩
  · rw [hln] at j1
    rcases hcase j j1 with hj | rfl
    · rw [ha1 j j0 hj]; exact K.b.st j j0 hj
    · rw [ha2]; exact hq
  · rw [hln] at j1
    rcases hcase j j1 with hj | rfl
    · rw [hw1 j j0 hj]; exact K.b.inw j j0 hj
    · rw [hw2, cc_lt hk]
      intro x hx
      rcases List.mem_append.1 hx with hx | hx
      · exact K.b.inw i lo hi x hx
      · rw [List.mem_singleton.1 hx]; exact ⟨hc.1, hc.2.1⟩
  · rw [hln] at j1
    rcases hcase j j1 with hj | rfl
    · rw [hw1 j j0 hj, ha1 j j0 hj]; exact K.b.go j j0 hj
    · rw [hw2, ha2, goL_snoc, K.b.go i lo hi, cc_lt hk, hc.2.2, hn]
  · rw [at_putG hq.1 (by rw [K.b.slen]; exact hq.2) true r0]
    by_cases e : r = q
    · rw [if_pos e]
      exact ⟨fun _ => ⟨(l.length : Int), by omega, by omega, by rw [ha2, e]⟩, fun _ => rfl⟩
    · rw [if_neg e, K.b.seen_ r r0 r1]
      constructor
      · rintro ⟨j, j0, j1, hj⟩
        exact ⟨j, j0, by omega, by rw [ha1 j j0 j1]; exact hj⟩
      · rintro ⟨j, j0, j1, hj⟩
        rw [hln] at j1
        rcases hcase j j1 with h2 | rfl
        · exact ⟨j, j0, h2, by rw [ha1 j j0 h2] at hj; exact hj⟩
        · rw [ha2] at hj; exact absurd hj.symm e
  · rw [hln] at a1 b1
    rcases hcase a a1 with h2 | rfl
    · rcases hcase b b1 with h3 | rfl
      · rw [ha1 a a0 h2, ha1 b b0 h3] at e; exact K.b.one a b a0 h2 b0 h3 e
      · rw [ha1 a a0 h2, ha2] at e; exact absurd e (hnone a a0 h2)
    · rcases hcase b b1 with h3 | rfl
      · rw [ha2, ha1 b b0 h3] at e; exact absurd e.symm (hnone b b0 h3)
      · rfl
  · rw [hln] at b1
    rcases hcase b b1 with h3 | rfl
    · rw [hw1 a a0 (by omega), hw1 b (by omega) h3]; exact K.b.mono a b a0 hab h3
    · rw [hw1 a a0 hab, hw2]; exact K.bound a a0 hab
  · rw [hln] at j1
    rw [hw1 i lo hi]
    rcases hcase j j1 with hj | rfl
    · rw [hw1 j j0 hj]; exact less_up (K.bound j j0 hj) (cc_rise ho R k0 hk)
    · rw [hw2]; exact (lessL_snoc _ _ _ _).2 (.inr ⟨rfl, cc_rise ho R k0 hk⟩)
  · by_cases e : k' = k
    · subst e
      exact ⟨(l.length : Int), by omega, by rw [hln]; omega, by rw [ha2, ha1 i lo hi, hn], by rw [hw2, hw1 i lo hi]; exact leL_refl _⟩
    · exact up i k' lo hi (K.now k' h0 (by omega))
  · rw [ha1 j j0 (by omega)]; exact K.nofin j j0 j1
theorem bf_cover (W : BfI d seen l i) (ho : okPart d.part) (R : RightD d) (w : List Int) : InW w → (∃ m : Int, 0 ≤ m ∧ m < i ∧ (at_ l m).st = goL d w ∧ leL (wordS l m) w) ∨ (i < (l.length : Int) ∧ leL (wordS l i) w) := by
  have hl := W.lo
  have hs := W.b.some_
  have le_of : ∀ a b : Int, 0 ≤ a → a ≤ b → b < (l.length : Int) → leL (wordS l a) (wordS l b) := fun a b a0 hab b1 => by
    by_cases e : a = b
    · rw [e]; exact leL_refl _
    · exact .inr (W.b.mono a b a0 (by omega) b1)
  induction w using list_snoc with
  | h0 =>
    intro _
    by_cases h : 0 < i
    · exact .inl ⟨0, by omega, h, by have := W.b.go 0 (by omega) hs; rw [wordS_0] at this; exact this.symm, by rw [wordS_0]; exact leL_refl _⟩
    · exact .inr ⟨by omega, by rw [wordS_end l (by omega)]; exact leL_refl _⟩
  | h1 w b ih =>
    intro hw
    have hb := hw b (by simp)
    have hk0 : 0 ≤ at_ d.part.of b := u8_lo (okInts_at ho.1 hb.1 hb.2)
    have hk1 := R.part.of_lt b hb.1 hb.2
    have hcb : cc d (at_ d.part.of b) ≤ b := by rw [cc_lt hk1]; exact leastB_le_byte R.part hb.1 hb.2 hk0
    rcases ih fun x hx => hw x (by simp [hx]) with ⟨m, m0, m1, hm, hle⟩ | ⟨h1, h2⟩
    · obtain ⟨m', a0, a1, ha, hb2⟩ := W.done m m0 m1 _ hk0 hk1
      have hle2 : leL (wordS l m') (w ++ [b]) := leL_trans hb2 (leL_snoc hle hcb)
      by_cases h : m' < i
      · exact .inl ⟨m', a0, h, by rw [ha, goL_snoc, hm], hle2⟩
      · exact .inr ⟨by omega, leL_trans (le_of i m' hl (by omega) a1) hle2⟩
    · exact .inr ⟨h1, leL_trans h2 (.inr (lessL_app _ _))⟩
theorem bf_found (W : BfI d seen l i) (ho : okPart d.part) (hr : rightD d = true) (hi : i < (l.length : Int)) (hf : at_ d.final (at_ l i).st = true) : IsLeastW (runD d) (strOfNums (wordS l i)) := by
  have R := rightD_of ho hr
  have hin := W.b.inw i W.lo hi
  refine ⟨?_, fun w hw => ?_⟩
  · rw [runD_list hr, bytes_str hin, W.b.go i W.lo hi]; exact hf
  · unfold lessW
    rw [bytes_str hin]
    rw [runD_list hr] at hw
    rcases bf_cover W ho R (bytesL w) (bytesL_range w) with ⟨m, m0, m1, hm, hle⟩ | ⟨_, h2⟩
    · have := W.nofin m m0 m1
      rw [hm, hw] at this; cases this
    · exact leL_not.1 h2
theorem bf_none (W : BfI d seen l i) (ho : okPart d.part) (hr : rightD d = true) (hi : (l.length : Int) ≤ i) : ∀ w, runD d w = false := fun w => by
  have R := rightD_of ho hr
  rw [runD_list hr]
  rcases bf_cover W ho R (bytesL w) (bytesL_range w) with ⟨m, m0, m1, hm, hle⟩ | ⟨h1, _⟩
  · have := W.nofin m m0 m1
    rw [hm] at this; exact this
  · omega
end
end Gx
namespace Gx
open Go Go.RowKit
set_option linter.unusedSimpArgs false
set_option linter.unusedSectionVars false
set_option linter.unusedVariables false
def overM (b : Int) (m : Mach) : Bool := decide (b < (m.spots.length : Int)) || (decide (b < (m.follow.length : Int)) || (decide (b < (m.last.length : Int)) || (decide (b < (m.first.length : Int)) || m.follow.any fun l => decide (b < (l.length : Int)))))
def smallM (m : Mach) : Bool := !overM 8 m
theorem small_1 (m : Mach) (h : (8 : Int) < (m.spots.length : Int)) : smallM m = false := by unfold smallM overM; rw [decide_eq_true h]; rfl
theorem small_2 (m : Mach) (h : (8 : Int) < (m.follow.length : Int)) : smallM m = false := by unfold smallM overM; rw [decide_eq_true h]; simp
theorem small_3 (m : Mach) (h : (8 : Int) < (m.last.length : Int)) : smallM m = false := by unfold smallM overM; rw [decide_eq_true h]; simp
theorem small_4 (m : Mach) (h : (8 : Int) < (m.first.length : Int)) : smallM m = false := by unfold smallM overM; rw [decide_eq_true h]; simp
theorem small_5 (m : Mach) {i : Int} (h0 : 0 ≤ i) (h1 : i < (m.follow.length : Int)) (h : (8 : Int) < ((at_ m.follow i).length : Int)) : smallM m = false := by
  have e : (m.follow.any fun l => decide ((8 : Int) < (l.length : Int))) = true := List.any_eq_true.2 ⟨_, at_mem h0 h1, decide_eq_true h⟩
  unfold smallM overM; rw [e]; simp
def smallTo (m : Mach) (i : Int) : Bool := (m.follow.take i.toNat).any fun l => decide ((8 : Int) < (l.length : Int))
theorem smallTo_0 (m : Mach) : smallTo m 0 = false := rfl
theorem smallTo_step (m : Mach) {i : Int} (h0 : 0 ≤ i) (h1 : i < (m.follow.length : Int)) (h : smallTo m i = false) (h2 : ¬ (8 : Int) < ((at_ m.follow i).length : Int)) : smallTo m (i + 1) = false := by
  unfold smallTo at h ⊢
  rw [take_next _ h0 h1, List.any_append, h]; simp; omega
theorem small_6 (m : Mach) {i : Int} (hi : (m.follow.length : Int) ≤ i) (h1 : ¬ (8 : Int) < (m.spots.length : Int)) (h2 : ¬ (8 : Int) < (m.follow.length : Int)) (h3 : ¬ (8 : Int) < (m.last.length : Int)) (h4 : ¬ (8 : Int) < (m.first.length : Int)) (h : smallTo m i = false) : smallM m = true := by
  unfold smallTo at h
  rw [List.take_of_length_le (by omega)] at h
  unfold smallM overM
  rw [decide_eq_false h1, decide_eq_false h2, decide_eq_false h3, decide_eq_false h4, h]; rfl
theorem smallM_of {m : Mach} (h : smallM m = true) : (m.spots.length : Int) ≤ 8 ∧ (m.follow.length : Int) ≤ 8 ∧ (m.last.length : Int) ≤ 8 ∧ (m.first.length : Int) ≤ 8 := by
  unfold smallM overM at h
  simp only [Bool.not_eq_true', Bool.or_eq_false_iff, decide_eq_false_iff_not] at h
  omega
theorem okPart_ref (l : List BSet) : okPart (refineP l) := by unfold refineP; exact okPart_of _
end Gx
namespace Go.Proofs.YtfoemogojbnfhaaDoor
open Go Go.RowKit Gx
set_option maxHeartbeats 1000000
set_option linter.unusedVariables false
set_option linter.unusedSimpArgs false
set_option maxRecDepth 8000
attribute [local irreducible] listOf count first someIn has setOf wbits Lib.ctz badQ badRow rightD goD runD nextB nextC outTo readTo rowIn finalB lastB leastB leastBTo buildM errB fitsP madeM allM bfs numbered putB beginB okB smallM smallTo overM
theorem small11_calls (w : World) (m : Mach) (A0_0 : Option Addr) (c0_0 : Nat) (b0_0 : m.spots.length ≤ c0_0 ∧ c0_0 ≤ maxLen) (l0_0 : Leads kSpot (hp w) A0_0 m.spots) (A0_1 : Option Addr) (c0_1 : Nat) (b0_1 : m.first.length ≤ c0_1 ∧ c0_1 ≤ maxLen) (l0_1 : Leads (Kd.int .i64) (hp w) A0_1 m.first) (A0_2 : Option Addr) (c0_2 : Nat) (b0_2 : m.follow.length ≤ c0_2 ∧ c0_2 ≤ maxLen) (l0_2 : Leads (Kd.int .i64).slice (hp w) A0_2 m.follow) (A0_3 : Option Addr) (c0_3 : Nat) (b0_3 : m.last.length ≤ c0_3 ∧ c0_3 ≤ maxLen) (l0_3 : Leads Kd.bool (hp w) A0_3 m.last) :
    Calls Tryd.prog 18 #[.agg #[.slice A0_0 m.spots.length c0_0, .slice A0_1 m.first.length c0_1, .slice A0_2 m.follow.length c0_2, .slice A0_3 m.last.length c0_3, .bool m.empty]] w fun e w' => ∃ v, e = .returned v ∧ ∃ (hn : Ghost), St w.heap.size w hn w' [] ∧ v = .bool (smallM m) := by
 refine calls_of_run Tryd.func18 rfl Tryd.ntmps18 rfl ?_
 have S0 := St.init w
 have bb0_0 := b0_0.1; have bc0_0 := b0_0.2; simp only [maxLen] at bc0_0
 have bb0_1 := b0_1.1; have bc0_1 := b0_1.2; simp only [maxLen] at bc0_1
 have bb0_2 := b0_2.1; have bc0_2 := b0_2.2; simp only [maxLen] at bc0_2
 have bb0_3 := b0_3.1; have bc0_3 := b0_3.2; simp only [maxLen] at bc0_3
 refine run_seq ?_
 refine run_reg (l := [0, 1]) rfl ?_
 obtain ⟨b1, w1, r1, g1, T1⟩ := e_box (P := Tryd.prog) S0 27 (v := .agg #[.slice A0_0 m.spots.length c0_0, .slice A0_1 m.first.length c0_1, .slice A0_2 m.follow.length c0_2, .slice A0_3 m.last.length c0_3, .bool m.empty]) [.slice A0_0 m.spots.length c0_0, .slice A0_1 m.first.length c0_1, .slice A0_2 m.follow.length c0_2, .slice A0_3 m.last.length c0_3, .bool m.empty] rfl
 have S2 := T1
 dsimp only [lAa, lAn, lA0, lAs] at S2
 refine p_v (v := .pointer (some ⟨b1, 0, none⟩)) rfl rfl rfl (x_box rfl r1) ?_
 refine p_v (v := .bool false) rfl rfl rfl (x_assign rfl) ?_
 refine run_region_end ?_
 refine run_seq ?_
 refine run_seq ?_
 refine run_reg (l := [0, 1, 2, 3, 4, 5, 6, 7, 8, 9, 10, 11, 12, 13, 14, 15, 16, 17, 18, 19, 20, 21]) rfl ?_
 refine p_v (v := .pointer (some ⟨b1, 0, none⟩)) rfl rfl rfl (x_fieldAt fd27_0 ty22 rfl rfl) ?_
 refine p_v (v := .slice A0_0 m.spots.length c0_0) rfl rfl rfl (x_load (seg := [.slice A0_0 m.spots.length c0_0]) ty22 rfl (by simp) rfl (CF.box (m := 1) (S2.box_at (j := 0) rfl) rfl)) ?_
 refine p_v (v := .int .i64 (m.spots.length : Int)) rfl rfl rfl (x_len_slice u22 rfl) ?_
 refine p_v (v := .bool (decide (8 < (m.spots.length : Int)))) rfl rfl rfl (x_gtr rfl rfl) ?_
 refine p_v (v := .bool (decide (8 < (m.spots.length : Int)))) rfl rfl rfl (x_move rfl) ?_
 by_cases hc3 : 8 < (m.spots.length : Int)
 ·skip
  refine p_off rfl (wanted_of (j := 4) (want := false) (d := 8) (b := true) rfl rfl (congrArg Value.bool (decide_eq_true hc3)) rfl) rfl ?_
  refine p_off rfl (wanted_of (j := 4) (want := false) (d := 8) (b := true) rfl rfl (congrArg Value.bool (decide_eq_true hc3)) rfl) rfl ?_
  refine p_off rfl (wanted_of (j := 4) (want := false) (d := 8) (b := true) rfl rfl (congrArg Value.bool (decide_eq_true hc3)) rfl) rfl ?_
  refine p_off rfl (wanted_of (j := 4) (want := false) (d := 8) (b := true) rfl rfl (congrArg Value.bool (decide_eq_true hc3)) rfl) rfl ?_
  refine p_v (v := .bool true) rfl rfl rfl (x_pick_t (congrArg Value.bool (decide_eq_true hc3)) rfl) ?_
  refine p_v (v := .bool true) rfl rfl rfl (x_move rfl) ?_
  refine p_off rfl rfl rfl ?_
  refine p_off rfl rfl rfl ?_
  refine p_off rfl rfl rfl ?_
  refine p_off rfl rfl rfl ?_
  refine p_v (v := .bool true) rfl rfl rfl (x_pick_t rfl rfl) ?_
  refine p_v (v := .bool true) rfl rfl rfl (x_move rfl) ?_
  refine p_off rfl rfl rfl ?_
  refine p_off rfl rfl rfl ?_
  refine p_off rfl rfl rfl ?_
  refine p_off rfl rfl rfl ?_
  refine p_v (v := .bool true) rfl rfl rfl (x_pick_t rfl rfl) ?_
  refine run_region_end ?_
  refine run_cond (b := true) rfl ?_
  simp only [if_true, if_false, Bool.false_eq_true]
  refine run_seq ?_
  refine run_reg (l := [0]) rfl ?_
  refine p_v (v := .bool false) rfl rfl rfl (x_assign rfl) ?_
  refine run_region_end ?_
  refine run_ret Tryd.func18 (res1 rfl (res_tmp (v := .bool false) rfl)) ?_
  have q0 : (smallM m : Bool) = false := by
   first | exact small_1 m (by assumption) | exact small_2 m (by assumption) | exact small_3 m (by assumption) | exact small_4 m (by assumption) | exact small_5 m hI_.1 (by omega) (by assumption) | exact small_6 m (by omega) (by assumption) (by assumption) (by assumption) (by assumption) hI_.2.2
  refine ⟨_, rfl, (fun _ => none), ?_, ?_⟩
  · exact S2.sub [] (by decide) rfl _ rfl
  · first | rfl | (simp only [q0]; rfl) | (simp only [q0])
 ·skip
  refine p_v (v := .pointer (some ⟨b1, 2, none⟩)) rfl (wanted_of (j := 4) (want := false) (d := 8) (b := false) rfl rfl (congrArg Value.bool (decide_eq_false hc3)) rfl) rfl (x_fieldAt fd27_2 ty24 rfl rfl) ?_
  refine p_v (v := .slice A0_2 m.follow.length c0_2) rfl (wanted_of (j := 4) (want := false) (d := 8) (b := false) rfl rfl (congrArg Value.bool (decide_eq_false hc3)) rfl) rfl (x_load (seg := [.slice A0_2 m.follow.length c0_2]) ty24 rfl (by simp) rfl (CF.box (m := 1) (S2.box_at (j := 0) rfl) rfl)) ?_
  refine p_v (v := .int .i64 (m.follow.length : Int)) rfl (wanted_of (j := 4) (want := false) (d := 8) (b := false) rfl rfl (congrArg Value.bool (decide_eq_false hc3)) rfl) rfl (x_len_slice u24 rfl) ?_
  refine p_v (v := .bool (decide (8 < (m.follow.length : Int)))) rfl (wanted_of (j := 4) (want := false) (d := 8) (b := false) rfl rfl (congrArg Value.bool (decide_eq_false hc3)) rfl) rfl (x_gtr rfl rfl) ?_
  refine p_v (v := .bool (decide (8 < (m.follow.length : Int)))) rfl rfl rfl (x_pick_f (congrArg Value.bool (decide_eq_false hc3)) rfl) ?_
  refine p_v (v := .bool (decide (8 < (m.follow.length : Int)))) rfl rfl rfl (x_move rfl) ?_
  by_cases hc4 : 8 < (m.follow.length : Int)
  ·skip
   refine p_off rfl (wanted_of (j := 10) (want := false) (d := 14) (b := true) rfl rfl (congrArg Value.bool (decide_eq_true hc4)) rfl) rfl ?_
   refine p_off rfl (wanted_of (j := 10) (want := false) (d := 14) (b := true) rfl rfl (congrArg Value.bool (decide_eq_true hc4)) rfl) rfl ?_
   refine p_off rfl (wanted_of (j := 10) (want := false) (d := 14) (b := true) rfl rfl (congrArg Value.bool (decide_eq_true hc4)) rfl) rfl ?_
   refine p_off rfl (wanted_of (j := 10) (want := false) (d := 14) (b := true) rfl rfl (congrArg Value.bool (decide_eq_true hc4)) rfl) rfl ?_
   refine p_v (v := .bool true) rfl rfl rfl (x_pick_t (congrArg Value.bool (decide_eq_true hc4)) rfl) ?_
   refine p_v (v := .bool true) rfl rfl rfl (x_move rfl) ?_
   refine p_off rfl rfl rfl ?_
   refine p_off rfl rfl rfl ?_
   refine p_off rfl rfl rfl ?_
   refine p_off rfl rfl rfl ?_
   refine p_v (v := .bool true) rfl rfl rfl (x_pick_t rfl rfl) ?_
   refine run_region_end ?_
   refine run_cond (b := true) rfl ?_
   simp only [if_true, if_false, Bool.false_eq_true]
   refine run_seq ?_
   refine run_reg (l := [0]) rfl ?_
   refine p_v (v := .bool false) rfl rfl rfl (x_assign rfl) ?_
   refine run_region_end ?_
   refine run_ret Tryd.func18 (res1 rfl (res_tmp (v := .bool false) rfl)) ?_
   have q0 : (smallM m : Bool) = false := by
    first | exact small_1 m (by assumption) | exact small_2 m (by assumption) | exact small_3 m (by assumption) | exact small_4 m (by assumption) | exact small_5 m hI_.1 (by omega) (by assumption) | exact small_6 m (by omega) (by assumption) (by assumption) (by assumption) (by assumption) hI_.2.2
   refine ⟨_, rfl, (fun _ => none), ?_, ?_⟩
   · exact S2.sub [] (by decide) rfl _ rfl
   · first | rfl | (simp only [q0]; rfl) | (simp only [q0])
  ·skip
   refine p_v (v := .pointer (some ⟨b1, 3, none⟩)) rfl (wanted_of (j := 10) (want := false) (d := 14) (b := false) rfl rfl (congrArg Value.bool (decide_eq_false hc4)) rfl) rfl (x_fieldAt fd27_3 ty25 rfl rfl) ?_
   refine p_v (v := .slice A0_3 m.last.length c0_3) rfl (wanted_of (j := 10) (want := false) (d := 14) (b := false) rfl rfl (congrArg Value.bool (decide_eq_false hc4)) rfl) rfl (x_load (seg := [.slice A0_3 m.last.length c0_3]) ty25 rfl (by simp) rfl (CF.box (m := 1) (S2.box_at (j := 0) rfl) rfl)) ?_
   refine p_v (v := .int .i64 (m.last.length : Int)) rfl (wanted_of (j := 10) (want := false) (d := 14) (b := false) rfl rfl (congrArg Value.bool (decide_eq_false hc4)) rfl) rfl (x_len_slice u25 rfl) ?_
   refine p_v (v := .bool (decide (8 < (m.last.length : Int)))) rfl (wanted_of (j := 10) (want := false) (d := 14) (b := false) rfl rfl (congrArg Value.bool (decide_eq_false hc4)) rfl) rfl (x_gtr rfl rfl) ?_
   refine p_v (v := .bool (decide (8 < (m.last.length : Int)))) rfl rfl rfl (x_pick_f (congrArg Value.bool (decide_eq_false hc4)) rfl) ?_
   refine p_v (v := .bool (decide (8 < (m.last.length : Int)))) rfl rfl rfl (x_move rfl) ?_
   by_cases hc5 : 8 < (m.last.length : Int)
   ·skip
    refine p_off rfl (wanted_of (j := 16) (want := false) (d := 20) (b := true) rfl rfl (congrArg Value.bool (decide_eq_true hc5)) rfl) rfl ?_
    refine p_off rfl (wanted_of (j := 16) (want := false) (d := 20) (b := true) rfl rfl (congrArg Value.bool (decide_eq_true hc5)) rfl) rfl ?_
    refine p_off rfl (wanted_of (j := 16) (want := false) (d := 20) (b := true) rfl rfl (congrArg Value.bool (decide_eq_true hc5)) rfl) rfl ?_
    refine p_off rfl (wanted_of (j := 16) (want := false) (d := 20) (b := true) rfl rfl (congrArg Value.bool (decide_eq_true hc5)) rfl) rfl ?_
    refine p_v (v := .bool true) rfl rfl rfl (x_pick_t (congrArg Value.bool (decide_eq_true hc5)) rfl) ?_
    refine run_region_end ?_
    refine run_cond (b := true) rfl ?_
    simp only [if_true, if_false, Bool.false_eq_true]
    refine run_seq ?_
    refine run_reg (l := [0]) rfl ?_
    refine p_v (v := .bool false) rfl rfl rfl (x_assign rfl) ?_
    refine run_region_end ?_
    refine run_ret Tryd.func18 (res1 rfl (res_tmp (v := .bool false) rfl)) ?_
    have q0 : (smallM m : Bool) = false := by
     first | exact small_1 m (by assumption) | exact small_2 m (by assumption) | exact small_3 m (by assumption) | exact small_4 m (by assumption) | exact small_5 m hI_.1 (by omega) (by assumption) | exact small_6 m (by omega) (by assumption) (by assumption) (by assumption) (by assumption) hI_.2.2
    refine ⟨_, rfl, (fun _ => none), ?_, ?_⟩
    · exact S2.sub [] (by decide) rfl _ rfl
    · first | rfl | (simp only [q0]; rfl) | (simp only [q0])
   ·skip
    refine p_v (v := .pointer (some ⟨b1, 1, none⟩)) rfl (wanted_of (j := 16) (want := false) (d := 20) (b := false) rfl rfl (congrArg Value.bool (decide_eq_false hc5)) rfl) rfl (x_fieldAt fd27_1 ty23 rfl rfl) ?_
    refine p_v (v := .slice A0_1 m.first.length c0_1) rfl (wanted_of (j := 16) (want := false) (d := 20) (b := false) rfl rfl (congrArg Value.bool (decide_eq_false hc5)) rfl) rfl (x_load (seg := [.slice A0_1 m.first.length c0_1]) ty23 rfl (by simp) rfl (CF.box (m := 1) (S2.box_at (j := 0) rfl) rfl)) ?_
    refine p_v (v := .int .i64 (m.first.length : Int)) rfl (wanted_of (j := 16) (want := false) (d := 20) (b := false) rfl rfl (congrArg Value.bool (decide_eq_false hc5)) rfl) rfl (x_len_slice u23 rfl) ?_
    refine p_v (v := .bool (decide (8 < (m.first.length : Int)))) rfl (wanted_of (j := 16) (want := false) (d := 20) (b := false) rfl rfl (congrArg Value.bool (decide_eq_false hc5)) rfl) rfl (x_gtr rfl rfl) ?_
    refine p_v (v := .bool (decide (8 < (m.first.length : Int)))) rfl rfl rfl (x_pick_f (congrArg Value.bool (decide_eq_false hc5)) rfl) ?_
    refine run_region_end ?_
    refine run_cond_prop (p := 8 < (m.first.length : Int)) rfl (fun hc6 => ?_) (fun hc6 => ?_)
    ·skip
     refine run_seq ?_
     refine run_reg (l := [0]) rfl ?_
     refine p_v (v := .bool false) rfl rfl rfl (x_assign rfl) ?_
     refine run_region_end ?_
     refine run_ret Tryd.func18 (res1 rfl (res_tmp (v := .bool false) rfl)) ?_
     have q0 : (smallM m : Bool) = false := by
      first | exact small_1 m (by assumption) | exact small_2 m (by assumption) | exact small_3 m (by assumption) | exact small_4 m (by assumption) | exact small_5 m hI_.1 (by omega) (by assumption) | exact small_6 m (by omega) (by assumption) (by assumption) (by assumption) (by assumption) hI_.2.2
     refine ⟨_, rfl, (fun _ => none), ?_, ?_⟩
     · exact S2.sub [] (by decide) rfl _ rfl
     · first | rfl | (simp only [q0]; rfl) | (simp only [q0])
    ·skip
     refine run_skip ?_
     refine run_seq ?_
     refine run_seq ?_
     refine run_reg (l := [0]) rfl ?_
     refine p_v (v := .int .i64 0) rfl rfl rfl (x_assign rfl) ?_
     refine run_region_end ?_
     refine run_block ?_
     refine run_loop (S := Int) (fun (q_ : Int) ρ w' => match q_ with | i => ∃ (h : Ghost), Le (fun _ => none) h ∧ St w.heap.size w h w' [box b1 27 [.slice A0_0 m.spots.length c0_0, .slice A0_1 m.first.length c0_1, .slice A0_2 m.follow.length c0_2, .slice A0_3 m.last.length c0_3, .bool m.empty]] ∧ ρ 1 = .pointer (some ⟨b1, 0, none⟩) ∧ ρ 3 = .int .i64 i ∧ inK .i64 i ∧ (0 ≤ i ∧ i ≤ (m.follow.length : Int) ∧ smallTo m i = false)) (fun q_ => match q_ with | i => (m.follow.length - i).toNat) (0) ⟨(fun _ => none), Le.refl _, S2.sub [0] (by decide) rfl _ rfl, rfl, rfl, (in_i64 (by first|omega|(simp;omega)|assumption|simp) (by first|omega|(simp;omega)|assumption|simp)), (by exact ⟨by omega, by omega, smallTo_0 _⟩)⟩ ?_
     rintro i ih7 ρ7 w7 ⟨h7, le7, S7, r7_1, r7_3, f7_0, hI7⟩
     have lf7_0 := i64_lo f7_0; have hf7_0 := i64_hi f7_0
     refine run_seq ?_
     refine run_seq ?_
     refine run_reg (l := [0, 1, 2, 3, 4]) rfl ?_
     refine p_v (v := .int .i64 i) rfl rfl rfl (x_move r7_3) ?_
     refine p_v (v := .pointer (some ⟨b1, 2, none⟩)) rfl rfl rfl (x_fieldAt fd27_2 ty24 rfl r7_1) ?_
     refine p_v (v := .slice A0_2 m.follow.length c0_2) rfl rfl rfl (x_load (seg := [.slice A0_2 m.follow.length c0_2]) ty24 rfl (by simp) rfl (CF.box (m := 1) (S7.box_at (j := 0) rfl) rfl)) ?_
     refine p_v (v := .int .i64 (m.follow.length : Int)) rfl rfl rfl (x_len_slice u24 rfl) ?_
     refine p_v (v := .bool (decide (i < (m.follow.length : Int)))) rfl rfl rfl (x_lss rfl rfl) ?_
     refine run_region_end ?_
     refine run_cond_prop (p := i < (m.follow.length : Int)) rfl (fun hc8 => ?_) (fun hc8 => ?_)
     ·skip
      refine run_skip ?_
      refine run_seq ?_
      refine run_block ?_
      refine run_seq ?_
      refine run_reg (l := [0, 1, 2, 3, 4, 5, 6]) rfl ?_
      refine p_v (v := .pointer (some ⟨b1, 2, none⟩)) rfl rfl rfl (x_fieldAt fd27_2 ty24 rfl r7_1) ?_
      refine p_v (v := .slice A0_2 m.follow.length c0_2) rfl rfl rfl (x_load (seg := [.slice A0_2 m.follow.length c0_2]) ty24 rfl (by simp) rfl (CF.box (m := 1) (S7.box_at (j := 0) rfl) rfl)) ?_
      refine p_v (v := .int .i64 i) rfl rfl rfl (x_move r7_3) ?_
      obtain ⟨ad9, seg9, a9, rp9, ce9⟩ := e_index_ro (q := i) (m := 1) l0_2 rfl (by first|omega|(simp;omega)|assumption|simp) (by first|omega|(simp;omega)|assumption|simp)
      refine p_v (v := .pointer (some ad9)) rfl rfl rfl (x_index_ro u24 ty23 rfl rfl a9 (by first|omega|(simp;omega)|assumption|simp) (by first|omega|(simp;omega)|assumption|simp)) ?_
      obtain ⟨A9, c9, rfl, lc9, cm9, ld9⟩ := rp9
      have cn9 := cm9; simp only [maxLen] at cn9
      refine p_v (v := .slice A9 (at_ m.follow i).length c9) rfl rfl rfl (x_load (seg := [.slice A9 (at_ m.follow i).length c9]) ty23 rfl (by simp) rfl (CF.ghost ce9 (St.le0 S7))) ?_
      refine p_v (v := .int .i64 ((at_ m.follow i).length : Int)) rfl rfl rfl (x_len_slice u23 rfl) ?_
      refine p_v (v := .bool (decide (8 < ((at_ m.follow i).length : Int)))) rfl rfl rfl (x_gtr rfl rfl) ?_
      refine run_region_end ?_
      refine run_cond_prop (p := 8 < ((at_ m.follow i).length : Int)) rfl (fun hc10 => ?_) (fun hc10 => ?_)
      ·skip
       refine run_seq ?_
       refine run_reg (l := [0]) rfl ?_
       refine p_v (v := .bool false) rfl rfl rfl (x_assign rfl) ?_
       refine run_region_end ?_
       refine run_ret Tryd.func18 (res1 rfl (res_tmp (v := .bool false) rfl)) ?_
       have q0 : (smallM m : Bool) = false := by
        first | exact small_1 m (by assumption) | exact small_2 m (by assumption) | exact small_3 m (by assumption) | exact small_4 m (by assumption) | exact small_5 m hI7.1 (by omega) (by assumption) | exact small_6 m (by omega) (by assumption) (by assumption) (by assumption) (by assumption) hI7.2.2
       refine ⟨_, rfl, h7, ?_, ?_⟩
       · exact S7.sub [] (by decide) rfl _ rfl
       · first | rfl | (simp only [q0]; rfl) | (simp only [q0])
      ·skip
       refine run_skip ?_
       refine run_inBlock ?_
       refine run_reg (l := [0, 1, 2]) rfl ?_
       refine p_v (v := .int .i64 i) rfl rfl rfl (x_move r7_3) ?_
       refine p_v (v := .int .i64 (i + 1)) rfl rfl rfl (x_add rfl rfl (in_i64 (by first|omega|(simp;omega)|assumption|simp) (by first|omega|(simp;omega)|assumption|simp))) ?_
       refine p_v (v := .int .i64 (i + 1)) rfl rfl rfl (x_assign rfl) ?_
       refine run_region_end ?_
       refine ih7 (i + 1) _ _ (by dsimp only; omega) ⟨h7, le7, S7.sub [0] (by decide) rfl _ rfl, r7_1, rfl, (in_i64 (by first|omega|(simp;omega)|assumption|simp) (by first|omega|(simp;omega)|assumption|simp)), (by exact ⟨by omega, by omega, smallTo_step m hI7.1 (by omega) hI7.2.2 (by assumption)⟩)⟩
     ·skip
      refine run_exit rfl ?_
      refine run_seq ?_
      refine run_reg (l := [0]) rfl ?_
      refine p_v (v := .bool true) rfl rfl rfl (x_assign rfl) ?_
      refine run_region_end ?_
      refine run_ret Tryd.func18 (res1 rfl (res_tmp (v := .bool true) rfl)) ?_
      have q0 : (smallM m : Bool) = true := by
       first | exact small_1 m (by assumption) | exact small_2 m (by assumption) | exact small_3 m (by assumption) | exact small_4 m (by assumption) | exact small_5 m hI7.1 (by omega) (by assumption) | exact small_6 m (by omega) (by assumption) (by assumption) (by assumption) (by assumption) hI7.2.2
      refine ⟨_, rfl, h7, ?_, ?_⟩
      · exact S7.sub [] (by decide) rfl _ rfl
      · first | rfl | (simp only [q0]; rfl) | (simp only [q0])
end Go.Proofs.YtfoemogojbnfhaaDoor
namespace Go.Proofs.YtfoemogojbnfhaaDoor
open Go Go.RowKit Gx
set_option linter.unusedVariables false
set_option maxHeartbeats 1000000 in
set_option maxRecDepth 100000 in
theorem cmpString_ (a b : ByteArray) (w : World) :
    Calls Tryd.prog 157 #[.string a, .string b] w fun e w' => e = .returned (.int .i64 (Lib.compareBytes a.data.toList b.data.toList)) ∧ w' = w := by
  go_enter Tryd.func157, Tryd.ntmps157
  go_wp2
  rw [run_callFunc_extern Tryd.func171 (by kernel_rfl) (by kernel_rfl) (by kernel_rfl) (e := Extern.BytealgCompare.compare) (by kernel_rfl), Lib.run_compareString]
  simp only [Result.andThen]
  rw [Oper.upon_value]
  go_wp2
  go_ret
  exact ⟨rfl, rfl⟩
set_option maxHeartbeats 1000000 in
theorem strCompare_ (a b : ByteArray) (w : World) :
    Calls Tryd.prog 122 #[.string a, .string b] w fun e w' => e = .returned (.int .i64 (Lib.compareBytes a.data.toList b.data.toList)) ∧ w' = w := by
  go_enter Tryd.func122, Tryd.ntmps122
  go_wp2_with (go_at_call 157; refine (cmpString_ _ _ _).mono ?_; rintro e w' ⟨rfl, rfl⟩)
  go_ret
  exact ⟨rfl, rfl⟩
theorem strCmp_calls (w : World) (a : ByteArray) (s0 : a.size ≤ maxLen) (b : ByteArray) (s1 : b.size ≤ maxLen) :
    Calls Tryd.prog 122 #[.string a, .string b] w fun e w' => ∃ v, e = .returned v ∧ ∃ (hn : Ghost), St w.heap.size w hn w' [] ∧ v = .int .i64 (cmpW a b) ∧ inK .i64 (cmpW a b) :=
  (strCompare_ a b w).mono fun e w' h => by
    obtain ⟨rfl, rfl⟩ := h
    exact ⟨_, rfl, _, St.init _, by rw [cmp_bytes], cmpW_in a b⟩
end Go.Proofs.YtfoemogojbnfhaaDoor
namespace Gx
open Go Go.RowKit
set_option linter.unusedSimpArgs false
set_option linter.unusedSectionVars false
set_option linter.unusedVariables false
def revTo (b : List Int) (x : Int) : List Int := (List.range b.length).map fun p => if ((p : Nat) : Int) < x ∨ (b.length : Int) - 1 - x < ((p : Nat) : Int) then at_ b ((b.length : Int) - 1 - ((p : Nat) : Int)) else at_ b ((p : Nat) : Int)
theorem revTo_len (b : List Int) (x : Int) : (revTo b x).length = b.length := by unfold revTo; simp
theorem revTo_at (b : List Int) (x : Int) {p : Int} (h0 : 0 ≤ p) (h1 : p < (b.length : Int)) : at_ (revTo b x) p = if p < x ∨ (b.length : Int) - 1 - x < p then at_ b ((b.length : Int) - 1 - p) else at_ b p := by
  have e : at_ (revTo b x) p = (fun p : Nat => if ((p : Nat) : Int) < x ∨ (b.length : Int) - 1 - x < ((p : Nat) : Int) then at_ b ((b.length : Int) - 1 - ((p : Nat) : Int)) else at_ b ((p : Nat) : Int)) p.toNat := by
    refine at_get ?_
    unfold revTo
    rw [List.getElem?_map, List.getElem?_range (by omega)]; rfl
  rw [e]
  simp only [Int.toNat_of_nonneg h0]
theorem rev_0 (b : List Int) : b = revTo b 0 := by
  refine list_ext (n := b.length) rfl (revTo_len b 0) fun p h0 h1 => ?_
  rw [revTo_at b 0 h0 h1, if_neg (by omega)]
theorem rev_step {b c : List Int} {x y : Int} (hc : c = revTo b x) (h0 : 0 ≤ x) (hy : y = (b.length : Int) - 1 - x) (hxy : x < y) : (c.set x.toNat (at_ c y)).set y.toNat (at_ c x) = revTo b (x + 1) := by
  have hl : (c.length : Int) = b.length := by rw [hc, revTo_len]
  have ey : at_ c y = at_ b y := by rw [hc, revTo_at b x (by omega) (by omega), if_neg (by omega)]
  have ex : at_ c x = at_ b x := by rw [hc, revTo_at b x (by omega) (by omega), if_neg (by omega)]
  refine list_ext (n := b.length) (by rw [List.length_set, List.length_set]; omega) (revTo_len b _) fun p p0 p1 => ?_
  rw [at_putG (by omega) (by rw [List.length_set]; omega) _ p0, at_putG h0 (by omega) _ p0, revTo_at b _ p0 p1, ey, ex]
  by_cases c1 : p = y
  · rw [if_pos c1, if_pos (by omega), c1, hy]
    congr 1; omega
  · rw [if_neg c1]
    by_cases c2 : p = x
    · rw [if_pos c2, if_pos (by omega), c2, hy]
    · rw [if_neg c2, hc, revTo_at b x p0 p1]
      by_cases c3 : p < x ∨ (b.length : Int) - 1 - x < p
      · rw [if_pos c3, if_pos (by omega)]
      · rw [if_neg c3, if_neg (by omega)]
theorem rev_end {b c : List Int} {x y : Int} (hc : c = revTo b x) (h0 : 0 ≤ x) (hy : y = (b.length : Int) - 1 - x) (hxy : ¬ x < y) : c = b.reverse := by
  refine list_ext (n := b.length) (by rw [hc, revTo_len]) (by simp) fun p p0 p1 => ?_
  have er : at_ b.reverse p = at_ b ((b.length : Int) - 1 - p) := by
    unfold at_
    rw [List.getD_eq_getElem?_getD, List.getD_eq_getElem?_getD, List.getElem?_reverse (by omega)]
    congr 2; omega
  rw [hc, revTo_at b x p0 p1, er]
  by_cases c3 : p < x ∨ (b.length : Int) - 1 - x < p
  · rw [if_pos c3]
  · rw [if_neg c3]; congr 1; omega
theorem word_0 (l : List StepM) (i : Int) : wordS l i = wordS l i ++ ([] : List Int).reverse := by simp
theorem word_up {l : List StepM} (hc : Chain l) {i i2 : Int} {b : List Int} (h0 : 0 < i2) (h1 : i2 < (l.length : Int)) (h : wordS l i = wordS l i2 ++ b.reverse) : wordS l i = wordS l (at_ l i2).fr ++ (b ++ [(at_ l i2).by_]).reverse := by
  rw [h, wordS_step hc h0 h1]; simp
theorem word_done {l : List StepM} {i i2 : Int} {b : List Int} (h0 : i2 ≤ 0) (h : wordS l i = wordS l i2 ++ b.reverse) : wordS l i = b.reverse := by
  rw [h, wordS_end l h0]; rfl
end Gx
namespace Gx
open Go Go.RowKit
set_option linter.unusedSimpArgs false
set_option linter.unusedSectionVars false
set_option linter.unusedVariables false
theorem goL_app (d : Dfa) (a b : List Int) : goL d (a ++ b) = b.foldl (fun q c => at_ (at_ d.next q) (at_ d.part.of c)) (goL d a) := by unfold goL; rw [List.foldl_append]
theorem short_word {d : Dfa} (ho : okPart d.part) (R : RightD d) : ∀ (n : Nat) (w : List Int), w.length ≤ n → InW w → at_ d.final (goL d w) = true → ∃ v, InW v ∧ v.length < d.next.length ∧ at_ d.final (goL d v) = true
  | 0, w, h, hw, hf => ⟨w, hw, by have := R.some_; omega, hf⟩
  | n + 1, w, h, hw, hf => by
    by_cases hl : w.length < d.next.length
    · exact ⟨w, hw, hl, hf⟩
    · have hrep : ¬ ((List.range (d.next.length + 1)).map fun i => (goL d (w.take i)).toNat).Nodup := fun hn => by
        have := nodup_lt d.next.length _ hn fun x hx => by
          obtain ⟨i, _, rfl⟩ := List.mem_map.1 hx
          have := goL_in ho R (w.take i) fun x hx => hw x (List.mem_of_mem_take hx)
          omega
        rw [List.length_map, List.length_range] at this; omega
      have : ∃ i j, i < j ∧ j ≤ d.next.length ∧ goL d (w.take i) = goL d (w.take j) := by
        refine Classical.byContradiction fun hno => hrep (List.pairwise_iff_getElem.2 fun i j hi hj hij e => hno ⟨i, j, hij, ?_, ?_⟩)
        · simp at hj; omega
        · simp only [List.getElem_map, List.getElem_range] at e
          have h1 := goL_in ho R (w.take i) fun x hx => hw x (List.mem_of_mem_take hx)
          have h2 := goL_in ho R (w.take j) fun x hx => hw x (List.mem_of_mem_take hx)
          omega
      obtain ⟨i, j, hij, hj, e⟩ := this
      refine short_word ho R n (w.take i ++ w.drop j) (by rw [List.length_append, List.length_take, List.length_drop]; omega) (fun x hx => ?_) ?_
      · rcases List.mem_append.1 hx with hx | hx
        · exact hw x (List.mem_of_mem_take hx)
        · exact hw x (List.mem_of_mem_drop hx)
      · rw [goL_app, e, ← goL_app, List.take_append_drop]; exact hf
theorem bTrue {b : Bool} (h : b = false → False) : b = true := by cases b with
  | true => rfl
  | false => exact (h rfl).elim
def leastAt (d : Dfa) (s : Int) (q : Int) (u : List Int) : Prop := InW u ∧ (u.length : Int) = s ∧ goL d u = q ∧ ∀ w, InW w → (w.length : Int) = s → goL d w = q → leL u w
structure Lv (d : Dfa) (tx : List ByteArray) (is : List Bool) (s : Int) : Prop where
  s0 : 0 ≤ s
  tl : (tx.length : Int) = d.next.length
  il : (is.length : Int) = d.next.length
  yes : ∀ q : Int, 0 ≤ q → q < (d.next.length : Int) → at_ is q = true → leastAt d s q (bytesL (at_ tx q))
  no : ∀ q : Int, 0 ≤ q → q < (d.next.length : Int) → at_ is q = false → ∀ w, InW w → (w.length : Int) = s → goL d w ≠ q
  none_ : ∀ w, InW w → (w.length : Int) < s → at_ d.final (goL d w) = false
structure Bs (d : Dfa) (tx : List ByteArray) (is : List Bool) (best q : Int) : Prop where
  q0 : 0 ≤ q
  q1 : q ≤ (d.next.length : Int)
  b0 : -1 ≤ best
  b1 : best < q
  yes : 0 ≤ best → at_ is best = true ∧ at_ d.final best = true ∧ ∀ p : Int, 0 ≤ p → p < q → at_ is p = true → at_ d.final p = true → strLt (at_ tx p) (at_ tx best) = false
  no : best < 0 → ∀ p : Int, 0 ≤ p → p < q → at_ is p = true → at_ d.final p = false
section
variable {d : Dfa} {tx nx : List ByteArray} {is th : List Bool} {s q r best k : Int}
theorem lv_0 (R : RightD d) (tx : List ByteArray) (h : tx = List.replicate d.next.length ⟨#[]⟩) : Lv d tx ((List.replicate d.next.length false).set 0 true) 0 := by
  have hs := R.some_
  have e : ∀ q : Int, 0 ≤ q → at_ ((List.replicate d.next.length false).set 0 true) q = decide (q = 0) := fun q q0 => by
    have e := at_putG (l := List.replicate d.next.length false) (t := 0) (by omega) (by simp; omega) true q0
    rw [show ((0 : Int)).toNat = 0 from rfl] at e
    rw [e]
    by_cases hq : q = 0
    · rw [if_pos hq, decide_eq_true hq]
    · rw [if_neg hq, decide_eq_false hq]
      unfold at_
      rw [List.getD_eq_getElem?_getD, List.getElem?_replicate]
      split <;> rfl
  refine ⟨by omega, by rw [h]; simp, by simp, fun q q0 q1 hq => ?_, fun q q0 q1 hq w hw hl => ?_, fun w _ hl => by omega⟩
  · rw [e q q0, decide_eq_true_eq] at hq
    have et : at_ tx q = ⟨#[]⟩ := by
      rw [h]
      unfold at_
      rw [List.getD_eq_getElem?_getD, List.getElem?_replicate, if_pos (by omega)]; rfl
    rw [et, bytesL_nil]
    refine ⟨fun x hx => (by cases hx), rfl, hq.symm, fun w _ hl _ => ?_⟩
    rw [List.length_eq_zero_iff.1 (by omega : w.length = 0)]
    exact leL_refl _
  · rw [e q q0, decide_eq_false_iff_not] at hq
    rw [List.length_eq_zero_iff.1 (by omega : w.length = 0)]
    exact fun e => hq e.symm
theorem bs_0 : Bs d tx is (-1) 0 := ⟨by omega, by omega, by omega, by omega, fun h => by omega, fun _ p p0 p1 => by omega⟩
theorem bs_no (B : Bs d tx is best q) (h1 : q < (d.next.length : Int)) (h : at_ is q = false ∨ at_ d.final q = false ∨ (0 ≤ best ∧ strLt (at_ tx q) (at_ tx best) = false)) : Bs d tx is best (q + 1) := by
  have q0 := B.q0
  have b1 := B.b1
  refine ⟨by omega, by omega, B.b0, by omega, fun hb => ⟨(B.yes hb).1, (B.yes hb).2.1, fun p p0 p1 hp hf => ?_⟩, fun hb p p0 p1 hp => ?_⟩
  · by_cases e : p = q
    · subst e
      rcases h with h | h | h
      · rw [h] at hp; cases hp
      · rw [h] at hf; cases hf
      · exact h.2
    · exact (B.yes hb).2.2 p p0 (by omega) hp hf
  · by_cases e : p = q
    · subst e
      rcases h with h | h | h
      · rw [h] at hp; cases hp
      · exact h
      · omega
    · exact B.no hb p p0 (by omega) hp
theorem bs_yes (B : Bs d tx is best q) (h1 : q < (d.next.length : Int)) (hi : at_ is q = true) (hf : at_ d.final q = true) (h : best < 0 ∨ strLt (at_ tx q) (at_ tx best) = true) : Bs d tx is q (q + 1) := by
  have q0 := B.q0
  have b1 := B.b1
  refine ⟨by omega, by omega, by omega, by omega, fun _ => ⟨hi, hf, fun p p0 p1 hp hpf => ?_⟩, fun hb => by omega⟩
  by_cases e : p = q
  · subst e; exact ltL_irrefl _
  · by_cases hb : best < 0
    · have := B.no hb p p0 (by omega) hp
      rw [this] at hpf; cases hpf
    · have h2 := (B.yes (by omega)).2.2 p p0 (by omega) hp hpf
      rcases h with h | h
      · omega
      · refine Bool.eq_false_iff.2 fun h3 => ?_
        have := ltL_trans h3 h
        unfold strLt at h2
        rw [this] at h2; cases h2
theorem lv_found (L : Lv d tx is s) (B : Bs d tx is best q) (hr : rightD d = true) (ho : okPart d.part) (hq : (d.next.length : Int) ≤ q) (hb : 0 ≤ best) : IsLeastW (runD d) (at_ tx best) := by
  have R := rightD_of ho hr
  have hbq : best < (d.next.length : Int) := by have := B.b1; have := B.q1; omega
  obtain ⟨h1, h2, h3⟩ := B.yes hb
  obtain ⟨a1, a2, a3, a4⟩ := L.yes best hb hbq h1
  refine ⟨by rw [runD_list hr, a3]; exact h2, fun w hw => ?_⟩
  rw [runD_list hr] at hw
  unfold lessW
  have hwr := bytesL_range w
  have hg := goL_in ho R (bytesL w) hwr
  refine leL_not.1 ?_
  by_cases hl : ((bytesL w).length : Int) < s
  · have := L.none_ (bytesL w) hwr hl
    rw [this] at hw; cases hw
  · by_cases he : ((bytesL w).length : Int) = s
    · have hi : at_ is (goL d (bytesL w)) = true := by
        refine bTrue fun hno => ?_
        exact L.no _ hg.1 hg.2 hno (bytesL w) hwr he rfl
      obtain ⟨c1, c2, c3, c4⟩ := L.yes _ hg.1 hg.2 hi
      have h5 := h3 _ hg.1 (by have := B.q1; omega) hi hw
      have h6 := c4 (bytesL w) hwr he rfl
      refine leL_trans ?_ h6
      refine leL_not.2 (Bool.eq_false_iff.2 fun h7 => ?_)
      rcases lessL_iff.1 h7 with h8 | h8
      · omega
      · unfold strLt at h5; rw [h8.2] at h5; cases h5
    · exact .inr (lessL_iff.2 (.inl (by omega)))
def Seen (q k p j : Int) : Prop := 0 ≤ p ∧ 0 ≤ j ∧ (p < q ∨ (p = q ∧ j < k))
structure Nx (d : Dfa) (tx : List ByteArray) (is : List Bool) (nx : List ByteArray) (th : List Bool) (q k : Int) : Prop where
  nl : (nx.length : Int) = d.next.length
  tl : (th.length : Int) = d.next.length
  yes : ∀ r : Int, 0 ≤ r → r < (d.next.length : Int) → at_ th r = true → (∃ p j : Int, Seen q k p j ∧ p < (d.next.length : Int) ∧ j < d.part.n ∧ at_ is p = true ∧ at_ (at_ d.next p) j = r ∧ bytesL (at_ nx r) = bytesL (at_ tx p) ++ [at_ (leastB d.part) j]) ∧ ∀ p j : Int, Seen q k p j → p < (d.next.length : Int) → j < d.part.n → at_ is p = true → at_ (at_ d.next p) j = r → leL (bytesL (at_ nx r)) (bytesL (at_ tx p) ++ [at_ (leastB d.part) j])
  no : ∀ r : Int, 0 ≤ r → r < (d.next.length : Int) → at_ th r = false → ∀ p j : Int, Seen q k p j → p < (d.next.length : Int) → j < d.part.n → at_ is p = true → at_ (at_ d.next p) j ≠ r
theorem nx_0 (tx : List ByteArray) (is : List Bool) (nx : List ByteArray) (hn : (nx.length : Int) = d.next.length) (th : List Bool) (ht : th = List.replicate d.next.length false) : Nx d tx is nx th 0 0 := by
  have e : ∀ q : Int, at_ th q = false := fun q => by
    rw [ht]
    unfold at_
    rw [List.getD_eq_getElem?_getD, List.getElem?_replicate]
    split <;> rfl
  exact ⟨hn, by rw [ht]; simp, fun r r0 r1 h => (by rw [e] at h; cases h), fun r r0 r1 _ p j hs => by unfold Seen at hs; omega⟩
theorem seen_row (hk : d.part.n ≤ k ∨ at_ is q = false) (h : Nx d tx is nx th q k) (q0 : 0 ≤ q) : Nx d tx is nx th (q + 1) 0 := by
  have back : ∀ p j : Int, Seen (q + 1) 0 p j → j < d.part.n → at_ is p = true → Seen q k p j := fun p j hs hj hi => by
    unfold Seen at hs ⊢
    refine ⟨hs.1, hs.2.1, ?_⟩
    by_cases e : p = q
    · subst e
      rcases hk with hk | hk
      · exact .inr ⟨rfl, by omega⟩
      · rw [hk] at hi; cases hi
    · exact .inl (by omega)
  refine ⟨h.nl, h.tl, fun r r0 r1 ht => ⟨?_, fun p j hs hp hj hi he => (h.yes r r0 r1 ht).2 p j (back p j hs hj hi) hp hj hi he⟩, fun r r0 r1 ht p j hs hp hj hi => h.no r r0 r1 ht p j (back p j hs hj hi) hp hj hi⟩
  obtain ⟨p, j, hs, hrest⟩ := (h.yes r r0 r1 ht).1
  exact ⟨p, j, by unfold Seen at hs ⊢; omega, hrest⟩
theorem nx_same (R : RightD d) (N : Nx d tx is nx th q k) (q0 : 0 ≤ q) (q1 : q < (d.next.length : Int)) (k0 : 0 ≤ k) (k1 : k < d.part.n) (ht : at_ th (at_ (at_ d.next q) k) = true) (hl : leL (bytesL (at_ nx (at_ (at_ d.next q) k))) (bytesL (at_ tx q) ++ [at_ (leastB d.part) k])) : Nx d tx is nx th q (k + 1) := by
  have cases_ : ∀ p j : Int, Seen q (k + 1) p j → Seen q k p j ∨ (p = q ∧ j = k) := fun p j hs => by unfold Seen at hs ⊢; omega
  have up : ∀ p j : Int, Seen q k p j → Seen q (k + 1) p j := fun p j hs => by unfold Seen at hs ⊢; omega
  refine ⟨N.nl, N.tl, fun r r0 r1 h => ⟨?_, fun p j hs hp hj hi he => ?_⟩, fun r r0 r1 h p j hs hp hj hi he => ?_⟩
  · obtain ⟨p, j, hs, hrest⟩ := (N.yes r r0 r1 h).1
    exact ⟨p, j, up p j hs, hrest⟩
  · rcases cases_ p j hs with hs | ⟨rfl, rfl⟩
    · exact (N.yes r r0 r1 h).2 p j hs hp hj hi he
    · rw [he] at hl; exact hl
  · rcases cases_ p j hs with hs | ⟨rfl, rfl⟩
    · exact N.no r r0 r1 h p j hs hp hj hi he
    · rw [he] at ht; rw [ht] at h; cases h
theorem nx_put (R : RightD d) (N : Nx d tx is nx th q k) (q0 : 0 ≤ q) (q1 : q < (d.next.length : Int)) (k0 : 0 ≤ k) (k1 : k < d.part.n) (hi : at_ is q = true) {v : ByteArray} (hv : bytesL v = bytesL (at_ tx q) ++ [at_ (leastB d.part) k])
    (h : at_ th (at_ (at_ d.next q) k) = false ∨ leL (bytesL v) (bytesL (at_ nx (at_ (at_ d.next q) k)))) : Nx d tx is (nx.set (at_ (at_ d.next q) k).toNat v) (th.set (at_ (at_ d.next q) k).toNat true) q (k + 1) := by
  have hc := R.cell q q0 q1 _ (at_mem k0 (by rw [R.row q q0 q1]; exact k1))
  generalize hto : at_ (at_ d.next q) k = to at *
  have cases_ : ∀ p j : Int, Seen q (k + 1) p j → Seen q k p j ∨ (p = q ∧ j = k) := fun p j hs => by unfold Seen at hs ⊢; omega
  have up : ∀ p j : Int, Seen q k p j → Seen q (k + 1) p j := fun p j hs => by unfold Seen at hs ⊢; omega
  have en : ∀ r : Int, 0 ≤ r → at_ (nx.set to.toNat v) r = if r = to then v else at_ nx r := fun r r0 => at_putG hc.1 (by rw [N.nl]; exact hc.2) v r0
  have et : ∀ r : Int, 0 ≤ r → at_ (th.set to.toNat true) r = if r = to then true else at_ th r := fun r r0 => at_putG hc.1 (by rw [N.tl]; exact hc.2) true r0
  refine ⟨by rw [List.length_set]; exact N.nl, by rw [List.length_set]; exact N.tl, fun r r0 r1 hr => ?_, fun r r0 r1 hr p j hs hp hj hip he => ?_⟩
  · rw [en r r0]
    by_cases e : r = to
    · rw [if_pos e]
      refine ⟨⟨q, k, by unfold Seen; omega, q1, k1, hi, by rw [hto, e], hv⟩, fun p j hs hp hj hip he => ?_⟩
      rcases cases_ p j hs with hs | ⟨rfl, rfl⟩
      · rcases h with h | h
        · exact absurd (he.trans e) (N.no to hc.1 hc.2 h p j hs hp hj hip)
        · by_cases ht : at_ th to = true
          · exact leL_trans h ((N.yes to hc.1 hc.2 ht).2 p j hs hp hj hip (he.trans e))
          · exact absurd (he.trans e) (N.no to hc.1 hc.2 (by simpa using ht) p j hs hp hj hip)
      · rw [hv]; exact leL_refl _
    · rw [if_neg e]
      rw [et r r0, if_neg e] at hr
      obtain ⟨⟨p, j, hs, hrest⟩, h2⟩ := N.yes r r0 r1 hr
      refine ⟨⟨p, j, up p j hs, hrest⟩, fun p j hs hp hj hip he => ?_⟩
      rcases cases_ p j hs with hs | ⟨rfl, rfl⟩
      · exact h2 p j hs hp hj hip he
      · rw [hto] at he; exact absurd he.symm e
  · rw [et r r0] at hr
    by_cases e : r = to
    · rw [if_pos e] at hr; cases hr
    · rw [if_neg e] at hr
      rcases cases_ p j hs with hs | ⟨rfl, rfl⟩
      · exact N.no r r0 r1 hr p j hs hp hj hip he
      · rw [hto] at he; exact e he.symm
theorem lv_next (L : Lv d tx is s) (N : Nx d tx is nx th q k) (B : Bs d tx is best r) (R : RightD d) (ho : okPart d.part) (hq : (d.next.length : Int) ≤ q) (hr : (d.next.length : Int) ≤ r) (hb : best < 0) : Lv d nx th (s + 1) := by
  have s0 := L.s0
  have snoc : ∀ w : List Int, InW w → (w.length : Int) = s + 1 → ∃ x b, w = x ++ [b] ∧ InW x ∧ (x.length : Int) = s ∧ 0 ≤ b ∧ b < 256 := fun w hw hl => by
    have hne : w ≠ [] := fun e => by rw [e] at hl; simp at hl; omega
    refine ⟨w.dropLast, w.getLast hne, (List.dropLast_concat_getLast hne).symm, fun x hx => hw x (List.mem_of_mem_take (by rw [List.dropLast_eq_take] at hx; exact hx)), by rw [List.length_dropLast]; omega, hw _ (List.getLast_mem hne)⟩
  have seen : ∀ p j : Int, 0 ≤ p → p < (d.next.length : Int) → 0 ≤ j → Seen q k p j := fun p j p0 p1 j0 => ⟨p0, j0, .inl (by omega)⟩
  have step : ∀ x b, InW x → (x.length : Int) = s → 0 ≤ b → b < 256 → ∃ p j : Int, Seen q k p j ∧ p < (d.next.length : Int) ∧ j < d.part.n ∧ at_ is p = true ∧ at_ (at_ d.next p) j = goL d (x ++ [b]) ∧ leL (bytesL (at_ tx p) ++ [at_ (leastB d.part) j]) (x ++ [b]) := fun x b hx hl b0 b1 => by
    have hg := goL_in ho R x hx
    have k0 : 0 ≤ at_ d.part.of b := u8_lo (okInts_at ho.1 b0 b1)
    have hi : at_ is (goL d x) = true := bTrue fun hno => L.no _ hg.1 hg.2 hno x hx hl rfl
    have hle := (L.yes _ hg.1 hg.2 hi).2.2.2 x hx hl rfl
    exact ⟨goL d x, at_ d.part.of b, seen _ _ hg.1 hg.2 k0, hg.2, R.part.of_lt b b0 b1, hi, by rw [goL_snoc], leL_snoc hle (leastB_le_byte R.part b0 b1 k0)⟩
  refine ⟨by omega, N.nl, N.tl, fun t t0 t1 ht => ?_, fun t t0 t1 ht w hw hl he => ?_, fun w hw hl => ?_⟩
  · obtain ⟨⟨p, j, hs, hp, hj, hi, he, hb2⟩, hmin⟩ := N.yes t t0 t1 ht
    obtain ⟨a1, a2, a3, _⟩ := L.yes p hs.1 hp hi
    have lj := leastB_at R.part hs.2.1 hj
    refine ⟨?_, ?_, ?_, fun w hw hl hg => ?_⟩
    · rw [hb2]
      intro x hx
      rcases List.mem_append.1 hx with hx | hx
      · exact a1 x hx
      · rw [List.mem_singleton.1 hx]; exact ⟨lj.1, lj.2.1⟩
    · rw [hb2, List.length_append, List.length_cons, List.length_nil]; omega
    · rw [hb2, goL_snoc, a3, lj.2.2, he]
    · obtain ⟨x, b, rfl, hx, hxl, b0, b1⟩ := snoc w hw hl
      obtain ⟨p2, j2, hs2, hp2, hj2, hi2, he2, hle2⟩ := step x b hx hxl b0 b1
      exact leL_trans (hmin p2 j2 hs2 hp2 hj2 hi2 (he2.trans hg)) hle2
  · obtain ⟨x, b, rfl, hx, hxl, b0, b1⟩ := snoc w hw hl
    obtain ⟨p2, j2, hs2, hp2, hj2, hi2, he2, hle2⟩ := step x b hx hxl b0 b1
    exact N.no t t0 t1 ht p2 j2 hs2 hp2 hj2 hi2 (he2.trans he)
  · by_cases h : (w.length : Int) = s
    · have hg := goL_in ho R w hw
      have hi : at_ is (goL d w) = true := bTrue fun hno => L.no _ hg.1 hg.2 hno w hw h rfl
      exact B.no hb _ hg.1 (by omega) hi
    · exact L.none_ w hw (by omega)
theorem lv_end (L : Lv d tx is s) (hr : rightD d = true) (ho : okPart d.part) (hs : (d.next.length : Int) < s) : ∀ w, runD d w = false := fun w => by
  have R := rightD_of ho hr
  refine Bool.eq_false_iff.2 fun h => ?_
  rw [runD_list hr] at h
  obtain ⟨v, hv, hl, hf⟩ := short_word ho R _ (bytesL w) (Nat.le_refl _) (bytesL_range w) h
  have := L.none_ v hv (by omega)
  rw [this] at hf; cases hf
end
end Gx
namespace Gx
open Go Go.RowKit
set_option linter.unusedSimpArgs false
set_option linter.unusedSectionVars false
set_option linter.unusedVariables false
section
variable {α β : Type}
def mit (ke : α → Value) (ve : β → Value) (b r : Nat) (kvs left : List (α × β)) : Asrt where
  holds := fun _ w F => (∃ es clock since seen c0, w.heap[b]? = some (.map es clock) ∧ w.heap[r]? = some (.mapIter (some b) since seen c0) ∧ es.toList.map (fun e => (e.key, e.val)) = pairs ke ve kvs ∧ (∀ x ∈ es.toList, x.born < since) ∧ since ≤ c0 ∧ since ≤ clock ∧ Born es clock ∧ (leftOf es seen).toList.map (fun e => (e.key, e.val)) = pairs ke ve left) ∧ F b ∧ F r
  mono := fun _ h => h
  far := fun hf h => ⟨by rw [hf _ h.2.1, hf _ h.2.2]; exact h.1, h.2⟩
variable [DecidableEq α] {P : Program} {kt : TypeId} {ke : α → Value} {ve : β → Value} {w w' : World} {base : Nat} {w0 : World} {h : Ghost} {L : List Asrt}
theorem heapNew (w : World) (o : Obj) : (w.alloc o).heap[w.heap.size]? = some o := by
  show (w.heap.push o)[w.heap.size]? = _
  simp
theorem heapOld (w : World) (o : Obj) {r : Nat} (h : r < w.heap.size) : (w.alloc o).heap[r]? = w.heap[r]? := by
  show (w.heap.push o)[r]? = _
  rw [Array.getElem?_push_lt h, Array.getElem?_eq_getElem h]
theorem left_nil (es : Array MapEntry) : leftOf es #[] = es := by
  unfold leftOf
  exact Array.filter_eq_self.2 fun x _ => by simp
theorem e_range {j b : Nat} {T et : TypeId} {kvs : List (α × β)} (S : St base w0 h w L) (hj : L[j]? = some (amap ke ve b kvs)) (hT : P.underlying T = some (.map kt et)) :
    ∃ r w', (Instr.range T (.map (some b))).run P w = .ok (.pointer (some ⟨r, 0, none⟩)) w' ∧ Chg w w' (fun _ => False) ∧ St base w0 h w' (L.set j (mit ke ve b r kvs kvs)) := by
  obtain ⟨es, clock, hb, hes, hbn⟩ := S.map_born hj
  have hlt : b < w.heap.size := (Array.getElem?_eq_some_iff.1 hb).1
  refine ⟨_, _, run_range_map w T kt et b es clock hT hb, Chg.alloc _ _, S.upd hj fun F hF hU => ⟨(Chg.alloc _ _).mono fun _ hf => hf.elim, fun q => F q ∨ q = w.heap.size, ⟨⟨es, clock, clock, #[], clock, ?_, heapNew _ _, hes, hbn.1, Nat.le_refl _, Nat.le_refl _, hbn, by rw [left_nil]; exact hes⟩, .inl hF.2, .inr rfl⟩, fun q hq => ?_⟩⟩
  · rw [heapOld w _ hlt, hb]
  · rcases hq with hq | hq
    · exact .inl hq
    · subst hq
      exact .inr ⟨Nat.le_refl _, by show _ < (w.heap.push _).size; simp⟩
theorem left_push {es : Array MapEntry} {seen : Array Nat} (hn : (es.toList.map (·.born)).Nodup) {e : MapEntry} (he : e ∈ (leftOf es seen).toList) : ∃ a c, (leftOf es seen).toList = a ++ e :: c ∧ (leftOf es (seen.push e.born)).toList = a ++ c := by
  obtain ⟨a, c, hac⟩ := List.append_of_mem he
  refine ⟨a, c, hac, ?_⟩
  have h1 : (leftOf es (seen.push e.born)).toList = (leftOf es seen).toList.filter fun x => decide (x.born ≠ e.born) := by
    unfold leftOf
    rw [Array.toList_filter, Array.toList_filter, List.filter_filter]
    refine List.filter_congr fun x _ => ?_
    by_cases hx : x.born = e.born
    · simp [hx]
    · simp [hx]
  have h2 : ((leftOf es seen).toList.map (·.born)).Nodup := by
    unfold leftOf
    rw [Array.toList_filter]
    exact (List.filter_sublist.map _).nodup hn
  rw [h1, hac, List.filter_append, List.filter_cons_of_neg (by simp)]
  rw [hac, List.map_append, List.map_cons, List.nodup_append, List.nodup_cons] at h2
  congr 1
  · refine List.filter_eq_self.2 fun x hx => decide_eq_true fun e2 => ?_
    exact h2.2.2 _ (List.mem_map.2 ⟨x, hx, rfl⟩) _ (List.mem_cons_self ..) e2
  · refine List.filter_eq_self.2 fun x hx => decide_eq_true fun e2 => ?_
    exact h2.2.1.1 (by rw [← e2]; exact List.mem_map.2 ⟨x, hx, rfl⟩)
def mitc (ke : α → Value) (ve : β → Value) (b r : Nat) (kvs left : List (α × β)) (p : α × β) : Asrt where
  holds := fun _ w F => (∃ (es : Array MapEntry) (clock since : Nat) (seen : Array Nat) (e : MapEntry), w.heap[b]? = some (.map es clock) ∧ w.heap[r]? = some (.mapIter (some b) since (seen.push e.born) clock) ∧ es.toList.map (fun e => (e.key, e.val)) = pairs ke ve kvs ∧ (∀ x ∈ es.toList, x.born < since) ∧ since ≤ clock ∧ Born es clock ∧ (leftOf es (seen.push e.born)).toList.map (fun e => (e.key, e.val)) = pairs ke ve left ∧ e ∈ es.toList ∧ e.key = ke p.1 ∧ e.val = ve p.2) ∧ F b ∧ F r
  mono := fun _ h => h
  far := fun hf h => ⟨by rw [hf _ h.2.1, hf _ h.2.2]; exact h.1, h.2⟩
theorem e_next {j b r : Nat} {ty : TypeId} {kvs left : List (α × β)} (S : St base w0 h w L) (hj : L[j]? = some (mit ke ve b r kvs left)) :
    (left = [] ∧ (Instr.next (.pointer (some ⟨r, 0, none⟩)) false ty).run P w = .ok (.tuple #[.bool false]) w) ∨
    ∃ l1 p l2 w', left = l1 ++ p :: l2 ∧ (Instr.next (.pointer (some ⟨r, 0, none⟩)) false ty).run P w = .ok (.tuple #[.bool true, ke p.1, ve p.2]) w' ∧ Chg w w' (fun q => q = r) ∧ St base w0 h w' (L.set j (mitc ke ve b r kvs (l1 ++ l2) p)) := by
  have hS := S
  obtain ⟨Fs, hF, _⟩ := hS.sep
  obtain ⟨⟨es, clock, since, seen, c0, hb, hr, hes, hold, hsc, hsk, hbn, hl⟩, _⟩ := (hF j _ hj).1
  rcases run_next_at (P := P) w ty r b since c0 seen es clock hr hb hold hsc with ⟨h0, hrun⟩ | ⟨e, he, w1, hw1, hrun⟩
  · left
    refine ⟨?_, hrun⟩
    have : (leftOf es seen) = #[] := Array.eq_empty_of_size_eq_zero h0
    rw [this] at hl
    unfold pairs at hl
    simp at hl
    exact hl
  · right
    obtain ⟨a, c, hac, hac2⟩ := left_push hbn.2 he
    rw [hac] at hl
    unfold pairs at hl
    obtain ⟨l1, r1, e0, e1, e2⟩ := List.map_eq_append_iff.1 (hl.symm.trans (List.map_append ..))
    obtain ⟨p, l2, e3, e4, e5⟩ := List.map_eq_cons_iff.1 e2
    subst e3
    simp only [Prod.mk.injEq] at e4
    have hw : Chg w w1 (fun _ => False) ∧ w1.heap = w.heap := by
      rcases hw1 with rfl | rfl
      · exact ⟨Chg.refl _ _, rfl⟩
      · exact ⟨Chg.drew _, rfl⟩
    have hrl : r < w1.heap.size := by rw [hw.2]; exact (Array.getElem?_eq_some_iff.1 hr).1
    have hbr : b ≠ r := fun e => by rw [e, hr] at hb; cases hb
    have hc : Chg w (setBlock w1 r (.mapIter (some b) since (seen.push e.born) clock)) (fun q => q = r) := by
      have c1 := setBlock_chg w1 r (.mapIter (some b) since (seen.push e.born) clock)
      have c2 := hw.1
      exact ⟨c1.os.trans c2.os, c1.tape.trans c2.tape, c1.output.trans c2.output, Nat.le_trans c2.size c1.size, fun q hq hn => by rw [c1.block q (by rw [hw.2]; exact hq) hn, hw.2]⟩
    refine ⟨l1, p, l2, setBlock w1 r (.mapIter (some b) since (seen.push e.born) clock), e0, ?_, hc, ?_⟩
    · rw [e4.1, e4.2]; exact hrun
    · refine S.upd hj fun F hF _ => ⟨hc.mono fun q hq => by subst hq; exact hF.2.2, F, ⟨⟨es, clock, since, seen, e, ?_, setBlock_at hrl _, hes, hold, hsk, hbn, ?_, ?_, e4.1.symm, e4.2.symm⟩, hF.2⟩, fun q hq => .inl hq⟩
      · rw [hc.block b (Array.getElem?_eq_some_iff.1 hb).1 hbr]; exact hb
      · rw [hac2, List.map_append]
        unfold pairs
        rw [List.map_append, e1, e5]
      · unfold leftOf at he
        rw [Array.toList_filter] at he
        exact (List.mem_filter.1 he).1
theorem e_entry {j b r : Nat} {kvs left : List (α × β)} {p : α × β} (S : St base w0 h w L) (hj : L[j]? = some (mitc ke ve b r kvs left p)) :
    (Instr.entry (.pointer (some ⟨r, 0, none⟩))).run P w = .ok (.tuple #[ke p.1, ve p.2]) w ∧ St base w0 h w (L.set j (mit ke ve b r kvs left)) := by
  have hS := S
  obtain ⟨Fs, hF, _⟩ := hS.sep
  obtain ⟨⟨es, clock, since, seen, e, hb, hr, hes, hold, hsk, hbn, hl, he, hk, hv⟩, _⟩ := (hF j _ hj).1
  refine ⟨?_, S.upd hj fun F hF _ => ⟨Chg.refl _ _, F, ⟨⟨es, clock, since, seen.push e.born, clock, hb, hr, hes, hold, hsk, hsk, hbn, hl⟩, hF.2⟩, fun q hq => .inl hq⟩⟩
  rw [← hk, ← hv]
  exact run_entry_at w r b since seen es clock e hr hb he hbn.2
theorem e_len_map {j b : Nat} {T et kt : TypeId} {ty : TypeId} {kvs : List (α × β)} (S : St base w0 h w L) (hj : L[j]? = some (amap ke ve b kvs)) (hT : P.underlying T = some (.map kt et)) : (Builtin.len_ #[T] ty #[.map (some b)]).run P w = .ok (.int .i64 (kvs.length : Int)) w := by
  obtain ⟨es, clock, hb, hes⟩ := S.map_at hj
  have hg : (getObj b).run P w = .ok (.map es clock) w := by simp [getObj, Sem.run, hb]
  have hl : es.size = kvs.length := by
    have := congrArg List.length hes
    unfold pairs at this
    simpa using this
  simp [Builtin.len_, Sem.run_bind, run_underlying hT, Result.andThen_ok, hg, hl, goInt, Sem.run_pure]
theorem e_over {j b r : Nat} {kvs left : List (α × β)} (S : St base w0 h w L) (hj : L[j]? = some (mit ke ve b r kvs left)) : St base w0 h w (L.set j (amap ke ve b kvs)) :=
  S.upd hj fun F hF _ => ⟨Chg.refl _ _, F, ⟨by
    obtain ⟨⟨es, clock, since, seen, c0, hb, hr, hes, hold, hsc, hsk, hbn, hl⟩, _⟩ := hF
    exact ⟨es, clock, hb, hes, hbn⟩, hF.2.1⟩, fun q hq => .inl hq⟩
end
section
variable {P : Program} {ρ : Env} {w w' : World} {d : Option Tmp} {ty : TypeId} {pos : String} {af : Array Edge} {g : Option (Nat × Bool)} {x : Operand}
theorem x_range {T : TypeId} {v a : Value} (hx : ev ρ x = a) (hr : (Instr.range T a).run P w = .ok v w') : (execOp (ev ρ) ⟨d, .range T x, ty, pos, af, g⟩).run P w = .ok (.value v) w' := by
  simp only [execOp, hx, Sem.run_bind, hr, Result.andThen_ok]; rfl
theorem x_next {s : Bool} {v a : Value} (hx : ev ρ x = a) (hr : (Instr.next a s ty).run P w = .ok v w') : (execOp (ev ρ) ⟨d, .next x s, ty, pos, af, g⟩).run P w = .ok (.value v) w' := by
  simp only [execOp, hx, Sem.run_bind, hr, Result.andThen_ok]; rfl
end
section
variable {P : Program} {ρ : Env} {w w' : World} {d : Option Tmp} {ty : TypeId} {pos : String} {af : Array Edge} {g : Option (Nat × Bool)} {x : Operand}
theorem x_entry {v a : Value} (hx : ev ρ x = a) (hr : (Instr.entry a).run P w = .ok v w) : (execOp (ev ρ) ⟨d, .entry x, ty, pos, af, g⟩).run P w = .ok (.value v) w := by
  simp only [execOp, hx, Sem.run_bind, hr, Result.andThen_ok]; rfl
theorem x_len_map {T : TypeId} {a : Value} {n : Int} (hx : ev ρ x = a) (hr : (Builtin.len_ #[T] ty #[a]).run P w = .ok (.int .i64 n) w) : (execOp (ev ρ) ⟨d, .call ⟨.builtin .len, #[x], #[T]⟩, ty, pos, af, g⟩).run P w = .ok (.value (.int .i64 n)) w := by
  simp [execOp, resolve, invoke, builtin, hx, hr, Sem.run_bind, Result.andThen_ok, Sem.run_pure]
end
theorem keyk_int {P : Program} {t : TypeId} (hT : P.underlying t = some (.int .i64)) : KeyK P t (fun x : Int => Value.int .i64 x) where
  eq := fun a b w => by
    show (Op.equalIn 10000 t _ _).run _ _ = _
    exact run_equalIn_int w 9999 t .i64 .i64 a b hT
  chk := fun a e w => by
    show (Instr.checkKey e (9999 + 1) t _).run P w = _
    rw [Instr.checkKey]
    simp only [Sem.run_bind, run_underlying hT, Result.andThen_ok]; rfl
  now := ⟨_, hT, .inr fun a b => by simp only [Instr.sameNow, if_true]; congr 1⟩
  same := fun a => by simp [Instr.sameBits]
end Gx
namespace Gx
open Go Go.RowKit
set_option linter.unusedSimpArgs false
set_option linter.unusedSectionVars false
set_option linter.unusedVariables false
section
variable {α β : Type} [DecidableEq α]
def KN (kvs : List (α × β)) : Prop := (kvs.map (·.1)).Nodup
theorem look_some {k : α} : ∀ {kvs : List (α × β)} {i j : Nat} {v : β}, lookAt k kvs i = some (j, v) → (k, v) ∈ kvs
  | [], _, _, _, h => by simp [lookAt] at h
  | p :: r, i, j, v, h => by
    unfold lookAt at h
    by_cases hk : k = p.1
    · rw [if_pos hk] at h
      simp only [Option.some.injEq, Prod.mk.injEq] at h
      rw [hk, ← h.2]; exact List.mem_cons_self ..
    · rw [if_neg hk] at h
      exact List.mem_cons_of_mem _ (look_some h)
theorem look_noneK {k : α} : ∀ {kvs : List (α × β)} {i : Nat}, lookAt k kvs i = none → ∀ p ∈ kvs, p.1 ≠ k
  | [], _, _, p, hp => by cases hp
  | q :: r, i, h, p, hp => by
    unfold lookAt at h
    by_cases hk : k = q.1
    · rw [if_pos hk] at h; cases h
    · rw [if_neg hk] at h
      rcases List.mem_cons.1 hp with rfl | hp
      · exact fun e => hk e.symm
      · exact look_noneK h p hp
theorem val_mem {k : α} {kvs : List (α × β)} {v : β} (h : valAt k kvs = some v) : (k, v) ∈ kvs := by
  unfold valAt at h
  rw [Option.map_eq_some_iff] at h
  obtain ⟨⟨j, u⟩, h1, h2⟩ := h
  simp only at h2
  rw [← h2]; exact look_some h1
theorem val_none {k : α} {kvs : List (α × β)} (h : valAt k kvs = none) : ∀ p ∈ kvs, p.1 ≠ k := by
  unfold valAt at h
  rw [Option.map_eq_none_iff] at h
  exact look_noneK h
theorem kn_one {kvs : List (α × β)} (h : KN kvs) {p q : α × β} (hp : p ∈ kvs) (hq : q ∈ kvs) (e : p.1 = q.1) : p = q := by
  induction kvs with
  | nil => cases hp
  | cons a r ih =>
    unfold KN at h ih
    rw [List.map_cons, List.nodup_cons] at h
    rcases List.mem_cons.1 hp with h1 | h1
    · rcases List.mem_cons.1 hq with h2 | h2
      · rw [h1, h2]
      · exact absurd (List.mem_map.2 ⟨q, h2, by rw [← e, h1]⟩) h.1
    · rcases List.mem_cons.1 hq with h2 | h2
      · exact absurd (List.mem_map.2 ⟨p, h1, by rw [e, h2]⟩) h.1
      · exact ih h.2 h1 h2
theorem putAt_new {k : α} {v : β} {kvs : List (α × β)} (h : valAt k kvs = none) : putAt k v kvs = kvs ++ [(k, v)] := by
  unfold valAt at h
  rw [Option.map_eq_none_iff] at h
  unfold putAt
  rw [h]
theorem putAt_mem {k : α} {v : β} {kvs : List (α × β)} (hn : KN kvs) : KN (putAt k v kvs) ∧ ∀ p, p ∈ putAt k v kvs ↔ p = (k, v) ∨ (p ∈ kvs ∧ p.1 ≠ k) := by
  cases h : lookAt k kvs 0 with
  | none =>
    have hv : valAt k kvs = none := by unfold valAt; rw [h]; rfl
    rw [putAt_new hv]
    refine ⟨?_, fun p => ?_⟩
    · unfold KN at hn ⊢
      rw [List.map_append, List.nodup_append]
      refine ⟨hn, by simp, fun a ha b hb => ?_⟩
      simp only [List.map_cons, List.map_nil, List.mem_singleton] at hb
      obtain ⟨q, hq, rfl⟩ := List.mem_map.1 ha
      rw [hb]; exact val_none hv q hq
    · rw [List.mem_append, List.mem_singleton]
      constructor
      · rintro (h | h)
        · exact .inr ⟨h, val_none hv p h⟩
        · exact .inl h
      · rintro (h | h)
        · exact .inr h
        · exact .inl h.1
  | some x =>
    obtain ⟨i, u⟩ := x
    obtain ⟨_, hg⟩ := lookAt_get k kvs 0 i u h
    rw [Nat.sub_zero] at hg
    have hi := (List.getElem?_eq_some_iff.1 hg).1
    have e : putAt k v kvs = kvs.set i (k, v) := by unfold putAt; rw [h]
    have hk : (kvs.set i (k, v)).map (·.1) = kvs.map (·.1) := by
      apply List.ext_getElem?
      intro j
      rw [List.getElem?_map, List.getElem?_map, List.getElem?_set]
      by_cases hij : i = j
      · subst hij; rw [if_pos rfl, if_pos hi, hg]; rfl
      · rw [if_neg hij]
    rw [e]
    refine ⟨by unfold KN at hn ⊢; rw [hk]; exact hn, fun p => ?_⟩
    constructor
    · intro hp
      obtain ⟨j, hj⟩ := List.mem_iff_getElem?.1 hp
      rw [List.getElem?_set] at hj
      by_cases hij : i = j
      · rw [if_pos hij, if_pos hi] at hj
        injection hj with hj
        exact .inl hj.symm
      · rw [if_neg hij] at hj
        refine .inr ⟨List.mem_of_getElem? hj, fun e2 => hij ?_⟩
        have hjl := (List.getElem?_eq_some_iff.1 hj).1
        have h1 : (kvs.map (·.1))[i]? = some k := by rw [List.getElem?_map, hg]; rfl
        have h2 : (kvs.map (·.1))[j]? = some k := by rw [List.getElem?_map, hj, Option.map_some, e2]
        exact (List.getElem?_inj (by rw [List.length_map]; exact hi) hn).1 (h1.trans h2.symm)
    · rintro (rfl | ⟨hp, hne⟩)
      · exact List.mem_of_getElem? (i := i) (by rw [List.getElem?_set, if_pos rfl, if_pos hi])
      · obtain ⟨j, hj⟩ := List.mem_iff_getElem?.1 hp
        refine List.mem_of_getElem? (i := j) ?_
        rw [List.getElem?_set]
        by_cases hij : i = j
        · subst hij
          rw [hg] at hj
          injection hj with hj
          exact absurd (by rw [← hj]) hne
        · rw [if_neg hij]; exact hj
end
theorem marks_path {m : Mach} (hR : Right m) (w : ByteArray) : ∀ (k : Nat), k < w.size → ∀ i : Int, 0 ≤ i → i < (m.spots.length : Int) → at_ (runTo m w k) i = true → Path m m.first ((bytesL w).take (k + 1)) i
  | 0, hk, i, i0, i1, h => by
    have hb := byt_range w 0
    unfold runTo intoP at h
    rw [tab_at i0 i1, Int.toNat_of_nonneg i0] at h
    unfold markP at h
    rw [tab_at i0 i1, Int.toNat_of_nonneg i0, Bool.and_eq_true, decide_eq_true_eq] at h
    have e : (bytesL w).take (0 + 1) = [byt w 0] := by
      have := take_next (bytesL w) (t := 0) (by omega) (by rw [bytesL_len]; omega)
      rw [bytesL_at w (by omega) (by omega)] at this
      exact this
    rw [e]
    exact .one h.1 hb.1 (by omega) h.2
  | k + 1, hk, i, i0, i1, h => by
    have hb := byt_range w ((k + 1 : Nat) : Int)
    have h' : at_ (intoP m (behindP m (runTo m w k)) (byt w ((k + 1 : Nat) : Int))) i = true := h
    unfold intoP at h'
    rw [tab_at i0 i1, Int.toNat_of_nonneg i0] at h'
    unfold behindP at h'
    rw [tab_at i0 i1, Int.toNat_of_nonneg i0, Bool.and_eq_true, anyTo_iff] at h'
    obtain ⟨⟨j, hj, h2⟩, h3⟩ := h'
    simp only [Bool.and_eq_true, decide_eq_true_eq] at h2
    have ih := marks_path hR w k (by omega) ((j : Nat) : Int) (by omega) hj h2.1
    have e : (bytesL w).take (k + 1 + 1) = (bytesL w).take (k + 1) ++ [byt w ((k + 1 : Nat) : Int)] := by
      have := take_next (bytesL w) (t := ((k + 1 : Nat) : Int)) (by omega) (by rw [bytesL_len]; omega)
      rw [bytesL_at w (by omega) (by omega), show (((k + 1 : Nat) : Int) + 1).toNat = k + 1 + 1 by omega, Int.toNat_natCast] at this
      exact this
    rw [e]
    exact .snoc ih h2.2 hb.1 (by omega) h3
theorem runM_path {m : Mach} (hR : Right m) (he : m.empty = false) (w : ByteArray) : runM m w = true ↔ ∃ i : Int, Path m m.first (bytesL w) i ∧ at_ m.last i = true := by
  constructor
  · intro h
    unfold runM at h
    rw [right_iff.2 hR, Bool.true_and] at h
    by_cases hw : w.size = 0
    · rw [if_pos hw, he] at h; cases h
    · rw [if_neg hw] at h
      unfold endsIn at h
      obtain ⟨i, hi, h2⟩ := (anyTo_iff _ _).1 h
      simp only [Bool.and_eq_true] at h2
      have := marks_path hR w (w.size - 1) (by omega) ((i : Nat) : Int) (by omega) hi h2.1
      rw [show w.size - 1 + 1 = w.size by omega, List.take_of_length_le (by rw [bytesL_len]; exact Nat.le_refl _)] at this
      exact ⟨_, this, h2.2⟩
  · rintro ⟨i, h1, h2⟩
    exact path_takes hR h1 h2
structure Off (t : Int) (O : Int → List Int → Prop) (kvs : List (Int × ByteArray)) : Prop where
  kn : KN kvs
  len : ∀ i u, O i u → (u.length : Int) = t
  yes : ∀ p ∈ kvs, O p.1 (bytesL p.2) ∧ ∀ u, O p.1 u → leL (bytesL p.2) u
  all : ∀ i u, O i u → ∃ s, (i, s) ∈ kvs
theorem leL_lt {x y : List Int} (h : x.length = y.length) (hl : ltL y x = false) : leL x y := by
  refine leL_not.2 (Bool.eq_false_iff.2 fun h2 => ?_)
  rcases lessL_iff.1 h2 with h3 | h3
  · omega
  · rw [hl] at h3; cases h3.2
theorem off_none {t : Int} {O : Int → List Int → Prop} (h : ∀ i u, ¬ O i u) : Off t O [] := ⟨by unfold KN; simp, fun i u hO => absurd hO (h i u), fun p hp => (by cases hp), fun i u hO => absurd hO (h i u)⟩
theorem Off.congr {t : Int} {O O' : Int → List Int → Prop} {kvs : List (Int × ByteArray)} (h : Off t O kvs) (e : ∀ i u, O' i u ↔ O i u) : Off t O' kvs :=
  ⟨h.kn, fun i u hO => h.len i u ((e i u).1 hO), fun p hp => ⟨(e _ _).2 (h.yes p hp).1, fun u hu => (h.yes p hp).2 u ((e _ _).1 hu)⟩, fun i u hO => h.all i u ((e i u).1 hO)⟩
def Plus (O : Int → List Int → Prop) (n : Int) (x : List Int) (i : Int) (u : List Int) : Prop := O i u ∨ (i = n ∧ u = x)
theorem off_put {t n : Int} {O : Int → List Int → Prop} {kvs : List (Int × ByteArray)} {s : ByteArray} (h : Off t O kvs) (hs : (s.size : Int) = t) (hc : (valAt n kvs).isSome = false ∨ strLt s ((valAt n kvs).getD ⟨#[]⟩) = true) : Off t (Plus O n (bytesL s)) (putAt n s kvs) := by
  obtain ⟨hk, hm⟩ := putAt_mem (k := n) (v := s) h.kn
  have hsl : ((bytesL s).length : Int) = t := by rw [bytesL_len]; exact hs
  refine ⟨hk, fun i u hO => ?_, fun p hp => ?_, fun i u hO => ?_⟩
  · rcases hO with hO | ⟨_, rfl⟩
    · exact h.len i u hO
    · exact hsl
  · rcases (hm p).1 hp with rfl | ⟨hp, hne⟩
    · refine ⟨.inr ⟨rfl, rfl⟩, fun u hu => ?_⟩
      rcases hu with hu | ⟨_, rfl⟩
      · obtain ⟨s', hs'⟩ := h.all n u hu
        cases hv : valAt n kvs with
        | none => exact absurd rfl (val_none hv _ hs')
        | some v =>
          rw [hv] at hc
          rcases hc with hc | hc
          · cases hc
          · have hmem := val_mem hv
            have e := kn_one h.kn hs' hmem rfl
            simp only [Prod.mk.injEq, true_and] at e
            have h2 := (h.yes _ hmem).2 u hu
            have hl : ((bytesL v).length : Int) = t := h.len _ _ (h.yes _ hmem).1
            simp only [Option.getD_some] at hc
            exact leL_trans (show leL (bytesL s) (bytesL v) from .inr (lessL_iff.2 (.inr ⟨by omega, hc⟩))) h2
      · exact leL_refl _
    · refine ⟨.inl (h.yes p hp).1, fun u hu => ?_⟩
      rcases hu with hu | ⟨e, _⟩
      · exact (h.yes p hp).2 u hu
      · exact absurd e hne
  · rcases hO with hO | ⟨rfl, rfl⟩
    · by_cases e : i = n
      · subst e; exact ⟨s, (hm _).2 (.inl rfl)⟩
      · obtain ⟨s', hs'⟩ := h.all i u hO
        exact ⟨s', (hm _).2 (.inr ⟨hs', e⟩)⟩
    · exact ⟨s, (hm _).2 (.inl rfl)⟩
theorem off_keep {t n : Int} {O : Int → List Int → Prop} {kvs : List (Int × ByteArray)} {s : ByteArray} (h : Off t O kvs) (hs : (s.size : Int) = t) (h1 : (valAt n kvs).isSome = true) (h2 : strLt s ((valAt n kvs).getD ⟨#[]⟩) = false) : Off t (Plus O n (bytesL s)) kvs := by
  obtain ⟨v, hv⟩ := Option.isSome_iff_exists.1 h1
  have hmem := val_mem hv
  rw [hv] at h2
  have hsl : ((bytesL s).length : Int) = t := by rw [bytesL_len]; exact hs
  refine ⟨h.kn, fun i u hO => ?_, fun p hp => ⟨.inl (h.yes p hp).1, fun u hu => ?_⟩, fun i u hO => ?_⟩
  · rcases hO with hO | ⟨_, rfl⟩
    · exact h.len i u hO
    · exact hsl
  · rcases hu with hu | ⟨e, rfl⟩
    · exact (h.yes p hp).2 u hu
    · have e2 := kn_one h.kn hp hmem e
      have hl := h.len _ _ (h.yes p hp).1
      rw [e2] at hl ⊢
      exact leL_lt (by simp only at hl ⊢; omega) h2
  · rcases hO with hO | ⟨rfl, rfl⟩
    · exact h.all i u hO
    · exact ⟨v, hmem⟩
theorem val_size {t n : Int} {O : Int → List Int → Prop} {kvs : List (Int × ByteArray)} (h : Off t O kvs) (ht : 0 ≤ t) : (((valAt n kvs).getD ⟨#[]⟩).size : Int) ≤ t := by
  cases hv : valAt n kvs with
  | none => exact ht
  | some v =>
    have := h.len _ _ (h.yes _ (val_mem hv)).1
    simp only [bytesL_len] at this
    simp only [Option.getD_some]; omega
end Gx
namespace Gx
open Go Go.RowKit
set_option linter.unusedSimpArgs false
set_option linter.unusedSectionVars false
set_option linter.unusedVariables false
theorem someIn_iff {s : BSet} : someIn s = true ↔ s ≠ 0 := by
  rw [some_count, decide_eq_true_eq]
  have := some_full s
  constructor
  · intro h
    have h2 : decide (0 < count s) = true := decide_eq_true h
    rw [this] at h2; exact of_decide_eq_true h2
  · intro h
    have h2 : decide (s ≠ 0) = true := decide_eq_true h
    rw [← this] at h2; exact of_decide_eq_true h2
def O1 (m : Mach) (k : Int) (i : Int) (u : List Int) : Prop := (∃ q : Int, 0 ≤ q ∧ q < k ∧ at_ m.first q = i) ∧ someIn (at_ m.spots i).set = true ∧ u = [first (at_ m.spots i).set]
def O2 (m : Mach) (seen : List Bool) (done : List (Int × ByteArray)) (i : Int) (u : List Int) : Prop := ∃ p ∈ done, i ∈ at_ m.follow p.1 ∧ at_ seen i = false ∧ someIn (at_ m.spots i).set = true ∧ u = bytesL p.2 ++ [first (at_ m.spots i).set]
def O3 (m : Mach) (seen : List Bool) (done : List (Int × ByteArray)) (p : Int × ByteArray) (k : Int) (i : Int) (u : List Int) : Prop := O2 m seen done i u ∨ ((∃ q : Int, 0 ≤ q ∧ q < k ∧ at_ (at_ m.follow p.1) q = i) ∧ at_ seen i = false ∧ someIn (at_ m.spots i).set = true ∧ u = bytesL p.2 ++ [first (at_ m.spots i).set])
def plusT (s : ByteArray) (b : BSet) : ByteArray := s ++ strOfNums [first b]
theorem plusT_bytes {s : ByteArray} {b : BSet} (h : someIn b = true) : bytesL (plusT s b) = bytesL s ++ [first b] := by
  have := first_has (someIn_iff.1 h)
  unfold plusT
  rw [bytesL_app, bytesL_one this.2.1 this.2.2]
theorem plusT_size (s : ByteArray) (b : BSet) : ((plusT s b).size : Int) = s.size + 1 := by
  unfold plusT
  rw [size_add, str_one]; omega
section
variable {m : Mach} {kvs : List (Int × ByteArray)} {k t : Int}
theorem o1_0 (m : Mach) : Off 1 (O1 m 0) [] := off_none fun i u h => by obtain ⟨⟨q, q0, q1, _⟩, _⟩ := h; omega
theorem o1_none (h : Off 1 (O1 m k) kvs) (hs : someIn (at_ m.spots (at_ m.first k)).set = false) : Off 1 (O1 m (k + 1)) kvs := h.congr fun i u => by
  unfold O1
  constructor
  · rintro ⟨⟨q, q0, q1, e⟩, h2, h3⟩
    by_cases hq : q = k
    · subst hq; rw [e, h2] at hs; cases hs
    · exact ⟨⟨q, q0, by omega, e⟩, h2, h3⟩
  · rintro ⟨⟨q, q0, q1, e⟩, h2, h3⟩
    exact ⟨⟨q, q0, by omega, e⟩, h2, h3⟩
theorem o1_plus (k0 : 0 ≤ k) (hs : someIn (at_ m.spots (at_ m.first k)).set = true) (i : Int) (u : List Int) : O1 m (k + 1) i u ↔ Plus (O1 m k) (at_ m.first k) (bytesL (plusT ⟨#[]⟩ (at_ m.spots (at_ m.first k)).set)) i u := by
  rw [plusT_bytes hs, bytesL_nil]
  unfold O1 Plus
  constructor
  · rintro ⟨⟨q, q0, q1, e⟩, h2, h3⟩
    by_cases hq : q = k
    · subst hq; right; rw [e]; exact ⟨rfl, h3⟩
    · left; exact ⟨⟨q, q0, by omega, e⟩, h2, h3⟩
  · rintro (⟨⟨q, q0, q1, e⟩, h2, h3⟩ | ⟨e, h3⟩)
    · exact ⟨⟨q, q0, by omega, e⟩, h2, h3⟩
    · rw [e]; exact ⟨⟨k, k0, by omega, rfl⟩, hs, h3⟩
theorem o1_put (k0 : 0 ≤ k) (h : Off 1 (O1 m k) kvs) (hs : someIn (at_ m.spots (at_ m.first k)).set = true) (hc : (valAt (at_ m.first k) kvs).isSome = false ∨ strLt (plusT ⟨#[]⟩ (at_ m.spots (at_ m.first k)).set) ((valAt (at_ m.first k) kvs).getD ⟨#[]⟩) = true) : Off 1 (O1 m (k + 1)) (putAt (at_ m.first k) (plusT ⟨#[]⟩ (at_ m.spots (at_ m.first k)).set) kvs) :=
  (off_put h (by rw [plusT_size]; rfl) hc).congr fun i u => o1_plus k0 hs i u
theorem o1_keep (k0 : 0 ≤ k) (h : Off 1 (O1 m k) kvs) (hs : someIn (at_ m.spots (at_ m.first k)).set = true) (h1 : (valAt (at_ m.first k) kvs).isSome = true) (h2 : strLt (plusT ⟨#[]⟩ (at_ m.spots (at_ m.first k)).set) ((valAt (at_ m.first k) kvs).getD ⟨#[]⟩) = false) : Off 1 (O1 m (k + 1)) kvs :=
  (off_keep h (by rw [plusT_size]; rfl) h1 h2).congr fun i u => o1_plus k0 hs i u
structure Lev (m : Mach) (seen : List Bool) (kvs : List (Int × ByteArray)) (t : Int) : Prop where
  t1 : 1 ≤ t
  slen : (seen.length : Int) = m.spots.length
  kn : KN kvs
  seen_ : ∀ i : Int, 0 ≤ i → i < (m.spots.length : Int) → (at_ seen i = true ↔ ∃ l, Path m m.first l i ∧ (l.length : Int) < t)
  yes : ∀ p ∈ kvs, (0 ≤ p.1 ∧ p.1 < (m.spots.length : Int)) ∧ at_ seen p.1 = false ∧ Path m m.first (bytesL p.2) p.1 ∧ ((bytesL p.2).length : Int) = t ∧ ∀ l, Path m m.first l p.1 → (l.length : Int) = t → leL (bytesL p.2) l
  all : ∀ i : Int, at_ seen i = false → ∀ l, Path m m.first l i → (l.length : Int) = t → ∃ s, (i, s) ∈ kvs
  none_ : ∀ l i, Path m m.first l i → (l.length : Int) < t → at_ m.last i = false
  cnt : t - 1 ≤ ((seen.filter id).length : Int)
theorem path_one {m : Mach} {l : List Int} {i : Int} (h : Path m m.first l i) (hl : l.length = 1) : ∃ c, l = [c] ∧ i ∈ m.first ∧ 0 ≤ c ∧ c < 256 ∧ has (at_ m.spots i).set c = true := by
  cases h with
  | one h1 h2 h3 h4 => exact ⟨_, rfl, h1, h2, h3, h4⟩
  | snoc h1 h2 h3 h4 h5 =>
    have := h1.some
    rw [List.length_append, List.length_cons, List.length_nil] at hl; omega
theorem path_more {m : Mach} {l : List Int} {i : Int} (h : Path m m.first l i) (hl : 1 < l.length) : ∃ x j c, l = x ++ [c] ∧ Path m m.first x j ∧ i ∈ at_ m.follow j ∧ 0 ≤ c ∧ c < 256 ∧ has (at_ m.spots i).set c = true := by
  cases h with
  | one h1 h2 h3 h4 => simp at hl
  | snoc h1 h2 h3 h4 h5 => exact ⟨_, _, _, rfl, h1, h2, h3, h4, h5⟩
theorem some_of_has {s : BSet} {c : Int} (h : has s c = true) : someIn s = true := someIn_iff.2 fun e => by rw [e, has_zero] at h; cases h
theorem lev_1 (hR : Right m) (h : Off 1 (O1 m k) kvs) (hk : k = (m.first.length : Int)) : Lev m (List.replicate m.spots.length false) kvs 1 := by
  have ef : ∀ i : Int, at_ (List.replicate m.spots.length false) i = false := fun i => by
    unfold at_
    rw [List.getD_eq_getElem?_getD, List.getElem?_replicate]
    split <;> rfl
  have mem : ∀ i, i ∈ m.first → someIn (at_ m.spots i).set = true → O1 m k i [first (at_ m.spots i).set] := fun i hi hs => by
    obtain ⟨j, hj, e⟩ := List.getElem_of_mem hi
    exact ⟨⟨((j : Nat) : Int), by omega, by omega, at_get (by rw [Int.toNat_natCast, List.getElem?_eq_getElem hj, e])⟩, hs, rfl⟩
  refine ⟨by omega, by simp, h.kn, fun i i0 i1 => ?_, fun p hp => ?_, fun i _ l hl h1 => ?_, fun l i hl h1 => ?_, by simp⟩
  · rw [ef]
    refine ⟨fun h => (by cases h), fun ⟨l, hl, h2⟩ => ?_⟩
    have := hl.some; omega
  · obtain ⟨⟨⟨q, q0, q1, e⟩, h2, h3⟩, h4⟩ := h.yes p hp
    have hq : q < (m.first.length : Int) := by omega
    have hmem : p.1 ∈ m.first := by rw [← e]; exact at_mem q0 hq
    have hf := first_has (someIn_iff.1 h2)
    refine ⟨hR.firsts _ hmem, ef _, ?_, by rw [h3]; rfl, fun l hl h5 => ?_⟩
    · rw [h3]; exact .one hmem hf.2.1 hf.2.2 hf.1
    · obtain ⟨c, rfl, a1, a2, a3, a4⟩ := path_one hl (by omega)
      rw [h3]
      have := first_le a2 a3 a4
      exact leL_snoc (x := []) (y := []) (leL_refl _) this
  · obtain ⟨c, rfl, a1, a2, a3, a4⟩ := path_one hl (by omega)
    exact h.all i _ (mem i a1 (some_of_has a4))
  · have := hl.some; omega
theorem perm_0 (kvs : List (Int × ByteArray)) : (([] : List (Int × ByteArray)) ++ kvs).Perm kvs := List.Perm.refl _
theorem perm_next {done left la lb : List (Int × ByteArray)} {p : Int × ByteArray} (h : (done ++ left).Perm kvs) (e : left = la ++ p :: lb) : ((done ++ [p]) ++ (la ++ lb)).Perm kvs ∧ p ∈ kvs := by
  subst e
  refine ⟨List.Perm.trans ?_ h, h.mem_iff.1 (by simp)⟩
  rw [List.append_assoc]
  exact List.Perm.append_left done (show (p :: (la ++ lb)).Perm (la ++ p :: lb) from List.perm_middle.symm)
theorem perm_end {done left : List (Int × ByteArray)} (h : (done ++ left).Perm kvs) (e : left = []) : ∀ p, p ∈ done ↔ p ∈ kvs := fun p => by
  rw [e, List.append_nil] at h; exact h.mem_iff
structure EndB (m : Mach) (done : List (Int × ByteArray)) (best : ByteArray) (found : Bool) : Prop where
  yes : found = true → ∃ p ∈ done, best = p.2 ∧ at_ m.last p.1 = true ∧ ∀ q ∈ done, at_ m.last q.1 = true → strLt q.2 best = false
  no : found = false → best = ⟨#[]⟩ ∧ ∀ q ∈ done, at_ m.last q.1 = false
theorem endB_0 (m : Mach) : EndB m [] ⟨#[]⟩ false := ⟨fun h => (by cases h), fun _ => ⟨rfl, fun q hq => (by cases hq)⟩⟩
theorem endB_skip {done : List (Int × ByteArray)} {best : ByteArray} {found : Bool} {p : Int × ByteArray} (h : EndB m done best found) (hc : at_ m.last p.1 = false ∨ (found = true ∧ strLt p.2 best = false)) : EndB m (done ++ [p]) best found := by
  refine ⟨fun hf => ?_, fun hf => ⟨(h.no hf).1, fun q hq => ?_⟩⟩
  · obtain ⟨r, hr, e, h1, h2⟩ := h.yes hf
    refine ⟨r, List.mem_append_left _ hr, e, h1, fun q hq hl => ?_⟩
    rcases List.mem_append.1 hq with hq | hq
    · exact h2 q hq hl
    · rw [List.mem_singleton.1 hq] at hl ⊢
      rcases hc with hc | hc
      · rw [hc] at hl; cases hl
      · exact hc.2
  · rcases List.mem_append.1 hq with hq | hq
    · exact (h.no hf).2 q hq
    · rw [List.mem_singleton.1 hq]
      rcases hc with hc | hc
      · exact hc
      · rw [hf] at hc; cases hc.1
theorem endB_take {done : List (Int × ByteArray)} {best : ByteArray} {found : Bool} {p : Int × ByteArray} (h : EndB m done best found) (hl : at_ m.last p.1 = true) (hc : found = false ∨ strLt p.2 best = true) : EndB m (done ++ [p]) p.2 true := by
  refine ⟨fun _ => ⟨p, List.mem_append_right _ (List.mem_singleton.2 rfl), rfl, hl, fun q hq hql => ?_⟩, fun hf => by cases hf⟩
  rcases List.mem_append.1 hq with hq | hq
  · cases hfo : found with
    | false => rw [(h.no hfo).2 q hq] at hql; cases hql
    | true =>
      rcases hc with hc | hc
      · rw [hfo] at hc; cases hc
      · obtain ⟨r, hr, e, h1, h2⟩ := h.yes hfo
        refine Bool.eq_false_iff.2 fun h3 => ?_
        have := ltL_trans h3 hc
        have h4 := h2 q hq hql
        unfold strLt at h4
        rw [this] at h4; cases h4
  · rw [List.mem_singleton.1 hq]; exact ltL_irrefl _
structure Mk (m : Mach) (seen : List Bool) (done : List (Int × ByteArray)) (seen2 : List Bool) : Prop where
  len : (seen2.length : Int) = m.spots.length
  iff_ : ∀ i : Int, 0 ≤ i → (at_ seen2 i = true ↔ at_ seen i = true ∨ ∃ p ∈ done, p.1 = i)
theorem mk_0 {seen : List Bool} (h : (seen.length : Int) = m.spots.length) : Mk m seen [] seen := ⟨h, fun i _ => ⟨.inl, fun h => by rcases h with h | ⟨p, hp, _⟩; exact h; cases hp⟩⟩
theorem mk_step {seen seen2 : List Bool} {done : List (Int × ByteArray)} {p : Int × ByteArray} (h : Mk m seen done seen2) (h0 : 0 ≤ p.1) (h1 : p.1 < (m.spots.length : Int)) : Mk m seen (done ++ [p]) (seen2.set p.1.toNat true) := by
  refine ⟨by rw [List.length_set]; exact h.len, fun i i0 => ?_⟩
  rw [at_putG h0 (by rw [h.len]; exact h1) true i0]
  by_cases e : i = p.1
  · rw [if_pos e]
    exact ⟨fun _ => .inr ⟨p, List.mem_append_right _ (List.mem_singleton.2 rfl), e.symm⟩, fun _ => rfl⟩
  · rw [if_neg e, h.iff_ i i0]
    constructor
    · rintro (h | ⟨q, hq, e2⟩)
      · exact .inl h
      · exact .inr ⟨q, List.mem_append_left _ hq, e2⟩
    · rintro (h | ⟨q, hq, e2⟩)
      · exact .inl h
      · rcases List.mem_append.1 hq with hq | hq
        · exact .inr ⟨q, hq, e2⟩
        · rw [List.mem_singleton.1 hq] at e2; exact absurd e2.symm e
section
variable {seen : List Bool} {done : List (Int × ByteArray)} {p : Int × ByteArray} {nx : List (Int × ByteArray)}
theorem o2_0 (m : Mach) (seen : List Bool) (t : Int) : Off t (O2 m seen []) [] := off_none fun i u h => by obtain ⟨p, hp, _⟩ := h; cases hp
theorem o3_0 (h : Off t (O2 m seen done) nx) (p : Int × ByteArray) : Off t (O3 m seen done p 0) nx := h.congr fun i u => by
  unfold O3
  exact ⟨fun h => by rcases h with h | ⟨⟨q, q0, q1, _⟩, _⟩; exact h; omega, .inl⟩
theorem o3_skip (h : Off t (O3 m seen done p k) nx) (hs : at_ seen (at_ (at_ m.follow p.1) k) = true ∨ someIn (at_ m.spots (at_ (at_ m.follow p.1) k)).set = false) : Off t (O3 m seen done p (k + 1)) nx := h.congr fun i u => by
  unfold O3
  constructor
  · rintro (h | ⟨⟨q, q0, q1, e⟩, h2, h3, h4⟩)
    · exact .inl h
    · by_cases hq : q = k
      · subst hq
        rw [e] at hs
        rcases hs with hs | hs
        · rw [hs] at h2; cases h2
        · rw [hs] at h3; cases h3
      · exact .inr ⟨⟨q, q0, by omega, e⟩, h2, h3, h4⟩
  · rintro (h | ⟨⟨q, q0, q1, e⟩, h2, h3, h4⟩)
    · exact .inl h
    · exact .inr ⟨⟨q, q0, by omega, e⟩, h2, h3, h4⟩
theorem o3_plus (k0 : 0 ≤ k) (hu : at_ seen (at_ (at_ m.follow p.1) k) = false) (hs : someIn (at_ m.spots (at_ (at_ m.follow p.1) k)).set = true) (i : Int) (u : List Int) : O3 m seen done p (k + 1) i u ↔ Plus (O3 m seen done p k) (at_ (at_ m.follow p.1) k) (bytesL (plusT p.2 (at_ m.spots (at_ (at_ m.follow p.1) k)).set)) i u := by
  rw [plusT_bytes hs]
  unfold O3 Plus
  constructor
  · rintro (h | ⟨⟨q, q0, q1, e⟩, h2, h3, h4⟩)
    · exact .inl (.inl h)
    · by_cases hq : q = k
      · subst hq; right; rw [e]; exact ⟨rfl, h4⟩
      · exact .inl (.inr ⟨⟨q, q0, by omega, e⟩, h2, h3, h4⟩)
  · rintro ((h | ⟨⟨q, q0, q1, e⟩, h2, h3, h4⟩) | ⟨e, h4⟩)
    · exact .inl h
    · exact .inr ⟨⟨q, q0, by omega, e⟩, h2, h3, h4⟩
    · rw [e]; exact .inr ⟨⟨k, k0, by omega, rfl⟩, hu, hs, h4⟩
theorem o3_put (k0 : 0 ≤ k) (h : Off t (O3 m seen done p k) nx) (hp : (p.2.size : Int) + 1 = t) (hu : at_ seen (at_ (at_ m.follow p.1) k) = false) (hs : someIn (at_ m.spots (at_ (at_ m.follow p.1) k)).set = true) (hc : (valAt (at_ (at_ m.follow p.1) k) nx).isSome = false ∨ strLt (plusT p.2 (at_ m.spots (at_ (at_ m.follow p.1) k)).set) ((valAt (at_ (at_ m.follow p.1) k) nx).getD ⟨#[]⟩) = true) :
    Off t (O3 m seen done p (k + 1)) (putAt (at_ (at_ m.follow p.1) k) (plusT p.2 (at_ m.spots (at_ (at_ m.follow p.1) k)).set) nx) :=
  (off_put h (by rw [plusT_size]; exact hp) hc).congr fun i u => o3_plus k0 hu hs i u
theorem o3_keep (k0 : 0 ≤ k) (h : Off t (O3 m seen done p k) nx) (hp : (p.2.size : Int) + 1 = t) (hu : at_ seen (at_ (at_ m.follow p.1) k) = false) (hs : someIn (at_ m.spots (at_ (at_ m.follow p.1) k)).set = true) (h1 : (valAt (at_ (at_ m.follow p.1) k) nx).isSome = true) (h2 : strLt (plusT p.2 (at_ m.spots (at_ (at_ m.follow p.1) k)).set) ((valAt (at_ (at_ m.follow p.1) k) nx).getD ⟨#[]⟩) = false) : Off t (O3 m seen done p (k + 1)) nx :=
  (off_keep h (by rw [plusT_size]; exact hp) h1 h2).congr fun i u => o3_plus k0 hu hs i u
theorem o3_end (h : Off t (O3 m seen done p k) nx) (hk : k = ((at_ m.follow p.1).length : Int)) : Off t (O2 m seen (done ++ [p])) nx := h.congr fun i u => by
  unfold O3 O2
  constructor
  · rintro ⟨q, hq, h2, h3, h4, h5⟩
    rcases List.mem_append.1 hq with hq | hq
    · exact .inl ⟨q, hq, h2, h3, h4, h5⟩
    · rw [List.mem_singleton.1 hq] at h2 h5
      obtain ⟨j, hj, e⟩ := List.getElem_of_mem h2
      exact .inr ⟨⟨((j : Nat) : Int), by omega, by omega, at_get (by rw [Int.toNat_natCast, List.getElem?_eq_getElem hj, e])⟩, h3, h4, h5⟩
  · rintro (⟨q, hq, h2⟩ | ⟨⟨q, q0, q1, e⟩, h2, h3, h4⟩)
    · exact ⟨q, List.mem_append_left _ hq, h2⟩
    · exact ⟨p, List.mem_append_right _ (List.mem_singleton.2 rfl), by rw [← e]; exact at_mem q0 (by omega), h2, h3, h4⟩
end
theorem cntLe : ∀ {a b : List Bool}, a.length = b.length → (∀ i : Nat, i < a.length → a[i]? = some true → b[i]? = some true) → (a.filter id).length ≤ (b.filter id).length ∧ ((∃ i : Nat, i < a.length ∧ a[i]? = some false ∧ b[i]? = some true) → (a.filter id).length < (b.filter id).length)
  | [], [], _, _ => ⟨Nat.le_refl _, fun ⟨i, hi, _⟩ => by simp at hi⟩
  | [], _ :: _, h, _ => by simp at h
  | _ :: _, [], h, _ => by simp at h
  | x :: a, y :: b, h, hi => by
    have ih := cntLe (a := a) (b := b) (by simpa using h) fun i h1 h2 => by
      have := hi (i + 1) (by simp; omega) (by simpa using h2)
      simpa using this
    have h0 := hi 0 (by simp)
    simp only [List.getElem?_cons_zero, Option.some.injEq] at h0
    refine ⟨?_, fun ⟨i, h1, h2, h3⟩ => ?_⟩
    · cases x with
      | true => rw [h0 rfl]; simp; exact ih.1
      | false => cases y <;> simp <;> omega
    · cases i with
      | zero =>
        simp only [List.getElem?_cons_zero, Option.some.injEq] at h2 h3
        subst h2; subst h3
        simp; omega
      | succ i =>
        have := ih.2 ⟨i, by simpa using h1, by simpa using h2, by simpa using h3⟩
        cases x with
        | true => rw [h0 rfl]; simp; exact this
        | false => cases y <;> simp <;> omega
theorem at_bool {l : List Bool} {i : Nat} (hi : i < l.length) (b : Bool) : l[i]? = some b ↔ at_ l ((i : Nat) : Int) = b := by
  unfold at_
  rw [List.getD_eq_getElem?_getD, Int.toNat_natCast, List.getElem?_eq_getElem hi]; simp
theorem lev_less {seen : List Bool} (L : Lev m seen kvs t) (hne : kvs ≠ []) : t ≤ (m.spots.length : Int) := by
  obtain ⟨p, hp⟩ := List.exists_mem_of_ne_nil _ hne
  obtain ⟨⟨h0, h1⟩, h2, _⟩ := L.yes p hp
  have hl := L.slen
  have := (cntLe (a := seen) (b := List.replicate seen.length true) (by simp) fun i h1 _ => by rw [List.getElem?_replicate, if_pos h1]).2 ⟨p.1.toNat, by omega, (at_bool (by omega) _).2 (by rw [Int.toNat_of_nonneg h0]; exact h2), by rw [List.getElem?_replicate, if_pos (by omega)]⟩
  have e : ((List.replicate seen.length true).filter id).length = seen.length := by rw [List.filter_eq_self.2 (fun x hx => by rw [List.eq_of_mem_replicate hx]; rfl), List.length_replicate]
  have := L.cnt
  omega
theorem mk_count {seen seen2 : List Bool} {done : List (Int × ByteArray)} (L : Lev m seen kvs t) (M : Mk m seen done seen2) (hd : ∀ p, p ∈ done ↔ p ∈ kvs) (hne : kvs ≠ []) : (seen.filter id).length < (seen2.filter id).length := by
  obtain ⟨p, hp⟩ := List.exists_mem_of_ne_nil _ hne
  obtain ⟨⟨h0, h1⟩, h2, _⟩ := L.yes p hp
  have hl := L.slen
  have hl2 := M.len
  exact (cntLe (a := seen) (b := seen2) (by omega) fun i hi h => (at_bool (by omega) _).2 ((M.iff_ _ (by omega)).2 (.inl ((at_bool hi _).1 h)))).2 ⟨p.1.toNat, by omega, (at_bool (by omega) _).2 (by rw [Int.toNat_of_nonneg h0]; exact h2), (at_bool (by omega) _).2 (by rw [Int.toNat_of_nonneg h0]; exact (M.iff_ _ h0).2 (.inr ⟨p, (hd p).2 hp, rfl⟩))⟩
theorem lev_found {seen : List Bool} {done : List (Int × ByteArray)} {best : ByteArray} (L : Lev m seen kvs t) (hR : Right m) (he : m.empty = false) (E : EndB m done best true) (hd : ∀ p, p ∈ done ↔ p ∈ kvs) : IsLeastW (runM m) best ∧ (best.size : Int) = t := by
  obtain ⟨p, hp, e, h1, h2⟩ := E.yes rfl
  obtain ⟨hr, hu, a1, a2, a3⟩ := L.yes p ((hd p).1 hp)
  refine ⟨⟨(runM_path hR he best).2 ⟨p.1, by rw [e]; exact a1, h1⟩, fun w hw => ?_⟩, by rw [e, ← bytesL_len]; exact a2⟩
  obtain ⟨i, hi, hl⟩ := (runM_path hR he w).1 hw
  unfold lessW
  rw [e]
  refine leL_not.1 ?_
  have hri := Path.inn hR hR.firsts hi
  by_cases c1 : ((bytesL w).length : Int) < t
  · have := L.none_ _ _ hi c1
    rw [this] at hl; cases hl
  · by_cases c2 : ((bytesL w).length : Int) = t
    · have hns : at_ seen i = false := Bool.eq_false_iff.2 fun h => by
        obtain ⟨l, h3, h4⟩ := (L.seen_ i hri.1 hri.2).1 h
        have := L.none_ l i h3 h4
        rw [this] at hl; cases hl
      obtain ⟨s, hs⟩ := L.all i hns _ hi c2
      have h5 := h2 _ ((hd _).2 hs) hl
      obtain ⟨_, _, b1, b2, b3⟩ := L.yes _ hs
      refine leL_trans ?_ (b3 _ hi c2)
      rw [e] at h5
      exact leL_lt (by simp only at b2 ⊢; omega) h5
    · exact .inr (lessL_iff.2 (.inl (by omega)))
theorem lev_next {seen seen2 : List Bool} {done done2 done3 nx : List (Int × ByteArray)} {best : ByteArray} (L : Lev m seen kvs t) (hR : Right m) (E : EndB m done best false) (hd : ∀ p, p ∈ done ↔ p ∈ kvs) (M : Mk m seen done2 seen2) (hd2 : ∀ p, p ∈ done2 ↔ p ∈ kvs) (F : Off (t + 1) (O2 m seen2 done3) nx) (hd3 : ∀ p, p ∈ done3 ↔ p ∈ kvs) (hne : kvs ≠ []) : Lev m seen2 nx (t + 1) := by
  have t1 := L.t1
  have hseen : ∀ i : Int, 0 ≤ i → i < (m.spots.length : Int) → (at_ seen2 i = true ↔ ∃ l, Path m m.first l i ∧ (l.length : Int) < t + 1) := fun i i0 i1 => by
    rw [M.iff_ i i0, L.seen_ i i0 i1]
    constructor
    · rintro (⟨l, h1, h2⟩ | ⟨p, hp, rfl⟩)
      · exact ⟨l, h1, by omega⟩
      · obtain ⟨_, _, a1, a2, _⟩ := L.yes p ((hd2 p).1 hp)
        exact ⟨_, a1, by omega⟩
    · rintro ⟨l, h1, h2⟩
      by_cases c : (l.length : Int) < t
      · exact .inl ⟨l, h1, c⟩
      · cases hs : at_ seen i with
        | true => exact .inl ((L.seen_ i i0 i1).1 hs)
        | false =>
          obtain ⟨s, hs2⟩ := L.all i hs l h1 (by omega)
          exact .inr ⟨_, (hd2 _).2 hs2, rfl⟩
  have offer : ∀ l i, at_ seen2 i = false → Path m m.first l i → (l.length : Int) = t + 1 → ∃ u, O2 m seen2 done3 i u ∧ leL u l := fun l i hs hl hlen => by
    obtain ⟨x, j, c, rfl, h1, h2, c0, c1, h3⟩ := path_more hl (by omega)
    have hxl : (x.length : Int) = t := by rw [List.length_append, List.length_cons, List.length_nil] at hlen; omega
    have hj := Path.inn hR hR.firsts h1
    have hi := hR.rows hj.1 hj.2 i h2
    have hns : at_ seen j = false := Bool.eq_false_iff.2 fun h => by
      obtain ⟨l', h4, h5⟩ := (L.seen_ j hj.1 hj.2).1 h
      have := (hseen i hi.1 hi.2).2 ⟨l' ++ [c], .snoc h4 h2 c0 c1 h3, by rw [List.length_append, List.length_cons, List.length_nil]; omega⟩
      rw [hs] at this; cases this
    obtain ⟨s, hs2⟩ := L.all j hns x h1 hxl
    obtain ⟨_, _, _, _, b3⟩ := L.yes _ hs2
    exact ⟨bytesL s ++ [first (at_ m.spots i).set], ⟨(j, s), (hd3 _).2 hs2, h2, hs, some_of_has h3, rfl⟩, leL_snoc (b3 x h1 hxl) (first_le c0 c1 h3)⟩
  refine ⟨by omega, M.len, F.kn, hseen, fun p hp => ?_, fun i hs l hl hlen => ?_, fun l i hl hlen => ?_, ?_⟩
  · obtain ⟨⟨q, hq, h2, h3, h4, h5⟩, h6⟩ := F.yes p hp
    obtain ⟨hr, hu, a1, a2, a3⟩ := L.yes q ((hd3 q).1 hq)
    have hi := hR.rows hr.1 hr.2 p.1 h2
    have hf := first_has (someIn_iff.1 h4)
    refine ⟨hi, h3, by rw [h5]; exact .snoc a1 h2 hf.2.1 hf.2.2 hf.1, by rw [h5, List.length_append, List.length_cons, List.length_nil]; omega, fun l hl hlen => ?_⟩
    obtain ⟨u, hu, hle⟩ := offer l p.1 h3 hl hlen
    exact leL_trans (h6 u hu) hle
  · obtain ⟨u, hu, _⟩ := offer l i hs hl hlen
    exact F.all i u hu
  · have hri := Path.inn hR hR.firsts hl
    by_cases c : (l.length : Int) < t
    · exact L.none_ l i hl c
    · cases hs : at_ seen i with
      | true =>
        obtain ⟨l', h1, h2⟩ := (L.seen_ i hri.1 hri.2).1 hs
        exact L.none_ l' i h1 h2
      | false =>
        obtain ⟨s, hs2⟩ := L.all i hs l hl (by omega)
        exact (E.no rfl).2 _ ((hd _).2 hs2)
  · have := mk_count L M hd2 hne
    have := L.cnt
    omega
theorem lev_none {seen : List Bool} (L : Lev m seen kvs t) (hR : Right m) (he : m.empty = false) (hk : kvs = []) : ∀ w, runM m w = false := fun w => by
  refine Bool.eq_false_iff.2 fun hw => ?_
  obtain ⟨i, hi, hl⟩ := (runM_path hR he w).1 hw
  have t1 := L.t1
  have key : ∀ l i, Path m m.first l i → ∃ l', Path m m.first l' i ∧ (l'.length : Int) < t := fun l i h => by
    have no : ∀ l i, Path m m.first l i → (l.length : Int) = t → ∃ l', Path m m.first l' i ∧ (l'.length : Int) < t := fun l i h hlen => by
      have hri := Path.inn hR hR.firsts h
      cases hs : at_ seen i with
      | true => exact (L.seen_ i hri.1 hri.2).1 hs
      | false =>
        obtain ⟨s, hs2⟩ := L.all i hs l h hlen
        rw [hk] at hs2; cases hs2
    induction h with
    | one h1 h2 h3 h4 =>
      by_cases c : (1 : Int) < t
      · exact ⟨_, .one h1 h2 h3 h4, by simpa using c⟩
      · exact no _ _ (.one h1 h2 h3 h4) (by simp; omega)
    | snoc h1 h2 h3 h4 h5 ih =>
      obtain ⟨l', h6, h7⟩ := ih
      have hp := Path.snoc h6 h2 h3 h4 h5
      by_cases c : ((l'.length : Int) + 1) < t
      · exact ⟨_, hp, by rw [List.length_append, List.length_cons, List.length_nil]; omega⟩
      · exact no _ _ hp (by rw [List.length_append, List.length_cons, List.length_nil]; omega)
  obtain ⟨l', h1, h2⟩ := key _ _ hi
  have := L.none_ l' i h1 h2
  rw [this] at hl; cases hl
end
end Gx
namespace Gx
open Go Go.RowKit
set_option linter.unusedSimpArgs false
set_option linter.unusedSectionVars false
set_option linter.unusedVariables false
section
variable {P : Program} {ρ : Env} {w : World} {d : Option Tmp} {ty : TypeId} {pos : String} {af : Array Edge} {g : Option (Nat × Bool)} {x y : Operand}
theorem x_lss_string {a b : ByteArray} {t t2 : TypeId} (hx : ev ρ x = .string a) (hy : ev ρ y = .string b) : (execOp (ev ρ) ⟨d, .binOp .lss t x y t2, ty, pos, af, g⟩).run P w = .ok (.value (.bool (strLt a b))) w := by
  rw [← strLt_model]
  simp [execOp, hx, hy, eqGuard, binOp, Op.stringOp, go_sem]
end
theorem CF.sub {w : World} {ad : Addr} {cs ds : List Value} {o m : Nat} (hc : CF ad cs w) (hs : (cs.drop o).take m = ds) : CF (ad.add o) ds w := fun j v hj => by
  rw [add_add]
  refine hc _ _ ?_
  rw [← hs, List.getElem?_take] at hj
  split at hj
  · rwa [List.getElem?_drop] at hj
  · cases hj
theorem size_nil : (⟨#[]⟩ : ByteArray).size = 0 := rfl
def cmpI (x y : Int) : Int := if x < y then -1 else if y < x then 1 else 0
theorem cmpI_1 {x y : Int} (h : x < y) : cmpI x y = -1 := if_pos h
theorem cmpI_2 {x y : Int} (h : ¬ x < y) (h2 : y < x) : cmpI x y = 1 := by unfold cmpI; rw [if_neg h, if_pos h2]
theorem cmpI_3 {x y : Int} (h : ¬ x < y) (h2 : ¬ y < x) : cmpI x y = 0 := by unfold cmpI; rw [if_neg h, if_neg h2]
def orI : List Int → Int
  | [] => 0
  | x :: l => if x = 0 then orI l else x
theorem orI_step {l : List Int} {t : Int} (h0 : 0 ≤ t) (h1 : t < (l.length : Int)) : orI (l.drop t.toNat) = if at_ l t = 0 then orI (l.drop (t + 1).toNat) else at_ l t := by rw [drop_cons l h0 h1]; rfl
theorem orI_end {l : List Int} {t : Int} (h1 : (l.length : Int) ≤ t) : orI (l.drop t.toNat) = 0 := by rw [drop_end l h1]; rfl
theorem less_or (a b : ByteArray) : decide (orI [cmpI a.size b.size, cmpW a b] < 0) = lessW a b := by
  unfold orI orI orI
  rcases Int.lt_trichotomy (a.size : Int) b.size with h | h | h
  · rw [cmpI_1 h, lessW_1 h]; rfl
  · rw [cmpI_3 (by omega) (by omega), if_pos rfl, lessW_3 h]
    by_cases hz : cmpW a b = 0
    · rw [if_pos hz, (cmpW_zero hz).1]; rfl
    · rw [if_neg hz]
      cases hs : strLt a b with
      | true => exact decide_eq_true (cmpW_neg.2 hs)
      | false => exact decide_eq_false fun h2 => by rw [cmpW_neg.1 h2] at hs; cases hs
  · rw [cmpI_2 (by omega) h, lessW_2 h]; rfl
theorem least_lenR {p : PartM} (hR : RightP p) : ((leastP p 1).length : Int) = p.n := by
  have hl := setsP_len p
  have h0 := hR.lo
  have h1 := hR.hi
  unfold leastP
  rw [List.length_map]; omega
theorem empty_least {m : Mach} (h : rightM m = true) (he : m.empty = true) : IsLeastW (runM m) ⟨#[]⟩ := by
  refine ⟨by rw [run_none m _ h rfl]; exact he, fun w _ => ?_⟩
  unfold lessW
  rw [bytesL_nil]
  exact leL_not.1 (leL_nil _)
theorem endB_at {m : Mach} {done : List (Int × ByteArray)} {best : ByteArray} {f b : Bool} (h : EndB m done best f) (e : f = b) : EndB m done best b := e ▸ h
theorem lev_small {m : Mach} {seen : List Bool} {kvs : List (Int × ByteArray)} {t : Int} (L : Lev m seen kvs t) (hR : Right m) {p : Int × ByteArray} (hm : p ∈ kvs) : kvs ≠ [] ∧ (0 ≤ p.1 ∧ p.1 < (m.spots.length : Int)) ∧ (p.2.size : Int) = t ∧ t ≤ 250 ∧ p.2.size ≤ maxLen := by
  have hne : kvs ≠ [] := fun e => by rw [e] at hm; cases hm
  have hs := lev_less L hne
  have h250 := hR.small
  obtain ⟨hr, _, _, hz, _⟩ := L.yes _ hm
  rw [bytesL_len] at hz
  exact ⟨hne, hr, hz, by omega, by unfold maxLen; omega⟩
theorem mk_dec {m : Mach} {seen seen2 : List Bool} {kvs done : List (Int × ByteArray)} {t : Int} (L : Lev m seen kvs t) (M : Mk m seen done seen2) (hd : ∀ p, p ∈ done ↔ p ∈ kvs) (hne : kvs ≠ []) : ((m.spots.length : Int) - ((seen2.filter id).length : Int)).toNat < ((m.spots.length : Int) - ((seen.filter id).length : Int)).toNat := by
  have h1 := mk_count L M hd hne
  have h2 := List.length_filter_le id seen2
  have h3 := M.len
  omega
theorem left_dec {left la lb : List (Int × ByteArray)} {p : Int × ByteArray} (h : left = la ++ p :: lb) : (la ++ lb).length < left.length := by rw [h]; simp
theorem wordW_size {m : Mach} {v : ByteArray} (h : IsLeastW (runM m) v) (hs : (v.size : Int) ≤ m.spots.length) : okW (runM m) = true → ((wordW (runM m)).size : Int) ≤ m.spots.length := fun _ => by rw [(word_is h).1]; exact hs
theorem wordW_size0 {m : Mach} (h : ∀ w, runM m w = false) : okW (runM m) = true → ((wordW (runM m)).size : Int) ≤ m.spots.length := fun h2 => by rw [(word_no h).2] at h2; cases h2
end Gx
namespace Go.Proofs.YtfoemogojbnfhaaDoor
open Go Go.RowKit Gx
set_option maxHeartbeats 1000000
set_option linter.unusedVariables false
set_option linter.unusedSimpArgs false
set_option maxRecDepth 8000
attribute [local irreducible] listOf count first someIn has setOf wbits Lib.ctz lessL lessW strLt cmpW cmpI orI wordW okW wordS wordT revTo leL
theorem isNaN_calls (w : World) (x : Int) (i0 : inK .i64 x) :
    Calls Tryd.prog 156 #[.int .i64 x] w fun e w' => ∃ v, e = .returned v ∧ ∃ (hn : Ghost), St w.heap.size w hn w' [] ∧ v = .bool false := by
 refine calls_of_run Tryd.func156 rfl Tryd.ntmps156 rfl ?_
 have S0 := St.init w
 have lo0 := i64_lo i0; have hi0 := i64_hi i0
 refine run_seq ?_
 refine run_reg (l := [0]) rfl ?_
 refine p_v (v := .bool false) rfl rfl rfl (x_assign rfl) ?_
 refine run_region_end ?_
 refine run_seq ?_
 refine run_reg (l := [0, 1, 2, 3]) rfl ?_
 refine p_v (v := .int .i64 x) rfl rfl rfl (x_move rfl) ?_
 refine p_v (v := .int .i64 x) rfl rfl rfl (x_move rfl) ?_
 refine p_v (v := .bool (decide (x ≠ x))) rfl rfl rfl (x_neq rfl rfl) ?_
 refine p_v (v := .bool (decide (x ≠ x))) rfl rfl rfl (x_assign rfl) ?_
 refine run_region_end ?_
 refine run_ret Tryd.func156 (res1 rfl (res_tmp (v := .bool (decide (x ≠ x))) rfl)) ?_
 have q0 : (false : Bool) = decide (x ≠ x) := by
  exact (decide_eq_false (fun h => h rfl)).symm
 refine ⟨_, rfl, (fun _ => none), ?_, ?_⟩
 · exact S0.sub [] (by decide) rfl _ rfl
 · first | rfl | (simp only [q0]; rfl) | (simp only [q0])
theorem cmpI_calls (w : World) (x : Int) (i0 : inK .i64 x) (y : Int) (i1 : inK .i64 y) :
    Calls Tryd.prog 121 #[.int .i64 x, .int .i64 y] w fun e w' => ∃ v, e = .returned v ∧ ∃ (hn : Ghost), St w.heap.size w hn w' [] ∧ v = .int .i64 (cmpI x y) ∧ inK .i64 (cmpI x y) := by
 refine calls_of_run Tryd.func121 rfl Tryd.ntmps121 rfl ?_
 have S0 := St.init w
 have lo0 := i64_lo i0; have hi0 := i64_hi i0
 have lo1 := i64_lo i1; have hi1 := i64_hi i1
 refine run_seq ?_
 refine run_reg (l := [0]) rfl ?_
 refine p_v (v := .int .i64 0) rfl rfl rfl (x_assign rfl) ?_
 refine run_region_end ?_
 refine run_seq ?_
 refine run_reg (l := [0, 1, 2]) rfl ?_
 refine p_v (v := .int .i64 x) rfl rfl rfl (x_move rfl) ?_
 refine p_c rfl rfl rfl (y_call (args := [.int .i64 x]) ca156 rfl rfl) (isNaN_calls w x (in_i64 (by first|omega|(simp;omega)|assumption|simp) (by first|omega|(simp;omega)|assumption|simp))) ?_
 rintro _ w1 ⟨h1, T1, rfl⟩
 have S2 := S0.keep (Chg.of_below T1.below)
 refine p_v (v := .bool false) rfl rfl rfl (x_assign rfl) ?_
 refine run_region_end ?_
 refine run_seq ?_
 refine run_reg (l := [0, 1, 2]) rfl ?_
 refine p_v (v := .int .i64 y) rfl rfl rfl (x_move rfl) ?_
 refine p_c rfl rfl rfl (y_call (args := [.int .i64 y]) ca156 rfl rfl) (isNaN_calls w1 y (in_i64 (by first|omega|(simp;omega)|assumption|simp) (by first|omega|(simp;omega)|assumption|simp))) ?_
 rintro _ w3 ⟨h3, T3, rfl⟩
 have S4 := S2.keep (Chg.of_below T3.below)
 refine p_v (v := .bool false) rfl rfl rfl (x_assign rfl) ?_
 refine run_region_end ?_
 refine run_seq ?_
 refine run_seq ?_
 refine run_reg (l := [0]) rfl ?_
 refine p_v (v := .bool false) rfl rfl rfl (x_move rfl) ?_
 refine run_region_end ?_
 have hc5 : false = false := by
  rfl
 refine run_cond (b := false) (congrArg Value.bool hc5) ?_
 simp only [if_true, if_false, Bool.false_eq_true]
 refine run_skip ?_
 refine run_seq ?_
 refine run_seq ?_
 refine run_reg (l := [0]) rfl ?_
 refine p_v (v := .bool false) rfl rfl rfl (x_move (congrArg Value.bool hc5)) ?_
 refine run_region_end ?_
 refine run_cond (b := false) rfl ?_
 simp only [if_true, if_false, Bool.false_eq_true]
 refine run_skip ?_
 refine run_seq ?_
 refine run_seq ?_
 refine run_reg (l := [0, 1, 2]) rfl ?_
 refine p_v (v := .int .i64 x) rfl rfl rfl (x_move rfl) ?_
 refine p_v (v := .int .i64 y) rfl rfl rfl (x_move rfl) ?_
 refine p_v (v := .bool (decide (x < y))) rfl rfl rfl (x_lss rfl rfl) ?_
 refine run_region_end ?_
 refine run_cond_prop (p := x < y) rfl (fun hc6 => ?_) (fun hc6 => ?_)
 ·skip
  refine run_seq ?_
  refine run_reg (l := [0]) rfl ?_
  refine p_v (v := .int .i64 (-1)) rfl rfl rfl (x_assign rfl) ?_
  refine run_region_end ?_
  refine run_ret Tryd.func121 (res1 rfl (res_tmp (v := .int .i64 (-1)) rfl)) ?_
  have q0 : (cmpI x y : Int) = (-1) := by
   first | exact cmpI_1 (by assumption) | exact cmpI_2 (by assumption) (by assumption) | exact cmpI_3 (by assumption) (by assumption)
  refine ⟨_, rfl, (fun _ => none), ?_, ?_, ?_⟩
  · exact S4.sub [] (by decide) rfl _ rfl
  · first | rfl | (simp only [q0]; rfl) | (simp only [q0])
  · rw [q0]; exact (in_i64 (by first|omega|(simp;omega)|assumption|simp) (by first|omega|(simp;omega)|assumption|simp))
 ·skip
  refine run_skip ?_
  refine run_seq ?_
  refine run_seq ?_
  refine run_reg (l := [0, 1, 2]) rfl ?_
  refine p_v (v := .int .i64 x) rfl rfl rfl (x_move rfl) ?_
  refine p_v (v := .int .i64 y) rfl rfl rfl (x_move rfl) ?_
  refine p_v (v := .bool (decide (y < x))) rfl rfl rfl (x_gtr rfl rfl) ?_
  refine run_region_end ?_
  refine run_cond_prop (p := y < x) rfl (fun hc7 => ?_) (fun hc7 => ?_)
  ·skip
   refine run_seq ?_
   refine run_reg (l := [0]) rfl ?_
   refine p_v (v := .int .i64 1) rfl rfl rfl (x_assign rfl) ?_
   refine run_region_end ?_
   refine run_ret Tryd.func121 (res1 rfl (res_tmp (v := .int .i64 1) rfl)) ?_
   have q0 : (cmpI x y : Int) = 1 := by
    first | exact cmpI_1 (by assumption) | exact cmpI_2 (by assumption) (by assumption) | exact cmpI_3 (by assumption) (by assumption)
   refine ⟨_, rfl, (fun _ => none), ?_, ?_, ?_⟩
   · exact S4.sub [] (by decide) rfl _ rfl
   · first | rfl | (simp only [q0]; rfl) | (simp only [q0])
   · rw [q0]; exact (in_i64 (by first|omega|(simp;omega)|assumption|simp) (by first|omega|(simp;omega)|assumption|simp))
  ·skip
   refine run_skip ?_
   refine run_seq ?_
   refine run_reg (l := [0]) rfl ?_
   refine p_v (v := .int .i64 0) rfl rfl rfl (x_assign rfl) ?_
   refine run_region_end ?_
   refine run_ret Tryd.func121 (res1 rfl (res_tmp (v := .int .i64 0) rfl)) ?_
   have q0 : (cmpI x y : Int) = 0 := by
    first | exact cmpI_1 (by assumption) | exact cmpI_2 (by assumption) (by assumption) | exact cmpI_3 (by assumption) (by assumption)
   refine ⟨_, rfl, (fun _ => none), ?_, ?_, ?_⟩
   · exact S4.sub [] (by decide) rfl _ rfl
   · first | rfl | (simp only [q0]; rfl) | (simp only [q0])
   · rw [q0]; exact (in_i64 (by first|omega|(simp;omega)|assumption|simp) (by first|omega|(simp;omega)|assumption|simp))
theorem orI_calls (w : World) (l : List Int) (A0 : Option Addr) (c0 : Nat) (b0 : l.length ≤ c0 ∧ c0 ≤ maxLen) (l0 : Leads (Kd.int .i64) (hp w) A0 l) :
    Calls Tryd.prog 120 #[.slice A0 l.length c0] w fun e w' => ∃ v, e = .returned v ∧ ∃ (hn : Ghost), St w.heap.size w hn w' [] ∧ v = .int .i64 (orI l) ∧ inK .i64 (orI l) := by
 refine calls_of_run Tryd.func120 rfl Tryd.ntmps120 rfl ?_
 have S0 := St.init w
 have bb0 := b0.1; have bc0 := b0.2; simp only [maxLen] at bc0
 refine run_seq ?_
 refine run_reg (l := [0]) rfl ?_
 refine p_v (v := .int .i64 0) rfl rfl rfl (x_assign rfl) ?_
 refine run_region_end ?_
 refine run_seq ?_
 refine run_reg (l := [0]) rfl ?_
 refine p_v (v := .int .i64 0) rfl rfl rfl (x_assign rfl) ?_
 refine run_region_end ?_
 refine run_seq ?_
 refine run_seq ?_
 refine run_reg (l := [0, 1, 2]) rfl ?_
 refine p_v (v := .slice A0 l.length c0) rfl rfl rfl (x_move rfl) ?_
 refine p_v (v := .int .i64 (l.length : Int)) rfl rfl rfl (x_len_slice u23 rfl) ?_
 refine p_v (v := .int .i64 0) rfl rfl rfl (x_move rfl) ?_
 refine run_region_end ?_
 refine run_block ?_
 refine run_loop (S := Int) (fun (q_ : Int) ρ w' => match q_ with | t8 => ∃ (h : Ghost), Le (fun _ => none) h ∧ St w.heap.size w h w' [] ∧ ρ 3 = .int .i64 0 ∧ ρ 6 = .slice A0 l.length c0 ∧ ρ 7 = .int .i64 (l.length : Int) ∧ ρ 8 = .int .i64 t8 ∧ inK .i64 t8 ∧ (0 ≤ t8 ∧ t8 ≤ (l.length : Int) ∧ orI l = orI (l.drop t8.toNat))) (fun q_ => match q_ with | t8 => (l.length - t8).toNat) (0) ⟨(fun _ => none), Le.refl _, S0.sub [] (by decide) rfl _ rfl, rfl, rfl, rfl, rfl, (in_i64 (by first|omega|(simp;omega)|assumption|simp) (by first|omega|(simp;omega)|assumption|simp)), (by exact ⟨by omega, by omega, rfl⟩)⟩ ?_
 rintro t8 ih1 ρ1 w1 ⟨h1, le1, S1, r1_3, r1_6, r1_7, r1_8, f1_0, hI1⟩
 have lf1_0 := i64_lo f1_0; have hf1_0 := i64_hi f1_0
 refine run_seq ?_
 refine run_reg (l := [0]) rfl ?_
 refine p_v (v := .bool (decide (t8 < (l.length : Int)))) rfl rfl rfl (x_lss r1_8 r1_7) ?_
 refine run_region_end ?_
 refine run_seq ?_
 refine run_cond_prop (p := t8 < (l.length : Int)) rfl (fun hc2 => ?_) (fun hc2 => ?_)
 ·skip
  refine run_skip ?_
  refine run_seq ?_
  refine run_block ?_
  refine run_seq ?_
  refine run_reg (l := [0, 1, 2]) rfl ?_
  obtain ⟨ad3, seg3, a3, rp3, ce3⟩ := e_index_ro (q := t8) (m := 1) l0 rfl (by first|omega|(simp;omega)|assumption|simp) (by first|omega|(simp;omega)|assumption|simp)
  refine p_v (v := .pointer (some ad3)) rfl rfl rfl (x_index_ro u23 ty3 r1_6 r1_8 a3 (by first|omega|(simp;omega)|assumption|simp) (by first|omega|(simp;omega)|assumption|simp)) ?_
  obtain ⟨rfl, in3⟩ := rp3
  have lo3 := i64_lo in3; have hi3 := i64_hi in3
  refine p_v (v := .int .i64 (at_ l t8)) rfl rfl rfl (x_load (seg := [.int .i64 (at_ l t8)]) ty3 rfl (by simp) rfl (CF.ghost ce3 (St.le0 S1))) ?_
  refine p_v (v := .int .i64 (at_ l t8)) rfl rfl rfl (x_assign rfl) ?_
  refine run_region_end ?_
  refine run_seq ?_
  refine run_reg (l := [0, 1, 2]) rfl ?_
  refine p_v (v := .int .i64 (at_ l t8)) rfl rfl rfl (x_move rfl) ?_
  refine p_v (v := .int .i64 0) rfl rfl rfl (x_move r1_3) ?_
  refine p_v (v := .bool (decide ((at_ l t8) ≠ 0))) rfl rfl rfl (x_neq rfl rfl) ?_
  refine run_region_end ?_
  refine run_cond_prop (p := (at_ l t8) ≠ 0) rfl (fun hc4 => ?_) (fun hc4 => ?_)
  ·skip
   refine run_seq ?_
   refine run_reg (l := [0, 1]) rfl ?_
   refine p_v (v := .int .i64 (at_ l t8)) rfl rfl rfl (x_move rfl) ?_
   refine p_v (v := .int .i64 (at_ l t8)) rfl rfl rfl (x_assign rfl) ?_
   refine run_region_end ?_
   refine run_ret Tryd.func120 (res1 rfl (res_tmp (v := .int .i64 (at_ l t8)) rfl)) ?_
   have q0 : (orI l : Int) = at_ l t8 := by
    first | (rw [hI1.2.2, orI_step hI1.1 (by omega), if_neg (by assumption)]; done) | (rw [hI1.2.2, orI_end (by omega)])
   refine ⟨_, rfl, h1, ?_, ?_, ?_⟩
   · exact S1.sub [] (by decide) rfl _ rfl
   · first | rfl | (simp only [q0]; rfl) | (simp only [q0])
   · rw [q0]; exact (in_i64 (by first|omega|(simp;omega)|assumption|simp) (by first|omega|(simp;omega)|assumption|simp))
  ·skip
   refine run_skip ?_
   refine run_inBlock ?_
   refine run_reg (l := [0, 1]) rfl ?_
   refine p_v (v := .int .i64 (t8 + 1)) rfl rfl rfl (x_add r1_8 rfl (in_i64 (by first|omega|(simp;omega)|assumption|simp) (by first|omega|(simp;omega)|assumption|simp))) ?_
   refine p_v (v := .int .i64 (t8 + 1)) rfl rfl rfl (x_move rfl) ?_
   refine run_region_end ?_
   refine ih1 (t8 + 1) _ _ (by dsimp only; omega) ⟨h1, le1, S1.sub [] (by decide) rfl _ rfl, r1_3, r1_6, r1_7, rfl, (in_i64 (by first|omega|(simp;omega)|assumption|simp) (by first|omega|(simp;omega)|assumption|simp)), (by exact ⟨by omega, by omega, by rw [hI1.2.2, orI_step hI1.1 (by omega), if_pos (Decidable.not_not.1 (by assumption))]⟩)⟩
 ·skip
  refine run_exit rfl ?_
  refine run_seq ?_
  refine run_reg (l := [0, 1]) rfl ?_
  refine p_v (v := .int .i64 0) rfl rfl rfl (x_move r1_3) ?_
  refine p_v (v := .int .i64 0) rfl rfl rfl (x_assign rfl) ?_
  refine run_region_end ?_
  refine run_ret Tryd.func120 (res1 rfl (res_tmp (v := .int .i64 0) rfl)) ?_
  have q0 : (orI l : Int) = 0 := by
   first | (rw [hI1.2.2, orI_step hI1.1 (by omega), if_neg (by assumption)]; done) | (rw [hI1.2.2, orI_end (by omega)])
  refine ⟨_, rfl, h1, ?_, ?_, ?_⟩
  · exact S1.sub [] (by decide) rfl _ rfl
  · first | rfl | (simp only [q0]; rfl) | (simp only [q0])
  · rw [q0]; exact (in_i64 (by first|omega|(simp;omega)|assumption|simp) (by first|omega|(simp;omega)|assumption|simp))
theorem less_calls (w : World) (a : ByteArray) (s0 : a.size ≤ maxLen) (b : ByteArray) (s1 : b.size ≤ maxLen) :
    Calls Tryd.prog 56 #[.string a, .string b] w fun e w' => ∃ v, e = .returned v ∧ ∃ (hn : Ghost), St w.heap.size w hn w' [] ∧ v = .bool (lessW a b) := by
 refine calls_of_run Tryd.func56 rfl Tryd.ntmps56 rfl ?_
 have S0 := St.init w
 have sz0 := s0; simp only [maxLen] at sz0
 have sz1 := s1; simp only [maxLen] at sz1
 refine run_seq ?_
 refine run_reg (l := [0]) rfl ?_
 refine p_v (v := .bool false) rfl rfl rfl (x_assign rfl) ?_
 refine run_region_end ?_
 refine run_seq ?_
 refine run_reg (l := [0, 1, 2, 3, 4, 5, 6, 7, 8, 9, 10, 11]) rfl ?_
 refine p_v (v := .string a) rfl rfl rfl (x_move rfl) ?_
 refine p_v (v := .int .i64 (a.size : Int)) rfl rfl rfl (x_len_string u9 rfl) ?_
 refine p_v (v := .string b) rfl rfl rfl (x_move rfl) ?_
 refine p_v (v := .int .i64 (b.size : Int)) rfl rfl rfl (x_len_string u9 rfl) ?_
 refine p_c rfl rfl rfl (y_call (args := [.int .i64 (a.size : Int), .int .i64 (b.size : Int)]) ca121 rfl rfl) (cmpI_calls w (a.size : Int) (in_i64 (by first|omega|(simp;omega)|assumption|simp) (by first|omega|(simp;omega)|assumption|simp)) (b.size : Int) (in_i64 (by first|omega|(simp;omega)|assumption|simp) (by first|omega|(simp;omega)|assumption|simp))) ?_
 rintro _ w1 ⟨h1, T1, rfl, in1_0⟩
 have S2 := S0.keep (Chg.of_below T1.below)
 have lo_in1_0 := i64_lo in1_0; have hi_in1_0 := i64_hi in1_0
 refine p_v (v := .string a) rfl rfl rfl (x_move rfl) ?_
 refine p_v (v := .string b) rfl rfl rfl (x_move rfl) ?_
 refine p_c rfl rfl rfl (y_call (args := [.string a, .string b]) ca122 rfl rfl) (strCmp_calls w1 a s0 b s1) ?_
 rintro _ w3 ⟨h3, T3, rfl, in3_0⟩
 have S4 := S2.keep (Chg.of_below T3.below)
 have lo_in3_0 := i64_lo in3_0; have hi_in3_0 := i64_hi in3_0
 obtain ⟨v5, w5, r5, g5, T5⟩ := e_build_ones (kd := (Kd.int .i64)) (xs := ([cmpI (a.size : Int) (b.size : Int), cmpW a b] : List Int)) (len := 2) [.int .i64 (cmpI (a.size : Int) (b.size : Int)), .int .i64 (cmpW a b)] S4 u23 ty3 rfl rfl rfl rfl rfl (ones_cons rfl (ones_cons rfl ones_nil)) ([.int .i64 (cmpI (a.size : Int) (b.size : Int))] ++ [.int .i64 (cmpW a b)]) (Elems.cons (k := (Kd.int .i64)) (h := (fun _ => none)) (x := cmpI (a.size : Int) (b.size : Int)) (cs := [.int .i64 (cmpI (a.size : Int) (b.size : Int))]) ⟨rfl, in1_0⟩ (Elems.single (k := (Kd.int .i64)) (h := (fun _ => none)) (x := cmpW a b) (cs := [.int .i64 (cmpW a b)]) ⟨rfl, in3_0⟩)) rfl
 have S6 := T5
 dsimp only [lAa, lAn, lA0, lAs] at S6
 refine p_v (v := v5) rfl rfl rfl (y_build_slice (pv := [(0, .int .i64 (cmpI (a.size : Int) (b.size : Int))), (1, .int .i64 (cmpW a b))]) rfl r5) ?_
 obtain ⟨A7, c7, ev7, lc7, cm7⟩ := S6.row_val (j := 0) rfl
 refine p_c rfl rfl rfl (y_call (args := [.slice A7 ([cmpI (a.size : Int) (b.size : Int), cmpW a b] : List Int).length c7]) ca120 rfl (cons_eq ev7 rfl)) (orI_calls w5 ([cmpI (a.size : Int) (b.size : Int), cmpW a b] : List Int) A7 c7 (And.intro lc7 cm7) (row_leads_eq S6 (j := 0) rfl ev7)) ?_
 rintro _ w8 ⟨h8, T8, rfl, in8_0⟩
 have S9 := S6.keep (Chg.of_below T8.below)
 have lo_in8_0 := i64_lo in8_0; have hi_in8_0 := i64_hi in8_0
 refine p_v (v := .bool (decide ((orI ([cmpI (a.size : Int) (b.size : Int), cmpW a b] : List Int)) < 0))) rfl rfl rfl (x_lss rfl rfl) ?_
 refine p_v (v := .bool (decide ((orI ([cmpI (a.size : Int) (b.size : Int), cmpW a b] : List Int)) < 0))) rfl rfl rfl (x_assign rfl) ?_
 refine run_region_end ?_
 refine run_ret Tryd.func56 (res1 rfl (res_tmp (v := .bool (decide ((orI ([cmpI (a.size : Int) (b.size : Int), cmpW a b] : List Int)) < 0))) rfl)) ?_
 have q0 : (lessW a b : Bool) = decide ((orI ([cmpI (a.size : Int) (b.size : Int), cmpW a b] : List Int)) < 0) := by
  exact (less_or a b).symm
 refine ⟨_, rfl, (fun _ => none), ?_, ?_⟩
 · exact S9.sub [] (by decide) rfl _ rfl
 · first | rfl | (simp only [q0]; rfl) | (simp only [q0])
theorem word_calls (w : World) (l : List StepM) (A0 : Option Addr) (c0 : Nat) (b0 : l.length ≤ c0 ∧ c0 ≤ maxLen) (l0 : Leads kStep (hp w) A0 l) (i : Int) (i1 : inK .i64 i) (pre0 : Chain l ∧ 0 ≤ i ∧ i < (l.length : Int) ∧ (l.length : Int) ≤ 1048577) :
    Calls Tryd.prog 123 #[.slice A0 l.length c0, .int .i64 i] w fun e w' => ∃ v, e = .returned v ∧ ∃ (hn : Ghost), St w.heap.size w hn w' [] ∧ v = .string (strOfNums (wordS l i)) ∧ (strOfNums (wordS l i)).size ≤ maxLen := by
 refine calls_of_run Tryd.func123 rfl Tryd.ntmps123 rfl ?_
 have S0 := St.init w
 have bb0 := b0.1; have bc0 := b0.2; simp only [maxLen] at bc0
 have lo1 := i64_lo i1; have hi1 := i64_hi i1
 have hi0_ := pre0.2.1; have hi1_ := pre0.2.2.1; have hi2_ := pre0.2.2.2
 refine run_seq ?_
 refine run_reg (l := [0]) rfl ?_
 refine p_v (v := .string (⟨#[]⟩ : ByteArray)) rfl rfl rfl (x_assign rfl) ?_
 refine run_region_end ?_
 refine run_seq ?_
 refine run_reg (l := [0]) rfl ?_
 refine p_v (v := .slice none 0 0) rfl rfl rfl (x_assign rfl) ?_
 refine run_region_end ?_
 refine run_seq ?_
 refine run_block ?_
 have T1 := S0.row_nil 5 (Kd.int .u8)
 obtain ⟨vn1, ev1, T1⟩ : ∃ v, v = (.slice none 0 0 : Value) ∧ St w.heap.size w (fun _ => none) w ([] ++ [row 5 (Kd.int .u8) v []]) := ⟨_, rfl, T1⟩
 have S2 := T1
 dsimp only [lAa, lAn, lA0, lAs] at S2
 refine run_loop (S := (List Int) × Int) (fun (q_ : (List Int) × Int) ρ w' => match q_ with | (b, i2) => ∃ (h : Ghost) (v_b : Value), Le (fun _ => none) h ∧ St w.heap.size w h w' [row 5 (Kd.int .u8) v_b b] ∧ ρ 0 = .slice A0 l.length c0 ∧ ρ 1 = .int .i64 i2 ∧ ρ 5 = v_b ∧ inK .i64 i2 ∧ (0 ≤ i2 ∧ i2 ≤ i ∧ (b.length : Int) ≤ i - i2 ∧ wordS l i = wordS l i2 ++ b.reverse)) (fun q_ => match q_ with | (b, i2) => i2.toNat) (([] : List Int), i) ⟨(fun _ => none), vn1, Le.refl _, S2.sub [0] (by decide) rfl _ rfl, rfl, rfl, (ev1.symm), (in_i64 (by first|omega|(simp;omega)|assumption|simp) (by first|omega|(simp;omega)|assumption|simp)), (by exact ⟨by omega, by omega, by simp, word_0 l i⟩)⟩ ?_
 rintro ⟨b, i2⟩ ih3 ρ3 w3 ⟨h3, v_b, le3, S3, r3_0, r3_1, r3_5, f3_0, hI3⟩
 have lf3_0 := i64_lo f3_0; have hf3_0 := i64_hi f3_0
 have rl3_0 := S3.row_le (j := 0) rfl; simp only [maxLen] at rl3_0
 have hb0_ := hI3.1; have hb1_ := hI3.2.1; have hb_ := hI3.2.2.1
 have hc_ : 0 < i2 → 0 ≤ (at_ l i2).fr ∧ (at_ l i2).fr < i2 := fun h => pre0.1 i2 h (by omega)
 refine run_seq ?_
 refine run_seq ?_
 refine run_reg (l := [0, 1]) rfl ?_
 refine p_v (v := .int .i64 i2) rfl rfl rfl (x_move r3_1) ?_
 refine p_v (v := .bool (decide (0 < i2))) rfl rfl rfl (x_gtr rfl rfl) ?_
 refine run_region_end ?_
 refine run_cond_prop (p := 0 < i2) rfl (fun hc4 => ?_) (fun hc4 => ?_)
 ·skip
  refine run_skip ?_
  refine run_seq ?_
  refine run_block ?_
  refine run_reg (l := [0, 1, 2, 3, 4, 5, 6, 7, 8]) rfl ?_
  refine p_v (v := v_b) rfl rfl rfl (x_move r3_5) ?_
  refine p_v (v := .slice A0 l.length c0) rfl rfl rfl (x_move r3_0) ?_
  refine p_v (v := .int .i64 i2) rfl rfl rfl (x_move r3_1) ?_
  obtain ⟨ad5, seg5, a5, rp5, ce5⟩ := e_index_ro (q := i2) (m := 3) l0 rfl (by first|omega|(simp;omega)|assumption|simp) (by first|omega|(simp;omega)|assumption|simp)
  refine p_v (v := .pointer (some ad5)) rfl rfl rfl (x_index_ro u165 ty164 rfl rfl a5 (by first|omega|(simp;omega)|assumption|simp) (by first|omega|(simp;omega)|assumption|simp)) ?_
  obtain ⟨rfl, ok5⟩ := rp5
  have sslok5 := i64_lo ok5.1; have sshok5 := i64_hi ok5.1; have sflok5 := i64_lo ok5.2.1; have sfhok5 := i64_hi ok5.2.1; have sblok5 := u8_lo ok5.2.2; have sbhok5 := u8_hi ok5.2.2
  refine p_v (v := .pointer (some (ad5.add 2))) rfl rfl rfl (x_fieldAd fd164_2 ty5 rfl rfl) ?_
  refine p_v (v := .int .u8 ((at_ l i2).by_)) rfl rfl rfl (x_load (seg := [.int .u8 ((at_ l i2).by_)]) ty5 rfl (by simp) rfl (CF.ghost (sub_seg (o := 2) (m := 1) (ds := [.int .u8 ((at_ l i2).by_)]) ce5 rfl) (St.le0 S3))) ?_
  obtain ⟨v7, w7, r7, g7, T7⟩ := e_build_ones (kd := (Kd.int .u8)) (xs := ([(at_ l i2).by_] : List Int)) (len := 1) [.int .u8 ((at_ l i2).by_)] S3 u39 ty5 rfl rfl rfl rfl rfl (ones_cons rfl ones_nil) [.int .u8 ((at_ l i2).by_)] (Elems.single (k := (Kd.int .u8)) (h := h3) (x := (at_ l i2).by_) (cs := [.int .u8 ((at_ l i2).by_)]) ⟨rfl, (in_u8 (by first|omega|(simp;omega)|assumption|simp) (by first|omega|(simp;omega)|assumption|simp))⟩) rfl
  have S8 := T7
  dsimp only [lAa, lAn, lA0, lAs] at S8
  refine p_v (v := v7) rfl rfl rfl (y_build_slice (pv := [(0, .int .u8 ((at_ l i2).by_))]) rfl r7) ?_
  obtain ⟨A10, c10, ev10, lc10, cm10⟩ := S8.row_val (j := 1) rfl
  obtain ⟨v11, w11, r11, g11, T11⟩ := e_append (kd := (Kd.int .u8)) (A := A10) (c := c10) (ys := ([(at_ l i2).by_] : List Int)) (len := ([(at_ l i2).by_] : List Int).length) 39 S8 u39 ty5 rfl rfl (j := 0) rfl rfl (news_own S8 (j := 1) rfl ev10) (by first|omega|(simp;omega)|assumption|simp) (by first|omega|(simp;omega)|assumption|simp)
  have S12 := T11.fx 0 (row 5 (Kd.int .u8) v11 (b ++ ([(at_ l i2).by_] : List Int))) rfl
  dsimp only [lAa, lAn, lA0, lAs] at S12
  refine p_v (v := v11) rfl rfl rfl (x_append rfl ev10 r11) ?_
  refine p_v (v := v11) rfl rfl rfl (x_assign rfl) ?_
  refine run_region_end ?_
  refine run_inBlock ?_
  refine run_reg (l := [0, 1, 2, 3, 4, 5]) rfl ?_
  refine p_v (v := .slice A0 l.length c0) rfl rfl rfl (x_move r3_0) ?_
  refine p_v (v := .int .i64 i2) rfl rfl rfl (x_move r3_1) ?_
  obtain ⟨ad13, seg13, a13, rp13, ce13⟩ := e_index_ro (q := i2) (m := 3) l0 rfl (by first|omega|(simp;omega)|assumption|simp) (by first|omega|(simp;omega)|assumption|simp)
  refine p_v (v := .pointer (some ad13)) rfl rfl rfl (x_index_ro u165 ty164 rfl rfl a13 (by first|omega|(simp;omega)|assumption|simp) (by first|omega|(simp;omega)|assumption|simp)) ?_
  obtain ⟨rfl, ok13⟩ := rp13
  have sslok13 := i64_lo ok13.1; have sshok13 := i64_hi ok13.1; have sflok13 := i64_lo ok13.2.1; have sfhok13 := i64_hi ok13.2.1; have sblok13 := u8_lo ok13.2.2; have sbhok13 := u8_hi ok13.2.2
  refine p_v (v := .pointer (some (ad13.add 1))) rfl rfl rfl (x_fieldAd fd164_1 ty3 rfl rfl) ?_
  refine p_v (v := .int .i64 ((at_ l i2).fr)) rfl rfl rfl (x_load (seg := [.int .i64 ((at_ l i2).fr)]) ty3 rfl (by simp) rfl (CF.ghost (sub_seg (o := 1) (m := 1) (ds := [.int .i64 ((at_ l i2).fr)]) ce13 rfl) (St.le0 S12))) ?_
  refine p_v (v := .int .i64 ((at_ l i2).fr)) rfl rfl rfl (x_assign rfl) ?_
  refine run_region_end ?_
  refine ih3 (b ++ ([(at_ l i2).by_] : List Int), (at_ l i2).fr) _ _ (by dsimp only; omega) ⟨h3, v11, le3, S12.sub [0] (by decide) rfl _ rfl, r3_0, rfl, rfl, (in_i64 (by first|omega|(simp;omega)|assumption|simp) (by first|omega|(simp;omega)|assumption|simp)), (by exact ⟨by omega, by omega, by rw [List.length_append]; simp; omega, word_up pre0.1 (by omega) (by omega) hI3.2.2.2⟩)⟩
 ·skip
  refine run_exit rfl ?_
  refine run_seq ?_
  refine run_seq ?_
  refine run_reg (l := [0, 1, 2, 3, 4]) rfl ?_
  refine p_v (v := v_b) rfl rfl rfl (x_move r3_5) ?_
  have lb15 := S3.row_le (j := 0) rfl; simp only [maxLen] at lb15
  refine p_v (v := .int .i64 (b.length : Int)) rfl rfl rfl (x_len_own u39 rfl (e_len_own S3 (j := 0) rfl)) ?_
  refine p_v (v := .int .i64 ((b.length : Int) - 1)) rfl rfl rfl (x_sub rfl rfl (in_i64 (by first|omega|(simp;omega)|assumption|simp) (by first|omega|(simp;omega)|assumption|simp))) ?_
  refine p_v (v := .int .i64 0) rfl rfl rfl (x_assign rfl) ?_
  refine p_v (v := .int .i64 ((b.length : Int) - 1)) rfl rfl rfl (x_assign rfl) ?_
  refine run_region_end ?_
  refine run_block ?_
  refine run_loop (S := (List Int) × Int × Int) (fun (q_ : (List Int) × Int × Int) ρ w' => match q_ with | (b2, x, y) => ∃ (h : Ghost) (v_b2 : Value), Le h3 h ∧ St w.heap.size w h w' [row 5 (Kd.int .u8) v_b2 b2] ∧ ρ 5 = v_b2 ∧ ρ 6 = .int .i64 x ∧ ρ 7 = .int .i64 y ∧ inK .i64 x ∧ inK .i64 y ∧ (0 ≤ x ∧ y = (b.length : Int) - 1 - x ∧ b2 = revTo b x)) (fun q_ => match q_ with | (b2, x, y) => (b.length - x).toNat) (b, 0, (b.length : Int) - 1) ⟨h3, v_b, Le.refl _, S3.sub [0] (by decide) rfl _ rfl, r3_5, rfl, rfl, (in_i64 (by first|omega|(simp;omega)|assumption|simp) (by first|omega|(simp;omega)|assumption|simp)), (in_i64 (by first|omega|(simp;omega)|assumption|simp) (by first|omega|(simp;omega)|assumption|simp)), (by exact ⟨by omega, by omega, rev_0 b⟩)⟩ ?_
  rintro ⟨b2, x, y⟩ ih16 ρ16 w16 ⟨h16, v_b2, le16, S16, r16_5, r16_6, r16_7, f16_0, f16_1, hI16⟩
  have lf16_0 := i64_lo f16_0; have hf16_0 := i64_hi f16_0
  have lf16_1 := i64_lo f16_1; have hf16_1 := i64_hi f16_1
  have rl16_0 := S16.row_le (j := 0) rfl; simp only [maxLen] at rl16_0
  have hl_ : (b2.length : Int) = b.length := by rw [hI16.2.2, revTo_len]
  refine run_seq ?_
  refine run_seq ?_
  refine run_reg (l := [0, 1, 2]) rfl ?_
  refine p_v (v := .int .i64 x) rfl rfl rfl (x_move r16_6) ?_
  refine p_v (v := .int .i64 y) rfl rfl rfl (x_move r16_7) ?_
  refine p_v (v := .bool (decide (x < y))) rfl rfl rfl (x_lss rfl rfl) ?_
  refine run_region_end ?_
  refine run_cond_prop (p := x < y) rfl (fun hc17 => ?_) (fun hc17 => ?_)
  ·skip
   refine run_skip ?_
   refine run_seq ?_
   refine run_block ?_
   obtain ⟨ad18, a18, at18⟩ := e_index_own (q := y) (m := 1) S16 (j := 0) rfl rfl (by first|omega|(simp;omega)|assumption|simp) (by first|omega|(simp;omega)|assumption|simp)
   obtain ⟨seg19, rp19, cf19⟩ := e_load_own (q := y) S16 (j := 0) rfl rfl at18 (by first|omega|(simp;omega)|assumption|simp) (by first|omega|(simp;omega)|assumption|simp)
   obtain ⟨rfl, in19⟩ := rp19
   have lo19 := u8_lo in19; have hi19 := u8_hi in19
   obtain ⟨ad20, a20, at20⟩ := e_index_own (q := x) (m := 1) S16 (j := 0) rfl rfl (by first|omega|(simp;omega)|assumption|simp) (by first|omega|(simp;omega)|assumption|simp)
   obtain ⟨seg21, rp21, cf21⟩ := e_load_own (q := x) S16 (j := 0) rfl rfl at20 (by first|omega|(simp;omega)|assumption|simp) (by first|omega|(simp;omega)|assumption|simp)
   obtain ⟨rfl, in21⟩ := rp21
   have lo21 := u8_lo in21; have hi21 := u8_hi in21
   obtain ⟨ad22, a22, at22⟩ := e_index_own (q := x) (m := 1) S16 (j := 0) rfl rfl (by first|omega|(simp;omega)|assumption|simp) (by first|omega|(simp;omega)|assumption|simp)
   have hf23 : (CFs ad18 [.int .u8 (at_ b2 y)]).1 w16 := cf19
   have hf24 : (CFs ad20 [.int .u8 (at_ b2 x)]).1 w16 := cf21
   refine daS (hkC 7 hf23 (hkC 11 hf24 (hkN (w := w16)))) 16 rfl mixed ?_
   intro wd25 gd25 hd25
   have S26 := S16.keep gd25
   have hf27 := spUp gd25 hf23
   have hf28 := spUp gd25 hf24
   refine qd0 (i := 0) (v := v_b2) rfl (by decide +kernel) rfl rfl (x_move r16_5) (of_no rfl) ?_
   refine qd0 (i := 1) (v := .int .i64 x) rfl (by decide +kernel) rfl rfl (x_move r16_6) (of_no rfl) ?_
   refine qd0 (i := 2) (v := v_b2) rfl (by decide +kernel) rfl rfl (x_move r16_5) (of_no rfl) ?_
   refine qd0 (i := 3) (v := .int .i64 y) rfl (by decide +kernel) rfl rfl (x_move r16_7) (of_no rfl) ?_
   refine qd0 (i := 4) (v := v_b2) rfl (by decide +kernel) rfl rfl (x_move r16_5) (of_no rfl) ?_
   refine qd0 (i := 5) (v := .int .i64 y) rfl (by decide +kernel) rfl rfl (x_move r16_7) (of_no rfl) ?_
   refine qd0 (i := 6) (v := .pointer (some ad18)) rfl (by decide +kernel) rfl rfl (x_index_own u39 ty5 rfl rfl a18 (by first|omega|(simp;omega)|assumption|simp) (by first|omega|(simp;omega)|assumption|simp)) (of_no rfl) ?_
   refine qd1 0 (i := 7) (v := .int .u8 (at_ b2 y)) rfl rfl (by decide +kernel) rfl rfl (fun wq hq => (x_load (seg := [.int .u8 (at_ b2 y)]) ty5 rfl (by simp) rfl hq)) (of_eq hf27 (of_no rfl)) ?_
   refine qd0 (i := 8) (v := v_b2) rfl (by decide +kernel) rfl rfl (x_move r16_5) (of_no rfl) ?_
   refine qd0 (i := 9) (v := .int .i64 x) rfl (by decide +kernel) rfl rfl (x_move r16_6) (of_no rfl) ?_
   refine qd0 (i := 10) (v := .pointer (some ad20)) rfl (by decide +kernel) rfl rfl (x_index_own u39 ty5 rfl rfl a20 (by first|omega|(simp;omega)|assumption|simp) (by first|omega|(simp;omega)|assumption|simp)) (of_no rfl) ?_
   refine qd1 1 (i := 11) (v := .int .u8 (at_ b2 x)) rfl rfl (by decide +kernel) rfl rfl (fun wq hq => (x_load (seg := [.int .u8 (at_ b2 x)]) ty5 rfl (by simp) rfl hq)) (of_ne rfl (of_eq hf28 (of_no rfl))) ?_
   refine qd0 (i := 12) (v := .pointer (some ad22)) rfl (by decide +kernel) rfl rfl (x_index_own u39 ty5 rfl rfl a22 (by first|omega|(simp;omega)|assumption|simp) (by first|omega|(simp;omega)|assumption|simp)) (of_no rfl) ?_
   refine ra_one (i := 13) (by decide +kernel) ?_
   intro wd29 gd29
   have S30 := S26.keep gd29
   have hf31 := spUp gd29 hf27
   have hf32 := spUp gd29 hf28
   obtain ⟨w33, r33, g33, T33⟩ := e_store_own (u := .int .u8 (at_ b2 y)) (q := x) (at_ b2 y) (vs := [.int .u8 (at_ b2 y)]) S30 ty5 rfl (j := 0) rfl rfl ⟨rfl, (in_u8 (by first|omega|(simp;omega)|assumption|simp) (by first|omega|(simp;omega)|assumption|simp))⟩ at22 (by first|omega|(simp;omega)|assumption|simp) (by first|omega|(simp;omega)|assumption|simp)
   have S34 := T33.fx 0 (row 5 (Kd.int .u8) v_b2 (b2.set (x).toNat (at_ b2 y))) rfl
   dsimp only [lAa, lAn, lA0, lAs] at S34
   refine d_s rfl rfl (x_store rfl rfl r33) (.inr (keep_w (by decide +kernel) (keep_w (by decide +kernel) trivial))) ?_
   obtain ⟨ad35, a35, at35⟩ := e_index_own (q := y) (m := 1) S34 (j := 0) rfl rfl (by first|omega|(simp;omega)|assumption|simp) (by first|omega|(simp;omega)|assumption|simp)
   refine qd0 (i := 14) (v := .pointer (some ad35)) rfl (by decide +kernel) rfl rfl (x_index_own u39 ty5 rfl rfl a35 (by first|omega|(simp;omega)|assumption|simp) (by first|omega|(simp;omega)|assumption|simp)) (of_no rfl) ?_
   refine ra_one (i := 15) (by decide +kernel) ?_
   intro wd36 gd36
   have S37 := S34.keep gd36
   obtain ⟨w38, r38, g38, T38⟩ := e_store_own (u := .int .u8 (at_ b2 x)) (q := y) (at_ b2 x) (vs := [.int .u8 (at_ b2 x)]) S37 ty5 rfl (j := 0) rfl rfl ⟨rfl, (in_u8 (by first|omega|(simp;omega)|assumption|simp) (by first|omega|(simp;omega)|assumption|simp))⟩ at35 (by first|omega|(simp;omega)|assumption|simp) (by first|omega|(simp;omega)|assumption|simp)
   have S39 := T38.fx 0 (row 5 (Kd.int .u8) v_b2 ((b2.set (x).toNat (at_ b2 y)).set (y).toNat (at_ b2 x))) rfl
   dsimp only [lAa, lAn, lA0, lAs] at S39
   refine d_s rfl rfl (x_store rfl rfl r38) (.inr (keep_w (by decide +kernel) (keep_w (by decide +kernel) trivial))) ?_
   refine ra_done (by decide +kernel) ?_
   intro wd40 gd40
   have S41 := S39.keep gd40
   refine run_inBlock ?_
   refine run_reg (l := [0, 1, 2, 3, 4, 5]) rfl ?_
   refine p_v (v := .int .i64 x) rfl rfl rfl (x_move r16_6) ?_
   refine p_v (v := .int .i64 (x + 1)) rfl rfl rfl (x_add rfl rfl (in_i64 (by first|omega|(simp;omega)|assumption|simp) (by first|omega|(simp;omega)|assumption|simp))) ?_
   refine p_v (v := .int .i64 y) rfl rfl rfl (x_move r16_7) ?_
   refine p_v (v := .int .i64 (y - 1)) rfl rfl rfl (x_sub rfl rfl (in_i64 (by first|omega|(simp;omega)|assumption|simp) (by first|omega|(simp;omega)|assumption|simp))) ?_
   refine p_v (v := .int .i64 (x + 1)) rfl rfl rfl (x_assign rfl) ?_
   refine p_v (v := .int .i64 (y - 1)) rfl rfl rfl (x_assign rfl) ?_
   refine run_region_end ?_
   refine ih16 ((b2.set (x).toNat (at_ b2 y)).set (y).toNat (at_ b2 x), x + 1, y - 1) _ _ (by dsimp only; omega) ⟨h16, v_b2, le16, S41.sub [0] (by decide) rfl _ rfl, r16_5, rfl, rfl, (in_i64 (by first|omega|(simp;omega)|assumption|simp) (by first|omega|(simp;omega)|assumption|simp)), (in_i64 (by first|omega|(simp;omega)|assumption|simp) (by first|omega|(simp;omega)|assumption|simp)), (by exact ⟨by omega, by omega, rev_step hI16.2.2 hI16.1 hI16.2.1 (by omega)⟩)⟩
  ·skip
   refine run_exit rfl ?_
   refine run_seq ?_
   refine run_reg (l := [0, 1, 2]) rfl ?_
   refine p_v (v := v_b2) rfl rfl rfl (x_move r16_5) ?_
   obtain ⟨A42, c42, ev42, lc42, cm42⟩ := S16.row_val (j := 0) rfl
   have sz43 := str_small (xs := b2) (Nat.le_trans (And.intro lc42 cm42).1 (And.intro lc42 cm42).2); have bdsz43 := sz43; simp only [maxLen] at bdsz43
   refine p_v (v := .string (strOfNums b2)) rfl rfl rfl (x_bytes_string u39 u5 u9 ev42 (row_leads_eq S16 (j := 0) rfl ev42)) ?_
   refine p_v (v := .string (strOfNums b2)) rfl rfl rfl (x_assign rfl) ?_
   refine run_region_end ?_
   refine run_ret Tryd.func123 (res1 rfl (res_tmp (v := .string (strOfNums b2)) rfl)) ?_
   have q0 : (strOfNums (wordS l i) : ByteArray) = (strOfNums b2) := by
    rw [rev_end hI16.2.2 hI16.1 hI16.2.1 (by omega), word_done (by omega) hI3.2.2.2]
   refine ⟨_, rfl, h16, ?_, ?_, ?_⟩
   · exact S16.sub [] (by decide) rfl _ rfl
   · first | rfl | (simp only [q0]; rfl) | (simp only [q0])
   · rw [q0]; first | assumption | exact sz43
end Go.Proofs.YtfoemogojbnfhaaDoor
namespace Gx
open Go Go.RowKit
set_option linter.unusedSimpArgs false
set_option linter.unusedSectionVars false
set_option linter.unusedVariables false
def bareM : Mach := ⟨[⟨setOf [97], 0⟩, ⟨setOf [98], 0⟩, ⟨setOf [99], 0⟩], [0], [[1, 2], [], []], [false, true, false], false⟩
abbrev bareP : PartM := refineP (setsM bareM)
theorem okPart_bare : okPart bareP := okPart_ref _
theorem bare_ok : okB bareM bareP = true := by decide +kernel
theorem bare_right : Right bareM := right_iff.1 (by decide +kernel)
theorem one_of : ∀ c : Nat, c < 256 → has (setOf [97]) ((c : Nat) : Int) = true → c = 97 := by decide +kernel
theorem two_of : ∀ c : Nat, c < 256 → has (setOf [98]) ((c : Nat) : Int) = true → c = 98 := by decide +kernel
theorem bare_s0 : (at_ bareM.spots 0).set = setOf [97] := by decide +kernel
theorem bare_s1 : (at_ bareM.spots 1).set = setOf [98] := by decide +kernel
theorem bare_path {l : List Int} {i : Int} (h : Path bareM bareM.first l i) : (i = 0 ∨ i = 1 ∨ i = 2) ∧ (i = 0 → l = [97]) ∧ (i = 1 → l = [97, 98]) := by
  induction h with
  | one h1 h2 h3 h4 =>
    rename_i i c
    have hi : i = 0 := by simpa [bareM] using h1
    subst hi
    rw [bare_s0] at h4
    have := one_of c.toNat (by omega) (by rw [Int.toNat_of_nonneg h2]; exact h4)
    exact ⟨.inl rfl, fun _ => by rw [show c = 97 by omega], fun e => by omega⟩
  | snoc h1 h2 h3 h4 h5 ih =>
    rename_i l j i c
    obtain ⟨hj, ha, hb⟩ := ih
    rcases hj with rfl | rfl | rfl
    · have hi : i = 1 ∨ i = 2 := by
        have : i ∈ ([1, 2] : List Int) := h2
        simpa using this
      refine ⟨.inr hi, fun e => by omega, fun e => ?_⟩
      subst e
      rw [bare_s1] at h5
      have := two_of c.toNat (by omega) (by rw [Int.toNat_of_nonneg h3]; exact h5)
      rw [ha rfl, show c = 98 by omega]; rfl
    · have : i ∈ ([] : List Int) := h2
      cases this
    · have : i ∈ ([] : List Int) := h2
      cases this
theorem bare_least : IsLeastW (runM bareM) ⟨#[97, 98]⟩ := by
  refine ⟨by decide +kernel, fun w hw => ?_⟩
  obtain ⟨i, hp, hl⟩ := (runM_path bare_right rfl w).1 hw
  obtain ⟨hi, _, h1⟩ := bare_path hp
  have hi1 : i = 1 := by
    rcases hi with rfl | rfl | rfl
    · exact absurd hl (by decide)
    · rfl
    · exact absurd hl (by decide)
  unfold lessW
  rw [h1 hi1]
  decide +kernel
theorem bare_runD : runD (buildM bareM bareP) = runM bareM := funext fun w => build_run okPart_bare bare_ok w
theorem bare_1 : errB bareM bareP = 0 := errB_iff.2 bare_ok
theorem bare_2 : wordW (runD (buildM bareM bareP)) = ⟨#[97, 98]⟩ := by rw [bare_runD]; exact (word_is bare_least).1
theorem bare_3 : okW (runD (buildM bareM bareP)) = true := by rw [bare_runD]; exact (word_is bare_least).2
theorem bare_4 : wordW (runM bareM) = ⟨#[97, 98]⟩ := (word_is bare_least).1
theorem bare_5 : okW (runM bareM) = true := (word_is bare_least).2
theorem bare_6 : lessW ⟨#[98]⟩ ⟨#[97, 98]⟩ = true := by decide +kernel
theorem bare_len : ((buildM bareM bareP).next.length : Int) ≤ 1048577 := build_len (by decide)
theorem bf_size {d : Dfa} {seen : List Bool} {l : List StepM} {i : Int} (W : BfI d seen l i) (ho : okPart d.part) (hr : rightD d = true) (hi : i < (l.length : Int)) (hf : at_ d.final (at_ l i).st = true) : (okW (runD d) = true → ((wordW (runD d)).size : Int) < d.next.length) ∧ (okW (runD d) = false → ∀ w, runD d w = false) := by
  have hw := word_is (bf_found W ho hr hi hf)
  refine ⟨fun _ => ?_, fun h => (by rw [hw.2] at h; cases h)⟩
  have h1 := bf_len W.b
  have h2 := wordS_len W.b.chain i.toNat i (Nat.le_refl _) hi
  have h0 := W.lo
  rw [hw.1, strOfNums_size]; omega
theorem bf_size0 {d : Dfa} (h : ∀ w, runD d w = false) : (okW (runD d) = true → ((wordW (runD d)).size : Int) < d.next.length) ∧ (okW (runD d) = false → ∀ w, runD d w = false) := ⟨fun h2 => (by rw [(word_no h).2] at h2; cases h2), fun _ => h⟩
theorem path_size {m : Mach} {v : ByteArray} (h : IsLeastW (runM m) v) (hs : (v.size : Int) ≤ m.spots.length) : (okW (runM m) = true → ((wordW (runM m)).size : Int) ≤ m.spots.length) ∧ (okW (runM m) = false → ∀ w, runM m w = false) := ⟨wordW_size h hs, fun h2 => (by rw [(word_is h).2] at h2; cases h2)⟩
theorem path_size0 {m : Mach} (h : ∀ w, runM m w = false) : (okW (runM m) = true → ((wordW (runM m)).size : Int) ≤ m.spots.length) ∧ (okW (runM m) = false → ∀ w, runM m w = false) := ⟨wordW_size0 h, fun _ => h⟩
structure RefD where
  least : List Int
  next : List (List Int)
  final : List Bool
instance : Inhabited RefD := ⟨⟨[], [], []⟩⟩
def Given (x : RefD) (d : Dfa) : Prop := rightD d = true ∧ okPart d.part ∧ x.least = leastB d.part ∧ x.next = d.next ∧ x.final = d.final
section
variable {d : Dfa} {tx nx : List ByteArray} {is th : List Bool} {s q k r : Int}
theorem nx_len (L : Lv d tx is s) (N : Nx d tx is nx th q k) (r0 : 0 ≤ r) (r1 : r < (d.next.length : Int)) (h : at_ th r = true) : ((bytesL (at_ nx r)).length : Int) = s + 1 := by
  obtain ⟨⟨p, j, hs, hp, hj, hi, he, hb⟩, _⟩ := N.yes r r0 r1 h
  obtain ⟨_, a2, _⟩ := L.yes p hs.1 hp hi
  rw [hb, List.length_append, List.length_cons, List.length_nil]; omega
theorem txt_bytes (R : RightD d) (k0 : 0 ≤ k) (k1 : k < d.part.n) (w : ByteArray) : bytesL (w ++ strOfNums [at_ (leastB d.part) k]) = bytesL w ++ [at_ (leastB d.part) k] := by
  have := leastB_at R.part k0 k1
  rw [bytesL_app, bytesL_one this.1 this.2.1]
theorem nx_stay (R : RightD d) (L : Lv d tx is s) (N : Nx d tx is nx th q k) (q0 : 0 ≤ q) (q1 : q < (d.next.length : Int)) (k0 : 0 ≤ k) (k1 : k < d.part.n) (hi : at_ is q = true) (ht : at_ th (at_ (at_ d.next q) k) = true) (hl : strLt (at_ tx q ++ strOfNums [at_ (leastB d.part) k]) (at_ nx (at_ (at_ d.next q) k)) = false) : Nx d tx is nx th q (k + 1) := by
  have hc := R.cell q q0 q1 _ (at_mem k0 (by rw [R.row q q0 q1]; exact k1))
  have e := txt_bytes R k0 k1 (at_ tx q)
  have h1 := nx_len L N hc.1 hc.2 ht
  obtain ⟨_, a2, _⟩ := L.yes q q0 q1 hi
  refine nx_same R N q0 q1 k0 k1 ht ?_
  rw [← e]
  exact leL_lt (by have : (bytesL (at_ tx q ++ strOfNums [at_ (leastB d.part) k])).length = (bytesL (at_ tx q)).length + 1 := by rw [e, List.length_append]; rfl
                   omega) hl
theorem nx_take (R : RightD d) (L : Lv d tx is s) (N : Nx d tx is nx th q k) (q0 : 0 ≤ q) (q1 : q < (d.next.length : Int)) (k0 : 0 ≤ k) (k1 : k < d.part.n) (hi : at_ is q = true)
    (h : at_ th (at_ (at_ d.next q) k) = false ∨ (at_ th (at_ (at_ d.next q) k) = true ∧ strLt (at_ tx q ++ strOfNums [at_ (leastB d.part) k]) (at_ nx (at_ (at_ d.next q) k)) = true)) : Nx d tx is (nx.set (at_ (at_ d.next q) k).toNat (at_ tx q ++ strOfNums [at_ (leastB d.part) k])) (th.set (at_ (at_ d.next q) k).toNat true) q (k + 1) := by
  have hc := R.cell q q0 q1 _ (at_mem k0 (by rw [R.row q q0 q1]; exact k1))
  have e := txt_bytes R k0 k1 (at_ tx q)
  refine nx_put R N q0 q1 k0 k1 hi e ?_
  rcases h with h | ⟨h, hl⟩
  · exact .inl h
  · have h1 := nx_len L N hc.1 hc.2 h
    obtain ⟨_, a2, _⟩ := L.yes q q0 q1 hi
    exact .inr (.inr (lessL_iff.2 (.inr ⟨by have : (bytesL (at_ tx q ++ strOfNums [at_ (leastB d.part) k])).length = (bytesL (at_ tx q)).length + 1 := by rw [e, List.length_append]; rfl
                                            omega, hl⟩)))
theorem lv_size (L : Lv d tx is s) (q0 : 0 ≤ q) (q1 : q < (d.next.length : Int)) (hi : at_ is q = true) : ((at_ tx q).size : Int) = s := by
  obtain ⟨_, a2, _⟩ := L.yes q q0 q1 hi
  rw [bytesL_len] at a2; exact a2
end
theorem errB_own {m : Mach} (h : errB m (refineP (setsM m)) ≠ 0) : rightM m = false := by
  refine Bool.eq_false_iff.2 fun e => h (errB_iff.2 ?_)
  have h1 : (setsM m).any (splitsP (refineP (setsM m))) = false := List.any_eq_false.2 fun s hs => by rw [splits_own hs]; simp
  unfold okB fitsP
  rw [e, rightP_ref, h1]; rfl
end Gx
namespace Go.Proofs.YtfoemogojbnfhaaDoor
open Go Go.RowKit Gx
set_option maxHeartbeats 1000000
set_option linter.unusedVariables false
set_option linter.unusedSimpArgs false
set_option maxRecDepth 8000
attribute [local irreducible] listOf count first someIn has setOf wbits Lib.ctz badQ badRow rightD goD runD nextB nextC outTo readTo rowIn finalB lastB leastB leastBTo buildM errB fitsP madeM allM bfs numbered putB beginB okB lessL lessW strLt cmpW cmpI orI wordW okW wordS wordT revTo leL
theorem wordD_calls (w : World) (d : Dfa) (o0_0 : okPart d.part) (A0_1 : Option Addr) (c0_1 : Nat) (b0_1 : d.next.length ≤ c0_1 ∧ c0_1 ≤ maxLen) (l0_1 : Leads (Kd.int .i64).slice (hp w) A0_1 d.next) (A0_2 : Option Addr) (c0_2 : Nat) (b0_2 : d.final.length ≤ c0_2 ∧ c0_2 ≤ maxLen) (l0_2 : Leads Kd.bool (hp w) A0_2 d.final) (pre0 : (d.next.length : Int) ≤ 1048577) (tb : Block 0 tzTab w) :
    Calls Tryd.prog 58 #[.agg ((encPart d.part) ++ ([.slice A0_1 d.next.length c0_1, .slice A0_2 d.final.length c0_2] : List Value)).toArray] w fun e w' => ∃ v, e = .returned v ∧ ∃ (hn : Ghost), St w.heap.size w hn w' [] ∧ v = .tuple #[.string (wordW (runD d)), .bool (okW (runD d))] ∧ (wordW (runD d)).size ≤ maxLen ∧ ((okW (runD d) = true → ((wordW (runD d)).size : Int) < d.next.length) ∧ (okW (runD d) = false → ∀ w, runD d w = false)) := by
 refine calls_of_run Tryd.func58 rfl Tryd.ntmps58 rfl ?_
 have S0 := St.init w
 have ploo0_0 := i64_lo o0_0.2; have phio0_0 := i64_hi o0_0.2
 have bb0_1 := b0_1.1; have bc0_1 := b0_1.2; simp only [maxLen] at bc0_1
 have bb0_2 := b0_2.1; have bc0_2 := b0_2.2; simp only [maxLen] at bc0_2
 refine run_seq ?_
 refine run_reg (l := [0, 1, 2]) rfl ?_
 obtain ⟨b1, w1, r1, g1, T1⟩ := e_box (P := Tryd.prog) S0 35 (v := .agg ((encPart d.part) ++ ([.slice A0_1 d.next.length c0_1, .slice A0_2 d.final.length c0_2] : List Value)).toArray) ((encPart d.part) ++ ([.slice A0_1 d.next.length c0_1, .slice A0_2 d.final.length c0_2] : List Value)) rfl
 have S2 := T1
 dsimp only [lAa, lAn, lA0, lAs] at S2
 refine p_v (v := .pointer (some ⟨b1, 0, none⟩)) rfl rfl rfl (x_box rfl r1) ?_
 refine p_v (v := .string (⟨#[]⟩ : ByteArray)) rfl rfl rfl (x_assign rfl) ?_
 refine p_v (v := .bool false) rfl rfl rfl (x_assign rfl) ?_
 refine run_region_end ?_
 refine run_seq ?_
 refine run_seq ?_
 refine run_reg (l := [0, 1, 2]) rfl ?_
 refine p_v (v := .agg ((encPart d.part) ++ ([.slice A0_1 d.next.length c0_1, .slice A0_2 d.final.length c0_2] : List Value)).toArray) rfl rfl rfl (x_load (seg := ((encPart d.part) ++ ([.slice A0_1 d.next.length c0_1, .slice A0_2 d.final.length c0_2] : List Value))) ty35 (len_app (encPart_len o0_0) rfl) (by simp) rfl (CF.box (m := 259) (S2.box_at (j := 0) rfl) (take_all (len_app (encPart_len o0_0) rfl)))) ?_
 refine p_c rfl rfl rfl (y_call (args := [.agg ((encPart d.part) ++ ([.slice A0_1 d.next.length c0_1, .slice A0_2 d.final.length c0_2] : List Value)).toArray]) ca48 rfl rfl) (rightD_calls w1 d o0_0 A0_1 c0_1 b0_1 (l0_1.mono (St.le0 S2)) A0_2 c0_2 b0_2 (l0_2.mono (St.le0 S2))) ?_
 rintro _ w3 ⟨h3, T3, rfl⟩
 have S4 := S2.keep (Chg.of_below T3.below)
 refine p_v (v := .bool (!(rightD d))) rfl rfl rfl (x_not rfl) ?_
 refine run_region_end ?_
 refine run_cond_nsplit (b := rightD d) rfl (fun hc5 => ?_) (fun hc5 => ?_)
 ·skip
  refine run_seq ?_
  refine run_reg (l := [0, 1]) rfl ?_
  refine p_v (v := .string (⟨#[]⟩ : ByteArray)) rfl rfl rfl (x_assign rfl) ?_
  refine p_v (v := .bool false) rfl rfl rfl (x_assign rfl) ?_
  refine run_region_end ?_
  refine run_ret Tryd.func58 (res2 rfl (res_tmp (v := .string (⟨#[]⟩ : ByteArray)) rfl) (res_tmp (v := .bool false) rfl)) ?_
  have q0 : (wordW (runD d) : ByteArray) = (⟨#[]⟩ : ByteArray) := by
   first | exact (word_no (fun w => runD_no (by assumption))).1 | exact (word_no (fun w => runD_no (by assumption))).2 | exact (word_is (bf_found hI_ o0_0 hr_ (by omega) (by assumption))).1 | exact (word_is (bf_found hI_ o0_0 hr_ (by omega) (by assumption))).2 | exact (word_no (bf_none hI_ o0_0 hr_ (by omega))).1 | exact (word_no (bf_none hI_ o0_0 hr_ (by omega))).2
  have q1 : (okW (runD d) : Bool) = false := by
   first | exact (word_no (fun w => runD_no (by assumption))).1 | exact (word_no (fun w => runD_no (by assumption))).2 | exact (word_is (bf_found hI_ o0_0 hr_ (by omega) (by assumption))).1 | exact (word_is (bf_found hI_ o0_0 hr_ (by omega) (by assumption))).2 | exact (word_no (bf_none hI_ o0_0 hr_ (by omega))).1 | exact (word_no (bf_none hI_ o0_0 hr_ (by omega))).2
  refine ⟨_, rfl, (fun _ => none), ?_, ?_, ?_, ?_⟩
  · exact S4.sub [] (by decide) rfl _ rfl
  · first | rfl | (simp only [q0, q1]; rfl) | (simp only [q0, q1])
  · rw [q0]; first | assumption | exact (by decide)
  ·show (okW (runD d) = true → ((wordW (runD d)).size : Int) < d.next.length) ∧ (okW (runD d) = false → ∀ w, runD d w = false)
   first | exact bf_size0 (fun w => runD_no (by assumption)) | exact bf_size hI_ o0_0 hr_ (by omega) (by assumption) | exact bf_size0 (bf_none hI_ o0_0 hr_ (by omega))
 ·skip
  have hr_ := hc5; have hD_ := rightD_of o0_0 hc5; have hfl_ := hD_.final; have hsm_ := hD_.some_; have hln_ := least_lenR hD_.part; have hpm_ := hD_.part.hi; have hpl_ := hD_.part.lo
  refine run_skip ?_
  refine run_seq ?_
  refine run_reg (l := [0, 1, 2, 3]) rfl ?_
  refine p_v (v := .pointer (some ⟨b1, 0, none⟩)) rfl rfl rfl (x_fieldAt fd35_0 ty32 rfl rfl) ?_
  refine p_v (v := .agg (encPart d.part).toArray) rfl rfl rfl (x_load (seg := ((encPart d.part))) ty32 (encPart_len o0_0) (by simp) rfl (CF.box (m := 257) (S4.box_at (j := 0) rfl) (seg_mid (pre := []) (seg := ((encPart d.part))) (post := [.slice A0_1 d.next.length c0_1, .slice A0_2 d.final.length c0_2]) rfl (encPart_len o0_0)))) ?_
  refine p_c rfl rfl rfl (y_call (args := [.agg (encPart d.part).toArray, .int .i64 1]) ca86 rfl rfl) (least_calls w3 d.part o0_0 1 (in_i64 (by first|omega|(simp;omega)|assumption|simp) (by first|omega|(simp;omega)|assumption|simp)) (Block.st S4 tb)) ?_
  rintro v6_0 w6 ⟨h6, _, T6, rfl⟩
  obtain ⟨k6, lk6, ll6, U6⟩ := call_joins S4 T6
  have S7 := U6
  dsimp only [lAa, lAn, lA0, lAs] at S7
  obtain ⟨h8, le8, T8, rp8⟩ := S7.freeze (i := 1) rfl
  have lf8_0 := (lk6).trans le8
  have S9 := T8.fx 1 (emp) rfl
  dsimp only [lAa, lAn, lA0, lAs] at S9
  obtain ⟨A8, c8, e8, lc8, cm8, ld8⟩ := rp8
  injection e8 with e8 _; subst e8
  have cn8 := cm8; simp only [maxLen] at cn8
  refine p_v (v := .slice A8 (leastP d.part 1).length c8) rfl rfl rfl (x_assign rfl) ?_
  refine run_region_end ?_
  refine run_seq ?_
  refine run_reg (l := [0, 1, 2, 3, 4]) rfl ?_
  refine p_v (v := .pointer (some ⟨b1, 257, none⟩)) rfl rfl rfl (x_fieldAt fd35_1 ty24 rfl rfl) ?_
  refine p_v (v := .slice A0_1 d.next.length c0_1) rfl rfl rfl (x_load (seg := [.slice A0_1 d.next.length c0_1]) ty24 rfl (by simp) rfl (CF.box (m := 1) (S9.box_at (j := 0) rfl) (seg_mid2 (a := (encPart d.part)) (pre := []) (seg := [.slice A0_1 d.next.length c0_1]) (post := [.slice A0_2 d.final.length c0_2]) (encPart_len o0_0) rfl rfl))) ?_
  refine p_v (v := .int .i64 (d.next.length : Int)) rfl rfl rfl (x_len_slice u24 rfl) ?_
  obtain ⟨v10, w10, r10, g10, T10⟩ := e_make (kk := .i64) (kk' := .i64) (kd := Kd.bool) (q := (d.next.length : Int)) (z := false) (zc := [.bool false]) S9 u25 ty4 rfl rfl ⟨rfl, trivial⟩ (by first|omega|(simp;omega)|assumption|simp) (by first|omega|(simp;omega)|assumption|simp) (by first|omega|(simp;omega)|assumption|simp)
  have S11 := T10
  dsimp only [lAa, lAn, lA0, lAs] at S11
  refine p_v (v := v10) rfl rfl rfl (x_make rfl rfl r10) ?_
  refine p_v (v := v10) rfl rfl rfl (x_assign rfl) ?_
  refine run_region_end ?_
  refine run_seq ?_
  refine run_reg (l := [0, 1, 2]) rfl ?_
  refine p_v (v := v10) rfl rfl rfl (x_move rfl) ?_
  obtain ⟨ad12, a12, at12⟩ := e_index_own (q := (0 : Int)) (m := 1) S11 (j := 2) rfl rfl (by first|omega|(simp;omega)|assumption|simp) (by first|omega|(simp;omega)|assumption|simp)
  refine p_v (v := .pointer (some ad12)) rfl rfl rfl (x_index_own u25 ty4 rfl rfl a12 (by first|omega|(simp;omega)|assumption|simp) (by first|omega|(simp;omega)|assumption|simp)) ?_
  obtain ⟨w13, r13, g13, T13⟩ := e_store_own (u := .bool true) (q := (0 : Int)) true (vs := [.bool true]) S11 ty4 rfl (j := 2) rfl rfl ⟨rfl, trivial⟩ at12 (by first|omega|(simp;omega)|assumption|simp) (by first|omega|(simp;omega)|assumption|simp)
  have S14 := T13.fx 2 (row 4 Kd.bool v10 ((List.replicate ((d.next.length : Int)).toNat false).set ((0 : Int)).toNat true)) rfl
  dsimp only [lAa, lAn, lA0, lAs] at S14
  refine p_s rfl rfl (x_store rfl rfl r13) ?_
  refine run_region_end ?_
  refine run_seq ?_
  refine run_reg (l := [0, 1, 2]) rfl ?_
  refine p_v (v := .agg (encStep (⟨0, 0, 0⟩ : StepM)).toArray) rfl rfl rfl (y_build (pv := []) rfl (run_build_struct pl164 ty164 rfl (cs := (encStep (⟨0, 0, 0⟩ : StepM))) rfl)) ?_
  obtain ⟨v15, w15, r15, g15, T15⟩ := e_build_segs (kd := kStep) (xs := ([(⟨0, 0, 0⟩ : StepM)] : List StepM)) (len := 1) (m := 3) [(.agg (encStep (⟨0, 0, 0⟩ : StepM)).toArray, (encStep (⟨0, 0, 0⟩ : StepM)))] S14 u165 ty164 rfl rfl rfl rfl (segs_cons rfl rfl segs_nil) (cs := (encStep (⟨0, 0, 0⟩ : StepM))) (Elems.single (k := kStep) (h := h8) (x := (⟨0, 0, 0⟩ : StepM)) (cs := (encStep (⟨0, 0, 0⟩ : StepM))) ⟨rfl, (⟨in_i64 (by decide) (by decide), in_i64 (by decide) (by decide), in_u8 (by decide) (by decide)⟩)⟩) (by simp)
  have S16 := T15
  dsimp only [lAa, lAn, lA0, lAs] at S16
  refine p_v (v := v15) rfl rfl rfl (y_build_slice (pv := [(0, .agg (encStep (⟨0, 0, 0⟩ : StepM)).toArray)]) rfl r15) ?_
  refine p_v (v := v15) rfl rfl rfl (x_assign rfl) ?_
  refine run_region_end ?_
  refine run_seq ?_
  refine run_seq ?_
  refine run_reg (l := [0]) rfl ?_
  refine p_v (v := .int .i64 0) rfl rfl rfl (x_assign rfl) ?_
  refine run_region_end ?_
  refine run_block ?_
  refine run_loop (S := (List Bool) × (List StepM) × Int) (fun (q_ : (List Bool) × (List StepM) × Int) ρ w' => match q_ with | (seen, l, i) => ∃ (h : Ghost) (v_seen : Value) (v_l : Value), Le h8 h ∧ St w.heap.size w h w' [box b1 35 ((encPart d.part) ++ ([.slice A0_1 d.next.length c0_1, .slice A0_2 d.final.length c0_2] : List Value)), row 4 Kd.bool v_seen seen, row 164 kStep v_l l] ∧ ρ 1 = .pointer (some ⟨b1, 0, none⟩) ∧ ρ 4 = .slice A8 (leastP d.part 1).length c8 ∧ ρ 5 = v_seen ∧ ρ 6 = v_l ∧ ρ 7 = .int .i64 i ∧ inK .i64 i ∧ (BfI d seen l i)) (fun q_ => match q_ with | (seen, l, i) => (d.next.length + 1 - i).toNat) ((List.replicate ((d.next.length : Int)).toNat false).set ((0 : Int)).toNat true, ([(⟨0, 0, 0⟩ : StepM)] : List StepM), 0) ⟨h8, v10, v15, Le.refl _, S16.sub [0, 2, 3] (by decide) rfl _ rfl, rfl, rfl, rfl, rfl, rfl, (in_i64 (by first|omega|(simp;omega)|assumption|simp) (by first|omega|(simp;omega)|assumption|simp)), (by exact bf_0 hD_)⟩ ?_
  rintro ⟨seen, l, i⟩ ih17 ρ17 w17 ⟨h17, v_seen, v_l, le17, S17, r17_1, r17_4, r17_5, r17_6, r17_7, f17_0, hI17⟩
  have lf17_0 := i64_lo f17_0; have hf17_0 := i64_hi f17_0
  have rl17_1 := S17.row_le (j := 1) rfl; simp only [maxLen] at rl17_1
  have rl17_2 := S17.row_le (j := 2) rfl; simp only [maxLen] at rl17_2
  have hi0_ := hI17.lo; have hi1_ := hI17.hi; have hle_ := bf_len hI17.b; have hch_ := hI17.b.chain; have hsl_ := hI17.b.slen
  have hst_ : i < (l.length : Int) → 0 ≤ (at_ l i).st ∧ (at_ l i).st < (d.next.length : Int) := fun h => hI17.b.st i hI17.lo h
  refine run_seq ?_
  refine run_seq ?_
  refine run_reg (l := [0, 1, 2, 3]) rfl ?_
  refine p_v (v := .int .i64 i) rfl rfl rfl (x_move r17_7) ?_
  refine p_v (v := v_l) rfl rfl rfl (x_move r17_6) ?_
  have lb18 := S17.row_le (j := 2) rfl; simp only [maxLen] at lb18
  refine p_v (v := .int .i64 (l.length : Int)) rfl rfl rfl (x_len_own u165 rfl (e_len_own S17 (j := 2) rfl)) ?_
  refine p_v (v := .bool (decide (i < (l.length : Int)))) rfl rfl rfl (x_lss rfl rfl) ?_
  refine run_region_end ?_
  refine run_cond_prop (p := i < (l.length : Int)) rfl (fun hc19 => ?_) (fun hc19 => ?_)
  ·skip
   refine run_skip ?_
   refine run_seq ?_
   refine run_block ?_
   refine run_seq ?_
   refine run_reg (l := [0, 1, 2, 3, 4, 5]) rfl ?_
   refine p_v (v := v_l) rfl rfl rfl (x_move r17_6) ?_
   refine p_v (v := .int .i64 i) rfl rfl rfl (x_move r17_7) ?_
   obtain ⟨ad20, a20, at20⟩ := e_index_own (q := i) (m := 3) S17 (j := 2) rfl rfl (by first|omega|(simp;omega)|assumption|simp) (by first|omega|(simp;omega)|assumption|simp)
   refine p_v (v := .pointer (some ad20)) rfl rfl rfl (x_index_own u165 ty164 rfl rfl a20 (by first|omega|(simp;omega)|assumption|simp) (by first|omega|(simp;omega)|assumption|simp)) ?_
   refine p_v (v := .pointer (some (ad20.add 0))) rfl rfl rfl (x_fieldAd fd164_0 ty3 rfl rfl) ?_
   obtain ⟨seg21, rp21, cf21⟩ := e_load_own (q := i) S17 (j := 2) rfl rfl at20 (by first|omega|(simp;omega)|assumption|simp) (by first|omega|(simp;omega)|assumption|simp)
   obtain ⟨rfl, ok21⟩ := rp21
   have sslok21 := i64_lo ok21.1; have sshok21 := i64_hi ok21.1; have sflok21 := i64_lo ok21.2.1; have sfhok21 := i64_hi ok21.2.1; have sblok21 := u8_lo ok21.2.2; have sbhok21 := u8_hi ok21.2.2
   refine p_v (v := .int .i64 ((at_ l i).st)) rfl rfl rfl (x_load (seg := [.int .i64 ((at_ l i).st)]) ty3 rfl (by simp) rfl (CF.sub (o := 0) (m := 1) (ds := [.int .i64 ((at_ l i).st)]) cf21 rfl)) ?_
   refine p_v (v := .int .i64 ((at_ l i).st)) rfl rfl rfl (x_assign rfl) ?_
   refine run_region_end ?_
   refine run_seq ?_
   refine run_seq ?_
   refine run_reg (l := [0, 1, 2, 3, 4]) rfl ?_
   refine p_v (v := .pointer (some ⟨b1, 258, none⟩)) rfl rfl rfl (x_fieldAt fd35_2 ty25 rfl r17_1) ?_
   refine p_v (v := .slice A0_2 d.final.length c0_2) rfl rfl rfl (x_load (seg := [.slice A0_2 d.final.length c0_2]) ty25 rfl (by simp) rfl (CF.box (m := 1) (S17.box_at (j := 0) rfl) (seg_mid2 (a := (encPart d.part)) (pre := [.slice A0_1 d.next.length c0_1]) (seg := [.slice A0_2 d.final.length c0_2]) (post := []) (encPart_len o0_0) rfl rfl))) ?_
   refine p_v (v := .int .i64 ((at_ l i).st)) rfl rfl rfl (x_move rfl) ?_
   obtain ⟨ad22, seg22, a22, rp22, ce22⟩ := e_index_ro (q := (at_ l i).st) (m := 1) l0_2 rfl (by first|omega|(simp;omega)|assumption|simp) (by first|omega|(simp;omega)|assumption|simp)
   refine p_v (v := .pointer (some ad22)) rfl rfl rfl (x_index_ro u25 ty4 rfl rfl a22 (by first|omega|(simp;omega)|assumption|simp) (by first|omega|(simp;omega)|assumption|simp)) ?_
   obtain ⟨rfl, _⟩ := rp22
   refine p_v (v := .bool (at_ d.final ((at_ l i).st))) rfl rfl rfl (x_load (seg := [.bool (at_ d.final ((at_ l i).st))]) ty4 rfl (by simp) rfl (CF.ghost ce22 (St.le0 S17))) ?_
   refine run_region_end ?_
   refine run_cond_split (b := at_ d.final ((at_ l i).st)) rfl (fun hc23 => ?_) (fun hc23 => ?_)
   ·skip
    refine run_seq ?_
    refine run_reg (l := [0, 1, 2, 3, 4]) rfl ?_
    refine p_v (v := v_l) rfl rfl rfl (x_move r17_6) ?_
    refine p_v (v := .int .i64 i) rfl rfl rfl (x_move r17_7) ?_
    obtain ⟨A24, c24, ev24, lc24, cm24⟩ := S17.row_val (j := 2) rfl
    refine p_c rfl rfl rfl (y_call (args := [.slice A24 l.length c24, .int .i64 i]) ca123 rfl (cons_eq ev24 (cons_eq rfl rfl))) (word_calls w17 l A24 c24 (And.intro lc24 cm24) (row_leads_eq S17 (j := 2) rfl ev24) i f17_0 (by first | assumption | exact ⟨hch_, by omega, by omega, by omega⟩)) ?_
    rintro _ w25 ⟨h25, T25, rfl, sz25_0⟩
    have S26 := S17.keep (Chg.of_below T25.below)
    have bd_sz25_0 := sz25_0; simp only [maxLen] at bd_sz25_0
    refine p_v (v := .string (strOfNums (wordS l i))) rfl rfl rfl (x_assign rfl) ?_
    refine p_v (v := .bool true) rfl rfl rfl (x_assign rfl) ?_
    refine run_region_end ?_
    refine run_ret Tryd.func58 (res2 rfl (res_tmp (v := .string (strOfNums (wordS l i))) rfl) (res_tmp (v := .bool true) rfl)) ?_
    have q0 : (wordW (runD d) : ByteArray) = strOfNums (wordS l i) := by
     first | exact (word_no (fun w => runD_no (by assumption))).1 | exact (word_no (fun w => runD_no (by assumption))).2 | exact (word_is (bf_found hI17 o0_0 hr_ (by omega) (by assumption))).1 | exact (word_is (bf_found hI17 o0_0 hr_ (by omega) (by assumption))).2 | exact (word_no (bf_none hI17 o0_0 hr_ (by omega))).1 | exact (word_no (bf_none hI17 o0_0 hr_ (by omega))).2
    have q1 : (okW (runD d) : Bool) = true := by
     first | exact (word_no (fun w => runD_no (by assumption))).1 | exact (word_no (fun w => runD_no (by assumption))).2 | exact (word_is (bf_found hI17 o0_0 hr_ (by omega) (by assumption))).1 | exact (word_is (bf_found hI17 o0_0 hr_ (by omega) (by assumption))).2 | exact (word_no (bf_none hI17 o0_0 hr_ (by omega))).1 | exact (word_no (bf_none hI17 o0_0 hr_ (by omega))).2
    refine ⟨_, rfl, h17, ?_, ?_, ?_, ?_⟩
    · exact S26.sub [] (by decide) rfl _ rfl
    · first | rfl | (simp only [q0, q1]; rfl) | (simp only [q0, q1])
    · rw [q0]; first | assumption | exact sz25_0
    ·show (okW (runD d) = true → ((wordW (runD d)).size : Int) < d.next.length) ∧ (okW (runD d) = false → ∀ w, runD d w = false)
     first | exact bf_size0 (fun w => runD_no (by assumption)) | exact bf_size hI17 o0_0 hr_ (by omega) (by assumption) | exact bf_size0 (bf_none hI17 o0_0 hr_ (by omega))
   ·skip
    refine run_skip ?_
    refine run_seq ?_
    refine run_reg (l := [0, 1, 2, 3, 4, 5, 6]) rfl ?_
    refine p_v (v := .pointer (some ⟨b1, 257, none⟩)) rfl rfl rfl (x_fieldAt fd35_1 ty24 rfl r17_1) ?_
    refine p_v (v := .slice A0_1 d.next.length c0_1) rfl rfl rfl (x_load (seg := [.slice A0_1 d.next.length c0_1]) ty24 rfl (by simp) rfl (CF.box (m := 1) (S17.box_at (j := 0) rfl) (seg_mid2 (a := (encPart d.part)) (pre := []) (seg := [.slice A0_1 d.next.length c0_1]) (post := [.slice A0_2 d.final.length c0_2]) (encPart_len o0_0) rfl rfl))) ?_
    refine p_v (v := .int .i64 ((at_ l i).st)) rfl rfl rfl (x_move rfl) ?_
    obtain ⟨ad27, seg27, a27, rp27, ce27⟩ := e_index_ro (q := (at_ l i).st) (m := 1) l0_1 rfl (by first|omega|(simp;omega)|assumption|simp) (by first|omega|(simp;omega)|assumption|simp)
    refine p_v (v := .pointer (some ad27)) rfl rfl rfl (x_index_ro u24 ty23 rfl rfl a27 (by first|omega|(simp;omega)|assumption|simp) (by first|omega|(simp;omega)|assumption|simp)) ?_
    obtain ⟨A27, c27, rfl, lc27, cm27, ld27⟩ := rp27
    have cn27 := cm27; simp only [maxLen] at cn27
    refine p_v (v := .slice A27 (at_ d.next ((at_ l i).st)).length c27) rfl rfl rfl (x_load (seg := [.slice A27 (at_ d.next ((at_ l i).st)).length c27]) ty23 rfl (by simp) rfl (CF.ghost ce27 (St.le0 S17))) ?_
    refine p_v (v := .int .i64 ((at_ d.next ((at_ l i).st)).length : Int)) rfl rfl rfl (x_len_slice u23 rfl) ?_
    refine p_v (v := .int .i64 0) rfl rfl rfl (x_move rfl) ?_
    refine run_region_end ?_
    refine run_block ?_
    refine run_loop (S := (List Bool) × (List StepM) × Int) (fun (q_ : (List Bool) × (List StepM) × Int) ρ w' => match q_ with | (seen2, l2, t50) => ∃ (h : Ghost) (v_seen2 : Value) (v_l2 : Value), Le h17 h ∧ St w.heap.size w h w' [box b1 35 ((encPart d.part) ++ ([.slice A0_1 d.next.length c0_1, .slice A0_2 d.final.length c0_2] : List Value)), row 4 Kd.bool v_seen2 seen2, row 164 kStep v_l2 l2] ∧ ρ 1 = .pointer (some ⟨b1, 0, none⟩) ∧ ρ 4 = .slice A8 (leastP d.part 1).length c8 ∧ ρ 5 = v_seen2 ∧ ρ 6 = v_l2 ∧ ρ 7 = .int .i64 i ∧ ρ 48 = .slice A27 (at_ d.next ((at_ l i).st)).length c27 ∧ ρ 49 = .int .i64 ((at_ d.next ((at_ l i).st)).length : Int) ∧ ρ 50 = .int .i64 t50 ∧ inK .i64 t50 ∧ (BfK d seen2 l2 i t50 ∧ at_ l2 i = at_ l i)) (fun q_ => match q_ with | (seen2, l2, t50) => (d.part.n - t50).toNat) (seen, l, 0) ⟨h17, v_seen, v_l, Le.refl _, S17.sub [0, 1, 2] (by decide) rfl _ rfl, r17_1, r17_4, r17_5, r17_6, r17_7, rfl, rfl, rfl, (in_i64 (by first|omega|(simp;omega)|assumption|simp) (by first|omega|(simp;omega)|assumption|simp)), (by exact ⟨bf_k0 hI17 hD_ (by omega) (by assumption), rfl⟩)⟩ ?_
    rintro ⟨seen2, l2, t50⟩ ih28 ρ28 w28 ⟨h28, v_seen2, v_l2, le28, S28, r28_1, r28_4, r28_5, r28_6, r28_7, r28_48, r28_49, r28_50, f28_0, hI28⟩
    have lf28_0 := i64_lo f28_0; have hf28_0 := i64_hi f28_0
    have rl28_1 := S28.row_le (j := 1) rfl; simp only [maxLen] at rl28_1
    have rl28_2 := S28.row_le (j := 2) rfl; simp only [maxLen] at rl28_2
    have hk0_ := hI28.1.k0; have hk1_ := hI28.1.k1; have hle1_ := bf_len hI28.1.b; have hsl1_ := hI28.1.b.slen; have hhi1_ := hI28.1.hi
    have hrow_ : ((at_ d.next (at_ l i).st).length : Int) = d.part.n := hD_.row _ (hst_ (by omega)).1 (hst_ (by omega)).2
    have hcell_ : t50 < d.part.n → 0 ≤ at_ (at_ d.next (at_ l i).st) t50 ∧ at_ (at_ d.next (at_ l i).st) t50 < (d.next.length : Int) := fun h => hD_.cell _ (hst_ (by omega)).1 (hst_ (by omega)).2 _ (at_mem hI28.1.k0 (by omega))
    have hlo_ : t50 < d.part.n → ((at_ (leastP d.part 1) t50).length : Int) = 1 := fun h => (least_at_one hD_.part hI28.1.k0 h).1
    refine run_seq ?_
    refine run_reg (l := [0]) rfl ?_
    refine p_v (v := .bool (decide (t50 < ((at_ d.next ((at_ l i).st)).length : Int)))) rfl rfl rfl (x_lss r28_50 r28_49) ?_
    refine run_region_end ?_
    refine run_seq ?_
    refine run_cond_prop (p := t50 < ((at_ d.next ((at_ l i).st)).length : Int)) rfl (fun hc29 => ?_) (fun hc29 => ?_)
    ·skip
     refine run_skip ?_
     refine run_seq ?_
     refine run_block ?_
     refine run_seq ?_
     refine run_reg (l := [0, 1, 2, 3, 4]) rfl ?_
     refine p_v (v := .int .i64 t50) rfl rfl rfl (x_move r28_50) ?_
     obtain ⟨ad30, seg30, a30, rp30, ce30⟩ := e_index_ro (q := t50) (m := 1) ld27 rfl (by first|omega|(simp;omega)|assumption|simp) (by first|omega|(simp;omega)|assumption|simp)
     refine p_v (v := .pointer (some ad30)) rfl rfl rfl (x_index_ro u23 ty3 r28_48 r28_50 a30 (by first|omega|(simp;omega)|assumption|simp) (by first|omega|(simp;omega)|assumption|simp)) ?_
     obtain ⟨rfl, in30⟩ := rp30
     have lo30 := i64_lo in30; have hi30 := i64_hi in30
     refine p_v (v := .int .i64 (at_ (at_ d.next ((at_ l i).st)) t50)) rfl rfl rfl (x_load (seg := [.int .i64 (at_ (at_ d.next ((at_ l i).st)) t50)]) ty3 rfl (by simp) rfl (CF.ghost ce30 (St.le0 S28))) ?_
     refine p_v (v := .int .i64 t50) rfl rfl rfl (x_assign rfl) ?_
     refine p_v (v := .int .i64 (at_ (at_ d.next ((at_ l i).st)) t50)) rfl rfl rfl (x_assign rfl) ?_
     refine run_region_end ?_
     refine run_seq ?_
     refine run_reg (l := [0, 1, 2, 3, 4]) rfl ?_
     refine p_v (v := v_seen2) rfl rfl rfl (x_move r28_5) ?_
     refine p_v (v := .int .i64 (at_ (at_ d.next ((at_ l i).st)) t50)) rfl rfl rfl (x_move rfl) ?_
     obtain ⟨ad31, a31, at31⟩ := e_index_own (q := at_ (at_ d.next ((at_ l i).st)) t50) (m := 1) S28 (j := 1) rfl rfl (by first|omega|(simp;omega)|assumption|simp) (by first|omega|(simp;omega)|assumption|simp)
     refine p_v (v := .pointer (some ad31)) rfl rfl rfl (x_index_own u25 ty4 rfl rfl a31 (by first|omega|(simp;omega)|assumption|simp) (by first|omega|(simp;omega)|assumption|simp)) ?_
     obtain ⟨seg32, rp32, cf32⟩ := e_load_own (q := at_ (at_ d.next ((at_ l i).st)) t50) S28 (j := 1) rfl rfl at31 (by first|omega|(simp;omega)|assumption|simp) (by first|omega|(simp;omega)|assumption|simp)
     obtain ⟨rfl, _⟩ := rp32
     refine p_v (v := .bool (at_ seen2 (at_ (at_ d.next ((at_ l i).st)) t50))) rfl rfl rfl (x_load (seg := [.bool (at_ seen2 (at_ (at_ d.next ((at_ l i).st)) t50))]) ty4 rfl (by simp) rfl cf32) ?_
     refine p_v (v := .bool (!(at_ seen2 (at_ (at_ d.next ((at_ l i).st)) t50)))) rfl rfl rfl (x_not rfl) ?_
     refine run_region_end ?_
     refine run_cond_nsplit (b := at_ seen2 (at_ (at_ d.next ((at_ l i).st)) t50)) rfl (fun hc33 => ?_) (fun hc33 => ?_)
     ·skip
      refine run_seq ?_
      refine run_reg (l := [0, 1, 2, 3]) rfl ?_
      refine p_v (v := v_seen2) rfl rfl rfl (x_move r28_5) ?_
      refine p_v (v := .int .i64 (at_ (at_ d.next ((at_ l i).st)) t50)) rfl rfl rfl (x_move rfl) ?_
      obtain ⟨ad34, a34, at34⟩ := e_index_own (q := at_ (at_ d.next ((at_ l i).st)) t50) (m := 1) S28 (j := 1) rfl rfl (by first|omega|(simp;omega)|assumption|simp) (by first|omega|(simp;omega)|assumption|simp)
      refine p_v (v := .pointer (some ad34)) rfl rfl rfl (x_index_own u25 ty4 rfl rfl a34 (by first|omega|(simp;omega)|assumption|simp) (by first|omega|(simp;omega)|assumption|simp)) ?_
      obtain ⟨w35, r35, g35, T35⟩ := e_store_own (u := .bool true) (q := at_ (at_ d.next ((at_ l i).st)) t50) true (vs := [.bool true]) S28 ty4 rfl (j := 1) rfl rfl ⟨rfl, trivial⟩ at34 (by first|omega|(simp;omega)|assumption|simp) (by first|omega|(simp;omega)|assumption|simp)
      have S36 := T35.fx 1 (row 4 Kd.bool v_seen2 (seen2.set (at_ (at_ d.next ((at_ l i).st)) t50).toNat true)) rfl
      dsimp only [lAa, lAn, lA0, lAs] at S36
      refine p_s rfl rfl (x_store rfl rfl r35) ?_
      refine run_region_end ?_
      refine run_reg (l := [0, 1, 2, 3, 4, 5, 6, 7, 8, 9, 10, 11, 12]) rfl ?_
      refine p_v (v := v_l2) rfl rfl rfl (x_move r28_6) ?_
      refine p_v (v := .int .i64 (at_ (at_ d.next ((at_ l i).st)) t50)) rfl rfl rfl (x_move rfl) ?_
      refine p_v (v := .int .i64 i) rfl rfl rfl (x_move r28_7) ?_
      refine p_v (v := .slice A8 (leastP d.part 1).length c8) rfl rfl rfl (x_move r28_4) ?_
      refine p_v (v := .int .i64 t50) rfl rfl rfl (x_move rfl) ?_
      obtain ⟨ad37, seg37, a37, rp37, ce37⟩ := e_index_ro (q := t50) (m := 1) ld8 rfl (by first|omega|(simp;omega)|assumption|simp) (by first|omega|(simp;omega)|assumption|simp)
      refine p_v (v := .pointer (some ad37)) rfl rfl rfl (x_index_ro u124 ty39 rfl rfl a37 (by first|omega|(simp;omega)|assumption|simp) (by first|omega|(simp;omega)|assumption|simp)) ?_
      obtain ⟨A37, c37, rfl, lc37, cm37, ld37⟩ := rp37
      have cn37 := cm37; simp only [maxLen] at cn37
      refine p_v (v := .slice A37 (at_ (leastP d.part 1) t50).length c37) rfl rfl rfl (x_load (seg := [.slice A37 (at_ (leastP d.part 1) t50).length c37]) ty39 rfl (by simp) rfl (CF.ghost ce37 (((le17).trans le28).trans S36.ghost))) ?_
      obtain ⟨ad38, seg38, a38, rp38, ce38⟩ := e_index_ro (q := (0 : Int)) (m := 1) ld37 rfl (by first|omega|(simp;omega)|assumption|simp) (by first|omega|(simp;omega)|assumption|simp)
      refine p_v (v := .pointer (some ad38)) rfl rfl rfl (x_index_ro u39 ty5 rfl rfl a38 (by first|omega|(simp;omega)|assumption|simp) (by first|omega|(simp;omega)|assumption|simp)) ?_
      obtain ⟨rfl, in38⟩ := rp38
      have lo38 := u8_lo in38; have hi38 := u8_hi in38
      refine p_v (v := .int .u8 (at_ (at_ (leastP d.part 1) t50) (0 : Int))) rfl rfl rfl (x_load (seg := [.int .u8 (at_ (at_ (leastP d.part 1) t50) (0 : Int))]) ty5 rfl (by simp) rfl (CF.ghost ce38 (((le17).trans le28).trans S36.ghost))) ?_
      refine p_v (v := .agg (encStep (⟨at_ (at_ d.next ((at_ l i).st)) t50, i, at_ (at_ (leastP d.part 1) t50) (0 : Int)⟩ : StepM)).toArray) rfl rfl rfl (y_build (pv := [(0, .int .i64 (at_ (at_ d.next ((at_ l i).st)) t50)), (1, .int .i64 i), (2, .int .u8 (at_ (at_ (leastP d.part 1) t50) (0 : Int)))]) rfl (run_build_struct pl164 ty164 rfl (cs := (encStep (⟨at_ (at_ d.next ((at_ l i).st)) t50, i, at_ (at_ (leastP d.part 1) t50) (0 : Int)⟩ : StepM))) rfl)) ?_
      obtain ⟨v39, w39, r39, g39, T39⟩ := e_build_segs (kd := kStep) (xs := ([(⟨at_ (at_ d.next ((at_ l i).st)) t50, i, at_ (at_ (leastP d.part 1) t50) (0 : Int)⟩ : StepM)] : List StepM)) (len := 1) (m := 3) [(.agg (encStep (⟨at_ (at_ d.next ((at_ l i).st)) t50, i, at_ (at_ (leastP d.part 1) t50) (0 : Int)⟩ : StepM)).toArray, (encStep (⟨at_ (at_ d.next ((at_ l i).st)) t50, i, at_ (at_ (leastP d.part 1) t50) (0 : Int)⟩ : StepM)))] S36 u165 ty164 rfl rfl rfl rfl (segs_cons rfl rfl segs_nil) (cs := (encStep (⟨at_ (at_ d.next ((at_ l i).st)) t50, i, at_ (at_ (leastP d.part 1) t50) (0 : Int)⟩ : StepM))) (Elems.single (k := kStep) (h := h28) (x := (⟨at_ (at_ d.next ((at_ l i).st)) t50, i, at_ (at_ (leastP d.part 1) t50) (0 : Int)⟩ : StepM)) (cs := (encStep (⟨at_ (at_ d.next ((at_ l i).st)) t50, i, at_ (at_ (leastP d.part 1) t50) (0 : Int)⟩ : StepM))) ⟨rfl, (by first | assumption | exact ⟨in_i64 (by omega) (by omega), in_i64 (by omega) (by omega), in_u8 (by omega) (by omega)⟩ | exact ⟨in_i64 (by decide) (by decide), in_i64 (by decide) (by decide), in_u8 (by decide) (by decide)⟩)⟩) (by simp)
      have S40 := T39
      dsimp only [lAa, lAn, lA0, lAs] at S40
      refine p_v (v := v39) rfl rfl rfl (y_build_slice (pv := [(0, .agg (encStep (⟨at_ (at_ d.next ((at_ l i).st)) t50, i, at_ (at_ (leastP d.part 1) t50) (0 : Int)⟩ : StepM)).toArray)]) rfl r39) ?_
      obtain ⟨A42, c42, ev42, lc42, cm42⟩ := S40.row_val (j := 3) rfl
      obtain ⟨v43, w43, r43, g43, T43⟩ := e_append (kd := kStep) (A := A42) (c := c42) (ys := ([(⟨at_ (at_ d.next ((at_ l i).st)) t50, i, at_ (at_ (leastP d.part 1) t50) (0 : Int)⟩ : StepM)] : List StepM)) (len := ([(⟨at_ (at_ d.next ((at_ l i).st)) t50, i, at_ (at_ (leastP d.part 1) t50) (0 : Int)⟩ : StepM)] : List StepM).length) 165 S40 u165 ty164 rfl rfl (j := 2) rfl rfl (news_own S40 (j := 3) rfl ev42) (by first|omega|(simp;omega)|assumption|simp) (by first|omega|(simp;omega)|assumption|simp)
      have S44 := T43.fx 2 (row 164 kStep v43 (l2 ++ ([(⟨at_ (at_ d.next ((at_ l i).st)) t50, i, at_ (at_ (leastP d.part 1) t50) (0 : Int)⟩ : StepM)] : List StepM))) rfl
      dsimp only [lAa, lAn, lA0, lAs] at S44
      refine p_v (v := v43) rfl rfl rfl (x_append rfl ev42 r43) ?_
      refine p_v (v := v43) rfl rfl rfl (x_assign rfl) ?_
      refine run_region_end ?_
      refine run_inBlock ?_
      refine run_reg (l := [0, 1]) rfl ?_
      refine p_v (v := .int .i64 (t50 + 1)) rfl rfl rfl (x_add r28_50 rfl (in_i64 (by first|omega|(simp;omega)|assumption|simp) (by first|omega|(simp;omega)|assumption|simp))) ?_
      refine p_v (v := .int .i64 (t50 + 1)) rfl rfl rfl (x_move rfl) ?_
      refine run_region_end ?_
      refine ih28 (seen2.set (at_ (at_ d.next ((at_ l i).st)) t50).toNat true, l2 ++ ([(⟨at_ (at_ d.next ((at_ l i).st)) t50, i, at_ (at_ (leastP d.part 1) t50) (0 : Int)⟩ : StepM)] : List StepM), t50 + 1) _ _ (by dsimp only; omega) ⟨h28, v_seen2, v43, le28, S44.sub [0, 1, 2] (by decide) rfl _ rfl, r28_1, r28_4, r28_5, rfl, r28_7, r28_48, r28_49, rfl, (in_i64 (by first|omega|(simp;omega)|assumption|simp) (by first|omega|(simp;omega)|assumption|simp)), (by first | exact ⟨bf_old hI28.1 o0_0 hD_ (by omega) (by rw [hI28.2]; assumption), hI28.2⟩ | exact ⟨by rw [(least_at_one hD_.part hI28.1.k0 (by omega)).2, ← hI28.2]; exact bf_new hI28.1 o0_0 hD_ (by omega) (by rw [hI28.2]; assumption), (at_app1 _ _ hI17.lo (by omega)).trans hI28.2⟩)⟩
     ·skip
      refine run_skip ?_
      refine run_inBlock ?_
      refine run_reg (l := [0, 1]) rfl ?_
      refine p_v (v := .int .i64 (t50 + 1)) rfl rfl rfl (x_add r28_50 rfl (in_i64 (by first|omega|(simp;omega)|assumption|simp) (by first|omega|(simp;omega)|assumption|simp))) ?_
      refine p_v (v := .int .i64 (t50 + 1)) rfl rfl rfl (x_move rfl) ?_
      refine run_region_end ?_
      refine ih28 (seen2, l2, t50 + 1) _ _ (by dsimp only; omega) ⟨h28, v_seen2, v_l2, le28, S28.sub [0, 1, 2] (by decide) rfl _ rfl, r28_1, r28_4, r28_5, r28_6, r28_7, r28_48, r28_49, rfl, (in_i64 (by first|omega|(simp;omega)|assumption|simp) (by first|omega|(simp;omega)|assumption|simp)), (by first | exact ⟨bf_old hI28.1 o0_0 hD_ (by omega) (by rw [hI28.2]; assumption), hI28.2⟩ | exact ⟨by rw [(least_at_one hD_.part hI28.1.k0 (by omega)).2, ← hI28.2]; exact bf_new hI28.1 o0_0 hD_ (by omega) (by rw [hI28.2]; assumption), (at_app1 _ _ hI17.lo (by omega)).trans hI28.2⟩)⟩
    ·skip
     refine run_exit rfl ?_
     refine run_inBlock ?_
     refine run_reg (l := [0, 1, 2]) rfl ?_
     refine p_v (v := .int .i64 i) rfl rfl rfl (x_move r28_7) ?_
     refine p_v (v := .int .i64 (i + 1)) rfl rfl rfl (x_add rfl rfl (in_i64 (by first|omega|(simp;omega)|assumption|simp) (by first|omega|(simp;omega)|assumption|simp))) ?_
     refine p_v (v := .int .i64 (i + 1)) rfl rfl rfl (x_assign rfl) ?_
     refine run_region_end ?_
     refine ih17 (seen2, l2, i + 1) _ _ (by dsimp only; omega) ⟨h28, v_seen2, v_l2, ((le17).trans le28), S28.sub [0, 1, 2] (by decide) rfl _ rfl, r28_1, r28_4, r28_5, r28_6, rfl, (in_i64 (by first|omega|(simp;omega)|assumption|simp) (by first|omega|(simp;omega)|assumption|simp)), (by exact bf_next (by have hz_ := hI28.1; rw [show t50 = d.part.n by omega] at hz_; exact hz_))⟩
  ·skip
   refine run_exit rfl ?_
   refine run_seq ?_
   refine run_reg (l := [0, 1]) rfl ?_
   refine p_v (v := .string (⟨#[]⟩ : ByteArray)) rfl rfl rfl (x_assign rfl) ?_
   refine p_v (v := .bool false) rfl rfl rfl (x_assign rfl) ?_
   refine run_region_end ?_
   refine run_ret Tryd.func58 (res2 rfl (res_tmp (v := .string (⟨#[]⟩ : ByteArray)) rfl) (res_tmp (v := .bool false) rfl)) ?_
   have q0 : (wordW (runD d) : ByteArray) = (⟨#[]⟩ : ByteArray) := by
    first | exact (word_no (fun w => runD_no (by assumption))).1 | exact (word_no (fun w => runD_no (by assumption))).2 | exact (word_is (bf_found hI17 o0_0 hr_ (by omega) (by assumption))).1 | exact (word_is (bf_found hI17 o0_0 hr_ (by omega) (by assumption))).2 | exact (word_no (bf_none hI17 o0_0 hr_ (by omega))).1 | exact (word_no (bf_none hI17 o0_0 hr_ (by omega))).2
   have q1 : (okW (runD d) : Bool) = false := by
    first | exact (word_no (fun w => runD_no (by assumption))).1 | exact (word_no (fun w => runD_no (by assumption))).2 | exact (word_is (bf_found hI17 o0_0 hr_ (by omega) (by assumption))).1 | exact (word_is (bf_found hI17 o0_0 hr_ (by omega) (by assumption))).2 | exact (word_no (bf_none hI17 o0_0 hr_ (by omega))).1 | exact (word_no (bf_none hI17 o0_0 hr_ (by omega))).2
   refine ⟨_, rfl, h17, ?_, ?_, ?_, ?_⟩
   · exact S17.sub [] (by decide) rfl _ rfl
   · first | rfl | (simp only [q0, q1]; rfl) | (simp only [q0, q1])
   · rw [q0]; first | assumption | exact (by decide)
   ·show (okW (runD d) = true → ((wordW (runD d)).size : Int) < d.next.length) ∧ (okW (runD d) = false → ∀ w, runD d w = false)
    first | exact bf_size0 (fun w => runD_no (by assumption)) | exact bf_size hI17 o0_0 hr_ (by omega) (by assumption) | exact bf_size0 (bf_none hI17 o0_0 hr_ (by omega))
theorem emptyD_calls (w : World) (d : Dfa) (o0_0 : okPart d.part) (A0_1 : Option Addr) (c0_1 : Nat) (b0_1 : d.next.length ≤ c0_1 ∧ c0_1 ≤ maxLen) (l0_1 : Leads (Kd.int .i64).slice (hp w) A0_1 d.next) (A0_2 : Option Addr) (c0_2 : Nat) (b0_2 : d.final.length ≤ c0_2 ∧ c0_2 ≤ maxLen) (l0_2 : Leads Kd.bool (hp w) A0_2 d.final) (pre0 : (d.next.length : Int) ≤ 1048577) (tb : Block 0 tzTab w) :
    Calls Tryd.prog 59 #[.agg ((encPart d.part) ++ ([.slice A0_1 d.next.length c0_1, .slice A0_2 d.final.length c0_2] : List Value)).toArray] w fun e w' => ∃ v, e = .returned v ∧ ∃ (hn : Ghost), St w.heap.size w hn w' [] ∧ v = .bool (!okW (runD d)) := by
 refine calls_of_run Tryd.func59 rfl Tryd.ntmps59 rfl ?_
 have S0 := St.init w
 have ploo0_0 := i64_lo o0_0.2; have phio0_0 := i64_hi o0_0.2
 have bb0_1 := b0_1.1; have bc0_1 := b0_1.2; simp only [maxLen] at bc0_1
 have bb0_2 := b0_2.1; have bc0_2 := b0_2.2; simp only [maxLen] at bc0_2
 refine run_seq ?_
 refine run_reg (l := [0, 1]) rfl ?_
 obtain ⟨b1, w1, r1, g1, T1⟩ := e_box (P := Tryd.prog) S0 35 (v := .agg ((encPart d.part) ++ ([.slice A0_1 d.next.length c0_1, .slice A0_2 d.final.length c0_2] : List Value)).toArray) ((encPart d.part) ++ ([.slice A0_1 d.next.length c0_1, .slice A0_2 d.final.length c0_2] : List Value)) rfl
 have S2 := T1
 dsimp only [lAa, lAn, lA0, lAs] at S2
 refine p_v (v := .pointer (some ⟨b1, 0, none⟩)) rfl rfl rfl (x_box rfl r1) ?_
 refine p_v (v := .bool false) rfl rfl rfl (x_assign rfl) ?_
 refine run_region_end ?_
 refine run_seq ?_
 refine run_reg (l := [0, 1, 2, 3, 4, 5, 6]) rfl ?_
 refine p_v (v := .agg ((encPart d.part) ++ ([.slice A0_1 d.next.length c0_1, .slice A0_2 d.final.length c0_2] : List Value)).toArray) rfl rfl rfl (x_load (seg := ((encPart d.part) ++ ([.slice A0_1 d.next.length c0_1, .slice A0_2 d.final.length c0_2] : List Value))) ty35 (len_app (encPart_len o0_0) rfl) (by simp) rfl (CF.box (m := 259) (S2.box_at (j := 0) rfl) (take_all (len_app (encPart_len o0_0) rfl)))) ?_
 refine p_c rfl rfl rfl (y_call (args := [.agg ((encPart d.part) ++ ([.slice A0_1 d.next.length c0_1, .slice A0_2 d.final.length c0_2] : List Value)).toArray]) ca58 rfl rfl) (wordD_calls w1 d o0_0 A0_1 c0_1 b0_1 (l0_1.mono (St.le0 S2)) A0_2 c0_2 b0_2 (l0_2.mono (St.le0 S2)) (by first | assumption | omega | decide) (Block.st S2 tb)) ?_
 rintro _ w3 ⟨h3, T3, rfl, sz3_0, fx3⟩
 have S4 := S2.keep (Chg.of_below T3.below)
 have bd_sz3_0 := sz3_0; simp only [maxLen] at bd_sz3_0
 have hwA_ := fx3.1; have hwB_ := fx3.2
 refine p_v (v := .tuple #[.string (wordW (runD d)), .bool (okW (runD d))]) rfl rfl rfl (x_move rfl) ?_
 refine p_v (v := .string (wordW (runD d))) rfl rfl rfl (x_extract (vs := [.string (wordW (runD d)), .bool (okW (runD d))]) rfl rfl) ?_
 refine p_v (v := .bool (okW (runD d))) rfl rfl rfl (x_extract (vs := [.string (wordW (runD d)), .bool (okW (runD d))]) rfl rfl) ?_
 refine p_v (v := .string (wordW (runD d))) rfl rfl rfl (x_assign rfl) ?_
 refine p_v (v := .bool (okW (runD d))) rfl rfl rfl (x_assign rfl) ?_
 refine run_region_end ?_
 refine run_seq ?_
 refine run_reg (l := [0, 1, 2]) rfl ?_
 refine p_v (v := .bool (okW (runD d))) rfl rfl rfl (x_move rfl) ?_
 refine p_v (v := .bool (!(okW (runD d)))) rfl rfl rfl (x_not rfl) ?_
 refine p_v (v := .bool (!(okW (runD d)))) rfl rfl rfl (x_assign rfl) ?_
 refine run_region_end ?_
 refine run_ret Tryd.func59 (res1 rfl (res_tmp (v := .bool (!(okW (runD d)))) rfl)) ?_
 have q0 : (!okW (runD d) : Bool) = !(okW (runD d)) := by
  rfl
 refine ⟨_, rfl, (fun _ => none), ?_, ?_⟩
 · exact S4.sub [] (by decide) rfl _ rfl
 · first | rfl | (simp only [q0]; rfl) | (simp only [q0])
end Go.Proofs.YtfoemogojbnfhaaDoor
namespace Gx
open Go Go.RowKit
set_option linter.unusedSimpArgs false
set_option linter.unusedSectionVars false
set_option linter.unusedVariables false
section
variable {P : Program} {w : World} {ρ : Env} {d : Option Nat} {x y : Operand} {ty : TypeId} {pos : String} {af : Array Edge} {g : Option (Nat × Bool)}
theorem x_add_str {a b : ByteArray} {t t2 : TypeId} (hx : ev ρ x = .string a) (hy : ev ρ y = .string b) (h : a.size + b.size ≤ 9223372036854775807) : (execOp (ev ρ) ⟨d, .binOp .add t x y t2, ty, pos, af, g⟩).run P w = .ok (.value (.string (a ++ b))) w := by
  simp [execOp, hx, hy, eqGuard, binOp, run_string_add_sum (P := P) w a b h, go_sem]
end
structure WayI (m : Mach) (src : List Int) (to' : Int) (texts : List ByteArray) (seen : List Bool) (todo : List Int) (i : Int) : Prop where
  way : Way m src texts seen todo
  done : ∀ k : Int, 0 ≤ k → k < i → k < (todo.length : Int) → (∀ x ∈ at_ m.follow (at_ todo k), x ∈ todo) ∧ at_ todo k ≠ to'
structure WayK (m : Mach) (src : List Int) (to' a : Int) (texts : List ByteArray) (seen : List Bool) (todo : List Int) (i k : Int) : Prop where
  base : WayI m src to' texts seen todo i
  lo : 0 ≤ i
  hi : i < (todo.length : Int)
  cur : at_ todo i = a
  row : ∀ q : Int, 0 ≤ q → q < k → q < ((at_ m.follow a).length : Int) → at_ (at_ m.follow a) q ∈ todo
theorem WayK.inn {m : Mach} {src : List Int} {to' a : Int} {texts : List ByteArray} {seen : List Bool} {todo : List Int} {i k : Int} (W : WayK m src to' a texts seen todo i k) : 0 ≤ a ∧ a < (m.spots.length : Int) := by
  rw [← W.cur]; exact W.base.way.inn _ (at_mem W.lo W.hi)
theorem WayK.size {m : Mach} {src : List Int} {to' a : Int} {texts : List ByteArray} {seen : List Bool} {todo : List Int} {i k : Int} (W : WayK m src to' a texts seen todo i k) : ((at_ texts a).size : Int) ≤ m.spots.length := by
  rw [← W.cur]; exact way_size W.base.way W.lo W.hi
end Gx
