/- My own library for walks through the translated code, and the walks of the functions that the law DfaBuilds comes to, part 3; no conditions but those that each contract tells. -/
import Derived.Laws.BytesArg
import Derived.Laws.Pointers
import Derived.Test.YtfoemogojbnfhaaDoorProg
import Derived.KernelRfl
import Derived.Test.YtfoemogojbnfhaaDoorLDfaBuilds1
namespace Gx
open Go Go.RowKit
set_option linter.unusedSimpArgs false
set_option linter.unusedSectionVars false
set_option linter.unusedVariables false
def trues (n : Nat) (l : List Bool) : Nat := (List.range n).countP fun i => at_ l ((i : Nat) : Int)
theorem trues_le (n : Nat) (l : List Bool) : trues n l ≤ n := by
  have := List.countP_le_length (p := fun i : Nat => at_ l ((i : Nat) : Int)) (l := List.range n)
  simpa [trues] using this
def Sub (n : Nat) (a b : List Bool) : Prop := ∀ i : Nat, i < n → at_ a ((i : Nat) : Int) = true → at_ b ((i : Nat) : Int) = true
theorem Sub.trans {n : Nat} {a b c : List Bool} (h : Sub n a b) (h2 : Sub n b c) : Sub n a c := fun i hi hx => h2 i hi (h i hi hx)
theorem marks_ext {n : Nat} {a b : List Bool} (ha : a.length = n) (hb : b.length = n) (h : ∀ i : Nat, i < n → at_ a ((i : Nat) : Int) = at_ b ((i : Nat) : Int)) : a = b :=
  list_ext ha hb fun k h0 h1 => by have := h k.toNat (by omega); rwa [Int.toNat_of_nonneg h0] at this
theorem mark_set_at {l : List Bool} {t : Int} (h0 : 0 ≤ t) (h1 : t < (l.length : Int)) (v : Bool) (i : Nat) : at_ (l.set t.toNat v) ((i : Nat) : Int) = if ((i : Nat) : Int) = t then v else at_ l ((i : Nat) : Int) := by
  unfold at_
  rw [List.getD_eq_getElem?_getD, List.getElem?_set, List.getD_eq_getElem?_getD, Int.toNat_natCast]
  by_cases h : ((i : Nat) : Int) = t
  · rw [if_pos h, if_pos (by omega), if_pos (by omega)]; rfl
  · rw [if_neg h, if_neg (by omega)]
theorem sub_set {n : Nat} {l : List Bool} {t : Int} (h0 : 0 ≤ t) (h1 : t < (l.length : Int)) : Sub n l (l.set t.toNat true) := fun i hi h => by
  rw [mark_set_at h0 h1]; split
  · rfl
  · exact h
def lfpTo (n : Nat) (F : List Bool → Nat → Bool) : Nat → List Bool
  | 0 => tab n fun _ => false
  | k + 1 => tab n (F (lfpTo n F k))
def lfp (n : Nat) (F : List Bool → Nat → Bool) : List Bool := lfpTo n F n
theorem sub_antisymm {n : Nat} {a b : List Bool} (ha : a.length = n) (hb : b.length = n) (h : Sub n a b) (h2 : Sub n b a) : a = b :=
  marks_ext ha hb fun i hi => by
    rw [Bool.eq_iff_iff]; exact ⟨h i hi, h2 i hi⟩
end Gx
namespace Gx
open Go Go.RowKit
set_option linter.unusedSimpArgs false
set_option linter.unusedSectionVars false
set_option linter.unusedVariables false
section
variable {α : Type} [Inhabited α] [DecidableEq α] {a b : List α} {t : Int}
theorem eq_step (h0 : 0 ≤ t) (h1 : t < (a.length : Int)) (hl : (a.length : Int) = b.length) (h : a.take t.toNat = b.take t.toNat) (he : at_ a t = at_ b t) : a.take (t + 1).toNat = b.take (t + 1).toNat := by
  rw [zdk a h0 h1, zdk b h0 (by omega), h, he]
theorem eq_no1 (h : (a.length : Int) ≠ b.length) : decide (a = b) = false := decide_eq_false fun e => h (by rw [e])
theorem eq_no2 (he : at_ a t ≠ at_ b t) : decide (a = b) = false := decide_eq_false fun e => he (by rw [e])
theorem eq_yes (ht : (a.length : Int) ≤ t) (hl : (a.length : Int) = b.length) (h : a.take t.toNat = b.take t.toNat) : decide (a = b) = true := by
  rw [List.take_of_length_le (by omega), List.take_of_length_le (by omega)] at h
  exact decide_eq_true h
end
structure Small (m : Mach) : Prop where
  spots : (m.spots.length : Int) ≤ 250
  first : (m.first.length : Int) ≤ 250
  follow : (m.follow.length : Int) ≤ 250
  last : (m.last.length : Int) ≤ 250
  row : ∀ i : Int, 0 ≤ i → i < (m.follow.length : Int) → ((at_ m.follow i).length : Int) ≤ 250
theorem rises_len {b : Int} : ∀ {last : Int} {l : List Int}, zds b last l = true → last < b → (l.length : Int) ≤ b - last - 1
  | last, [], _, h => by simp; omega
  | last, n :: r, h, hb => by
    unfold zds at h
    simp only [Bool.and_eq_true, decide_eq_true_eq] at h
    have := rises_len h.2 h.1.2
    simp; omega
theorem rises_len0 {b : Int} {l : List Int} (h : zds b (-1) l = true) (hb : 0 ≤ b) : (l.length : Int) ≤ b := by
  rcases Int.lt_or_eq_of_le hb with h1 | h1
  · have := rises_len h (by omega); omega
  · subst h1
    cases l with
    | nil => simp
    | cons n r => have := rises_lt h n (by simp); omega
theorem Right.small' {m : Mach} (h : Right m) : Small m := by
  have h1 := h.small
  have h2 := h.follow
  have h3 := h.last
  have h4 := rises_len0 h.first (by omega)
  refine ⟨h1, by omega, by omega, by omega, fun i h0 hi => ?_⟩
  have := rises_len0 (h.row i h0 (by omega)) (by omega)
  omega
theorem some_full (s : BSet) : decide (0 < count s) = decide (s ≠ 0) := by
  apply decide_eq_decide.2
  constructor
  · intro h e
    subst e
    have : count (0 : BSet) = 0 := by decide +kernel
    omega
  · intro h
    rcases Int.lt_or_le 0 (count s) with h1 | h1
    · exact h1
    · refine (h ?_).elim
      have h2 := list_len s
      have h3 : zcf s = [] := List.eq_nil_of_length_eq_zero (by omega)
      rw [← setOf_list s, h3]; decide +kernel
end Gx
namespace Go.Proofs.YtfoemogojbnfhaaDoor
open Go Go.RowKit Gx
set_option maxHeartbeats 1000000
set_option linter.unusedVariables false
set_option linter.unusedSimpArgs false
set_option maxRecDepth 8000
attribute [local irreducible] zcf count first has zb6 wbits Lib.ctz zds zbs rowOk tab markP intoP behindP runTo endsIn runM zep mayP zdt stepP mayTo anyTo allTo lfp
theorem cloneI_calls (w : World) (s : List Int) (A0 : Option Addr) (c0 : Nat) (b0 : s.length ≤ c0 ∧ c0 ≤ maxLen) (l0 : zbe (Kd.int .i64) (hp w) A0 s) (pre0 : s.length ≤ 1000000) :
    Calls Tryd.prog 87 #[.slice A0 s.length c0] w fun e w' => ∃ v, e = .returned v ∧ ∃ (hn : Ghost) (r0 : Value), St w.heap.size w hn w' [row 3 (Kd.int .i64) r0 s] ∧ v = r0 := by
 refine zaq Tryd.func87 rfl Tryd.ntmps87 rfl ?_
 have S0 := St.init w
 have bb0 := b0.1; have bc0 := b0.2; simp only [maxLen] at bc0
 refine zab <| zad (l := [0]) rfl <| p_v (v := .slice none 0 0) rfl rfl rfl (zah rfl) <| zaa <| zab <| zab <| zad (l := [0, 1]) rfl <| p_v (v := .slice A0 s.length c0) rfl rfl rfl (zag rfl) <| p_v (v := .bool A0.isNone) rfl rfl rfl (x_eql_nil u23 rfl rfl) <| zaa ?_
 refine zbr (b := A0.isNone) rfl (fun hc1 => ?_) (fun hc1 => ?_)
 ·skip
  have hnil := leads_isNone l0 hc1
  refine zab <| zad (l := [0]) rfl <| p_v (v := .slice none 0 0) rfl rfl rfl (zah rfl) <| zaa ?_
  have T2 := S0.row_nil 3 (Kd.int .i64)
  have S3 := T2
  dsimp only [lAa, lAn, lA0, lAs] at S3
  refine zar Tryd.func87 (res1 rfl (zax (v := .slice none 0 0) rfl)) ?_
  have q0 : (s : List Int) = ([] : List Int) := by
   exact hnil
  refine ⟨_, rfl, (fun _ => none), (.slice none 0 0), ?_, ?_⟩
  · rw [q0]; exact S3.sub [0] (by decide) rfl _ rfl
  · first | rfl | (simp only [q0]; rfl) | (simp only [q0])
 refine zau <| zab <| zad (l := [0, 1, 2, 3]) rfl ?_
 obtain ⟨v4, w4, r4, g4, T4⟩ := za4 (kd := (Kd.int .i64)) (xs := ([] : List Int)) (len := 0) [] S0 u23 ty3 rfl rfl rfl rfl rfl zbq [] (zcg.nil _ _) rfl
 have S5 := T4
 dsimp only [lAa, lAn, lA0, lAs] at S5
 refine p_v (v := v4) rfl rfl rfl (zav (pv := []) rfl r4) <| p_v (v := .slice A0 s.length c0) rfl rfl rfl (zag rfl) ?_
 obtain ⟨v7, w7, r7, g7, T7⟩ := zcd (kd := (Kd.int .i64)) (A := A0) (c := c0) (ys := s) (len := s.length) 23 S5 u23 ty3 rfl rfl (j := 0) rfl rfl (news_flat (l0.mono (St.le0 S5)) (fun _ _ hr => hr)) (by first|omega|(simp;omega)|assumption) (by first|omega|(simp;omega)|assumption)
 have S8 := T7.fx 0 (row 3 (Kd.int .i64) v7 (([] : List Int) ++ s)) rfl
 dsimp only [lAa, lAn, lA0, lAs] at S8
 refine p_v (v := v7) rfl rfl rfl (zcc rfl rfl r7) <| p_v (v := v7) rfl rfl rfl (zah rfl) <| zaa <| zar Tryd.func87 (res1 rfl (zax (v := v7) rfl)) ?_
 have q0 : (s : List Int) = ([] : List Int) ++ s := by
  rfl
 refine ⟨_, rfl, (fun _ => none), v7, ?_, ?_⟩
 · rw [q0]; exact S8.sub [0] (by decide) rfl _ rfl
 · rfl
end Go.Proofs.YtfoemogojbnfhaaDoor
namespace Gx
open Go Go.RowKit
set_option linter.unusedSimpArgs false
set_option linter.unusedSectionVars false
set_option linter.unusedVariables false
def zfe {α : Type} (f : α → Bool) : List α → Int → Int
  | [], _ => -1
  | x :: r, i => if f x then i else zfe f r (i + 1)
theorem placeF_any {α : Type} (f : α → Bool) : ∀ (l : List α) (i : Int), 0 ≤ i → decide (0 ≤ zfe f l i) = l.any f
  | [], i, _ => rfl
  | x :: r, i, h => by
    unfold zfe
    cases hx : f x with
    | true => simp [hx, h]
    | false =>
      have h1 := placeF_any f r (i + 1) (by omega)
      simp only [Bool.false_eq_true, if_false, List.any_cons, hx, Bool.false_or, h1]
theorem placeF_drop {α : Type} [Inhabited α] (f : α → Bool) (l : List α) {t : Int} (h0 : 0 ≤ t) (h1 : t < (l.length : Int)) : zfe f (l.drop t.toNat) t = if f (at_ l t) then t else zfe f (l.drop (t + 1).toNat) (t + 1) := by
  rw [drop_cons l h0 h1]; rfl
theorem placeF_nil {α : Type} (f : α → Bool) (i : Int) : zfe f [] i = -1 := rfl
structure Grow (n : Nat) (c0 c : List Bool) (Q : Prop) : Prop where
  len0 : (c0.length : Int) = n
  len : (c.length : Int) = n
  sub : Sub n c0 c
  told : c = c0 → Q
theorem Grow.set {n : Nat} {c0 c : List Bool} {Q Q' : Prop} (g : Grow n c0 c Q) {t : Int} (h0 : 0 ≤ t) (h1 : t < (n : Int)) (h : at_ c0 t = true → Q → Q') : Grow n c0 (c.set t.toNat true) Q' where
  len0 := g.len0
  len := by rw [List.length_set]; exact g.len
  sub := g.sub.trans (sub_set h0 (by rw [g.len]; exact h1))
  told := fun e => by
    have hs : Sub n c (c.set t.toNat true) := sub_set h0 (by rw [g.len]; exact h1)
    have e2 : c = c0 := sub_antisymm (n := n) (by have := g.len; omega) (by have := g.len0; omega) (by rw [← e]; exact hs) g.sub
    have h3 := mark_set_at (l := c) h0 (by rw [g.len]; exact h1) true t.toNat
    rw [e, Int.toNat_of_nonneg h0, if_pos rfl] at h3
    exact h h3 (g.told e2)
section
variable {m : Mach} {c0 g0 come goes : List Bool} {QC QG QC' QG' : Prop}
end
section
variable {m : Mach} {c0 g0 come goes : List Bool} {QC QG : Prop} {i k : Int}
end
end Gx
namespace Gx
open Go Go.RowKit
set_option linter.unusedSimpArgs false
set_option linter.unusedSectionVars false
set_option linter.unusedVariables false
def zbz : Mach := ⟨[⟨zb6 [97], 0⟩, ⟨zb6 [98], 0⟩, ⟨zb6 [99], 0⟩], [0], [[1, 2], [], []], [false, true, false], true⟩
def addS (out : List BSet) (s : BSet) : List BSet := if out.any fun x => decide (s = x) then out else out ++ [s]
def zd5 (m : Mach) (t : Int) : List BSet := ((m.spots.take t.toNat).map fun x => x.set).foldl addS []
def zcw (m : Mach) : List BSet := (m.spots.map fun x => x.set).foldl addS []
theorem sets_0 (m : Mach) : ([] : List BSet) = zd5 m 0 := rfl
theorem sets_step (m : Mach) {t : Int} (h0 : 0 ≤ t) (h1 : t < (m.spots.length : Int)) : zd5 m (t + 1) = addS (zd5 m t) (at_ m.spots t).set := by
  unfold zd5
  rw [zdk _ h0 h1, List.map_append, List.foldl_append]; rfl
theorem sets_old (m : Mach) {t : Int} (h0 : 0 ≤ t) (h1 : t < (m.spots.length : Int)) {out : List BSet} (ho : out = zd5 m t) (h : (out.any fun x => decide ((at_ m.spots t).set = x)) = true) : out = zd5 m (t + 1) := by
  rw [sets_step m h0 h1, ← ho]
  unfold addS; rw [if_pos h]
theorem sets_new (m : Mach) {t : Int} (h0 : 0 ≤ t) (h1 : t < (m.spots.length : Int)) {out : List BSet} (ho : out = zd5 m t) (h : (out.any fun x => decide ((at_ m.spots t).set = x)) = false) : out ++ [(at_ m.spots t).set] = zd5 m (t + 1) := by
  rw [sets_step m h0 h1, ← ho]
  unfold addS; rw [if_neg (by rw [h]; simp)]
theorem sets_end (m : Mach) {t : Int} (h : (m.spots.length : Int) ≤ t) : zcw m = zd5 m t := by
  unfold zcw zd5; rw [List.take_of_length_le (by omega)]
theorem fold_add_len : ∀ (l out : List BSet), (l.foldl addS out).length ≤ out.length + l.length
  | [], out => by simp
  | s :: l, out => by
    have := fold_add_len l (addS out s)
    have h2 : (addS out s).length ≤ out.length + 1 := by unfold addS; split <;> simp
    simp only [List.foldl_cons, List.length_cons]; omega
theorem setsTo_len' (m : Mach) {t : Int} (h0 : 0 ≤ t) : ((zd5 m t).length : Int) ≤ t := by
  have := fold_add_len ((m.spots.take t.toNat).map fun x => x.set) []
  have h2 := List.length_take_le t.toNat m.spots
  simp only [List.length_map, List.length_nil, Nat.zero_add] at this
  unfold zd5; omega
end Gx
namespace Go.Proofs.YtfoemogojbnfhaaDoor
open Go Go.RowKit Gx
set_option maxHeartbeats 1000000
set_option linter.unusedVariables false
set_option linter.unusedSimpArgs false
set_option maxRecDepth 8000
attribute [local irreducible] zcf count first has zb6 wbits Lib.ctz zds zbs rowOk tab markP intoP behindP runTo endsIn runM zep mayP zdt stepP mayTo anyTo allTo lfp zfe trues addS zd5 zcw
theorem indexS_calls (w : World) (s : List BSet) (A0 : Option Addr) (c0 : Nat) (b0 : s.length ≤ c0 ∧ c0 ≤ maxLen) (l0 : zbe kSet (hp w) A0 s) (x : BSet) :
    Calls Tryd.prog 159 #[.slice A0 s.length c0, .agg (zak x).toArray] w fun e w' => ∃ v, e = .returned v ∧ ∃ (hn : Ghost), St w.heap.size w hn w' [] ∧ v = .int .i64 (zfe (fun z_ => decide (x = z_)) s 0) ∧ inK .i64 (zfe (fun z_ => decide (x = z_)) s 0) := by
 refine zaq Tryd.func159 rfl Tryd.ntmps159 rfl ?_
 have S0 := St.init w
 have bb0 := b0.1; have bc0 := b0.2; simp only [maxLen] at bc0
 refine zab <| zad (l := [0, 1]) rfl ?_
 obtain ⟨b1, w1, r1, g1, T1⟩ := zb2 (P := Tryd.prog) S0 74 (v := .agg (zak x).toArray) (zak x) rfl
 have S2 := T1
 dsimp only [lAa, lAn, lA0, lAs] at S2
 refine p_v (v := .pointer (some ⟨b1, 0, none⟩)) rfl rfl rfl (zc8 rfl r1) <| p_v (v := .int .i64 0) rfl rfl rfl (zah rfl) <| zaa <| zab <| zab <| zad (l := [0, 1, 2]) rfl <| p_v (v := .slice A0 s.length c0) rfl rfl rfl (zag rfl) <| p_v (v := .int .i64 (s.length : Int)) rfl rfl rfl (za0 u62 rfl) <| p_v (v := .int .i64 0) rfl rfl rfl (zag rfl) <| zaa <| zas <| zbo (S := Int) (fun (q_ : Int) ρ w' => match q_ with | t8 => ∃ (h : Ghost), Le (fun _ => none) h ∧ St w.heap.size w h w' [box b1 74 (zak x)] ∧ ρ 0 = .slice A0 s.length c0 ∧ ρ 3 = .pointer (some ⟨b1, 0, none⟩) ∧ ρ 7 = .int .i64 (s.length : Int) ∧ ρ 8 = .int .i64 t8 ∧ inK .i64 t8 ∧ (0 ≤ t8 ∧ t8 ≤ (s.length : Int) ∧ zfe (fun y => decide (x = y)) s 0 = zfe (fun y => decide (x = y)) (s.drop t8.toNat) t8)) (fun q_ => match q_ with | t8 => (s.length - t8).toNat) (0) ⟨(fun _ => none), Le.refl _, S2.sub [0] (by decide) rfl _ rfl, rfl, rfl, rfl, rfl, (zao (by omega) (by omega)), (by exact ⟨by omega, by omega, rfl⟩)⟩ ?_
 rintro t8 ih3 ρ3 w3 ⟨h3, le3, S3, r3_0, r3_3, r3_7, r3_8, f3_0, hI3⟩
 have lf3_0 := za7 f3_0; have hf3_0 := za8 f3_0
 refine zab <| zad (l := [0]) rfl <| p_v (v := .bool (decide (t8 < (s.length : Int)))) rfl rfl rfl (zdc r3_8 r3_7) <| zaa <| zab ?_
 refine zap (p := t8 < (s.length : Int)) rfl (fun hc4 => ?_) (fun hc4 => ?_)
 ·skip
  refine zau <| zab <| zas <| zab <| zad (l := [0, 1]) rfl <| p_v (v := .int .i64 t8) rfl rfl rfl (zag r3_8) <| p_v (v := .int .i64 t8) rfl rfl rfl (zah rfl) <| zaa <| zab ?_
  obtain ⟨ad5, seg5, a5, rp5, ce5⟩ := zaz (q := t8) (m := 4) l0 rfl (by omega) (by omega)
  obtain ⟨rfl, ok5⟩ := rp5
  have hf6 : (CFs ⟨b1, 0, none⟩ (zak x)).1 w3 := (CF.box (m := 4) (S3.box_at (j := 0) rfl) rfl)
  have hf7 : (CFs ad5 (zak (at_ s t8))).1 w3 := (CF.ghost ce5 (St.le0 S3))
  refine daS (hkC 0 hf6 (hkC 4 hf7 (hkN (w := w3)))) 6 rfl mixed ?_
  intro wd8 gd8 hd8
  have S9 := S3.keep gd8
  have hf10 := spUp gd8 hf6
  have hf11 := spUp gd8 hf7
  refine qd1 0 (i := 0) (v := .agg (zak x).toArray) rfl rfl (by decide +kernel) rfl rfl (fun wq hq => (zal (seg := (zak x)) ty74 rfl (by simp) r3_3 hq)) (za9 hf10 (zaj rfl)) <| qd0 (i := 1) (v := .slice A0 s.length c0) rfl (by decide +kernel) rfl rfl (zag r3_0) (zaj rfl) <| qd0 (i := 2) (v := .int .i64 t8) rfl (by decide +kernel) rfl rfl (zag rfl) (zaj rfl) <| qd0 (i := 3) (v := .pointer (some ad5)) rfl (by decide +kernel) rfl rfl (zaw u62 ty74 rfl rfl a5 (by omega) (by omega)) (zaj rfl) <| qd1 1 (i := 4) (v := .agg (zak (at_ s t8)).toArray) rfl rfl (by decide +kernel) rfl rfl (fun wq hq => (zal (seg := (zak (at_ s t8))) ty74 rfl (by simp) rfl hq)) (za1 rfl (za9 hf11 (zaj rfl))) <| qd0 (i := 5) (v := .bool (decide (x = (at_ s t8)))) rfl (by decide +kernel) rfl rfl (x_eql_set u74 u56 ty56 q74 rfl rfl) (zaj rfl) <| zb3 (by decide +kernel) ?_
  intro wd12 gd12
  have S13 := S9.keep gd12
  refine zap (p := x = (at_ s t8)) rfl (fun hc14 => ?_) (fun hc14 => ?_)
  ·skip
   refine zab <| zad (l := [0, 1]) rfl <| p_v (v := .int .i64 t8) rfl rfl rfl (zag rfl) <| p_v (v := .int .i64 t8) rfl rfl rfl (zah rfl) <| zaa <| zar Tryd.func159 (res1 rfl (zax (v := .int .i64 t8) rfl)) ?_
   have q0 : (zfe (fun z_ => decide (x = z_)) s 0 : Int) = t8 := by
    rw [hI3.2.2, placeF_drop _ _ hI3.1 (by omega), if_pos (decide_eq_true (by assumption))]
   refine ⟨_, rfl, h3, ?_, ?_, ?_⟩
   · exact S13.sub [] (by decide) rfl _ rfl
   · first | rfl | (simp only [q0]; rfl) | (simp only [q0])
   · rw [q0]; exact f3_0
  refine zau <| zat <| zad (l := [0, 1]) rfl <| p_v (v := .int .i64 (t8 + 1)) rfl rfl rfl (zct r3_8 rfl (zao (by omega) (by omega))) <| p_v (v := .int .i64 (t8 + 1)) rfl rfl rfl (zag rfl) <| zaa ?_
  refine ih3 (t8 + 1) _ _ (by dsimp only; omega) ⟨h3, le3, S13.sub [0] (by decide) rfl _ rfl, r3_0, r3_3, r3_7, rfl, (zao (by omega) (by omega)), (by exact ⟨by omega, by omega, by rw [hI3.2.2, placeF_drop _ _ hI3.1 (by omega), if_neg (by simpa using (by assumption : ¬ x = at_ s t8))]⟩)⟩
 refine zbn rfl <| zab <| zad (l := [0]) rfl <| p_v (v := .int .i64 (-1)) rfl rfl rfl (zah rfl) <| zaa <| zar Tryd.func159 (res1 rfl (zax (v := .int .i64 (-1)) rfl)) ?_
 have q0 : (zfe (fun z_ => decide (x = z_)) s 0 : Int) = (-1) := by
  rw [hI3.2.2, List.drop_of_length_le (by omega)]; exact placeF_nil _ _
 refine ⟨_, rfl, h3, ?_, ?_, ?_⟩
 · exact S3.sub [] (by decide) rfl _ rfl
 · first | rfl | (simp only [q0]; rfl) | (simp only [q0])
 · rw [q0]; exact (zao (by omega) (by omega))
theorem containsS_calls (w : World) (s : List BSet) (A0 : Option Addr) (c0 : Nat) (b0 : s.length ≤ c0 ∧ c0 ≤ maxLen) (l0 : zbe kSet (hp w) A0 s) (x : BSet) :
    Calls Tryd.prog 126 #[.slice A0 s.length c0, .agg (zak x).toArray] w fun e w' => ∃ v, e = .returned v ∧ ∃ (hn : Ghost), St w.heap.size w hn w' [] ∧ v = .bool (s.any fun z_ => decide (x = z_)) := by
 refine zaq Tryd.func126 rfl Tryd.ntmps126 rfl ?_
 have S0 := St.init w
 have bb0 := b0.1; have bc0 := b0.2; simp only [maxLen] at bc0
 refine zab <| zad (l := [0, 1]) rfl ?_
 obtain ⟨b1, w1, r1, g1, T1⟩ := zb2 (P := Tryd.prog) S0 74 (v := .agg (zak x).toArray) (zak x) rfl
 have S2 := T1
 dsimp only [lAa, lAn, lA0, lAs] at S2
 refine p_v (v := .pointer (some ⟨b1, 0, none⟩)) rfl rfl rfl (zc8 rfl r1) <| p_v (v := .bool false) rfl rfl rfl (zah rfl) <| zaa <| zab <| zad (l := [0, 1, 2, 3, 4]) rfl <| p_v (v := .slice A0 s.length c0) rfl rfl rfl (zag rfl) <| p_v (v := .agg (zak x).toArray) rfl rfl rfl (zal (seg := (zak x)) ty74 rfl (by simp) rfl (CF.box (m := 4) (S2.box_at (j := 0) rfl) rfl)) <| p_c rfl rfl rfl (za6 (args := [.slice A0 s.length c0, .agg (zak x).toArray]) ca159 rfl rfl) (indexS_calls w1 s A0 c0 b0 (l0.mono (St.le0 S2)) x) ?_
 rintro _ w3 ⟨h3, T3, rfl, in3_0⟩
 have S4 := S2.keep (Chg.of_below T3.below)
 have lo_in3_0 := za7 in3_0; have hi_in3_0 := za8 in3_0
 refine p_v (v := .bool (decide (0 ≤ (zfe (fun z_ => decide (x = z_)) s 0)))) rfl rfl rfl (x_geq rfl rfl) <| p_v (v := .bool (decide (0 ≤ (zfe (fun z_ => decide (x = z_)) s 0)))) rfl rfl rfl (zah rfl) <| zaa <| zar Tryd.func126 (res1 rfl (zax (v := .bool (decide (0 ≤ (zfe (fun z_ => decide (x = z_)) s 0)))) rfl)) ?_
 have q0 : (s.any fun z_ => decide (x = z_) : Bool) = decide (0 ≤ (zfe (fun z_ => decide (x = z_)) s 0)) := by
  exact (placeF_any _ _ _ (by omega)).symm
 refine ⟨_, rfl, (fun _ => none), ?_, ?_⟩
 · exact S4.sub [] (by decide) rfl _ rfl
 · (simp only [q0])
theorem setsN_calls (w : World) (m : Mach) (A0_0 : Option Addr) (c0_0 : Nat) (b0_0 : m.spots.length ≤ c0_0 ∧ c0_0 ≤ maxLen) (l0_0 : zbe zel (hp w) A0_0 m.spots) (A0_1 : Option Addr) (c0_1 : Nat) (b0_1 : m.first.length ≤ c0_1 ∧ c0_1 ≤ maxLen) (l0_1 : zbe (Kd.int .i64) (hp w) A0_1 m.first) (A0_2 : Option Addr) (c0_2 : Nat) (b0_2 : m.follow.length ≤ c0_2 ∧ c0_2 ≤ maxLen) (l0_2 : zbe (Kd.int .i64).slice (hp w) A0_2 m.follow) (A0_3 : Option Addr) (c0_3 : Nat) (b0_3 : m.last.length ≤ c0_3 ∧ c0_3 ≤ maxLen) (l0_3 : zbe Kd.bool (hp w) A0_3 m.last) (pre0 : (m.spots.length : Int) ≤ 1000) :
    Calls Tryd.prog 63 #[.agg #[.slice A0_0 m.spots.length c0_0, .slice A0_1 m.first.length c0_1, .slice A0_2 m.follow.length c0_2, .slice A0_3 m.last.length c0_3, .bool m.empty]] w fun e w' => ∃ v, e = .returned v ∧ ∃ (hn : Ghost) (r0 : Value), St w.heap.size w hn w' [row 74 kSet r0 (zcw m)] ∧ v = r0 := by
 refine zaq Tryd.func63 rfl Tryd.ntmps63 rfl ?_
 have S0 := St.init w
 have bb0_0 := b0_0.1; have bc0_0 := b0_0.2; simp only [maxLen] at bc0_0
 have bb0_1 := b0_1.1; have bc0_1 := b0_1.2; simp only [maxLen] at bc0_1
 have bb0_2 := b0_2.1; have bc0_2 := b0_2.2; simp only [maxLen] at bc0_2
 have bb0_3 := b0_3.1; have bc0_3 := b0_3.2; simp only [maxLen] at bc0_3
 refine zab <| zad (l := [0, 1]) rfl ?_
 obtain ⟨b1, w1, r1, g1, T1⟩ := zb2 (P := Tryd.prog) S0 27 (v := .agg #[.slice A0_0 m.spots.length c0_0, .slice A0_1 m.first.length c0_1, .slice A0_2 m.follow.length c0_2, .slice A0_3 m.last.length c0_3, .bool m.empty]) [.slice A0_0 m.spots.length c0_0, .slice A0_1 m.first.length c0_1, .slice A0_2 m.follow.length c0_2, .slice A0_3 m.last.length c0_3, .bool m.empty] rfl
 have S2 := T1
 dsimp only [lAa, lAn, lA0, lAs] at S2
 refine p_v (v := .pointer (some ⟨b1, 0, none⟩)) rfl rfl rfl (zc8 rfl r1) <| p_v (v := .slice none 0 0) rfl rfl rfl (zah rfl) <| zaa <| zab <| zad (l := [0]) rfl <| p_v (v := .slice none 0 0) rfl rfl rfl (zah rfl) <| zaa <| zab <| zab <| zad (l := [0, 1, 2, 3]) rfl <| p_v (v := .pointer (some ⟨b1, 0, none⟩)) rfl rfl rfl (zan fd27_0 ty22 rfl rfl) <| p_v (v := .slice A0_0 m.spots.length c0_0) rfl rfl rfl (zal (seg := [.slice A0_0 m.spots.length c0_0]) ty22 rfl (by simp) rfl (CF.box (m := 1) (S2.box_at (j := 0) rfl) rfl)) ?_
 refine p_v (v := .int .i64 (m.spots.length : Int)) rfl rfl rfl (za0 u22 rfl) <| p_v (v := .int .i64 0) rfl rfl rfl (zag rfl) <| zaa <| zas ?_
 have T3 := S2.row_nil 74 kSet
 obtain ⟨vn3, ev3, T3⟩ : ∃ v, v = (.slice none 0 0 : Value) ∧ St w.heap.size w (fun _ => none) w1 ([box b1 27 [.slice A0_0 m.spots.length c0_0, .slice A0_1 m.first.length c0_1, .slice A0_2 m.follow.length c0_2, .slice A0_3 m.last.length c0_3, .bool m.empty]] ++ [row 74 kSet v []]) := ⟨_, rfl, T3⟩
 have S4 := T3
 dsimp only [lAa, lAn, lA0, lAs] at S4
 refine zbo (S := (List BSet) × Int) (fun (q_ : (List BSet) × Int) ρ w' => match q_ with | (out, t9) => ∃ (h : Ghost) (v_out : Value), Le (fun _ => none) h ∧ St w.heap.size w h w' [row 74 kSet v_out out] ∧ ρ 3 = v_out ∧ ρ 7 = .slice A0_0 m.spots.length c0_0 ∧ ρ 8 = .int .i64 (m.spots.length : Int) ∧ ρ 9 = .int .i64 t9 ∧ inK .i64 t9 ∧ (0 ≤ t9 ∧ t9 ≤ (m.spots.length : Int) ∧ out = zd5 m t9)) (fun q_ => match q_ with | (out, t9) => (m.spots.length - t9).toNat) (([] : List BSet), 0) ⟨(fun _ => none), vn3, Le.refl _, S4.sub [1] (by decide) rfl _ rfl, (ev3.symm), rfl, rfl, rfl, (zao (by omega) (by omega)), (by exact ⟨by omega, by omega, sets_0 m⟩)⟩ ?_
 rintro ⟨out, t9⟩ ih5 ρ5 w5 ⟨h5, v_out, le5, S5, r5_3, r5_7, r5_8, r5_9, f5_0, hI5⟩
 have lf5_0 := za7 f5_0; have hf5_0 := za8 f5_0
 have rl5_0 := S5.row_le (j := 0) rfl; simp only [maxLen] at rl5_0
 have hl_ : (out.length : Int) ≤ t9 := by rw [hI5.2.2]; exact setsTo_len' m hI5.1
 refine zab <| zad (l := [0]) rfl <| p_v (v := .bool (decide (t9 < (m.spots.length : Int)))) rfl rfl rfl (zdc r5_9 r5_8) <| zaa <| zab ?_
 refine zap (p := t9 < (m.spots.length : Int)) rfl (fun hc6 => ?_) (fun hc6 => ?_)
 ·skip
  refine zau <| zab <| zas <| zab <| zad (l := [0, 1, 2, 3]) rfl ?_
  obtain ⟨ad7, seg7, a7, rp7, ce7⟩ := zaz (q := t9) (m := 5) l0_0 rfl (by omega) (by omega)
  refine p_v (v := .pointer (some ad7)) rfl rfl rfl (zaw u22 ty101 r5_7 r5_9 a7 (by omega) (by omega)) ?_
  obtain ⟨rfl, ok7⟩ := rp7
  have slook7 := zeu ok7; have shiok7 := zfa ok7
  refine p_v (v := .agg (zc3 (at_ m.spots t9)).toArray) rfl rfl rfl (zal (seg := (zc3 (at_ m.spots t9))) ty101 rfl (by simp) rfl (CF.ghost ce7 (St.le0 S5))) ?_
  obtain ⟨b8, w8, r8, g8, T8⟩ := zb2 (P := Tryd.prog) S5 101 (v := (.agg #[.int .u64 0, .int .u64 0, .int .u64 0, .int .u64 0, .int .u8 0])) (zc3 (⟨0, 0⟩ : Spot)) rfl
  have S9 := T8
  dsimp only [lAa, lAn, lA0, lAs] at S9
  refine p_v (v := .pointer (some ⟨b8, 0, none⟩)) rfl rfl rfl (zcj ty101 r8) ?_
  obtain ⟨w10, r10, g10, T10⟩ := zcb (P := Tryd.prog) (off := 0) (v := .agg (zc3 (at_ m.spots t9)).toArray) (vs := (zc3 (at_ m.spots t9))) S9 ty101 rfl rfl (j := 1) rfl (by first | decide | exact Nat.le_of_ble_eq_true rfl) (encSpot_one _)
  have S11 := T10.fx 1 (box b8 101 (zc3 (at_ m.spots t9))) rfl
  dsimp only [lAa, lAn, lA0, lAs] at S11
  refine p_s rfl rfl (zbh rfl rfl r10) <| zaa <| zab <| zad (l := [0, 1, 2, 3, 4]) rfl <| p_v (v := v_out) rfl rfl rfl (zag r5_3) <| p_v (v := .pointer (some ⟨b8, 0, none⟩)) rfl rfl rfl (zan fd101_0 ty74 rfl rfl) <| p_v (v := .agg (zak ((at_ m.spots t9).set)).toArray) rfl rfl rfl (zal (seg := (zak ((at_ m.spots t9).set))) ty74 rfl (by simp) rfl (CF.box (m := 4) (S11.box_at (j := 1) rfl) rfl)) ?_
  obtain ⟨A12, c12, ev12, lc12, cm12⟩ := S11.row_val (j := 0) rfl
  refine p_c rfl rfl rfl (za6 (args := [.slice A12 out.length c12, .agg (zak ((at_ m.spots t9).set)).toArray]) ca126 rfl (zd3 ev12 (zd3 rfl rfl))) (containsS_calls w10 out A12 c12 (And.intro lc12 cm12) (zc5 S11 (j := 0) rfl ev12) ((at_ m.spots t9).set)) ?_
  rintro _ w13 ⟨h13, T13, rfl⟩
  have S14 := S11.keep (Chg.of_below T13.below)
  refine p_v (v := .bool (!(out.any fun z_ => decide (((at_ m.spots t9).set) = z_)))) rfl rfl rfl (ze2 rfl) <| zaa ?_
  refine zch (b := out.any fun z_ => decide (((at_ m.spots t9).set) = z_)) rfl (fun hc15 => ?_) (fun hc15 => ?_)
  ·skip
   refine zad (l := [0, 1, 2, 3, 4, 5]) rfl <| p_v (v := v_out) rfl rfl rfl (zag r5_3) <| p_v (v := .pointer (some ⟨b8, 0, none⟩)) rfl rfl rfl (zan fd101_0 ty74 rfl rfl) <| p_v (v := .agg (zak ((at_ m.spots t9).set)).toArray) rfl rfl rfl (zal (seg := (zak ((at_ m.spots t9).set))) ty74 rfl (by simp) rfl (CF.box (m := 4) (S14.box_at (j := 1) rfl) rfl)) ?_
   obtain ⟨v16, w16, r16, g16, T16⟩ := zer (kd := kSet) (xs := ([(at_ m.spots t9).set] : List BSet)) (len := 1) (m := 4) [(.agg (zak ((at_ m.spots t9).set)).toArray, (zak ((at_ m.spots t9).set)))] S14 u62 ty74 rfl rfl rfl rfl (zen rfl rfl segs_nil) (cs := (zak ((at_ m.spots t9).set))) (zcg.single (k := kSet) (h := h5) (x := (at_ m.spots t9).set) (cs := (zak ((at_ m.spots t9).set))) ⟨rfl, trivial⟩) (by simp)
   have S17 := T16
   dsimp only [lAa, lAn, lA0, lAs] at S17
   refine p_v (v := v16) rfl rfl rfl (zav (pv := [(0, .agg (zak ((at_ m.spots t9).set)).toArray)]) rfl r16) ?_
   obtain ⟨A19, c19, ev19, lc19, cm19⟩ := S17.row_val (j := 2) rfl
   obtain ⟨v20, w20, r20, g20, T20⟩ := zcd (kd := kSet) (A := A19) (c := c19) (ys := ([(at_ m.spots t9).set] : List BSet)) (len := ([(at_ m.spots t9).set] : List BSet).length) 62 S17 u62 ty74 rfl rfl (j := 0) rfl rfl (zcl S17 (j := 2) rfl ev19) (by first|omega|(simp;omega)|assumption) (by first|omega|(simp;omega)|assumption)
   have S21 := T20.fx 0 (row 74 kSet v20 (out ++ ([(at_ m.spots t9).set] : List BSet))) rfl
   dsimp only [lAa, lAn, lA0, lAs] at S21
   refine p_v (v := v20) rfl rfl rfl (zcc rfl ev19 r20) <| p_v (v := v20) rfl rfl rfl (zah rfl) <| zaa <| zat <| zad (l := [0, 1]) rfl <| p_v (v := .int .i64 (t9 + 1)) rfl rfl rfl (zct r5_9 rfl (zao (by omega) (by omega))) <| p_v (v := .int .i64 (t9 + 1)) rfl rfl rfl (zag rfl) <| zaa ?_
   refine ih5 (out ++ ([(at_ m.spots t9).set] : List BSet), t9 + 1) _ _ (by dsimp only; omega) ⟨h5, v20, le5, S21.sub [0] (by decide) rfl _ rfl, rfl, r5_7, r5_8, rfl, (zao (by omega) (by omega)), (by first | exact ⟨by omega, by omega, sets_old m hI5.1 (by omega) hI5.2.2 (by assumption)⟩ | exact ⟨by omega, by omega, sets_new m hI5.1 (by omega) hI5.2.2 (by assumption)⟩)⟩
  refine zau <| zat <| zad (l := [0, 1]) rfl <| p_v (v := .int .i64 (t9 + 1)) rfl rfl rfl (zct r5_9 rfl (zao (by omega) (by omega))) <| p_v (v := .int .i64 (t9 + 1)) rfl rfl rfl (zag rfl) <| zaa ?_
  refine ih5 (out, t9 + 1) _ _ (by dsimp only; omega) ⟨h5, v_out, le5, S14.sub [0] (by decide) rfl _ rfl, r5_3, r5_7, r5_8, rfl, (zao (by omega) (by omega)), (by first | exact ⟨by omega, by omega, sets_old m hI5.1 (by omega) hI5.2.2 (by assumption)⟩ | exact ⟨by omega, by omega, sets_new m hI5.1 (by omega) hI5.2.2 (by assumption)⟩)⟩
 refine zbn rfl <| zab <| zad (l := [0, 1]) rfl <| p_v (v := v_out) rfl rfl rfl (zag r5_3) <| p_v (v := v_out) rfl rfl rfl (zah rfl) <| zaa <| zar Tryd.func63 (res1 rfl (zax (v := v_out) rfl)) ?_
 have q0 : (zcw m : List BSet) = out := by
  rw [hI5.2.2]; exact sets_end m (by omega)
 refine ⟨_, rfl, h5, v_out, ?_, ?_⟩
 · rw [q0]; exact S5.sub [0] (by decide) rfl _ rfl
 · rfl
theorem some10_calls (w : World) :
    Calls Tryd.prog 46 #[] w fun e w' => ∃ v, e = .returned v ∧ ∃ (hn : Ghost) (r0 : Value) (r1 : Value) (r2 : Value) (r3 : Value), St w.heap.size w hn w' [row 101 zel r0 zbz.spots, row 3 (Kd.int .i64) r1 zbz.first, row 23 (Kd.int .i64).slice r2 zbz.follow, row 4 Kd.bool r3 zbz.last] ∧ v = .agg #[r0, r1, r2, r3, .bool zbz.empty] := by
 refine zaq Tryd.func46 rfl Tryd.ntmps46 rfl ?_
 have S0 := St.init w
 refine zab <| zad (l := [0]) rfl ?_
 obtain ⟨b1, w1, r1, g1, T1⟩ := zb2 (P := Tryd.prog) S0 27 (v := (.agg #[.slice none 0 0, .slice none 0 0, .slice none 0 0, .slice none 0 0, .bool false])) [.slice none 0 0, .slice none 0 0, .slice none 0 0, .slice none 0 0, .bool false] rfl
 have S2 := T1
 dsimp only [lAa, lAn, lA0, lAs] at S2
 refine p_v (v := .pointer (some ⟨b1, 0, none⟩)) rfl rfl rfl (zcj ty27 r1) <| zaa <| zab <| zad (l := [0, 1, 2, 3, 4, 5, 6, 7, 8, 9, 10, 11, 12, 13, 14, 15, 16, 17]) rfl ?_
 obtain ⟨v3, w3, r3, g3, T3⟩ := za4 (kd := (Kd.int .u8)) (xs := ([97] : List Int)) (len := 1) [.int .u8 97] S2 u39 ty5 rfl rfl rfl rfl rfl (zbi rfl zbq) [.int .u8 97] (zcg.single (k := (Kd.int .u8)) (h := (fun _ => none)) (x := 97) (cs := [.int .u8 97]) ⟨rfl, (zec (by omega) (by omega))⟩) rfl
 have S4 := T3
 dsimp only [lAa, lAn, lA0, lAs] at S4
 refine p_v (v := v3) rfl rfl rfl (zav (pv := [(0, .int .u8 97)]) rfl r3) ?_
 obtain ⟨A5, c5, ev5, lc5, cm5⟩ := S4.row_val (j := 1) rfl
 refine p_c rfl rfl rfl (za6 (args := [.slice A5 ([97] : List Int).length c5]) ca64 rfl (zd3 ev5 rfl)) (of_calls w3 ([97] : List Int) A5 c5 (And.intro lc5 cm5) (zc5 S4 (j := 1) rfl ev5)) ?_
 rintro _ w6 ⟨h6, T6, rfl⟩
 have S7 := S4.keep (Chg.of_below T6.below)
 refine p_v (v := .agg (zc3 (⟨zb6 ([97] : List Int), 0⟩ : Spot)).toArray) rfl rfl rfl (zdj (pv := [(0, .agg (zak (zb6 ([97] : List Int))).toArray)]) rfl (zbg pl101 ty101 rfl (cs := (zc3 (⟨zb6 ([97] : List Int), 0⟩ : Spot))) rfl)) ?_
 obtain ⟨v8, w8, r8, g8, T8⟩ := za4 (kd := (Kd.int .u8)) (xs := ([98] : List Int)) (len := 1) [.int .u8 98] S7 u39 ty5 rfl rfl rfl rfl rfl (zbi rfl zbq) [.int .u8 98] (zcg.single (k := (Kd.int .u8)) (h := (fun _ => none)) (x := 98) (cs := [.int .u8 98]) ⟨rfl, (zec (by omega) (by omega))⟩) rfl
 have S9 := T8
 dsimp only [lAa, lAn, lA0, lAs] at S9
 refine p_v (v := v8) rfl rfl rfl (zav (pv := [(0, .int .u8 98)]) rfl r8) ?_
 obtain ⟨A10, c10, ev10, lc10, cm10⟩ := S9.row_val (j := 2) rfl
 refine p_c rfl rfl rfl (za6 (args := [.slice A10 ([98] : List Int).length c10]) ca64 rfl (zd3 ev10 rfl)) (of_calls w8 ([98] : List Int) A10 c10 (And.intro lc10 cm10) (zc5 S9 (j := 2) rfl ev10)) ?_
 rintro _ w11 ⟨h11, T11, rfl⟩
 have S12 := S9.keep (Chg.of_below T11.below)
 refine p_v (v := .agg (zc3 (⟨zb6 ([98] : List Int), 0⟩ : Spot)).toArray) rfl rfl rfl (zdj (pv := [(0, .agg (zak (zb6 ([98] : List Int))).toArray)]) rfl (zbg pl101 ty101 rfl (cs := (zc3 (⟨zb6 ([98] : List Int), 0⟩ : Spot))) rfl)) ?_
 obtain ⟨v13, w13, r13, g13, T13⟩ := za4 (kd := (Kd.int .u8)) (xs := ([99] : List Int)) (len := 1) [.int .u8 99] S12 u39 ty5 rfl rfl rfl rfl rfl (zbi rfl zbq) [.int .u8 99] (zcg.single (k := (Kd.int .u8)) (h := (fun _ => none)) (x := 99) (cs := [.int .u8 99]) ⟨rfl, (zec (by omega) (by omega))⟩) rfl
 have S14 := T13
 dsimp only [lAa, lAn, lA0, lAs] at S14
 refine p_v (v := v13) rfl rfl rfl (zav (pv := [(0, .int .u8 99)]) rfl r13) ?_
 obtain ⟨A15, c15, ev15, lc15, cm15⟩ := S14.row_val (j := 3) rfl
 refine p_c rfl rfl rfl (za6 (args := [.slice A15 ([99] : List Int).length c15]) ca64 rfl (zd3 ev15 rfl)) (of_calls w13 ([99] : List Int) A15 c15 (And.intro lc15 cm15) (zc5 S14 (j := 3) rfl ev15)) ?_
 rintro _ w16 ⟨h16, T16, rfl⟩
 have S17 := S14.keep (Chg.of_below T16.below)
 refine p_v (v := .agg (zc3 (⟨zb6 ([99] : List Int), 0⟩ : Spot)).toArray) rfl rfl rfl (zdj (pv := [(0, .agg (zak (zb6 ([99] : List Int))).toArray)]) rfl (zbg pl101 ty101 rfl (cs := (zc3 (⟨zb6 ([99] : List Int), 0⟩ : Spot))) rfl)) ?_
 obtain ⟨v18, w18, r18, g18, T18⟩ := zer (kd := zel) (xs := ([(⟨zb6 ([97] : List Int), 0⟩ : Spot), (⟨zb6 ([98] : List Int), 0⟩ : Spot), (⟨zb6 ([99] : List Int), 0⟩ : Spot)] : List Spot)) (len := 3) (m := 5) [(.agg (zc3 (⟨zb6 ([97] : List Int), 0⟩ : Spot)).toArray, (zc3 (⟨zb6 ([97] : List Int), 0⟩ : Spot))), (.agg (zc3 (⟨zb6 ([98] : List Int), 0⟩ : Spot)).toArray, (zc3 (⟨zb6 ([98] : List Int), 0⟩ : Spot))), (.agg (zc3 (⟨zb6 ([99] : List Int), 0⟩ : Spot)).toArray, (zc3 (⟨zb6 ([99] : List Int), 0⟩ : Spot)))] S17 u22 ty101 rfl rfl rfl rfl (zen rfl rfl (zen rfl rfl (zen rfl rfl segs_nil))) (cs := ((zc3 (⟨zb6 ([97] : List Int), 0⟩ : Spot)) ++ (zc3 (⟨zb6 ([98] : List Int), 0⟩ : Spot)) ++ (zc3 (⟨zb6 ([99] : List Int), 0⟩ : Spot)))) (zcg.cons (k := zel) (h := (fun _ => none)) (x := (⟨zb6 ([97] : List Int), 0⟩ : Spot)) (cs := (zc3 (⟨zb6 ([97] : List Int), 0⟩ : Spot))) ⟨rfl, (by first | assumption | (show inK .u8 _; constructor <;> decide) | (constructor <;> simp [IntKind.min, IntKind.max] <;> omega))⟩ (zcg.cons (k := zel) (h := (fun _ => none)) (x := (⟨zb6 ([98] : List Int), 0⟩ : Spot)) (cs := (zc3 (⟨zb6 ([98] : List Int), 0⟩ : Spot))) ⟨rfl, (by first | assumption | (show inK .u8 _; constructor <;> decide) | (constructor <;> simp [IntKind.min, IntKind.max] <;> omega))⟩ (zcg.single (k := zel) (h := (fun _ => none)) (x := (⟨zb6 ([99] : List Int), 0⟩ : Spot)) (cs := (zc3 (⟨zb6 ([99] : List Int), 0⟩ : Spot))) ⟨rfl, (by first | assumption | (show inK .u8 _; constructor <;> decide) | (constructor <;> simp [IntKind.min, IntKind.max] <;> omega))⟩))) (by simp)
 have S19 := T18
 dsimp only [lAa, lAn, lA0, lAs] at S19
 refine p_v (v := v18) rfl rfl rfl (zav (pv := [(0, .agg (zc3 (⟨zb6 ([97] : List Int), 0⟩ : Spot)).toArray), (1, .agg (zc3 (⟨zb6 ([98] : List Int), 0⟩ : Spot)).toArray), (2, .agg (zc3 (⟨zb6 ([99] : List Int), 0⟩ : Spot)).toArray)]) rfl r18) ?_
 obtain ⟨v20, w20, r20, g20, T20⟩ := za4 (kd := (Kd.int .i64)) (xs := ([0] : List Int)) (len := 1) [.int .i64 0] S19 u23 ty3 rfl rfl rfl rfl rfl (zbi rfl zbq) [.int .i64 0] (zcg.single (k := (Kd.int .i64)) (h := (fun _ => none)) (x := 0) (cs := [.int .i64 0]) ⟨rfl, (zao (by omega) (by omega))⟩) rfl
 have S21 := T20
 dsimp only [lAa, lAn, lA0, lAs] at S21
 refine p_v (v := v20) rfl rfl rfl (zav (pv := [(0, .int .i64 0)]) rfl r20) ?_
 obtain ⟨v22, w22, r22, g22, T22⟩ := za4 (kd := (Kd.int .i64)) (xs := ([1, 2] : List Int)) (len := 2) [.int .i64 1, .int .i64 2] S21 u23 ty3 rfl rfl rfl rfl rfl (zbi rfl (zbi rfl zbq)) ([.int .i64 1] ++ [.int .i64 2]) (zcg.cons (k := (Kd.int .i64)) (h := (fun _ => none)) (x := 1) (cs := [.int .i64 1]) ⟨rfl, (zao (by omega) (by omega))⟩ (zcg.single (k := (Kd.int .i64)) (h := (fun _ => none)) (x := 2) (cs := [.int .i64 2]) ⟨rfl, (zao (by omega) (by omega))⟩)) rfl
 have S23 := T22
 dsimp only [lAa, lAn, lA0, lAs] at S23
 refine p_v (v := v22) rfl rfl rfl (zav (pv := [(0, .int .i64 1), (1, .int .i64 2)]) rfl r22) ?_
 obtain ⟨v24, w24, r24, g24, T24⟩ := za4 (kd := (Kd.int .i64)) (xs := ([] : List Int)) (len := 0) [] S23 u23 ty3 rfl rfl rfl rfl rfl zbq [] (zcg.nil _ _) rfl
 have S25 := T24
 dsimp only [lAa, lAn, lA0, lAs] at S25
 refine p_v (v := v24) rfl rfl rfl (zav (pv := []) rfl r24) ?_
 obtain ⟨v26, w26, r26, g26, T26⟩ := za4 (kd := (Kd.int .i64)) (xs := ([] : List Int)) (len := 0) [] S25 u23 ty3 rfl rfl rfl rfl rfl zbq [] (zcg.nil _ _) rfl
 have S27 := T26
 dsimp only [lAa, lAn, lA0, lAs] at S27
 refine p_v (v := v26) rfl rfl rfl (zav (pv := []) rfl r26) ?_
 obtain ⟨h29, le29, T29, rp29⟩ := S27.freeze (i := 6) rfl
 have S30 := T29.fx 6 (emp) rfl
 dsimp only [lAa, lAn, lA0, lAs] at S30
 obtain ⟨A29, c29, e29, lc29, cm29, ld29⟩ := rp29
 injection e29 with e29 _; subst e29
 have cn29 := cm29; simp only [maxLen] at cn29
 obtain ⟨h31, le31, T31, rp31⟩ := S30.freeze (i := 7) rfl
 have lf31_0 := (le29).trans le31
 have S32 := T31.fx 7 (emp) rfl
 dsimp only [lAa, lAn, lA0, lAs] at S32
 obtain ⟨A31, c31, e31, lc31, cm31, ld31⟩ := rp31
 injection e31 with e31 _; subst e31
 have cn31 := cm31; simp only [maxLen] at cn31
 obtain ⟨h33, le33, T33, rp33⟩ := S32.freeze (i := 8) rfl
 have lf33_0 := (lf31_0).trans le33
 have lf33_1 := (le31).trans le33
 have S34 := T33.fx 8 (emp) rfl
 dsimp only [lAa, lAn, lA0, lAs] at S34
 obtain ⟨A33, c33, e33, lc33, cm33, ld33⟩ := rp33
 injection e33 with e33 _; subst e33
 have cn33 := cm33; simp only [maxLen] at cn33
 obtain ⟨v28, w28, r28, g28, T28⟩ := za4 (kd := (Kd.int .i64).slice) (xs := ([([1, 2] : List Int), ([] : List Int), ([] : List Int)] : List (List Int))) (len := 3) [.slice A29 ([1, 2] : List Int).length c29, .slice A31 ([] : List Int).length c31, .slice A33 ([] : List Int).length c33] S34 u24 ty23 rfl rfl rfl rfl rfl (zbi rfl (zbi rfl (zbi rfl zbq))) ([.slice A29 ([1, 2] : List Int).length c29] ++ [.slice A31 ([] : List Int).length c31] ++ [.slice A33 ([] : List Int).length c33]) (zcg.cons (k := (Kd.int .i64).slice) (h := h33) (x := ([1, 2] : List Int)) (cs := [.slice A29 ([1, 2] : List Int).length c29]) ⟨_, _, rfl, (And.intro lc29 cm29).1, (And.intro lc29 cm29).2, ld29.mono lf33_1⟩ (zcg.cons (k := (Kd.int .i64).slice) (h := h33) (x := ([] : List Int)) (cs := [.slice A31 ([] : List Int).length c31]) ⟨_, _, rfl, (And.intro lc31 cm31).1, (And.intro lc31 cm31).2, ld31.mono le33⟩ (zcg.single (k := (Kd.int .i64).slice) (h := h33) (x := ([] : List Int)) (cs := [.slice A33 ([] : List Int).length c33]) ⟨_, _, rfl, (And.intro lc33 cm33).1, (And.intro lc33 cm33).2, ld33.mono (Le.refl _)⟩))) rfl
 have S35 := T28
 dsimp only [lAa, lAn, lA0, lAs] at S35
 refine p_v (v := v28) rfl rfl rfl (zav (pv := [(0, .slice A29 ([1, 2] : List Int).length c29), (1, .slice A31 ([] : List Int).length c31), (2, .slice A33 ([] : List Int).length c33)]) rfl r28) ?_
 obtain ⟨v36, w36, r36, g36, T36⟩ := za4 (kd := Kd.bool) (xs := ([false, true, false] : List Bool)) (len := 3) [.bool false, .bool true, .bool false] S35 u25 ty4 rfl rfl rfl rfl rfl (zbi rfl (zbi rfl (zbi rfl zbq))) ([.bool false] ++ [.bool true] ++ [.bool false]) (zcg.cons (k := Kd.bool) (h := h33) (x := false) (cs := [.bool false]) ⟨rfl, trivial⟩ (zcg.cons (k := Kd.bool) (h := h33) (x := true) (cs := [.bool true]) ⟨rfl, trivial⟩ (zcg.single (k := Kd.bool) (h := h33) (x := false) (cs := [.bool false]) ⟨rfl, trivial⟩))) rfl
 have S37 := T36
 dsimp only [lAa, lAn, lA0, lAs] at S37
 refine p_v (v := v36) rfl rfl rfl (zav (pv := [(0, .bool false), (1, .bool true), (2, .bool false)]) rfl r36) <| p_v (v := .agg #[v18, v20, v28, v36, .bool true]) rfl rfl rfl (zdj (pv := [(0, v18), (1, v20), (2, v28), (3, v36), (4, .bool true)]) rfl (zbg pl27 ty27 rfl (cs := [v18, v20, v28, v36, .bool true]) (fill_any (vc := [v18]) rfl (zcy S37 (j := 4) rfl) rfl rfl (fill_any (vc := [v20]) rfl (zcy S37 (j := 5) rfl) rfl rfl (fill_any (vc := [v28]) rfl (zcy S37 (j := 9) rfl) rfl rfl (fill_any (vc := [v36]) rfl (zcy S37 (j := 10) rfl) rfl rfl (fill_any (vc := [.bool true]) rfl rfl rfl rfl (fill_end rfl)))))))) ?_
 have oc39 := zcu S37 (j := 4) rfl
 have oc40 := zcu S37 (j := 5) rfl
 have oc41 := zcu S37 (j := 9) rfl
 have oc42 := zcu S37 (j := 10) rfl
 obtain ⟨w38, r38, g38, T38⟩ := zcb (P := Tryd.prog) (off := 0) (v := .agg #[v18, v20, v28, v36, .bool true]) (vs := [v18, v20, v28, v36, .bool true]) S37 ty27 rfl rfl (j := 0) rfl (by first | decide | exact Nat.le_of_ble_eq_true rfl) (zb0 oc39 (zb0 oc40 (zb0 oc41 (zb0 oc42 (zb0 rfl zde)))))
 have S43 := T38.fx 0 (box b1 27 [v18, v20, v28, v36, .bool true]) rfl
 dsimp only [lAa, lAn, lA0, lAs] at S43
 refine p_s rfl rfl (zbh rfl rfl r38) <| zaa <| zar Tryd.func46 (res1 rfl (zcv S43 ty27 rfl (j := 0) rfl rfl (by simp) rfl)) ?_
 have q0 : (zbz.spots : List Spot) = ([(⟨zb6 ([97] : List Int), 0⟩ : Spot), (⟨zb6 ([98] : List Int), 0⟩ : Spot), (⟨zb6 ([99] : List Int), 0⟩ : Spot)] : List Spot) := by
  rfl
 have q1 : (zbz.first : List Int) = ([0] : List Int) := by
  rfl
 have q2 : (zbz.follow : List (List Int)) = ([([1, 2] : List Int), ([] : List Int), ([] : List Int)] : List (List Int)) := by
  rfl
 have q3 : (zbz.last : List Bool) = ([false, true, false] : List Bool) := by
  rfl
 have q4 : (zbz.empty : Bool) = true := by
  rfl
 refine ⟨_, rfl, h33, v18, v20, v28, v36, ?_, ?_⟩
 · rw [q0]; rw [q1]; rw [q2]; rw [q3]; exact S43.sub [4, 5, 9, 10] (by decide) rfl _ rfl
 · rfl
end Go.Proofs.YtfoemogojbnfhaaDoor
namespace Gx
open Go Go.RowKit
set_option linter.unusedSimpArgs false
set_option linter.unusedSectionVars false
set_option linter.unusedVariables false
theorem mem_fold : ∀ (l out : List BSet) (s : BSet), (s ∈ out ∨ s ∈ l) → s ∈ l.foldl addS out
  | [], out, s, h => by rcases h with h | h; exact h; cases h
  | x :: l, out, s, h => by
    refine mem_fold l (addS out x) s ?_
    unfold addS
    rcases h with h | h
    · left; split
      · exact h
      · exact List.mem_append_left _ h
    · rcases List.mem_cons.1 h with e | e
      · subst e; left; split
        · rename_i hx
          obtain ⟨y, hy, hq⟩ := List.any_eq_true.1 hx
          rw [of_decide_eq_true hq]; exact hy
        · simp
      · exact .inr e
theorem spot_set (m : Mach) {i : Nat} (hi : i < m.spots.length) : (at_ m.spots ((i : Nat) : Int)).set ∈ zcw m := by
  unfold zcw
  refine mem_fold _ _ _ (.inr ?_)
  exact List.mem_map.2 ⟨_, zdv (by omega) (by omega), rfl⟩
def bytesL (w : ByteArray) : List Int := w.data.toList.map fun b => ((b.toNat : Nat) : Int)
end Gx
namespace Gx
open Go Go.RowKit
set_option linter.unusedSimpArgs false
set_option linter.unusedSectionVars false
set_option linter.unusedVariables false
section
variable {P : Program} {f n : Nat} {k : List Item} {ρ : Env} {w : World} {R : Ending → World → Prop} {ops : Array Oper} {rest : List Nat} {i : Nat}
variable {d : Tmp} {ty : TypeId} {pos : String} {af : Array Edge} {x y : Operand} {op : Op} {gd : Option (Nat × Bool)}
theorem p_i {g : FuncId} {args : Array Value} (ho : ops[i]? = some ⟨some d, op, ty, pos, af, gd⟩) (hw : zdd ρ ops ⟨some d, op, ty, pos, af, gd⟩ = true) (hd : Nat.blt d n = true) (hr : (execOp (ev ρ) ⟨some d, op, ty, pos, af, gd⟩).run P w = .ok (.enter g args) w)
    (hc : Calls P g args w fun e w2 => ∃ v, e = .returned v ∧ Run P f n (.inRegion ops rest :: k) (upd ρ d v) w2 R) : Run P f n (.inRegion ops (i :: rest) :: k) ρ w R := p_c ho hw hd hr hc fun _ _ h => h
end
section
variable {P : Program} {f n : Nat} {k : List Item} {ρ : Env} {w : World} {R : Ending → World → Prop} {ops : Array Oper} {H : Held} {fuel : Nat} {listed : Array Bool} {i : Nat}
variable {d : Tmp} {ty : TypeId} {pos : String} {af : Array Edge} {op : Op} {gd : Option (Nat × Bool)}
theorem d_i {g : FuncId} {args : Array Value} (ho : ops[i]? = some ⟨some d, op, ty, pos, af, gd⟩) (hw : zdd ρ ops ⟨some d, op, ty, pos, af, gd⟩ = true) (hd : Nat.blt d n = true) (hr : (execOp (ev ρ) ⟨some d, op, ty, pos, af, gd⟩).run P w = .ok (.enter g args) w)
    (hc : Calls P g args w fun e w2 => ∃ v, e = .returned v ∧ ((Gr w w2 ∨ Keep ops i w2 H) ∧ RA P f n ops H fuel (listed.setIfInBounds i true) k (upd ρ d v) w2 R)) : RA1 P f n ops H fuel listed k ρ w R i := d_c ho hw hd hr hc fun _ _ h => h
end
section
variable {P : Program} {w : World} {ρ : Env} {d : Option Tmp} {x y : Operand} {ty : TypeId} {pos : String} {af : Array Edge} {g : Option (Nat × Bool)}
theorem zbw {ad : Addr} (hx : ev ρ x = .pointer (some ad)) : (execOp (ev ρ) ⟨d, .nilCheck x, ty, pos, af, g⟩).run P w = .ok (.value (.pointer (some ad))) w := by
  simp only [execOp, hx]
  rfl
theorem x_eql_ptr {p : Option Addr} {t t2 e : TypeId} (hT : P.underlying t = some (.pointer e)) (hx : ev ρ x = .pointer p) (hy : ev ρ y = .pointer none) : (execOp (ev ρ) ⟨d, .binOp .eql t x y t2, ty, pos, af, g⟩).run P w = .ok (.value (.bool p.isNone)) w := by
  have hg : (eqGuard .eql t x y (.pointer p) (.pointer none)).run P w = .ok () w := by unfold eqGuard; rfl
  have h1 := run_equalIn_pointer_nil (P := P) (w := w) 9999 t p (by rw [show P.pointee t = e by simp [Program.pointee, hT]]; exact hT)
  simp only [execOp, hx, hy, Sem.run_bind, hg, Result.andThen_ok, binOp, Op.equal, Op.maxDepth]
  rw [show (10000 : Nat) = 9999 + 1 from rfl, h1]
  rfl
end
theorem shr_in {a b : Int} (h : inK .u64 a) : inK .u64 (a / 2 ^ b.toNat) := by
  have h0 := zc6 h
  have h1 := zc9 h
  have hp : (0 : Int) < 2 ^ b.toNat := Int.pow_pos (by omega)
  refine zdl (Int.ediv_nonneg h0 (Int.le_of_lt hp)) (Int.le_trans (Int.ediv_le_self _ h0) h1)
def GCs (ad : Addr) (cs : List Value) : Sp := ⟨fun w => ∀ j v, cs[j]? = some v → ze1 (hp w) (ad.add j) = some v, fun _ _ g h j v hj => gcell_mono (Le.below (Chg.below g)) (h j v hj)⟩
section
variable {α β : Type} [DecidableEq α] {P : Program} {kt : TypeId} {ke : α → Value} {ve : β → Value} {w w' : World}
def MapH (ke : α → Value) (ve : β → Value) (b : Nat) (kvs : List (α × β)) (w : World) : Prop := ∃ es clock, w.heap[b]? = some (.map es clock) ∧ es.toList.map (fun e => (e.key, e.val)) = pairs ke ve kvs
theorem MapH.gr {b : Nat} {kvs : List (α × β)} (g : Gr w w') (h : MapH ke ve b kvs w) : MapH ke ve b kvs w' := by
  obtain ⟨es, clock, hb, hes⟩ := h
  have hlt : b < w.heap.size := (Array.getElem?_eq_some_iff.1 hb).1
  exact ⟨es, clock, by rw [← hb]; exact Chg.block g b hlt (fun x => x), hes⟩
def MapHs (ke : α → Value) (ve : β → Value) (b : Nat) (kvs : List (α × β)) : Sp := ⟨MapH ke ve b kvs, fun _ _ g h => h.gr g⟩
theorem e_lookup_h {b : Nat} {T et : TypeId} {kvs : List (α × β)} (K : KeyK P kt ke) (hm : MapH ke ve b kvs w) (hT : P.underlying T = some (.map kt et)) {z : Value} (hz : (zeroValue et).run P w = .ok z w) (d : β) (k : α) (hd : ve d = z := by rfl) :
    (Instr.lookup T (.map (some b)) (ke k) true).run P w = .ok (.tuple #[ve ((zbm k kvs).getD d), .bool (zbm k kvs).isSome]) w := by
  obtain ⟨es, clock, hb, hes⟩ := hm
  have hg : (getObj b).run P w = .ok (.map es clock) w := by simp [getObj, Sem.run, hb]
  simp only [Instr.lookup, Sem.run_bind, run_underlying hT, Result.andThen_ok, hg, K.chk, run_findKey K k hes, Sem.run_pure]
  unfold zbm put2
  cases zdh k kvs 0 with
  | none => simp [hz, Sem.run_bind, hd, Sem.run_pure]
  | some p => simp [Sem.run_pure]
end
theorem zbb {a b : List Value} {m n : Nat} (ha : a.length = m) (hb : b.length = n) : (a ++ b).length = m + n := by rw [List.length_append, ha, hb]
theorem zdo {a : List Value} {m : Nat} (h : a.length = m) : (a.drop 0).take m = a := by rw [List.drop_zero, List.take_of_length_le (by omega)]
theorem seg_mid {pre seg post : List Value} {off m : Nat} (h : pre.length = off) (h2 : seg.length = m) : ((pre ++ (seg ++ post)).drop off).take m = seg := by
  subst h; subst h2
  rw [List.drop_left, List.take_left]
theorem zbd {a pre seg post : List Value} {off na m : Nat} (ha : a.length = na) (h : na + pre.length = off) (h2 : seg.length = m) : ((a ++ (pre ++ (seg ++ post))).drop off).take m = seg := by
  rw [← List.append_assoc a pre]
  exact seg_mid (by rw [List.length_append, ha]; exact h) h2
theorem app_seg {a b seg : List Value} {k m : Nat} (h : (a.drop k).take m = seg) (h2 : seg.length = m) : ((a ++ b).drop k).take m = seg := by
  rw [← h, List.length_take, List.length_drop] at h2
  rcases Nat.eq_zero_or_pos m with h0 | h0
  · subst h0; rw [← h]; simp
  · rw [List.drop_append_of_le_length (by omega), List.take_append_of_le_length (by rw [List.length_drop]; omega), h]
theorem lput_mid {pre seg post vs : List Value} {off : Nat} (h : pre.length = off) (h2 : vs.length = seg.length) : lput (pre ++ (seg ++ post)) off vs = pre ++ (vs ++ post) := by
  subst h
  apply List.ext_getElem?
  intro q
  rw [lput_get vs _ _ _ (by simp; omega)]
  by_cases h3 : q < pre.length
  · rw [if_neg (by omega), List.getElem?_append_left h3, List.getElem?_append_left h3]
  · by_cases h4 : q < pre.length + vs.length
    · rw [if_pos ⟨by omega, h4⟩, List.getElem?_append_right (l₁ := pre) (l₂ := vs ++ post) (by omega), List.getElem?_append_left (by omega)]
    · rw [if_neg (by omega), List.getElem?_append_right (by omega), List.getElem?_append_right (by omega), List.getElem?_append_right (by omega), List.getElem?_append_right (by omega), h2]
theorem zd1 {a b : List Value} (ha : ∀ u ∈ a, u.oneCell' = true) (hb : ∀ u ∈ b, u.oneCell' = true) : ∀ u ∈ a ++ b, u.oneCell' = true := fun u hu => (List.mem_append.1 hu).elim (ha u) (hb u)
theorem fill_mid {place : Nat → Option (Nat × Nat)} {cells : Array Value} {i off n : Nat} {v : Value} {vc pre seg post : List Value} {rest : List (Nat × Value)} {r : Array Value} (hp : place i = some (off, n)) (hv : v.cells = vc.toArray) (hn : vc.length = n) (hc : cells.toList = pre ++ (seg ++ post)) (h1 : pre.length = off) (h2 : seg.length = n)
    (h : Instr.fill place (pre ++ (vc ++ post)).toArray rest = some r) : Instr.fill place cells ((i, v) :: rest) = some r := by
  refine fill_any hp hv hn ?_ ?_
  · have : cells.size = cells.toList.length := by simp
    rw [this, hc]
    simp only [List.length_append, Nat.ble_eq]; omega
  · rw [hc, lput_mid h1 (by omega)]; exact h
section
variable {P : Program} {w w0 : World} {base : Nat} {h : Ghost} {L : List Asrt}
theorem e_store_mid {j b off : Nat} {T E : TypeId} {vs pre seg post : List Value} {v : Value} {m b' : Nat} {g : Bool} {z : Option Value} (S : St base w0 h w L) (ht : zb5 P T = some (m, b', g, z)) (hc : v.cells = vs.toArray) (hm : vs.length = m)
    (hp : pre.length = off) (hs : seg.length = m) (hj : L[j]? = some (box b E (pre ++ (seg ++ post)))) (h1 : ∀ u ∈ vs, u.oneCell' = true) :
    ∃ w', (storeVar T ⟨b, off, none⟩ v).run P w = .ok () w' ∧ Chg w w' (fun q => q = b) ∧ St base w0 h w' (L.set j (box b E (pre ++ (vs ++ post)))) := by
  have := zcb (v := v) (vs := vs) (off := off) S ht hc hm hj (by rw [List.length_append, List.length_append]; omega) h1
  rwa [lput_mid hp (hm.trans hs.symm)] at this
theorem zdi {j b off na : Nat} {T E : TypeId} {vs a pre seg post : List Value} {v : Value} {m b' : Nat} {g : Bool} {z : Option Value} (S : St base w0 h w L) (ht : zb5 P T = some (m, b', g, z)) (hc : v.cells = vs.toArray) (hm : vs.length = m)
    (ha : a.length = na) (hp : na + pre.length = off) (hs : seg.length = m) (hj : L[j]? = some (box b E (a ++ (pre ++ (seg ++ post))))) (h1 : ∀ u ∈ vs, u.oneCell' = true) :
    ∃ w', (storeVar T ⟨b, off, none⟩ v).run P w = .ok () w' ∧ Chg w w' (fun q => q = b) ∧ St base w0 h w' (L.set j (box b E (a ++ (pre ++ (vs ++ post))))) := by
  rw [← List.append_assoc a pre] at hj
  have := e_store_mid (v := v) (vs := vs) (pre := a ++ pre) (off := off) S ht hc hm (by rw [List.length_append, ha]; exact hp) hs hj h1
  rwa [List.append_assoc a pre] at this
theorem zco {j b : Nat} {T E : TypeId} {vs cs : List Value} {v : Value} {m b' : Nat} {g : Bool} {z : Option Value} (S : St base w0 h w L) (ht : zb5 P T = some (m, b', g, z)) (hc : v.cells = vs.toArray) (hm : vs.length = m)
    (hs : cs.length = m) (hj : L[j]? = some (box b E cs)) (h1 : ∀ u ∈ vs, u.oneCell' = true) :
    ∃ w', (storeVar T ⟨b, 0, none⟩ v).run P w = .ok () w' ∧ Chg w w' (fun q => q = b) ∧ St base w0 h w' (L.set j (box b E vs)) := by
  have := zcb (v := v) (vs := vs) (off := 0) S ht hc hm hj (by omega) h1
  rwa [lput_all (by omega)] at this
end
end Gx
namespace Gx
open Go Go.RowKit
set_option linter.unusedSimpArgs false
set_option linter.unusedSectionVars false
set_option linter.unusedVariables false
section
variable {S : Type} [DecidableEq S]
def addL (l : List S) (s : S) : List S := if s ∈ l then l else l ++ [s]
def zey (s : S) (l : List S) : Int := ((l.findIdx fun x => decide (x = s) : Nat) : Int)
def rowsOf (next : S → Int → S) (n : Int) (s : S) : List S := (List.range n.toNat).map fun k => next s ((k : Nat) : Int)
def bfs (next : S → Int → S) (n : Int) (first : S) : Nat → List S
  | 0 => [first]
  | i + 1 => match (bfs next n first i)[i]? with
    | some s => (rowsOf next n s).foldl addL (bfs next n first i)
    | none => bfs next n first i
theorem addL_pre (l : List S) (s : S) : ∃ r, addL l s = l ++ r := by
  unfold addL
  split
  · exact ⟨[], by simp⟩
  · exact ⟨[s], rfl⟩
theorem addL_mem (l : List S) (s : S) : s ∈ addL l s := by
  unfold addL
  split
  · assumption
  · simp
theorem addL_nodup {l : List S} {s : S} (h : l.Nodup) : (addL l s).Nodup := by
  unfold addL
  split
  · exact h
  · rename_i hn
    rw [List.nodup_append]
    exact ⟨h, by simp, fun a ha b hb => by rw [List.mem_singleton.1 hb]; exact fun e => hn (by rw [← e]; exact ha)⟩
theorem fold_pre : ∀ (r l : List S), ∃ q, r.foldl addL l = l ++ q
  | [], l => ⟨[], by simp⟩
  | s :: r, l => by
    obtain ⟨a, ha⟩ := addL_pre l s
    obtain ⟨b, hb⟩ := fold_pre r (addL l s)
    exact ⟨a ++ b, by rw [List.foldl_cons, hb, ha, List.append_assoc]⟩
theorem fold_nodup : ∀ (r : List S) {l : List S}, l.Nodup → (r.foldl addL l).Nodup
  | [], _, h => h
  | s :: r, l, h => fold_nodup r (addL_nodup h)
theorem fold_mem : ∀ (r l : List S), ∀ x ∈ r, x ∈ r.foldl addL l
  | [], _, x, h => by cases h
  | s :: r, l, x, h => by
    rw [List.foldl_cons]
    rcases List.mem_cons.1 h with rfl | h
    · obtain ⟨q, hq⟩ := fold_pre r (addL l x)
      rw [hq]; exact List.mem_append_left _ (addL_mem l x)
    · exact fold_mem r _ x h
theorem fold_from : ∀ (r l : List S), ∀ x ∈ r.foldl addL l, x ∈ l ∨ x ∈ r
  | [], _, x, h => .inl h
  | s :: r, l, x, h => by
    rcases fold_from r _ x h with h | h
    · unfold addL at h
      split at h
      · exact .inl h
      · rcases List.mem_append.1 h with h | h
        · exact .inl h
        · rw [List.mem_singleton.1 h]; exact .inr (by simp)
    · exact .inr (List.mem_cons_of_mem _ h)
theorem bfs_step {next : S → Int → S} {n : Int} {first : S} {i : Nat} {s : S} (h : (bfs next n first i)[i]? = some s) : bfs next n first (i + 1) = (rowsOf next n s).foldl addL (bfs next n first i) := by
  show (match (bfs next n first i)[i]? with | some s => _ | none => _) = _
  rw [h]
theorem bfs_pre (next : S → Int → S) (n : Int) (first : S) (i : Nat) : ∃ q, bfs next n first (i + 1) = bfs next n first i ++ q := by
  cases h : (bfs next n first i)[i]? with
  | some s => rw [bfs_step h]; exact fold_pre _ _
  | none => exact ⟨[], by show (match (bfs next n first i)[i]? with | some s => _ | none => _) = _; rw [h]; simp⟩
theorem bfs_nodup (next : S → Int → S) (n : Int) (first : S) : ∀ i, (bfs next n first i).Nodup
  | 0 => by simp [bfs]
  | i + 1 => by
    cases h : (bfs next n first i)[i]? with
    | some s => rw [bfs_step h]; exact fold_nodup _ (bfs_nodup next n first i)
    | none =>
      have e : bfs next n first (i + 1) = bfs next n first i := by
        show (match (bfs next n first i)[i]? with | some s => _ | none => _) = _
        rw [h]
      rw [e]; exact bfs_nodup next n first i
theorem bfs_end {next : S → Int → S} {n : Int} {first : S} {i : Nat} (h : (bfs next n first i).length ≤ i) : ∀ d, bfs next n first (i + d) = bfs next n first i
  | 0 => rfl
  | d + 1 => by
    have ih := bfs_end h d
    rw [← Nat.add_assoc]
    show (match (bfs next n first (i + d))[i + d]? with | some s => _ | none => _) = _
    rw [ih, List.getElem?_eq_none (by omega)]
theorem bfs_all {next : S → Int → S} {n : Int} {first : S} {P : S → Prop} (h0 : P first) (h1 : ∀ s k, P s → 0 ≤ k → k < n → P (next s k)) : ∀ i, ∀ s ∈ bfs next n first i, P s
  | 0, s, hs => by simp only [bfs, List.mem_singleton] at hs; rw [hs]; exact h0
  | i + 1, s, hs => by
    have ih := bfs_all h0 h1 i
    cases h : (bfs next n first i)[i]? with
    | some t =>
      rw [bfs_step h] at hs
      rcases fold_from _ _ s hs with hs | hs
      · exact ih s hs
      · unfold rowsOf at hs
        obtain ⟨k, hk, rfl⟩ := List.mem_map.1 hs
        rw [List.mem_range] at hk
        exact h1 t _ (ih t (List.mem_of_getElem? h)) (by omega) (by omega)
    | none =>
      have e : bfs next n first (i + 1) = bfs next n first i := by
        show (match (bfs next n first i)[i]? with | some s => _ | none => _) = _
        rw [h]
      rw [e] at hs; exact ih s hs
open Classical in
noncomputable def allM (next : S → Int → S) (n : Int) (first : S) : List S := if h : ∃ i, (bfs next n first i).length ≤ i then bfs next n first h.choose else []
theorem allM_eq {next : S → Int → S} {n : Int} {first : S} {i : Nat} (h : (bfs next n first i).length ≤ i) : allM next n first = bfs next n first i := by
  have hx : ∃ i, (bfs next n first i).length ≤ i := ⟨i, h⟩
  unfold allM
  rw [dif_pos hx]
  have hc := hx.choose_spec
  generalize hx.choose = j at hc
  rcases Nat.le_total i j with hle | hle
  · have := bfs_end h (j - i); rwa [show i + (j - i) = j by omega] at this
  · have := bfs_end hc (i - j); rw [show j + (i - j) = i by omega] at this; exact this.symm
theorem place_mem {l : List S} {s : S} (h : s ∈ l) : 0 ≤ zey s l ∧ zey s l < (l.length : Int) ∧ l[(zey s l).toNat]? = some s := by
  unfold zey
  have hlt : l.findIdx (fun x => decide (x = s)) < l.length := List.findIdx_lt_length_of_exists ⟨s, h, by simp⟩
  refine ⟨by omega, by omega, ?_⟩
  rw [Int.toNat_natCast, List.getElem?_eq_getElem hlt]
  have := List.findIdx_getElem (w := hlt)
  rw [of_decide_eq_true this]
theorem place_app {l : List S} {s : S} (r : List S) (h : s ∈ l) : zey s (l ++ r) = zey s l := by
  unfold zey
  rw [List.findIdx_append, if_pos (List.findIdx_lt_length_of_exists ⟨s, h, by simp⟩)]
theorem place_new {l : List S} {s : S} (h : s ∉ l) : zey s (l ++ [s]) = (l.length : Int) := by
  unfold zey
  have e : l.findIdx (fun x => decide (x = s)) = l.length := List.findIdx_eq_length.2 fun x hx => decide_eq_false fun e => h (by rw [← e]; exact hx)
  rw [List.findIdx_append, if_neg (by rw [e]; omega)]
  simp
def zcn (l : List S) : List (S × Int) := l.mapIdx fun i s => (s, ((i : Nat) : Int))
theorem numbered_app (l : List S) (s : S) : zcn (l ++ [s]) = zcn l ++ [(s, (l.length : Int))] := by
  unfold zcn
  rw [List.mapIdx_append]; simp
theorem look_app (k : S) : ∀ (a b : List (S × Int)) (i : Nat), zdh k (a ++ b) i = (zdh k a i).or (zdh k b (i + a.length))
  | [], b, i => by simp [zdh]
  | p :: a, b, i => by
    have e : ∀ (l : List (S × Int)) (j : Nat), zdh k (p :: l) j = if k = p.1 then some (j, p.2) else zdh k l (j + 1) := fun l j => rfl
    rw [List.cons_append, e, e]
    by_cases h : k = p.1
    · rw [if_pos h, if_pos h]; rfl
    · rw [if_neg h, if_neg h, look_app k a b (i + 1), List.length_cons, show i + 1 + a.length = i + (a.length + 1) by omega]
theorem list_snoc {P : List S → Prop} (h0 : P []) (h1 : ∀ l s, P l → P (l ++ [s])) (l : List S) : P l := by
  rw [← List.reverse_reverse l]
  induction l.reverse with
  | nil => exact h0
  | cons a r ih => rw [List.reverse_cons]; exact h1 _ _ ih
theorem numbered_len (l : List S) : (zcn l).length = l.length := by simp [zcn]
theorem look_numbered (s : S) (l : List S) : zdh s (zcn l) 0 = if s ∈ l then some ((zey s l).toNat, zey s l) else none := by
  induction l using list_snoc with
  | h0 => rfl
  | h1 l t ih =>
    rw [numbered_app, look_app, ih]
    by_cases h : s ∈ l
    · rw [if_pos h, if_pos (List.mem_append_left _ h), place_app _ h]; rfl
    · rw [if_neg h]
      by_cases h2 : s = t
      · rw [if_pos (by simp [h2])]
        subst h2
        rw [place_new h]
        simp [zdh, numbered_len]
      · rw [if_neg (by simp [h, h2])]
        simp [zdh, h2]
theorem val_old {s : S} {l : List S} (h : s ∈ l) : zbm s (zcn l) = some (zey s l) := by unfold zbm; rw [look_numbered, if_pos h]; rfl
theorem val_new {s : S} {l : List S} (h : s ∉ l) : zbm s (zcn l) = none := by unfold zbm; rw [look_numbered, if_neg h]; rfl
theorem put_new {s : S} {l : List S} (h : s ∉ l) : zfi s (l.length : Int) (zcn l) = zcn (l ++ [s]) := by
  unfold zfi
  rw [look_numbered, if_neg h, numbered_app]
end
end Gx
namespace Gx
open Go Go.RowKit
set_option linter.unusedSimpArgs false
set_option linter.unusedSectionVars false
set_option linter.unusedVariables false
structure Dfa where
  part : PartM
  next : List (List Int)
  final : List Bool
deriving DecidableEq
instance : Inhabited Dfa := ⟨⟨⟨[], 0⟩, [], []⟩⟩
section
variable {S : Type} [DecidableEq S]
def rowK (next : S → Int → S) (s : S) (k : Int) : List S := (List.range k.toNat).map fun k => next s ((k : Nat) : Int)
theorem rowK_step (next : S → Int → S) (s : S) {k : Int} (h : 0 ≤ k) : rowK next s (k + 1) = rowK next s k ++ [next s k] := by
  unfold rowK
  rw [show (k + 1).toNat = k.toNat + 1 by omega, List.range_succ, List.map_append]
  simp only [List.map_cons, List.map_nil, Int.toNat_of_nonneg h]
theorem rowK_end (next : S → Int → S) (s : S) (n : Int) : rowK next s n = rowsOf next n s := rfl
def nextTo (next : S → Int → S) (n : Int) (all : List S) (i : Nat) : List (List Int) := (all.take i).map fun s => (rowsOf next n s).map fun t => zey t all
def Closed (next : S → Int → S) (n : Int) (all : List S) (i : Nat) : Prop := ∀ s ∈ all.take i, ∀ t ∈ rowsOf next n s, t ∈ all
structure MadeI (next : S → Int → S) (n : Int) (first : S) (fin : S → Bool) (all : List S) (mp : List (S × Int)) (nx : List (List Int)) (fl : List Bool) (i : Int) : Prop where
  lo : 0 ≤ i
  hi : i ≤ (all.length : Int)
  all_ : all = bfs next n first i.toNat
  mp_ : mp = zcn all
  nx_ : nx = nextTo next n all i.toNat
  fl_ : fl = (all.take i.toNat).map fin
  cl : Closed next n all i.toNat
structure MadeK (next : S → Int → S) (s : S) (all : List S) (all2 : List S) (mp2 : List (S × Int)) (l : List Int) (k : Int) : Prop where
  lo : 0 ≤ k
  all_ : all2 = (rowK next s k).foldl addL all
  mp_ : mp2 = zcn all2
  l_ : l = (rowK next s k).map fun t => zey t all2
  inn : ∀ t ∈ rowK next s k, t ∈ all2
variable {next : S → Int → S} {n : Int} {first : S} {fin : S → Bool} {all all2 : List S} {mp mp2 : List (S × Int)} {nx : List (List Int)} {fl : List Bool} {l : List Int} {i k : Int} {s : S}
theorem made_0 : MadeI next n first fin [first] [(first, 0)] [] [] 0 where
  lo := by omega
  hi := by simp
  all_ := rfl
  mp_ := rfl
  nx_ := rfl
  fl_ := rfl
  cl := fun s hs => by simp at hs
theorem made_k0 (W : MadeI next n first fin all mp nx fl i) : MadeK next s all all mp [] 0 where
  lo := by omega
  all_ := rfl
  mp_ := W.mp_
  l_ := rfl
  inn := fun t ht => by simp [rowK] at ht
theorem made_old (W : MadeK next s all all2 mp2 l k) (h : (zbm (next s k) mp2).isSome = true) : MadeK next s all all2 mp2 (l ++ [(zbm (next s k) mp2).getD 0]) (k + 1) := by
  have hm : next s k ∈ all2 := by
    by_cases hc : next s k ∈ all2
    · exact hc
    · rw [W.mp_, val_new hc] at h; cases h
  have ha : addL all2 (next s k) = all2 := by unfold addL; rw [if_pos hm]
  refine ⟨by have := W.lo; omega, ?_, W.mp_, ?_, ?_⟩
  · rw [rowK_step _ _ W.lo, List.foldl_append, ← W.all_]; exact ha.symm
  · rw [rowK_step _ _ W.lo, List.map_append, ← W.l_, W.mp_, val_old hm]; rfl
  · rw [rowK_step _ _ W.lo]
    intro t ht
    rcases List.mem_append.1 ht with ht | ht
    · exact W.inn t ht
    · rw [List.mem_singleton.1 ht]; exact hm
theorem made_new (W : MadeK next s all all2 mp2 l k) (h : (zbm (next s k) mp2).isSome = false) : MadeK next s all (all2 ++ [next s k]) (zfi (next s k) (all2.length : Int) mp2) (l ++ [(all2.length : Int)]) (k + 1) := by
  have hm : next s k ∉ all2 := fun hc => by rw [W.mp_, val_old hc] at h; cases h
  have ha : addL all2 (next s k) = all2 ++ [next s k] := by unfold addL; rw [if_neg hm]
  refine ⟨by have := W.lo; omega, ?_, by rw [W.mp_]; exact put_new hm, ?_, ?_⟩
  · rw [rowK_step _ _ W.lo, List.foldl_append, ← W.all_]; exact ha.symm
  · rw [rowK_step _ _ W.lo, List.map_append, W.l_]
    congr 1
    · exact List.map_congr_left fun t ht => (place_app _ (W.inn t ht)).symm
    · simp only [List.map_cons, List.map_nil, place_new hm]
  · rw [rowK_step _ _ W.lo]
    intro t ht
    rcases List.mem_append.1 ht with ht | ht
    · exact List.mem_append_left _ (W.inn t ht)
    · exact List.mem_append_right _ ht
theorem made_next (W : MadeI next n first fin all mp nx fl i) (h1 : i < (all.length : Int)) (hs : all[i.toNat]? = some s) (K : MadeK next s all all2 mp2 l n) : MadeI next n first fin all2 mp2 (nx ++ [l]) (fl ++ [fin s]) (i + 1) := by
  have h0 := W.lo
  have hall : all2 = bfs next n first (i.toNat + 1) := by
    rw [K.all_, rowK_end, W.all_]
    exact (bfs_step (by rw [← W.all_]; exact hs)).symm
  obtain ⟨q, hq⟩ : ∃ q, all2 = all ++ q := by rw [K.all_]; exact fold_pre _ _
  have htk : all2.take (i.toNat + 1) = all.take i.toNat ++ [s] := by
    rw [hq, List.take_append_of_le_length (by omega), List.take_add_one, hs]; rfl
  have ei : (i + 1).toNat = i.toNat + 1 := by omega
  refine ⟨by omega, by rw [hq, List.length_append]; omega, by rw [ei]; exact hall, K.mp_, ?_, ?_, ?_⟩
  · unfold nextTo
    rw [ei, htk, List.map_append, W.nx_]
    congr 1
    · unfold nextTo
      refine List.map_congr_left fun t ht => List.map_congr_left fun u hu => ?_
      rw [hq]; exact (place_app _ (W.cl t ht u hu)).symm
    · rw [K.l_]; rfl
  · rw [ei, htk, List.map_append, W.fl_]; rfl
  · rw [ei]
    intro t ht u hu
    rw [htk] at ht
    rcases List.mem_append.1 ht with ht | ht
    · rw [hq]; exact List.mem_append_left _ (W.cl t ht u hu)
    · rw [List.mem_singleton.1 ht] at hu
      exact K.inn u hu
theorem made_len (W : MadeI next n first fin all mp nx fl i) : (nx.length : Int) = i ∧ (fl.length : Int) = i := by
  have h0 := W.lo
  have h1 := W.hi
  rw [W.nx_, W.fl_]
  unfold nextTo
  simp only [List.length_map, List.length_take]
  omega
theorem made_val (W : MadeK next s all all2 mp2 l k) (t : S) : 0 ≤ (zbm t mp2).getD 0 ∧ (zbm t mp2).getD 0 ≤ (all2.length : Int) := by
  rw [W.mp_]
  by_cases h : t ∈ all2
  · rw [val_old h]
    have := place_mem h
    simp only [Option.getD_some]; omega
  · rw [val_new h]
    simp only [Option.getD_none]; omega
theorem madeK_len (W : MadeK next s all all2 mp2 l k) : (l.length : Int) = k := by
  have h0 := W.lo
  rw [W.l_]
  unfold rowK
  simp only [List.length_map, List.length_range]
  omega
noncomputable def madeM (p : PartM) (first : S) (next : S → Int → S) (fin : S → Bool) : Dfa := ⟨p, nextTo next p.n (allM next p.n first) (allM next p.n first).length, (allM next p.n first).map fin⟩
theorem zcp (p : PartM) (first : S) (next : S → Int → S) (fin : S → Bool) : (madeM p first next fin).part = p := rfl
theorem zdf (p : PartM) (first : S) (next : S → Int → S) (fin : S → Bool) : (madeM p first next fin).next = nextTo next p.n (allM next p.n first) (allM next p.n first).length := rfl
theorem zdb (p : PartM) (first : S) (next : S → Int → S) (fin : S → Bool) : (madeM p first next fin).final = (allM next p.n first).map fin := rfl
theorem zc4 (W : MadeI next n first fin all mp nx fl i) (h : (all.length : Int) ≤ i) : all = allM next n first ∧ nx = nextTo next n (allM next n first) (allM next n first).length ∧ fl = (allM next n first).map fin := by
  have h0 := W.lo
  have h1 := W.hi
  have ei : i.toNat = all.length := by omega
  have ha : all = allM next n first := by
    rw [allM_eq (i := i.toNat) (by rw [← W.all_]; omega)]; exact W.all_
  refine ⟨ha, ?_, ?_⟩
  · rw [W.nx_, ei, ha]
  · rw [W.fl_, ei, List.take_length, ha]
theorem nodup_lt : ∀ (N : Nat) (l : List Nat), l.Nodup → (∀ x ∈ l, x < N) → l.length ≤ N
  | 0, [], _, _ => by simp
  | 0, x :: l, _, h => by have := h x (by simp); omega
  | N + 1, l, hn, h => by
    by_cases hm : N ∈ l
    · have := nodup_lt N (l.erase N) (hn.erase N) fun x hx => by
        have h1 := h x (List.mem_of_mem_erase hx)
        have h2 : x ≠ N := fun e => by rw [e] at hx; exact (List.Nodup.not_mem_erase hn) hx
        omega
      rw [List.length_erase_of_mem hm] at this
      omega
    · have := nodup_lt N l hn fun x hx => by
        have h1 := h x hx
        have h2 : x ≠ N := fun e => hm (by rw [← e]; exact hx)
        omega
      omega
theorem map_nodup {α β : Type} {f : α → β} {P : α → Prop} (hf : ∀ a b, P a → P b → f a = f b → a = b) : ∀ {l : List α}, l.Nodup → (∀ x ∈ l, P x) → (l.map f).Nodup
  | [], _, _ => by simp
  | a :: l, hn, hp => by
    rw [List.map_cons, List.nodup_cons]
    rw [List.nodup_cons] at hn
    refine ⟨fun hc => ?_, map_nodup hf hn.2 fun x hx => hp x (List.mem_cons_of_mem _ hx)⟩
    obtain ⟨b, hb, e⟩ := List.mem_map.1 hc
    exact hn.1 (by rw [← hf b a (hp b (List.mem_cons_of_mem _ hb)) (hp a (by simp)) e]; exact hb)
theorem bfs_bound {P : S → Prop} {f : S → Nat} {N : Nat} (h0 : P first) (h1 : ∀ s k, P s → 0 ≤ k → k < n → P (next s k)) (hf : ∀ a b, P a → P b → f a = f b → a = b) (hN : ∀ a, P a → f a < N) (i : Nat) : (bfs next n first i).length ≤ N := by
  have hp := bfs_all (P := P) h0 h1 i
  have := nodup_lt N ((bfs next n first i).map f) (map_nodup hf (bfs_nodup next n first i) hp) fun x hx => by
    obtain ⟨a, ha, rfl⟩ := List.mem_map.1 hx
    exact hN a (hp a ha)
  rwa [List.length_map] at this
theorem fold_bound {P : S → Prop} {f : S → Nat} {N : Nat} (h0 : P first) (h1 : ∀ s k, P s → 0 ≤ k → k < n → P (next s k)) (hf : ∀ a b, P a → P b → f a = f b → a = b) (hN : ∀ a, P a → f a < N) (W : MadeI next n first fin all mp nx fl i) (hs : s ∈ all) (K : MadeK next s all all2 mp2 l k) (hk : k ≤ n) : all2.length ≤ N := by
  have hp : ∀ x ∈ all, P x := by rw [W.all_]; exact bfs_all (P := P) h0 h1 _
  have hn : all2.Nodup := by rw [K.all_]; exact fold_nodup _ (by rw [W.all_]; exact bfs_nodup next n first _)
  have hp2 : ∀ x ∈ all2, P x := fun x hx => by
    rw [K.all_] at hx
    rcases fold_from _ _ x hx with hx | hx
    · exact hp x hx
    · unfold rowK at hx
      obtain ⟨q, hq, rfl⟩ := List.mem_map.1 hx
      rw [List.mem_range] at hq
      exact h1 s _ (hp s hs) (by omega) (by omega)
  have := nodup_lt N (all2.map f) (map_nodup hf hn hp2) fun x hx => by
    obtain ⟨a, ha, rfl⟩ := List.mem_map.1 hx
    exact hN a (hp2 a ha)
  rwa [List.length_map] at this
end
end Gx
namespace Gx
open Go Go.RowKit
set_option linter.unusedSimpArgs false
set_option linter.unusedSectionVars false
set_option linter.unusedVariables false
def beginB : BSet := BitVec.twoPow 256 255
def putB (s : BSet) (n : Int) : BSet := s ||| BitVec.twoPow 256 n.toNat
theorem begin_words : zck [0, 0, 0, 9223372036854775808] = beginB := by decide +kernel
theorem has_put (s : BSet) {n k : Int} (h0 : 0 ≤ n) (k0 : 0 ≤ k) (k1 : k < 256) : has (putB s n) k = (has s k || decide (k = n)) := by
  unfold has putB
  rw [BitVec.getLsbD_or, BitVec.getLsbD_twoPow]
  congr 1
  have h2 : k.toNat < 256 := by omega
  by_cases h : k = n
  · subst h; simp [h2]
  · rw [decide_eq_false h]
    have : ¬ n.toNat = k.toNat := by omega
    simp [this]
theorem put_ofPred (s : BSet) {n : Int} (h0 : 0 ≤ n) (h1 : n ≤ 255) : (ofPred fun i => s.getLsbD i || decide ((i : Int) = n)) = putB s n := by
  refine set_ext fun i hi => ?_
  rw [zeg _ hi]
  have := has_put s (n := n) (k := ((i : Nat) : Int)) h0 (by omega) (by omega)
  unfold has at this
  rw [Int.toNat_natCast] at this
  rw [this]
theorem putB_words (s : BSet) {n : Int} (h0 : 0 ≤ n) (h1 : n ≤ 255) : (zbj s).set (n / 64).toNat (ior (at_ (zbj s) (n / 64)) (2 ^ (n % 64).toNat)) = zbj (putB s n) := by
  have := put_words (fun i => s.getLsbD i) h0 h1
  rw [ofPred_self, put_ofPred s h0 h1] at this
  exact this
theorem iand_one {x : Int} (h : 0 ≤ x) : iand x 1 = x % 2 := by
  obtain ⟨n, rfl⟩ := Int.eq_ofNat_of_zero_le h
  unfold iand
  rw [Int.toNat_natCast]
  show ((n &&& 1 : Nat) : Int) = _
  rw [Nat.and_one_is_mod]; omega
theorem has_shift (s : BSet) {n : Int} (h0 : 0 ≤ n) (h1 : n < 256) : decide (iand (at_ (zbj s) (n / 64) / 2 ^ (n % 64).toNat) 1 = 1) = has s n := by
  have hw : 0 ≤ at_ (zbj s) (n / 64) := zc6 (zcz (zda s) (by omega) (by omega))
  rw [iand_one (Int.ediv_nonneg hw (Int.le_of_lt (Int.pow_pos (by omega))))]
  exact bit_half s h0 h1 rfl
theorem has_zero (k : Int) : has (0 : BSet) k = false := by unfold has; simp
theorem has_ext {a b : BSet} (h : ∀ k : Int, 0 ≤ k → k < 256 → has a k = has b k) : a = b := set_ext fun i hi => by
  have := h ((i : Nat) : Int) (by omega) (by omega)
  unfold has at this
  rwa [Int.toNat_natCast] at this
theorem has_begin {k : Int} (h0 : 0 ≤ k) (h1 : k < 256) : has beginB k = decide (k = 255) := by
  unfold has beginB
  rw [BitVec.getLsbD_twoPow]
  by_cases h : k = 255
  · subst h; rfl
  · rw [decide_eq_false h]
    have : ¬ 255 = k.toNat := by omega
    simp [this]
def rowIn (m : Mach) (c : Int) (l : List Int) (o : BSet) : BSet := l.foldl (fun o n => if has (at_ m.spots n).set c then putB o n else o) o
def readTo (m : Mach) (c : Int) (l : List Int) (t : Int) (o : BSet) : BSet := rowIn m c (l.take t.toNat) o
def outTo (m : Mach) (c : Int) (s : BSet) (t : Int) (o : BSet) : BSet := (List.range t.toNat).foldl (fun o i => if has s ((i : Nat) : Int) then rowIn m c (at_ m.follow ((i : Nat) : Int)) o else o) o
def nextC (m : Mach) (c : Int) (s : BSet) : BSet := outTo m c s m.spots.length (if s = beginB then rowIn m c m.first 0 else 0)
def zca (m : Mach) (bytes : List Int) (s : BSet) (k : Int) : BSet := nextC m (at_ bytes k) s
def lastB (m : Mach) (s : BSet) (t : Int) : Bool := anyTo (fun i => at_ m.last ((i : Nat) : Int) && has s ((i : Nat) : Int)) t
def zdr (m : Mach) (s : BSet) : Bool := if s = beginB then m.empty else lastB m s m.last.length
theorem read_0 (m : Mach) (c : Int) (l : List Int) (o : BSet) : o = readTo m c l 0 o := rfl
theorem read_yes {m : Mach} {c : Int} {l : List Int} {t : Int} {o : BSet} (h0 : 0 ≤ t) (h1 : t < (l.length : Int)) (h : has (at_ m.spots (at_ l t)).set c = true) : putB (readTo m c l t o) (at_ l t) = readTo m c l (t + 1) o := by
  unfold readTo rowIn
  rw [zdk _ h0 h1, List.foldl_append, List.foldl_cons, List.foldl_nil, if_pos h]
theorem read_no {m : Mach} {c : Int} {l : List Int} {t : Int} {o : BSet} (h0 : 0 ≤ t) (h1 : t < (l.length : Int)) (h : has (at_ m.spots (at_ l t)).set c = false) : readTo m c l t o = readTo m c l (t + 1) o := by
  unfold readTo rowIn
  rw [zdk _ h0 h1, List.foldl_append, List.foldl_cons, List.foldl_nil, if_neg (by rw [h]; simp)]
theorem read_end {m : Mach} {c : Int} {l : List Int} {t : Int} {o : BSet} (h : (l.length : Int) ≤ t) : readTo m c l t o = rowIn m c l o := by
  unfold readTo
  rw [List.take_of_length_le (by omega)]
theorem out_0 (m : Mach) (c : Int) (s o : BSet) : o = outTo m c s 0 o := rfl
theorem out_yes {m : Mach} {c : Int} {s o : BSet} {t : Int} (h0 : 0 ≤ t) (h : has s t = true) : rowIn m c (at_ m.follow t) (outTo m c s t o) = outTo m c s (t + 1) o := by
  unfold outTo
  rw [show (t + 1).toNat = t.toNat + 1 by omega, List.range_succ, List.foldl_append, List.foldl_cons, List.foldl_nil, Int.toNat_of_nonneg h0, if_pos h]
theorem out_no {m : Mach} {c : Int} {s o : BSet} {t : Int} (h0 : 0 ≤ t) (h : has s t = false) : outTo m c s t o = outTo m c s (t + 1) o := by
  unfold outTo
  rw [show (t + 1).toNat = t.toNat + 1 by omega, List.range_succ, List.foldl_append, List.foldl_cons, List.foldl_nil, Int.toNat_of_nonneg h0, if_neg (by rw [h]; simp)]
theorem lastB_0 (m : Mach) (s : BSet) : lastB m s 0 = false := rfl
theorem lastB_step {m : Mach} {s : BSet} {t : Int} (h0 : 0 ≤ t) (h : lastB m s t = false) (hb : (at_ m.last t && has s t) = false) : lastB m s (t + 1) = false := by
  unfold lastB at h ⊢
  rw [anyTo_step _ h0, h, Int.toNat_of_nonneg h0, hb]; rfl
theorem finalB_begin {m : Mach} {s : BSet} (h : s = beginB) : zdr m s = m.empty := by unfold zdr; rw [if_pos h]
theorem finalB_yes {m : Mach} {s : BSet} {t : Int} (h : s ≠ beginB) (h0 : 0 ≤ t) (h1 : t < (m.last.length : Int)) (hb : at_ m.last t = true) (hs : has s t = true) : zdr m s = true := by
  unfold zdr
  rw [if_neg h]
  exact (zea _ _).2 ⟨t.toNat, by omega, by rw [Int.toNat_of_nonneg h0, hb, hs]; rfl⟩
theorem finalB_no {m : Mach} {s : BSet} {t : Int} (h : s ≠ beginB) (ht : (m.last.length : Int) ≤ t) (h1 : t ≤ m.last.length) (hl : lastB m s t = false) : zdr m s = false := by
  unfold zdr
  rw [if_neg h, show (m.last.length : Int) = t by omega]; exact hl
theorem rowIn_has (m : Mach) (c : Int) {k : Int} (k0 : 0 ≤ k) (k1 : k < 256) : ∀ (l : List Int) (o : BSet), (∀ x ∈ l, 0 ≤ x) → has (rowIn m c l o) k = (has o k || (decide (k ∈ l) && has (at_ m.spots k).set c))
  | [], o, _ => by unfold rowIn; simp
  | x :: l, o, h => by
    have hx := h x (by simp)
    have ih := rowIn_has m c k0 k1 l (if has (at_ m.spots x).set c then putB o x else o) fun y hy => h y (List.mem_cons_of_mem _ hy)
    show has (rowIn m c l (if has (at_ m.spots x).set c then putB o x else o)) k = _
    rw [ih]
    by_cases hs : has (at_ m.spots x).set c = true
    · rw [if_pos hs, has_put o hx k0 k1]
      by_cases e : k = x
      · subst e; simp [hs]
      · simp [e]
    · rw [if_neg hs]
      by_cases e : k = x
      · subst e; simp at hs; simp [hs]
      · simp [e]
theorem outTo_has {m : Mach} (hR : Right m) (c : Int) (s : BSet) {k : Int} (k0 : 0 ≤ k) (k1 : k < 256) (o : BSet) : ∀ t : Nat, t ≤ m.spots.length → has (outTo m c s ((t : Nat) : Int) o) k = (has o k || (anyTo (fun i => has s ((i : Nat) : Int) && decide (k ∈ at_ m.follow ((i : Nat) : Int))) ((t : Nat) : Int) && has (at_ m.spots k).set c))
  | 0, _ => by unfold outTo anyTo; simp
  | t + 1, ht => by
    have ih := outTo_has hR c s k0 k1 o t (by omega)
    have e : (((t + 1 : Nat) : Nat) : Int) = ((t : Nat) : Int) + 1 := by omega
    rw [e, anyTo_step _ (by omega), Int.toNat_natCast]
    cases hs : has s ((t : Nat) : Int) with
    | true =>
      rw [← out_yes (by omega) hs, rowIn_has m c k0 k1 _ _ fun x hx => (hR.rows (by omega) (by omega) x hx).1, ih]
      cases has o k <;> cases anyTo (fun i => has s ((i : Nat) : Int) && decide (k ∈ at_ m.follow ((i : Nat) : Int))) ((t : Nat) : Int) <;> cases decide (k ∈ at_ m.follow ((t : Nat) : Int)) <;> cases has (at_ m.spots k).set c <;> rfl
    | false =>
      rw [← out_no (by omega) hs, ih]
      simp
theorem nextC_has {m : Mach} (hR : Right m) (c : Int) (s : BSet) {k : Int} (k0 : 0 ≤ k) (k1 : k < 256) : has (nextC m c s) k = (((decide (s = beginB) && decide (k ∈ m.first)) || anyTo (fun i => has s ((i : Nat) : Int) && decide (k ∈ at_ m.follow ((i : Nat) : Int))) m.spots.length) && has (at_ m.spots k).set c) := by
  unfold nextC
  rw [outTo_has hR c s k0 k1 _ m.spots.length (Nat.le_refl _)]
  by_cases h : s = beginB
  · rw [if_pos h, rowIn_has m c k0 k1 _ _ fun x hx => (hR.firsts x hx).1, has_zero, decide_eq_true h]
    cases decide (k ∈ m.first) <;> cases has (at_ m.spots k).set c <;> simp
  · rw [if_neg h, has_zero, decide_eq_false h]; simp
def InB (m : Mach) (s : BSet) : Prop := s = beginB ∨ ∀ k : Int, 0 ≤ k → k < 256 → has s k = true → k < (m.spots.length : Int)
theorem ze9 {m : Mach} (hR : Right m) (c : Int) (s : BSet) : ∀ k : Int, 0 ≤ k → k < 256 → has (nextC m c s) k = true → k < (m.spots.length : Int) := fun k k0 k1 h => by
  rw [nextC_has hR c s k0 k1] at h
  simp only [Bool.and_eq_true, Bool.or_eq_true, decide_eq_true_eq] at h
  rcases h.1 with h | h
  · exact (hR.firsts k h.2).2
  · obtain ⟨d, hd, h2⟩ := (zea _ _).1 h
    simp only [Bool.and_eq_true, decide_eq_true_eq] at h2
    exact (hR.rows (by omega) hd k h2.2).2
theorem next_ne {m : Mach} (hR : Right m) (c : Int) (s : BSet) : nextC m c s ≠ beginB := fun e => by
  have := ze9 hR c s 255 (by omega) (by omega) (by rw [e, has_begin (by omega) (by omega)]; rfl)
  have := hR.small
  omega
def codeB (m : Mach) (s : BSet) : Nat := if s = beginB then 2 ^ m.spots.length else s.toNat
theorem code_lt {m : Mach} {s : BSet} (h : InB m s) : codeB m s < 2 ^ m.spots.length + 1 := by
  unfold codeB
  split
  · omega
  · rcases h with h | h
    · contradiction
    · refine Nat.lt_succ_of_lt (Nat.lt_of_not_le fun hc => ?_)
      obtain ⟨i, hi, hb⟩ := Nat.exists_ge_and_testBit_of_ge_two_pow hc
      have hi2 : i < 256 := Nat.lt_of_not_le fun hge => by
        rw [Nat.testBit_lt_two_pow (Nat.lt_of_lt_of_le s.isLt (Nat.pow_le_pow_right (by omega) hge))] at hb
        cases hb
      have := h ((i : Nat) : Int) (by omega) (by omega) (by unfold has; rw [Int.toNat_natCast]; exact hb)
      omega
theorem code_inj {m : Mach} {a b : BSet} (ha : InB m a) (hb : InB m b) (h : codeB m a = codeB m b) : a = b := by
  have key : ∀ s : BSet, s ≠ beginB → InB m s → s.toNat < 2 ^ m.spots.length := fun s hs h => by
    have := code_lt h
    unfold codeB at this
    rw [if_neg hs] at this
    rcases Nat.lt_or_eq_of_le (Nat.le_of_lt_succ this) with h2 | h2
    · exact h2
    · exfalso
      rcases h with h | h
      · exact hs h
      · have hlt : m.spots.length < 256 := Nat.lt_of_not_le fun hge => by
          have := s.isLt
          have := Nat.pow_le_pow_right (n := 2) (by omega) hge
          omega
        have := h ((m.spots.length : Nat) : Int) (by omega) (by omega) (by
          unfold has
          rw [Int.toNat_natCast]
          show s.toNat.testBit m.spots.length = true
          rw [h2, Nat.testBit_two_pow_self])
        omega
  unfold codeB at h
  by_cases h1 : a = beginB
  · by_cases h2 : b = beginB
    · rw [h1, h2]
    · rw [if_pos h1, if_neg h2] at h
      have := key b h2 hb; omega
  · by_cases h2 : b = beginB
    · rw [if_neg h1, if_pos h2] at h
      have := key a h1 ha; omega
    · rw [if_neg h1, if_neg h2] at h
      exact BitVec.eq_of_toNat_eq h
end Gx
namespace Gx
open Go Go.RowKit
set_option linter.unusedSimpArgs false
set_option linter.unusedSectionVars false
set_option linter.unusedVariables false
theorem next_some (l : List Int) : ∀ x, nextOf l = some x → 0 ≤ x ∧ x ≤ (l.length : Int) ∧ (∀ v ∈ l, v < x) ∧ ∀ k : Int, 0 ≤ k → k < x → k ∈ l := by
  induction l using list_snoc with
  | h0 => intro x h; simp [nextOf] at h; subst h; exact ⟨by omega, by simp, fun v hv => (by cases hv), fun k h0 h1 => by omega⟩
  | h1 l n ih =>
    intro x h
    rw [next_app] at h
    cases hl : nextOf l with
    | none => rw [hl] at h; cases h
    | some y =>
      rw [hl] at h
      simp only [] at h
      obtain ⟨a, b, c, d⟩ := ih y hl
      by_cases h1 : n > y
      · rw [if_pos h1] at h; cases h
      · rw [if_neg h1] at h
        by_cases h2 : n = y
        · rw [if_pos h2] at h
          injection h with h
          refine ⟨by omega, by rw [List.length_append]; simp; omega, fun v hv => ?_, fun k h0 h3 => ?_⟩
          · rcases List.mem_append.1 hv with hv | hv
            · have := c v hv; omega
            · rw [List.mem_singleton.1 hv]; omega
          · by_cases h4 : k = n
            · rw [h4]; simp
            · exact List.mem_append_left _ (d k h0 (by omega))
        · rw [if_neg h2] at h
          injection h with h
          subst h
          refine ⟨by omega, by rw [List.length_append]; omega, fun v hv => ?_, fun k h0 h3 => List.mem_append_left _ (d k h0 h3)⟩
          rcases List.mem_append.1 hv with hv | hv
          · exact c v hv
          · rw [List.mem_singleton.1 hv]; omega
structure RightP (p : PartM) : Prop where
  lo : 0 ≤ p.n
  hi : p.n ≤ 256
  of_lt : ∀ c : Int, 0 ≤ c → c < 256 → at_ p.of c < p.n
  some_ : ∀ k : Int, 0 ≤ k → k < p.n → ∃ c : Int, 0 ≤ c ∧ c < 256 ∧ at_ p.of c = k
theorem rightP_of {p : PartM} (ho : okPart p) (h : zc7 p = true) : RightP p := by
  unfold zc7 at h
  cases hn : nextOf p.of with
  | none => rw [hn] at h; cases h
  | some x =>
    rw [hn] at h
    have hx : x = p.n := of_decide_eq_true h
    obtain ⟨a, b, c, d⟩ := next_some p.of x hn
    have hl : p.of.length = 256 := ho.1.1
    subst hx
    refine ⟨a, by omega, fun k h0 h1 => c _ (zdv h0 (by omega)), fun k h0 h1 => ?_⟩
    obtain ⟨j, hj, e⟩ := List.getElem_of_mem (d k h0 h1)
    refine ⟨((j : Nat) : Int), by omega, by omega, ?_⟩
    have := zdm (xs := p.of) (i := ((j : Nat) : Int)) (by omega) (by omega)
    rw [Int.toNat_natCast, List.getElem?_eq_getElem hj] at this
    injection this with this
    rw [← this, e]
theorem setsP_at {p : PartM} {k : Int} (h0 : 0 ≤ k) (h1 : k < p.n) (h2 : p.n ≤ 256) {c : Int} (c0 : 0 ≤ c) (c1 : c < 256) : has (at_ (zcq p) k) c = decide (at_ p.of c = k) := by
  have hl := setsP_len p
  have e : at_ (zcq p) k = ofPred fun c => decide (at_ p.of ((c : Nat) : Int) = k) := by
    have := zdm (xs := zcq p) (i := k) h0 (by omega)
    unfold zcq at this
    rw [List.getElem?_map, List.getElem?_range (by unfold many; omega)] at this
    simp only [Option.map_some, Int.toNat_of_nonneg h0] at this
    injection this with this
    exact this.symm
  rw [e]
  unfold has
  rw [zeg _ (by omega), Int.toNat_of_nonneg c0]
theorem setsP_some {p : PartM} (h : RightP p) {k : Int} (h0 : 0 ≤ k) (h1 : k < p.n) : at_ (zcq p) k ≠ 0 := fun e => by
  obtain ⟨c, c0, c1, hc⟩ := h.some_ k h0 h1
  have := setsP_at h0 h1 h.hi c0 c1
  rw [e, has_zero, decide_eq_true hc] at this
  cases this
theorem first_in {s : BSet} (h : s ≠ 0) : has s (first s) = true ∧ 0 ≤ first s ∧ first s < 256 := by
  have h1 : 0 < count s := of_decide_eq_true (by rw [some_full]; exact decide_eq_true h)
  rw [← list_len] at h1
  rw [first_list s h1]
  obtain ⟨a, b, c⟩ := list_get s (Int.le_refl 0) h1
  exact ⟨c, a, b⟩
theorem leastOf_one {s : BSet} (h : s ≠ 0) : leastOf 1 s = [first s] := by
  have h1 : 0 < ((zcf s).length : Int) := by
    rw [list_len]; exact of_decide_eq_true (by rw [some_full]; exact decide_eq_true h)
  unfold leastOf
  rw [first_list s h1]
  cases hl : zcf s with
  | nil => rw [hl] at h1; simp at h1
  | cons a r =>
    have : (min (max 1 0) (((a :: r).length : Nat) : Int)).toNat = 1 := by simp; omega
    rw [this]; rfl
def zam (p : PartM) : List Int := (zcr p 1).flatten
def zd7 (p : PartM) (t : Int) : List Int := ((zcr p 1).take t.toNat).flatten
theorem leastB_0 (p : PartM) : ([] : List Int) = zd7 p 0 := rfl
theorem leastB_step (p : PartM) {t : Int} (h0 : 0 ≤ t) (h1 : t < ((zcr p 1).length : Int)) : zd7 p t ++ at_ (zcr p 1) t = zd7 p (t + 1) := by
  unfold zd7
  rw [zdk _ h0 h1, List.flatten_append]; simp
theorem leastB_end (p : PartM) {t : Int} (h : ((zcr p 1).length : Int) ≤ t) : zam p = zd7 p t := by
  unfold zam zd7
  rw [List.take_of_length_le (by omega)]
theorem leastOf_le (s : BSet) : (leastOf 1 s).length ≤ 1 := by
  unfold leastOf
  rw [List.length_take]; omega
theorem flat_len_le : ∀ l : List (List Int), (∀ x ∈ l, x.length ≤ 1) → l.flatten.length ≤ l.length
  | [], _ => by simp
  | x :: l, h => by
    have := flat_len_le l fun y hy => h y (List.mem_cons_of_mem _ hy)
    have := h x (by simp)
    rw [List.flatten_cons, List.length_append, List.length_cons]; omega
theorem leastBTo_len (p : PartM) (t : Int) : ((zd7 p t).length : Int) ≤ 256 := by
  unfold zd7
  have := flat_len_le ((zcr p 1).take t.toNat) fun x hx => by
    have hx := List.mem_of_mem_take hx
    unfold zcr at hx
    obtain ⟨s, _, rfl⟩ := List.mem_map.1 hx
    exact leastOf_le s
  have hl : ((zcr p 1).length : Int) ≤ 256 := by
    unfold zcr
    rw [List.length_map]
    have := setsP_len p; omega
  rw [List.length_take] at this; omega
theorem leastP_row (p : PartM) {t : Int} (h0 : 0 ≤ t) (h1 : t < ((zcr p 1).length : Int)) : ((at_ (zcr p 1) t).length : Int) ≤ 1 := by
  have := zdv h0 h1
  unfold zcr at this
  obtain ⟨s, _, e⟩ := List.mem_map.1 this
  have h2 := leastOf_le s
  unfold zcr
  rw [← e]; omega
theorem leastB_le (p : PartM) : ((zam p).length : Int) ≤ 256 := by
  rw [leastB_end p (t := ((zcr p 1).length : Int)) (Int.le_refl _)]; exact leastBTo_len p _
theorem leastB_map {p : PartM} (h : RightP p) : zam p = (zcq p).map first := by
  unfold zam zcr
  have : (zcq p).map (leastOf 1) = (zcq p).map fun s => [first s] := by
    refine List.map_congr_left fun s hs => leastOf_one ?_
    obtain ⟨j, hj, e⟩ := List.getElem_of_mem hs
    have hl := setsP_len p
    have := setsP_some h (k := ((j : Nat) : Int)) (by omega) (by have := h.lo; omega)
    have e2 := zdm (xs := zcq p) (i := ((j : Nat) : Int)) (by omega) (by omega)
    rw [Int.toNat_natCast, List.getElem?_eq_getElem hj] at e2
    injection e2 with e2
    rw [← e2, e] at this; exact this
  rw [this]
  induction zcq p with
  | nil => rfl
  | cons a r ih => rw [List.map_cons, List.flatten_cons, ih]; rfl
theorem leastB_len {p : PartM} (h : RightP p) : ((zam p).length : Int) = p.n := by
  rw [leastB_map h, List.length_map, setsP_len]
  have := h.lo; have := h.hi; omega
theorem leastB_at {p : PartM} (h : RightP p) {k : Int} (h0 : 0 ≤ k) (h1 : k < p.n) : 0 ≤ at_ (zam p) k ∧ at_ (zam p) k < 256 ∧ at_ p.of (at_ (zam p) k) = k := by
  have hl := setsP_len p
  have hi := h.hi
  have e : at_ (zam p) k = first (at_ (zcq p) k) := by rw [leastB_map h]; exact at_map _ _ h0 (by omega)
  obtain ⟨a, b, c⟩ := first_in (setsP_some h h0 h1)
  rw [e]
  refine ⟨b, c, ?_⟩
  rw [setsP_at h0 h1 hi b c] at a
  exact of_decide_eq_true a
def zfb (p : PartM) (l : List BSet) : Bool := zc7 p && !l.any (zc1 p)
def okB (m : Mach) (p : PartM) : Bool := zbs m && zfb p (zcw m)
noncomputable def zaf (m : Mach) (p : PartM) : Dfa := if okB m p then madeM p beginB (zca m (zam p)) (zdr m) else ⟨⟨List.replicate 256 0, 0⟩, [], []⟩
def errB (m : Mach) (p : PartM) : Int := if okB m p then 0 else 1
theorem nextB_eq (m : Mach) (bs : List Int) (s : BSet) (k : Int) : zca m bs s k = outTo m (at_ bs k) s m.spots.length (if s = beginB then rowIn m (at_ bs k) m.first 0 else 0) := rfl
theorem fits_no1 {p : PartM} {l : List BSet} (h : zc7 p = false) : zfb p l = false := by unfold zfb; rw [h]; rfl
theorem fits_no2 {p : PartM} {l : List BSet} {t : Int} (h0 : 0 ≤ t) (h1 : t < (l.length : Int)) (h : zc1 p (at_ l t) = true) : zfb p l = false := by
  unfold zfb
  rw [List.any_eq_true.2 ⟨_, zdv h0 h1, h⟩]; simp
theorem fits_yes {p : PartM} {l : List BSet} {t : Int} (hr : zc7 p = true) (h1 : (l.length : Int) ≤ t) (h : (l.take t.toNat).any (zc1 p) = false) : zfb p l = true := by
  rw [List.take_of_length_le (by omega)] at h
  unfold zfb
  rw [hr, h]; rfl
theorem fits_right {p : PartM} {l : List BSet} (h : zfb p l = true) : zc7 p = true := by
  unfold zfb at h
  exact (Bool.and_eq_true_iff.1 h).1
theorem any_step {α : Type} [Inhabited α] {f : α → Bool} {l : List α} {t : Int} (h0 : 0 ≤ t) (h1 : t < (l.length : Int)) (h : (l.take t.toNat).any f = false) (hf : f (at_ l t) = false) : (l.take (t + 1).toNat).any f = false := by
  rw [zdk _ h0 h1, List.any_append, h]
  simp [hf]
theorem zbl {m : Mach} {p : PartM} (h1 : zbs m = true) (h2 : zfb p (zcw m) = true) : zaf m p = madeM p beginB (zca m (zam p)) (zdr m) := by unfold zaf okB; rw [h1, h2]; rfl
theorem zb9 {m : Mach} {p : PartM} (h1 : zbs m = false) : zaf m p = ⟨⟨List.replicate 256 0, 0⟩, [], []⟩ ∧ errB m p = 1 := by unfold zaf errB okB; rw [h1]; exact ⟨rfl, rfl⟩
theorem zb8 {m : Mach} {p : PartM} (h2 : zfb p (zcw m) = false) : zaf m p = ⟨⟨List.replicate 256 0, 0⟩, [], []⟩ ∧ errB m p = 1 := by unfold zaf errB okB; rw [h2, Bool.and_false]; exact ⟨rfl, rfl⟩
theorem err_yes {m : Mach} {p : PartM} (h1 : zbs m = true) (h2 : zfb p (zcw m) = true) : errB m p = 0 := by unfold errB okB; rw [h1, h2]; rfl
section
variable {m : Mach} {bs : List Int} {n : Int} {fin : BSet → Bool} {all all2 : List BSet} {mp mp2 : List (BSet × Int)} {nx : List (List Int)} {fl : List Bool} {l : List Int} {i k : Int} {s : BSet}
theorem two_pow_le {a : Nat} (h : a ≤ 20) : 2 ^ a + 1 ≤ 1048577 := by
  have := Nat.pow_le_pow_right (n := 2) (by omega) h
  have e : 2 ^ 20 = 1048576 := by decide
  omega
theorem spots_bound (hR : Right m) (h20 : (m.spots.length : Int) ≤ 20) (W : MadeI (zca m bs) n beginB fin all mp nx fl i) : (all.length : Int) ≤ 1048577 := by
  have := bfs_bound (P := InB m) (f := codeB m) (N := 2 ^ m.spots.length + 1) (next := zca m bs) (n := n) (first := beginB) (.inl rfl) (fun s k _ _ _ => .inr (ze9 hR _ s)) (fun a b => code_inj) (fun a h => code_lt h) i.toNat
  have h2 := two_pow_le (a := m.spots.length) (by omega)
  rw [W.all_]; omega
theorem spots_bound2 (hR : Right m) (h20 : (m.spots.length : Int) ≤ 20) (W : MadeI (zca m bs) n beginB fin all mp nx fl i) (hs : s ∈ all) (K : MadeK (zca m bs) s all all2 mp2 l k) (hk : k ≤ n) : (all2.length : Int) ≤ 1048577 := by
  have := fold_bound (P := InB m) (f := codeB m) (N := 2 ^ m.spots.length + 1) (.inl rfl) (fun s k _ _ _ => .inr (ze9 hR _ s)) (fun a b => code_inj) (fun a h => code_lt h) W hs K hk
  have h2 := two_pow_le (a := m.spots.length) (by omega)
  omega
end
end Gx
namespace Gx
open Go Go.RowKit
set_option linter.unusedSimpArgs false
set_option linter.unusedSectionVars false
set_option linter.unusedVariables false
def badQ (n q : Int) : Bool := decide (q < 0) || decide (n ≤ q)
def zee (d : Dfa) (n : Int) (l : List Int) : Bool := decide ((l.length : Int) ≠ d.part.n) || l.any (badQ n)
def zcm (d : Dfa) : Bool := !decide ((d.next.length : Int) = 0) && decide ((d.final.length : Int) = (d.next.length : Int)) && zc7 d.part && !d.next.any (zee d d.next.length)
structure RightD (d : Dfa) : Prop where
  some_ : 0 < (d.next.length : Int)
  final : (d.final.length : Int) = d.next.length
  rp : zc7 d.part = true
  part : RightP d.part
  row : ∀ q : Int, 0 ≤ q → q < (d.next.length : Int) → ((at_ d.next q).length : Int) = d.part.n
  cell : ∀ q : Int, 0 ≤ q → q < (d.next.length : Int) → ∀ x ∈ at_ d.next q, 0 ≤ x ∧ x < (d.next.length : Int)
theorem bad_row {d : Dfa} {n : Int} {l : List Int} : zee d n l = false ↔ (l.length : Int) = d.part.n ∧ ∀ x ∈ l, 0 ≤ x ∧ x < n := by
  unfold zee
  rw [Bool.or_eq_false_iff, decide_eq_false_iff_not, Decidable.not_not, List.any_eq_false]
  refine and_congr Iff.rfl ⟨fun h x hx => ?_, fun h x hx => ?_⟩
  · have := h x hx
    unfold badQ at this
    simp only [Bool.or_eq_true, decide_eq_true_eq, not_or] at this
    omega
  · have := h x hx
    unfold badQ
    simp only [Bool.or_eq_true, decide_eq_true_eq, not_or]
    omega
theorem rightD_of {d : Dfa} (ho : okPart d.part) (h : zcm d = true) : RightD d := by
  unfold zcm at h
  simp only [Bool.and_eq_true, Bool.not_eq_true', decide_eq_true_eq, decide_eq_false_iff_not] at h
  obtain ⟨⟨⟨h1, h2⟩, h3⟩, h4⟩ := h
  have hr : ∀ q : Int, 0 ≤ q → q < (d.next.length : Int) → zee d d.next.length (at_ d.next q) = false := fun q h0 hq => by
    have := List.any_eq_false.1 h4 _ (zdv h0 hq)
    simpa using this
  exact ⟨by omega, h2, h3, rightP_of ho h3, fun q h0 hq => (bad_row.1 (hr q h0 hq)).1, fun q h0 hq => (bad_row.1 (hr q h0 hq)).2⟩
theorem rightD_to {d : Dfa} (h1 : 0 < (d.next.length : Int)) (h2 : (d.final.length : Int) = d.next.length) (h3 : zc7 d.part = true) (h4 : ∀ l ∈ d.next, (l.length : Int) = d.part.n ∧ ∀ x ∈ l, 0 ≤ x ∧ x < (d.next.length : Int)) : zcm d = true := by
  unfold zcm
  rw [h3, decide_eq_true h2, decide_eq_false (by omega)]
  have : d.next.any (zee d d.next.length) = false := List.any_eq_false.2 fun l hl => by rw [bad_row.2 (h4 l hl)]; simp
  rw [this]; rfl
theorem badQ_1 {n q : Int} (h : q < 0) : badQ n q = true := by unfold badQ; rw [decide_eq_true h]; rfl
theorem badQ_2 {n q : Int} (h : ¬ q < 0) : badQ n q = decide (n ≤ q) := by unfold badQ; rw [decide_eq_false h]; rfl
theorem badRow_1 {d : Dfa} {n : Int} {l : List Int} (h : (l.length : Int) ≠ d.part.n) : zee d n l = true := by unfold zee; rw [decide_eq_true h]; rfl
theorem badRow_2 {d : Dfa} {n t : Int} {l : List Int} (h0 : 0 ≤ t) (h1 : t < (l.length : Int)) (h : badQ n (at_ l t) = true) : zee d n l = true := by
  unfold zee
  rw [List.any_eq_true.2 ⟨_, zdv h0 h1, h⟩]; simp
theorem badRow_3 {d : Dfa} {n t : Int} {l : List Int} (hl : ¬ (l.length : Int) ≠ d.part.n) (h1 : (l.length : Int) ≤ t) (h : (l.take t.toNat).any (badQ n) = false) : zee d n l = false := by
  rw [List.take_of_length_le (by omega)] at h
  unfold zee
  rw [decide_eq_false hl, h]; rfl
theorem rightD_1 {d : Dfa} (h : (d.next.length : Int) = 0) : zcm d = false := by unfold zcm; rw [decide_eq_true h]; rfl
theorem rightD_2 {d : Dfa} (h : (d.final.length : Int) ≠ d.next.length) : zcm d = false := by unfold zcm; rw [decide_eq_false h]; simp
theorem rightD_3 {d : Dfa} (h : zc7 d.part = false) : zcm d = false := by unfold zcm; rw [h]; simp
theorem rightD_4 {d : Dfa} {t : Int} (h0 : 0 ≤ t) (h1 : t < (d.next.length : Int)) (h : zee d d.next.length (at_ d.next t) = true) : zcm d = false := by
  unfold zcm
  rw [List.any_eq_true.2 ⟨_, zdv h0 h1, h⟩]; simp
theorem rightD_5 {d : Dfa} {t : Int} (ha : ¬ (d.next.length : Int) = 0) (hb : ¬ (d.final.length : Int) ≠ d.next.length) (hc : zc7 d.part = true) (h1 : (d.next.length : Int) ≤ t) (h : (d.next.take t.toNat).any (zee d d.next.length) = false) : zcm d = true := by
  rw [List.take_of_length_le (by omega)] at h
  unfold zcm
  rw [decide_eq_false ha, decide_eq_true (Decidable.not_not.1 hb), hc, h]; rfl
def goD (d : Dfa) (w : ByteArray) : Nat → Int
  | 0 => 0
  | i + 1 => at_ (at_ d.next (goD d w i)) (at_ d.part.of (byt w ((i : Nat) : Int)))
def runD (d : Dfa) (w : ByteArray) : Bool := zcm d && at_ d.final (goD d w w.size)
theorem of_in {d : Dfa} (ho : okPart d.part) (R : RightD d) (w : ByteArray) (i : Int) : 0 ≤ at_ d.part.of (byt w i) ∧ at_ d.part.of (byt w i) < d.part.n := by
  have hb := byt_range w i
  exact ⟨zeu (zcz ho.1 (by omega) (by omega)), R.part.of_lt _ (by omega) (by omega)⟩
theorem goD_in {d : Dfa} (ho : okPart d.part) (R : RightD d) (w : ByteArray) : ∀ i, 0 ≤ goD d w i ∧ goD d w i < (d.next.length : Int)
  | 0 => ⟨by simp [goD], by have := R.some_; simpa [goD] using this⟩
  | i + 1 => by
    have ih := goD_in ho R w i
    have hc := of_in ho R w ((i : Nat) : Int)
    exact R.cell _ ih.1 ih.2 _ (zdv hc.1 (by rw [R.row _ ih.1 ih.2]; exact hc.2))
theorem goD_0 (d : Dfa) (w : ByteArray) : (0 : Int) = goD d w (0 : Int).toNat := rfl
theorem goD_step (d : Dfa) (w : ByteArray) {t : Int} (h0 : 0 ≤ t) : at_ (at_ d.next (goD d w t.toNat)) (at_ d.part.of (byt w t)) = goD d w (t + 1).toNat := by
  rw [show (t + 1).toNat = t.toNat + 1 by omega]
  show _ = at_ (at_ d.next (goD d w t.toNat)) (at_ d.part.of (byt w ((t.toNat : Nat) : Int)))
  rw [Int.toNat_of_nonneg h0]
theorem runD_no {d : Dfa} {w : ByteArray} (h : zcm d = false) : runD d w = false := by unfold runD; rw [h]; rfl
theorem runD_yes {d : Dfa} {w : ByteArray} {t : Int} (h : zcm d = true) (ht : t = w.size) : runD d w = at_ d.final (goD d w t.toNat) := by
  unfold runD
  rw [h, ht, Int.toNat_natCast]; rfl
def zeroD : Dfa := ⟨⟨List.replicate 256 0, 0⟩, [], []⟩
def notD (d : Dfa) : Dfa := if zcm d then ⟨d.part, d.next, d.final.map fun x => !x⟩ else zeroD
def errD (d : Dfa) : Int := if zcm d then 0 else 1
theorem notD_yes {d : Dfa} (h : zcm d = true) : notD d = ⟨d.part, d.next, d.final.map fun x => !x⟩ := by unfold notD; rw [if_pos h]
theorem notD_no {d : Dfa} (h : zcm d = false) : notD d = zeroD := by unfold notD; rw [if_neg (by rw [h]; simp)]
theorem errD_yes {d : Dfa} (h : zcm d = true) : errD d = 0 := by unfold errD; rw [if_pos h]
theorem errD_no {d : Dfa} (h : zcm d = false) : errD d = 1 := by unfold errD; rw [if_neg (by rw [h]; simp)]
def notTo (d : Dfa) (t : Int) : List Bool := (d.final.take t.toNat).map fun x => !x
theorem not_step (d : Dfa) {t : Int} (h0 : 0 ≤ t) (h1 : t < (d.final.length : Int)) : notTo d t ++ [!at_ d.final t] = notTo d (t + 1) := by
  unfold notTo
  rw [zdk _ h0 h1, List.map_append]; rfl
theorem not_0 (d : Dfa) : ([] : List Bool) = notTo d 0 := rfl
theorem not_end (d : Dfa) {t : Int} (h : (d.final.length : Int) ≤ t) : notTo d t = d.final.map fun x => !x := by
  unfold notTo
  rw [List.take_of_length_le (by omega)]
theorem not_len (d : Dfa) {t : Int} (h0 : 0 ≤ t) : ((notTo d t).length : Int) ≤ t := by
  unfold notTo
  rw [List.length_map, List.length_take]; omega
def za3 (x : Int × Int) : List Value := [.int .i64 x.1, .int .i64 x.2]
def okPair (x : Int × Int) : Prop := inK .i64 x.1 ∧ inK .i64 x.2
theorem encPair_one (x : Int × Int) : ∀ u ∈ za3 x, u.oneCell' = true := fun u hu => by
  simp only [za3, List.mem_cons, List.not_mem_nil, or_false] at hu
  rcases hu with rfl | rfl <;> rfl
def kPair : Kd (Int × Int) := .flat za3 okPair 2 (by omega) (fun _ _ => rfl) (fun x => encPair_one x)
def zce (a b : Dfa) (s : Int × Int) (k : Int) : Int × Int := (at_ (at_ a.next s.1) k, at_ (at_ b.next s.2) k)
def howB (x y : Bool) (how : Int) : Bool := if how = 1 then x && y else if how = 2 then x || y else decide (x ≠ y)
def zdq (a b : Dfa) (how : Int) (s : Int × Int) : Bool := howB (at_ a.final s.1) (at_ b.final s.2) how
def zek (a b : Dfa) (how : Int) : Bool := zcm a && zcm b && decide (a.part = b.part) && decide (1 ≤ how) && decide (how ≤ 3)
noncomputable def zbt (a b : Dfa) (how : Int) : Dfa := if zek a b how then madeM a.part (0, 0) (zce a b) (zdq a b how) else zeroD
def errO (a b : Dfa) (how : Int) : Int := if zek a b how then 0 else 1
def InP (a b : Dfa) (s : Int × Int) : Prop := (0 ≤ s.1 ∧ s.1 < (a.next.length : Int)) ∧ 0 ≤ s.2 ∧ s.2 < (b.next.length : Int)
theorem nextP_in {a b : Dfa} (ha : RightD a) (hb : RightD b) (he : a.part.n = b.part.n) {s : Int × Int} (hs : InP a b s) {k : Int} (h0 : 0 ≤ k) (h1 : k < a.part.n) : InP a b (zce a b s k) :=
  ⟨ha.cell _ hs.1.1 hs.1.2 _ (zdv h0 (by rw [ha.row _ hs.1.1 hs.1.2]; exact h1)), hb.cell _ hs.2.1 hs.2.2 _ (zdv h0 (by rw [hb.row _ hs.2.1 hs.2.2, ← he]; exact h1))⟩
def codeP (b : Dfa) (s : Int × Int) : Nat := s.1.toNat * b.next.length + s.2.toNat
theorem codeP_lt {a b : Dfa} {s : Int × Int} (h : InP a b s) : codeP b s < a.next.length * b.next.length := by
  unfold codeP
  have h1 : s.1.toNat + 1 ≤ a.next.length := by have := h.1; omega
  have h2 : s.2.toNat < b.next.length := by have := h.2; omega
  have := Nat.mul_le_mul_right b.next.length h1
  rw [Nat.succ_mul] at this
  omega
theorem codeP_inj {a b : Dfa} {s t : Int × Int} (hs : InP a b s) (ht : InP a b t) (h : codeP b s = codeP b t) : s = t := by
  unfold codeP at h
  have h1 : s.2.toNat < b.next.length := by have := hs.2; omega
  have h2 : t.2.toNat < b.next.length := by have := ht.2; omega
  have e2 : s.2.toNat = t.2.toNat := by
    have e := congrArg (· % b.next.length) h
    simp only [Nat.mul_comm _ b.next.length, Nat.mul_add_mod, Nat.mod_eq_of_lt h1, Nat.mod_eq_of_lt h2] at e
    exact e
  have e1 : s.1.toNat = t.1.toNat := by
    rw [e2] at h
    have h3 : s.1.toNat * b.next.length = t.1.toNat * b.next.length := by omega
    exact Nat.eq_of_mul_eq_mul_right (by omega) h3
  have := hs.1; have := hs.2; have := ht.1; have := ht.2
  exact Prod.ext (by omega) (by omega)
section
variable {a b : Dfa} {fin : Int × Int → Bool} {all all2 : List (Int × Int)} {mp mp2 : List ((Int × Int) × Int)} {nx : List (List Int)} {fl : List Bool} {l : List Int} {i k : Int} {s : Int × Int}
theorem mul_bound {x y : Nat} (hx : (x : Int) ≤ 1048577) (hy : (y : Int) ≤ 1048577) : x * y ≤ 1099513724929 := Nat.le_trans (Nat.mul_le_mul (by omega : x ≤ 1048577) (by omega : y ≤ 1048577)) (by decide)
theorem pairs_bound (ha : RightD a) (hb : RightD b) (he : a.part.n = b.part.n) (h1 : (a.next.length : Int) ≤ 1048577) (h2 : (b.next.length : Int) ≤ 1048577) (W : MadeI (zce a b) a.part.n (0, 0) fin all mp nx fl i) : (all.length : Int) ≤ 1099513724929 := by
  have := bfs_bound (P := InP a b) (f := codeP b) (N := a.next.length * b.next.length) (next := zce a b) (n := a.part.n) (first := ((0, 0) : Int × Int)) ⟨⟨by omega, ha.some_⟩, by omega, hb.some_⟩ (fun s k hs h0 h1 => nextP_in ha hb he hs h0 h1) (fun s t => codeP_inj) (fun s h => codeP_lt h) i.toNat
  have h3 := mul_bound h1 h2
  rw [W.all_]; omega
theorem pairs_bound2 (ha : RightD a) (hb : RightD b) (he : a.part.n = b.part.n) (h1 : (a.next.length : Int) ≤ 1048577) (h2 : (b.next.length : Int) ≤ 1048577) (W : MadeI (zce a b) a.part.n (0, 0) fin all mp nx fl i) (hs : s ∈ all) (K : MadeK (zce a b) s all all2 mp2 l k) (hk : k ≤ a.part.n) : (all2.length : Int) ≤ 1099513724929 := by
  have := fold_bound (P := InP a b) (f := codeP b) (N := a.next.length * b.next.length) (first := ((0, 0) : Int × Int)) ⟨⟨by omega, ha.some_⟩, by omega, hb.some_⟩ (fun s k hs h0 h1 => nextP_in ha hb he hs h0 h1) (fun s t => codeP_inj) (fun s h => codeP_lt h) W hs K hk
  have h3 := mul_bound h1 h2
  omega
theorem pairs_in (ha : RightD a) (hb : RightD b) (he : a.part.n = b.part.n) (W : MadeI (zce a b) a.part.n (0, 0) fin all mp nx fl i) (hs : s ∈ all) : InP a b s := by
  rw [W.all_] at hs
  exact bfs_all (P := InP a b) ⟨⟨by omega, ha.some_⟩, by omega, hb.some_⟩ (fun s k hs h0 h1 => nextP_in ha hb he hs h0 h1) _ s hs
end
end Gx
namespace Gx
open Go Go.RowKit
set_option linter.unusedSimpArgs false
set_option linter.unusedSectionVars false
set_option linter.unusedVariables false
theorem keyk_set {P : Program} {t E : TypeId} {b' : Nat} {z : Option Value} (hT : P.underlying t = some (.array 4 E)) (hE : P.underlying E = some (.int .u64)) (ht : zb5 P E = some (1, b', false, z)) : KeyK P t (fun x : BSet => Value.agg (zak x).toArray) where
  eq := fun a b w => by
    have e : decide (zbj a = zbj b) = decide (a = b) := by
      by_cases h : a = b
      · subst h; simp
      · rw [decide_eq_false h, decide_eq_false (fun e => h (words_inj e))]
    have h1 := eqIn_ints (w := w) hT hE ht (zda a) (zda b) 9998
    rw [e] at h1
    exact h1
  chk := fun a e w => by
    obtain ⟨ii, d2, hi, hd2, hsz, _, hg, _⟩ := zb7 ht
    have pE : ∀ (i : Nat) (x : Int) (w : World), (zak a).toArray[i]? = some (.int .u64 x) → (part E (zak a).toArray i).run P w = .ok (.int .u64 x) w := fun i x w hx => by
      simp only [part, Sem.run_bind, zd6 hd2, hg, Result.andThen_ok, Bool.false_eq_true, if_false]
      rw [hx]; rfl
    have cE : ∀ (n : Nat) (x : Int) (w : World), (Instr.checkKey e (n + 1) E (.int .u64 x)).run P w = .ok () w := fun n x w => by
      rw [Instr.checkKey]
      simp only [Sem.run_bind, run_underlying hE, Result.andThen_ok]; rfl
    have p0 := fun w => pE 0 (wd a 0) w rfl
    have p1 := fun w => pE 1 (wd a 1) w rfl
    have p2 := fun w => pE 2 (wd a 2) w rfl
    have p3 := fun w => pE 3 (wd a 3) w rfl
    have main : ∀ n, (Instr.checkKey e (n + 1 + 1) t (.agg (zak a).toArray)).run P w = .ok () w := fun n => by
      rw [Instr.checkKey]
      simp only [Sem.run_bind, run_underlying hT, Result.andThen_ok]
      simp [Std.Legacy.Range.forIn_eq_forIn_range', List.range', Std.Legacy.Range.size, Sem.run_bind, Result.andThen_ok, zej hi, hsz, p0, p1, p2, p3, cE, Sem.run_pure]
    exact main 9998
  now := ⟨_, hT, .inl fun a b => rfl⟩
  same := fun a => by simp [zak, zbf, zbj, Instr.sameBits]
end Gx
namespace Go.Proofs.YtfoemogojbnfhaaDoor
open Go Go.RowKit Gx
set_option linter.unusedSimpArgs false
theorem pair_fields : (Tryd.prog.fieldsOf 130).toList = [⟨"a", 3, 0, false, "", "shibboleth/dfa", 0⟩, ⟨"b", 3, 1, false, "", "shibboleth/dfa", 8⟩] := by kernel_rfl
theorem pair_under : Tryd.prog.underlying 130 = some (.struct #[⟨"a", 3, 0, false, "", "shibboleth/dfa", 0⟩, ⟨"b", 3, 1, false, "", "shibboleth/dfa", 8⟩]) := by kernel_rfl
theorem pair_under2 : Tryd.prog.underlying 130 = some (.struct (Tryd.prog.fieldsOf 130)) := by kernel_rfl
theorem key130 : KeyK Tryd.prog 130 (fun x : (Int × Int) => Value.agg (za3 x).toArray) where
  eq := fun a b w => by
    have h3 : Tryd.prog.underlying 3 = some (.int .i64) := by kernel_rfl
    have hp : Tryd.prog.stoodInHeld 130 = false := by kernel_rfl
    have i3 : zb5 Tryd.prog 3 = some (1, 8, false, some (.int .i64 0)) := by kernel_rfl
    obtain ⟨ii3, d3, hi3, hd3, hs3, _, hg3, _⟩ := zb7 i3
    have pa : ∀ (x : Int × Int) (w : World), (part 3 (za3 x).toArray 0).run Tryd.prog w = .ok (.int .i64 x.1) w := fun x w => by
      simp only [part, Sem.run_bind, zd6 hd3, hg3, Result.andThen_ok, Bool.false_eq_true, if_false]; rfl
    have pb : ∀ (x : Int × Int) (w : World), (part 3 (za3 x).toArray 1).run Tryd.prog w = .ok (.int .i64 x.2) w := fun x w => by
      simp only [part, Sem.run_bind, zd6 hd3, hg3, Result.andThen_ok, Bool.false_eq_true, if_false]; rfl
    show (Op.equalIn 10000 130 _ _).run _ _ = _
    rw [run_equalIn_agg w 9999 130 _ _ pair_under2 hp, pair_fields]
    obtain ⟨a1, a2⟩ := a
    obtain ⟨b1, b2⟩ := b
    have e3 := fun (w : World) (x y : Int) => run_equalIn_int w 9998 3 .i64 .i64 x y h3
    by_cases h : a1 = b1 <;> by_cases h2 : a2 = b2 <;> simp [Op.eqFields, h, h2, Sem.run_pure, Sem.run_bind, pa, pb, e3]
  chk := fun a e w => by
    have h3 : Tryd.prog.underlying 3 = some (.int .i64) := by kernel_rfl
    have i3 : zb5 Tryd.prog 3 = some (1, 8, false, some (.int .i64 0)) := by kernel_rfl
    obtain ⟨ii3, d3, hi3, hd3, hs3, _, hg3, _⟩ := zb7 i3
    have pa : ∀ (w : World), (part 3 (za3 a).toArray 0).run Tryd.prog w = .ok (.int .i64 a.1) w := fun w => by
      simp only [part, Sem.run_bind, zd6 hd3, hg3, Result.andThen_ok, Bool.false_eq_true, if_false]; rfl
    have pb : ∀ (w : World), (part 3 (za3 a).toArray 1).run Tryd.prog w = .ok (.int .i64 a.2) w := fun w => by
      simp only [part, Sem.run_bind, zd6 hd3, hg3, Result.andThen_ok, Bool.false_eq_true, if_false]; rfl
    have c3 : ∀ (n : Nat) (x : Int) (w : World), (Instr.checkKey e (n + 1) 3 (.int .i64 x)).run Tryd.prog w = .ok () w := fun n x w => by
      rw [Instr.checkKey]
      simp only [Sem.run_bind, run_underlying h3, Result.andThen_ok]; rfl
    have main : ∀ n, (Instr.checkKey e (n + 1 + 1) 130 (.agg (za3 a).toArray)).run Tryd.prog w = .ok () w := fun n => by
      rw [Instr.checkKey]
      simp only [Sem.run_bind, run_underlying pair_under, Result.andThen_ok]
      simp [Sem.run_bind, Result.andThen_ok, pa, pb, c3, Sem.run_pure]
    exact main 9998
  now := ⟨_, pair_under, .inl fun a b => rfl⟩
  same := fun a => by simp [za3, Instr.sameBits]
end Go.Proofs.YtfoemogojbnfhaaDoor
