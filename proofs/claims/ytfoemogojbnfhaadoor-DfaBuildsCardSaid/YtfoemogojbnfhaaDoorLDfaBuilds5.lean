/- My own library for walks through the translated code, and the walks of the functions that the law DfaBuilds comes to, part 6; no conditions but those that each contract tells. -/
import Derived.Test.YtfoemogojbnfhaaDoorLDfaBuilds4
namespace Go.Proofs.YtfoemogojbnfhaaDoor
open Go Go.RowKit Gx
set_option maxHeartbeats 1000000
set_option linter.unusedVariables false
set_option linter.unusedSimpArgs false
set_option maxRecDepth 8000
attribute [local irreducible] zcf count first has zb6 wbits Lib.ctz zds zbs rowOk tab markP intoP behindP runTo endsIn runM zep mayP zdt stepP mayTo anyTo allTo badQ zee zcm goD runD notD errD notTo zce zdq howB zek zbt errO zca nextC outTo readTo rowIn zdr lastB zam zd7 zaf errB zfb madeM allM bfs zcn putB beginB okB zdx
theorem same11_calls (w : World) (s1 : List Int) (A0 : Option Addr) (c0 : Nat) (b0 : s1.length ≤ c0 ∧ c0 ≤ maxLen) (l0 : zbe (Kd.int .i64) (hp w) A0 s1) (s2 : List Int) (A1 : Option Addr) (c1 : Nat) (b1 : s2.length ≤ c1 ∧ c1 ≤ maxLen) (l1 : zbe (Kd.int .i64) (hp w) A1 s2) :
    Calls Tryd.prog 96 #[.slice A0 s1.length c0, .slice A1 s2.length c1] w fun e w' => ∃ v, e = .returned v ∧ ∃ (hn : Ghost), St w.heap.size w hn w' [] ∧ v = .bool (decide (s1 = s2)) := by
 refine zaq Tryd.func96 rfl Tryd.ntmps96 rfl ?_
 have S0 := St.init w
 have bb0 := b0.1; have bc0 := b0.2; simp only [maxLen] at bc0
 have bb1 := b1.1; have bc1 := b1.2; simp only [maxLen] at bc1
 refine zab <| zad (l := [0]) rfl <| p_v (v := .bool false) rfl rfl rfl (zah rfl) <| zaa <| zab <| zab <| zad (l := [0, 1, 2, 3, 4]) rfl <| p_v (v := .slice A0 s1.length c0) rfl rfl rfl (zag rfl) <| p_v (v := .int .i64 (s1.length : Int)) rfl rfl rfl (za0 u23 rfl) <| p_v (v := .slice A1 s2.length c1) rfl rfl rfl (zag rfl) <| p_v (v := .int .i64 (s2.length : Int)) rfl rfl rfl (za0 u23 rfl) <| p_v (v := .bool (decide ((s1.length : Int) ≠ (s2.length : Int)))) rfl rfl rfl (x_neq rfl rfl) ?_
 refine zaa ?_
 refine zap (p := (s1.length : Int) ≠ (s2.length : Int)) rfl (fun hc1 => ?_) (fun hc1 => ?_)
 ·skip
  refine zab <| zad (l := [0]) rfl <| p_v (v := .bool false) rfl rfl rfl (zah rfl) <| zaa <| zar Tryd.func96 (res1 rfl (zax (v := .bool false) rfl)) ?_
  have q0 : (decide (s1 = s2) : Bool) = false := by
   exact eq_no1 (by assumption)
  refine ⟨_, rfl, (fun _ => none), ?_, ?_⟩
  · exact S0.sub [] (by decide) rfl _ rfl
  · first | rfl | (simp only [q0]; rfl) | (simp only [q0])
 refine zau <| zab <| zab <| zad (l := [0]) rfl <| p_v (v := .int .i64 0) rfl rfl rfl (zah rfl) <| zaa <| zas <| zbo (S := Int) (fun (q_ : Int) ρ w' => match q_ with | i => ∃ (h : Ghost), Le (fun _ => none) h ∧ St w.heap.size w h w' [] ∧ ρ 0 = .slice A0 s1.length c0 ∧ ρ 1 = .slice A1 s2.length c1 ∧ ρ 5 = .int .i64 i ∧ inK .i64 i ∧ (0 ≤ i ∧ i ≤ (s1.length : Int) ∧ s1.take i.toNat = s2.take i.toNat)) (fun q_ => match q_ with | i => (s1.length - i).toNat) (0) ⟨(fun _ => none), Le.refl _, S0.sub [] (by decide) rfl _ rfl, rfl, rfl, rfl, (zao (by omega) (by omega)), (by exact ⟨by omega, by omega, rfl⟩)⟩ ?_
 rintro i ih2 ρ2 w2 ⟨h2, le2, S2, r2_0, r2_1, r2_5, f2_0, hI2⟩
 have lf2_0 := za7 f2_0; have hf2_0 := za8 f2_0
 refine zab <| zab <| zad (l := [0, 1, 2, 3]) rfl <| p_v (v := .int .i64 i) rfl rfl rfl (zag r2_5) <| p_v (v := .slice A0 s1.length c0) rfl rfl rfl (zag r2_0) <| p_v (v := .int .i64 (s1.length : Int)) rfl rfl rfl (za0 u23 rfl) <| p_v (v := .bool (decide (i < (s1.length : Int)))) rfl rfl rfl (zdc rfl rfl) <| zaa ?_
 refine zap (p := i < (s1.length : Int)) rfl (fun hc3 => ?_) (fun hc3 => ?_)
 ·skip
  refine zau <| zab <| zas <| zab ?_
  obtain ⟨ad4, seg4, a4, rp4, ce4⟩ := zaz (q := i) (m := 1) l0 rfl (by omega) (by omega)
  obtain ⟨rfl, in4⟩ := rp4
  have lo4 := za7 in4; have hi4 := za8 in4
  obtain ⟨ad5, seg5, a5, rp5, ce5⟩ := zaz (q := i) (m := 1) l1 rfl (by omega) (by omega)
  obtain ⟨rfl, in5⟩ := rp5
  have lo5 := za7 in5; have hi5 := za8 in5
  have hf6 : (CFs ad4 [.int .i64 (at_ s1 i)]).1 w2 := (CF.ghost ce4 (St.le0 S2))
  have hf7 : (CFs ad5 [.int .i64 (at_ s2 i)]).1 w2 := (CF.ghost ce5 (St.le0 S2))
  refine daS (hkC 3 hf6 (hkC 7 hf7 (hkN (w := w2)))) 9 rfl mixed ?_
  intro wd8 gd8 hd8
  have S9 := S2.keep gd8
  have hf10 := spUp gd8 hf6
  have hf11 := spUp gd8 hf7
  refine qd0 (i := 0) (v := .slice A0 s1.length c0) rfl (by decide +kernel) rfl rfl (zag r2_0) (zaj rfl) <| qd0 (i := 1) (v := .int .i64 i) rfl (by decide +kernel) rfl rfl (zag r2_5) (zaj rfl) <| qd0 (i := 2) (v := .pointer (some ad4)) rfl (by decide +kernel) rfl rfl (zaw u23 ty3 rfl rfl a4 (by omega) (by omega)) (zaj rfl) <| qd1 0 (i := 3) (v := .int .i64 (at_ s1 i)) rfl rfl (by decide +kernel) rfl rfl (fun wq hq => (zal (seg := [.int .i64 (at_ s1 i)]) ty3 rfl (by simp) rfl hq)) (za9 hf10 (zaj rfl)) <| qd0 (i := 4) (v := .slice A1 s2.length c1) rfl (by decide +kernel) rfl rfl (zag r2_1) (zaj rfl) <| qd0 (i := 5) (v := .int .i64 i) rfl (by decide +kernel) rfl rfl (zag r2_5) (zaj rfl) <| qd0 (i := 6) (v := .pointer (some ad5)) rfl (by decide +kernel) rfl rfl (zaw u23 ty3 rfl rfl a5 (by omega) (by omega)) (zaj rfl) <| qd1 1 (i := 7) (v := .int .i64 (at_ s2 i)) rfl rfl (by decide +kernel) rfl rfl (fun wq hq => (zal (seg := [.int .i64 (at_ s2 i)]) ty3 rfl (by simp) rfl hq)) (za1 rfl (za9 hf11 (zaj rfl))) <| qd0 (i := 8) (v := .bool (decide ((at_ s1 i) ≠ (at_ s2 i)))) rfl (by decide +kernel) rfl rfl (x_neq rfl rfl) (zaj rfl) <| zb3 (by decide +kernel) ?_
  intro wd12 gd12
  have S13 := S9.keep gd12
  refine zap (p := (at_ s1 i) ≠ (at_ s2 i)) rfl (fun hc14 => ?_) (fun hc14 => ?_)
  ·skip
   refine zab <| zad (l := [0]) rfl <| p_v (v := .bool false) rfl rfl rfl (zah rfl) <| zaa <| zar Tryd.func96 (res1 rfl (zax (v := .bool false) rfl)) ?_
   have q0 : (decide (s1 = s2) : Bool) = false := by
    exact eq_no2 (t := i) (by assumption)
   refine ⟨_, rfl, h2, ?_, ?_⟩
   · exact S13.sub [] (by decide) rfl _ rfl
   · first | rfl | (simp only [q0]; rfl) | (simp only [q0])
  refine zau <| zat <| zad (l := [0, 1, 2]) rfl <| p_v (v := .int .i64 i) rfl rfl rfl (zag r2_5) <| p_v (v := .int .i64 (i + 1)) rfl rfl rfl (zct rfl rfl (zao (by omega) (by omega))) <| p_v (v := .int .i64 (i + 1)) rfl rfl rfl (zah rfl) <| zaa ?_
  refine ih2 (i + 1) _ _ (by dsimp only; omega) ⟨h2, le2, S13.sub [] (by decide) rfl _ rfl, r2_0, r2_1, rfl, (zao (by omega) (by omega)), (by exact ⟨by omega, by omega, eq_step hI2.1 (by omega) (by omega) hI2.2.2 (Decidable.not_not.1 (by assumption))⟩)⟩
 refine zbn rfl <| zab <| zad (l := [0]) rfl <| p_v (v := .bool true) rfl rfl rfl (zah rfl) <| zaa <| zar Tryd.func96 (res1 rfl (zax (v := .bool true) rfl)) ?_
 have q0 : (decide (s1 = s2) : Bool) = true := by
  exact eq_yes (t := i) (by omega) (by omega) hI2.2.2
 refine ⟨_, rfl, h2, ?_, ?_⟩
 · exact S2.sub [] (by decide) rfl _ rfl
 · (simp only [q0])
theorem find11_calls (w : World) (l : List (List Int)) (A0 : Option Addr) (c0 : Nat) (b0 : l.length ≤ c0 ∧ c0 ≤ maxLen) (l0 : zbe (Kd.int .i64).slice (hp w) A0 l) (s : List Int) (A1 : Option Addr) (c1 : Nat) (b1 : s.length ≤ c1 ∧ c1 ≤ maxLen) (l1 : zbe (Kd.int .i64) (hp w) A1 s) :
    Calls Tryd.prog 94 #[.slice A0 l.length c0, .slice A1 s.length c1] w fun e w' => ∃ v, e = .returned v ∧ ∃ (hn : Ghost), St w.heap.size w hn w' [] ∧ v = .int .i64 (zdx l s) ∧ inK .i64 (zdx l s) := by
 refine zaq Tryd.func94 rfl Tryd.ntmps94 rfl ?_
 have S0 := St.init w
 have bb0 := b0.1; have bc0 := b0.2; simp only [maxLen] at bc0
 have bb1 := b1.1; have bc1 := b1.2; simp only [maxLen] at bc1
 refine zab <| zad (l := [0]) rfl <| p_v (v := .int .i64 0) rfl rfl rfl (zah rfl) <| zaa <| zab <| zab <| zad (l := [0]) rfl <| p_v (v := .int .i64 0) rfl rfl rfl (zah rfl) <| zaa <| zas <| zbo (S := Int) (fun (q_ : Int) ρ w' => match q_ with | i => ∃ (h : Ghost), Le (fun _ => none) h ∧ St w.heap.size w h w' [] ∧ ρ 0 = .slice A0 l.length c0 ∧ ρ 1 = .slice A1 s.length c1 ∧ ρ 5 = .int .i64 i ∧ inK .i64 i ∧ (0 ≤ i ∧ i ≤ (l.length : Int) ∧ s ∉ l.take i.toNat)) (fun q_ => match q_ with | i => (l.length - i).toNat) (0) ⟨(fun _ => none), Le.refl _, S0.sub [] (by decide) rfl _ rfl, rfl, rfl, rfl, (zao (by omega) (by omega)), (by exact ⟨by omega, by omega, by simp⟩)⟩ ?_
 rintro i ih1 ρ1 w1 ⟨h1, le1, S1, r1_0, r1_1, r1_5, f1_0, hI1⟩
 have lf1_0 := za7 f1_0; have hf1_0 := za8 f1_0
 refine zab <| zab <| zad (l := [0, 1, 2, 3]) rfl <| p_v (v := .int .i64 i) rfl rfl rfl (zag r1_5) <| p_v (v := .slice A0 l.length c0) rfl rfl rfl (zag r1_0) <| p_v (v := .int .i64 (l.length : Int)) rfl rfl rfl (za0 u24 rfl) <| p_v (v := .bool (decide (i < (l.length : Int)))) rfl rfl rfl (zdc rfl rfl) <| zaa ?_
 refine zap (p := i < (l.length : Int)) rfl (fun hc2 => ?_) (fun hc2 => ?_)
 ·skip
  refine zau <| zab <| zas <| zab <| zad (l := [0, 1, 2, 3, 4, 5]) rfl <| p_v (v := .slice A0 l.length c0) rfl rfl rfl (zag r1_0) <| p_v (v := .int .i64 i) rfl rfl rfl (zag r1_5) ?_
  obtain ⟨ad3, seg3, a3, rp3, ce3⟩ := zaz (q := i) (m := 1) l0 rfl (by omega) (by omega)
  refine p_v (v := .pointer (some ad3)) rfl rfl rfl (zaw u24 ty23 rfl rfl a3 (by omega) (by omega)) ?_
  obtain ⟨A3, c3, rfl, lc3, cm3, ld3⟩ := rp3
  have cn3 := cm3; simp only [maxLen] at cn3
  refine p_v (v := .slice A3 (at_ l i).length c3) rfl rfl rfl (zal (seg := [.slice A3 (at_ l i).length c3]) ty23 rfl (by simp) rfl (CF.ghost ce3 (St.le0 S1))) <| p_v (v := .slice A1 s.length c1) rfl rfl rfl (zag r1_1) <| p_c rfl rfl rfl (za6 (args := [.slice A3 (at_ l i).length c3, .slice A1 s.length c1]) ca96 rfl rfl) (same11_calls w1 (at_ l i) A3 c3 (And.intro lc3 cm3) (ld3.mono (St.le0 S1)) s A1 c1 b1 (l1.mono (St.le0 S1))) ?_
  rintro _ w4 ⟨h4, T4, rfl⟩
  have S5 := S1.keep (Chg.of_below T4.below)
  refine zaa ?_
  refine zbr (b := decide ((at_ l i) = s)) rfl (fun hc6 => ?_) (fun hc6 => ?_)
  ·skip
   refine zab <| zad (l := [0, 1]) rfl <| p_v (v := .int .i64 i) rfl rfl rfl (zag r1_5) <| p_v (v := .int .i64 i) rfl rfl rfl (zah rfl) <| zaa <| zar Tryd.func94 (res1 rfl (zax (v := .int .i64 i) rfl)) ?_
   have q0 : (zdx l s : Int) = i := by
    exact findL_yes hI1.1 (by omega) hI1.2.2 (of_decide_eq_true (by assumption))
   refine ⟨_, rfl, h1, ?_, ?_, ?_⟩
   · exact S5.sub [] (by decide) rfl _ rfl
   · first | rfl | (simp only [q0]; rfl) | (simp only [q0])
   · rw [q0]; exact f1_0
  refine zau <| zat <| zad (l := [0, 1, 2]) rfl <| p_v (v := .int .i64 i) rfl rfl rfl (zag r1_5) <| p_v (v := .int .i64 (i + 1)) rfl rfl rfl (zct rfl rfl (zao (by omega) (by omega))) <| p_v (v := .int .i64 (i + 1)) rfl rfl rfl (zah rfl) <| zaa ?_
  refine ih1 (i + 1) _ _ (by dsimp only; omega) ⟨h1, le1, S5.sub [] (by decide) rfl _ rfl, r1_0, r1_1, rfl, (zao (by omega) (by omega)), (by exact ⟨by omega, by omega, findL_step hI1.1 (by omega) hI1.2.2 (of_decide_eq_false (by assumption))⟩)⟩
 refine zbn rfl <| zab <| zad (l := [0]) rfl <| p_v (v := .int .i64 (-1)) rfl rfl rfl (zah rfl) <| zaa <| zar Tryd.func94 (res1 rfl (zax (v := .int .i64 (-1)) rfl)) ?_
 have q0 : (zdx l s : Int) = (-1) := by
  exact findL_no (by omega) hI1.2.2
 refine ⟨_, rfl, h1, ?_, ?_, ?_⟩
 · exact S1.sub [] (by decide) rfl _ rfl
 · first | rfl | (simp only [q0]; rfl) | (simp only [q0])
 · rw [q0]; exact (zao (by omega) (by omega))
theorem step11_calls (w : World) (m : Mach) (A0_0 : Option Addr) (c0_0 : Nat) (b0_0 : m.spots.length ≤ c0_0 ∧ c0_0 ≤ maxLen) (l0_0 : zbe zel (hp w) A0_0 m.spots) (A0_1 : Option Addr) (c0_1 : Nat) (b0_1 : m.first.length ≤ c0_1 ∧ c0_1 ≤ maxLen) (l0_1 : zbe (Kd.int .i64) (hp w) A0_1 m.first) (A0_2 : Option Addr) (c0_2 : Nat) (b0_2 : m.follow.length ≤ c0_2 ∧ c0_2 ≤ maxLen) (l0_2 : zbe (Kd.int .i64).slice (hp w) A0_2 m.follow) (A0_3 : Option Addr) (c0_3 : Nat) (b0_3 : m.last.length ≤ c0_3 ∧ c0_3 ≤ maxLen) (l0_3 : zbe Kd.bool (hp w) A0_3 m.last) (s : List Int) (A1 : Option Addr) (c1 : Nat) (b1 : s.length ≤ c1 ∧ c1 ≤ maxLen) (l1 : zbe (Kd.int .i64) (hp w) A1 s) (c : Int) (i2 : inK .u8 c) (pre0 : Right m ∧ InL m s) :
    Calls Tryd.prog 93 #[.agg #[.slice A0_0 m.spots.length c0_0, .slice A0_1 m.first.length c0_1, .slice A0_2 m.follow.length c0_2, .slice A0_3 m.last.length c0_3, .bool m.empty], .slice A1 s.length c1, .int .u8 c] w fun e w' => ∃ v, e = .returned v ∧ ∃ (hn : Ghost) (r0 : Value), St w.heap.size w hn w' [row 3 (Kd.int .i64) r0 (zeb m s c)] ∧ v = r0 := by
 refine zaq Tryd.func93 rfl Tryd.ntmps93 rfl ?_
 have S0 := St.init w
 have bb0_0 := b0_0.1; have bc0_0 := b0_0.2; simp only [maxLen] at bc0_0
 have bb0_1 := b0_1.1; have bc0_1 := b0_1.2; simp only [maxLen] at bc0_1
 have bb0_2 := b0_2.1; have bc0_2 := b0_2.2; simp only [maxLen] at bc0_2
 have bb0_3 := b0_3.1; have bc0_3 := b0_3.2; simp only [maxLen] at bc0_3
 have bb1 := b1.1; have bc1 := b1.2; simp only [maxLen] at bc1
 have lo2 := zeu i2; have hi2 := zfa i2
 have hR_ := pre0.1; have hI_ := pre0.2; have hsm_ := hR_.small; have hfo_ := hR_.follow; have hla_ := hR_.last; have hnil_ : ∀ x ∈ ([] : List Int), 0 ≤ x ∧ x < (m.spots.length : Int) := fun x hx => (by cases hx)
 refine zab <| zad (l := [0, 1]) rfl ?_
 obtain ⟨b11, w11, r11, g11, T11⟩ := zb2 (P := Tryd.prog) S0 27 (v := .agg #[.slice A0_0 m.spots.length c0_0, .slice A0_1 m.first.length c0_1, .slice A0_2 m.follow.length c0_2, .slice A0_3 m.last.length c0_3, .bool m.empty]) [.slice A0_0 m.spots.length c0_0, .slice A0_1 m.first.length c0_1, .slice A0_2 m.follow.length c0_2, .slice A0_3 m.last.length c0_3, .bool m.empty] rfl
 have S12 := T11
 dsimp only [lAa, lAn, lA0, lAs] at S12
 refine p_v (v := .pointer (some ⟨b11, 0, none⟩)) rfl rfl rfl (zc8 rfl r11) <| p_v (v := .slice none 0 0) rfl rfl rfl (zah rfl) <| zaa <| zab <| zab <| zad (l := [0, 1, 2, 3, 4, 5, 6, 7, 8]) rfl <| p_v (v := .slice A1 s.length c1) rfl rfl rfl (zag rfl) <| p_v (v := .int .i64 (s.length : Int)) rfl rfl rfl (za0 u23 rfl) <| p_v (v := .bool (decide ((s.length : Int) = 1))) rfl rfl rfl (ze4 rfl rfl) <| p_v (v := .bool (decide ((s.length : Int) = 1))) rfl rfl rfl (zag rfl) ?_
 by_cases hc13 : (s.length : Int) = 1
 ·skip
  refine p_v (v := .slice A1 s.length c1) rfl (wo 3 10 rfl rfl (bT hc13) rfl) rfl (zag rfl) ?_
  obtain ⟨ad14, seg14, a14, rp14, ce14⟩ := zaz (q := (0 : Int)) (m := 1) l1 rfl (by omega) (by omega)
  refine p_v (v := .pointer (some ad14)) rfl (wo 3 10 rfl rfl (bT hc13) rfl) rfl (zaw u23 ty3 rfl rfl a14 (by omega) (by omega)) ?_
  obtain ⟨rfl, in14⟩ := rp14
  have lo14 := za7 in14; have hi14 := za8 in14
  refine p_v (v := .int .i64 (at_ s (0 : Int))) rfl (wo 3 10 rfl rfl (bT hc13) rfl) rfl (zal (seg := [.int .i64 (at_ s (0 : Int))]) ty3 rfl (by simp) rfl (CF.ghost ce14 (St.le0 S12))) <| p_v (v := .bool (decide ((at_ s (0 : Int)) = (-1)))) rfl (wo 3 10 rfl rfl (bT hc13) rfl) rfl (ze4 rfl rfl) <| p_v (v := .bool (decide ((at_ s (0 : Int)) = (-1)))) rfl rfl rfl (za5 (bT hc13) rfl) <| zaa ?_
  refine zap (p := (at_ s (0 : Int)) = (-1)) rfl (fun hc15 => ?_) (fun hc15 => ?_)
  ·skip
   refine zab <| zad (l := [0, 1, 2, 3]) rfl <| p_v (v := .agg #[.slice A0_0 m.spots.length c0_0, .slice A0_1 m.first.length c0_1, .slice A0_2 m.follow.length c0_2, .slice A0_3 m.last.length c0_3, .bool m.empty]) rfl rfl rfl (zal (seg := [.slice A0_0 m.spots.length c0_0, .slice A0_1 m.first.length c0_1, .slice A0_2 m.follow.length c0_2, .slice A0_3 m.last.length c0_3, .bool m.empty]) ty27 rfl (by simp) rfl (CF.box (m := 5) (S12.box_at (j := 0) rfl) rfl)) <| p_v (v := .int .u8 c) rfl rfl rfl (zag rfl) <| p_c rfl rfl rfl (za6 (args := [.agg #[.slice A0_0 m.spots.length c0_0, .slice A0_1 m.first.length c0_1, .slice A0_2 m.follow.length c0_2, .slice A0_3 m.last.length c0_3, .bool m.empty], .slice none 0 0, .bool true, .int .u8 c]) ca139 rfl rfl) (step_calls w11 m A0_0 c0_0 b0_0 (l0_0.mono (St.le0 S12)) A0_1 c0_1 b0_1 (l0_1.mono (St.le0 S12)) A0_2 c0_2 b0_2 (l0_2.mono (St.le0 S12)) A0_3 c0_3 b0_3 (l0_3.mono (St.le0 S12)) ([] : List Int) none 0 (by simp [maxLen]) (leads_nil _ _) true c (zec (by omega) (by omega)) (by first | assumption | exact ⟨by assumption, by assumption⟩)) ?_
   rintro v16_0 w16 ⟨h16, _, T16, rfl⟩
   obtain ⟨k16, lk16, ll16, U16⟩ := zci S12 T16
   have S17 := U16
   dsimp only [lAa, lAn, lA0, lAs] at S17
   refine p_v (v := v16_0) rfl rfl rfl (zah rfl) <| zaa <| zar Tryd.func93 (res1 rfl (zax (v := v16_0) rfl)) ?_
   have q0 : (zeb m s c : List Int) = stepP m ([] : List Int) true c := by
    exact stepR_1 (by assumption) (by assumption)
   refine ⟨_, rfl, k16, v16_0, ?_, ?_⟩
   · rw [q0]; exact S17.sub [1] (by decide) rfl _ rfl
   · first | rfl | (simp only [q0]; rfl) | (simp only [q0])
  have hin_ := inL_of hI_ (.inr hc15)
  refine zau <| zab <| zad (l := [0, 1, 2, 3, 4]) rfl <| p_v (v := .agg #[.slice A0_0 m.spots.length c0_0, .slice A0_1 m.first.length c0_1, .slice A0_2 m.follow.length c0_2, .slice A0_3 m.last.length c0_3, .bool m.empty]) rfl rfl rfl (zal (seg := [.slice A0_0 m.spots.length c0_0, .slice A0_1 m.first.length c0_1, .slice A0_2 m.follow.length c0_2, .slice A0_3 m.last.length c0_3, .bool m.empty]) ty27 rfl (by simp) rfl (CF.box (m := 5) (S12.box_at (j := 0) rfl) rfl)) <| p_v (v := .slice A1 s.length c1) rfl rfl rfl (zag rfl) <| p_v (v := .int .u8 c) rfl rfl rfl (zag rfl) <| p_c rfl rfl rfl (za6 (args := [.agg #[.slice A0_0 m.spots.length c0_0, .slice A0_1 m.first.length c0_1, .slice A0_2 m.follow.length c0_2, .slice A0_3 m.last.length c0_3, .bool m.empty], .slice A1 s.length c1, .bool false, .int .u8 c]) ca139 rfl rfl) (step_calls w11 m A0_0 c0_0 b0_0 (l0_0.mono (St.le0 S12)) A0_1 c0_1 b0_1 (l0_1.mono (St.le0 S12)) A0_2 c0_2 b0_2 (l0_2.mono (St.le0 S12)) A0_3 c0_3 b0_3 (l0_3.mono (St.le0 S12)) s A1 c1 b1 (l1.mono (St.le0 S12)) false c (zec (by omega) (by omega)) (by first | assumption | exact ⟨by assumption, by assumption⟩)) ?_
  rintro v18_0 w18 ⟨h18, _, T18, rfl⟩
  obtain ⟨k18, lk18, ll18, U18⟩ := zci S12 T18
  have S19 := U18
  dsimp only [lAa, lAn, lA0, lAs] at S19
  refine p_v (v := v18_0) rfl rfl rfl (zah rfl) <| zaa <| zar Tryd.func93 (res1 rfl (zax (v := v18_0) rfl)) ?_
  have q0 : (zeb m s c : List Int) = stepP m s false c := by
   exact stepR_2 (.inr (by assumption))
  refine ⟨_, rfl, k18, v18_0, ?_, ?_⟩
  · rw [q0]; exact S19.sub [1] (by decide) rfl _ rfl
  · first | rfl | (simp only [q0]; rfl) | (simp only [q0])
 have hin_ := inL_of hI_ (.inl hc13)
 refine za2 rfl (wo 3 10 rfl rfl (bF hc13) rfl) rfl <| za2 rfl (wo 3 10 rfl rfl (bF hc13) rfl) rfl <| za2 rfl (wo 3 10 rfl rfl (bF hc13) rfl) rfl <| za2 rfl (wo 3 10 rfl rfl (bF hc13) rfl) rfl <| p_v (v := .bool false) rfl rfl rfl (zbk (bF hc13) rfl) <| zaa <| zb4 (b := false) rfl ?_
 simp only [if_true, if_false, Bool.false_eq_true]
 refine zau <| zab <| zad (l := [0, 1, 2, 3, 4]) rfl <| p_v (v := .agg #[.slice A0_0 m.spots.length c0_0, .slice A0_1 m.first.length c0_1, .slice A0_2 m.follow.length c0_2, .slice A0_3 m.last.length c0_3, .bool m.empty]) rfl rfl rfl (zal (seg := [.slice A0_0 m.spots.length c0_0, .slice A0_1 m.first.length c0_1, .slice A0_2 m.follow.length c0_2, .slice A0_3 m.last.length c0_3, .bool m.empty]) ty27 rfl (by simp) rfl (CF.box (m := 5) (S12.box_at (j := 0) rfl) rfl)) <| p_v (v := .slice A1 s.length c1) rfl rfl rfl (zag rfl) <| p_v (v := .int .u8 c) rfl rfl rfl (zag rfl) <| p_c rfl rfl rfl (za6 (args := [.agg #[.slice A0_0 m.spots.length c0_0, .slice A0_1 m.first.length c0_1, .slice A0_2 m.follow.length c0_2, .slice A0_3 m.last.length c0_3, .bool m.empty], .slice A1 s.length c1, .bool false, .int .u8 c]) ca139 rfl rfl) (step_calls w11 m A0_0 c0_0 b0_0 (l0_0.mono (St.le0 S12)) A0_1 c0_1 b0_1 (l0_1.mono (St.le0 S12)) A0_2 c0_2 b0_2 (l0_2.mono (St.le0 S12)) A0_3 c0_3 b0_3 (l0_3.mono (St.le0 S12)) s A1 c1 b1 (l1.mono (St.le0 S12)) false c (zec (by omega) (by omega)) (by first | assumption | exact ⟨by assumption, by assumption⟩)) ?_
 rintro v20_0 w20 ⟨h20, _, T20, rfl⟩
 obtain ⟨k20, lk20, ll20, U20⟩ := zci S12 T20
 have S21 := U20
 dsimp only [lAa, lAn, lA0, lAs] at S21
 refine p_v (v := v20_0) rfl rfl rfl (zah rfl) <| zaa <| zar Tryd.func93 (res1 rfl (zax (v := v20_0) rfl)) ?_
 have q0 : (zeb m s c : List Int) = stepP m s false c := by
  exact stepR_2 (.inl (by assumption))
 refine ⟨_, rfl, k20, v20_0, ?_, ?_⟩
 · rw [q0]; exact S21.sub [1] (by decide) rfl _ rfl
 · rfl
theorem final11_calls (w : World) (m : Mach) (A0_0 : Option Addr) (c0_0 : Nat) (b0_0 : m.spots.length ≤ c0_0 ∧ c0_0 ≤ maxLen) (l0_0 : zbe zel (hp w) A0_0 m.spots) (A0_1 : Option Addr) (c0_1 : Nat) (b0_1 : m.first.length ≤ c0_1 ∧ c0_1 ≤ maxLen) (l0_1 : zbe (Kd.int .i64) (hp w) A0_1 m.first) (A0_2 : Option Addr) (c0_2 : Nat) (b0_2 : m.follow.length ≤ c0_2 ∧ c0_2 ≤ maxLen) (l0_2 : zbe (Kd.int .i64).slice (hp w) A0_2 m.follow) (A0_3 : Option Addr) (c0_3 : Nat) (b0_3 : m.last.length ≤ c0_3 ∧ c0_3 ≤ maxLen) (l0_3 : zbe Kd.bool (hp w) A0_3 m.last) (s : List Int) (A1 : Option Addr) (c1 : Nat) (b1 : s.length ≤ c1 ∧ c1 ≤ maxLen) (l1 : zbe (Kd.int .i64) (hp w) A1 s) (pre0 : Right m ∧ InL m s) :
    Calls Tryd.prog 95 #[.agg #[.slice A0_0 m.spots.length c0_0, .slice A0_1 m.first.length c0_1, .slice A0_2 m.follow.length c0_2, .slice A0_3 m.last.length c0_3, .bool m.empty], .slice A1 s.length c1] w fun e w' => ∃ v, e = .returned v ∧ ∃ (hn : Ghost), St w.heap.size w hn w' [] ∧ v = .bool (zed m s) := by
 refine zaq Tryd.func95 rfl Tryd.ntmps95 rfl ?_
 have S0 := St.init w
 have bb0_0 := b0_0.1; have bc0_0 := b0_0.2; simp only [maxLen] at bc0_0
 have bb0_1 := b0_1.1; have bc0_1 := b0_1.2; simp only [maxLen] at bc0_1
 have bb0_2 := b0_2.1; have bc0_2 := b0_2.2; simp only [maxLen] at bc0_2
 have bb0_3 := b0_3.1; have bc0_3 := b0_3.2; simp only [maxLen] at bc0_3
 have bb1 := b1.1; have bc1 := b1.2; simp only [maxLen] at bc1
 have hR_ := pre0.1; have hI_ := pre0.2; have hsm_ := hR_.small; have hfo_ := hR_.follow; have hla_ := hR_.last; have hnil_ : ∀ x ∈ ([] : List Int), 0 ≤ x ∧ x < (m.spots.length : Int) := fun x hx => (by cases hx)
 refine zab <| zad (l := [0, 1]) rfl ?_
 obtain ⟨b11, w11, r11, g11, T11⟩ := zb2 (P := Tryd.prog) S0 27 (v := .agg #[.slice A0_0 m.spots.length c0_0, .slice A0_1 m.first.length c0_1, .slice A0_2 m.follow.length c0_2, .slice A0_3 m.last.length c0_3, .bool m.empty]) [.slice A0_0 m.spots.length c0_0, .slice A0_1 m.first.length c0_1, .slice A0_2 m.follow.length c0_2, .slice A0_3 m.last.length c0_3, .bool m.empty] rfl
 have S12 := T11
 dsimp only [lAa, lAn, lA0, lAs] at S12
 refine p_v (v := .pointer (some ⟨b11, 0, none⟩)) rfl rfl rfl (zc8 rfl r11) <| p_v (v := .bool false) rfl rfl rfl (zah rfl) <| zaa <| zab <| zab <| zad (l := [0, 1, 2, 3, 4, 5, 6, 7, 8]) rfl <| p_v (v := .slice A1 s.length c1) rfl rfl rfl (zag rfl) <| p_v (v := .int .i64 (s.length : Int)) rfl rfl rfl (za0 u23 rfl) <| p_v (v := .bool (decide ((s.length : Int) = 1))) rfl rfl rfl (ze4 rfl rfl) <| p_v (v := .bool (decide ((s.length : Int) = 1))) rfl rfl rfl (zag rfl) ?_
 by_cases hc13 : (s.length : Int) = 1
 ·skip
  refine p_v (v := .slice A1 s.length c1) rfl (wo 3 9 rfl rfl (bT hc13) rfl) rfl (zag rfl) ?_
  obtain ⟨ad14, seg14, a14, rp14, ce14⟩ := zaz (q := (0 : Int)) (m := 1) l1 rfl (by omega) (by omega)
  refine p_v (v := .pointer (some ad14)) rfl (wo 3 9 rfl rfl (bT hc13) rfl) rfl (zaw u23 ty3 rfl rfl a14 (by omega) (by omega)) ?_
  obtain ⟨rfl, in14⟩ := rp14
  have lo14 := za7 in14; have hi14 := za8 in14
  refine p_v (v := .int .i64 (at_ s (0 : Int))) rfl (wo 3 9 rfl rfl (bT hc13) rfl) rfl (zal (seg := [.int .i64 (at_ s (0 : Int))]) ty3 rfl (by simp) rfl (CF.ghost ce14 (St.le0 S12))) <| p_v (v := .bool (decide ((at_ s (0 : Int)) = (-1)))) rfl (wo 3 9 rfl rfl (bT hc13) rfl) rfl (ze4 rfl rfl) <| p_v (v := .bool (decide ((at_ s (0 : Int)) = (-1)))) rfl rfl rfl (za5 (bT hc13) rfl) <| zaa ?_
  refine zap (p := (at_ s (0 : Int)) = (-1)) rfl (fun hc15 => ?_) (fun hc15 => ?_)
  ·skip
   refine zab <| zad (l := [0, 1, 2]) rfl <| p_v (v := .pointer (some ⟨b11, 4, none⟩)) rfl rfl rfl (zan fd27_4 ty4 rfl rfl) <| p_v (v := .bool m.empty) rfl rfl rfl (zal (seg := [.bool m.empty]) ty4 rfl (by simp) rfl (CF.box (m := 1) (S12.box_at (j := 0) rfl) rfl)) <| p_v (v := .bool m.empty) rfl rfl rfl (zah rfl) <| zaa <| zar Tryd.func95 (res1 rfl (zax (v := .bool m.empty) rfl)) ?_
   have q0 : (zed m s : Bool) = m.empty := by
    first | exact finalR_1 (by assumption) (by assumption) | (rw [finalR_2 (by first | exact .inl (by assumption) | exact .inr (by assumption)), List.any_eq_true.2 ⟨_, zdv hI_.1 (by omega), (by assumption)⟩]) | (rw [finalR_2 (by first | exact .inl (by assumption) | exact .inr (by assumption))]; have hz_ := hI_.2.2; rw [List.take_of_length_le (by omega)] at hz_; exact hz_)
   refine ⟨_, rfl, (fun _ => none), ?_, ?_⟩
   · exact S12.sub [] (by decide) rfl _ rfl
   · first | rfl | (simp only [q0]; rfl) | (simp only [q0])
  have hin_ := inL_of hI_ (.inr hc15)
  refine zau <| zab <| zab <| zad (l := [0]) rfl <| p_v (v := .int .i64 0) rfl rfl rfl (zah rfl) <| zaa <| zas <| zbo (S := Int) (fun (q_ : Int) ρ w' => match q_ with | i => ∃ (h : Ghost), Le (fun _ => none) h ∧ St w.heap.size w h w' [box b11 27 [.slice A0_0 m.spots.length c0_0, .slice A0_1 m.first.length c0_1, .slice A0_2 m.follow.length c0_2, .slice A0_3 m.last.length c0_3, .bool m.empty]] ∧ ρ 1 = .slice A1 s.length c1 ∧ ρ 2 = .pointer (some ⟨b11, 0, none⟩) ∧ ρ 5 = .int .i64 i ∧ inK .i64 i ∧ (0 ≤ i ∧ i ≤ (s.length : Int) ∧ (s.take i.toNat).any (fun z_ => at_ m.last z_) = false)) (fun q_ => match q_ with | i => (s.length - i).toNat) (0) ⟨(fun _ => none), Le.refl _, S12.sub [0] (by decide) rfl _ rfl, rfl, rfl, rfl, (zao (by omega) (by omega)), (by exact ⟨by omega, by omega, rfl⟩)⟩ ?_
  rintro i ih17 ρ17 w17 ⟨h17, le17, S17, r17_1, r17_2, r17_5, f17_0, hI17⟩
  have lf17_0 := za7 f17_0; have hf17_0 := za8 f17_0
  have hx_ : i < (s.length : Int) → 0 ≤ at_ s i ∧ at_ s i < (m.spots.length : Int) := fun h => hin_ _ (zdv hI17.1 h)
  refine zab <| zab <| zad (l := [0, 1, 2, 3]) rfl <| p_v (v := .int .i64 i) rfl rfl rfl (zag r17_5) <| p_v (v := .slice A1 s.length c1) rfl rfl rfl (zag r17_1) <| p_v (v := .int .i64 (s.length : Int)) rfl rfl rfl (za0 u23 rfl) <| p_v (v := .bool (decide (i < (s.length : Int)))) rfl rfl rfl (zdc rfl rfl) <| zaa ?_
  refine zap (p := i < (s.length : Int)) rfl (fun hc18 => ?_) (fun hc18 => ?_)
  ·skip
   refine zau <| zab <| zas <| zab ?_
   obtain ⟨ad19, seg19, a19, rp19, ce19⟩ := zaz (q := i) (m := 1) l1 rfl (by omega) (by omega)
   obtain ⟨rfl, in19⟩ := rp19
   have lo19 := za7 in19; have hi19 := za8 in19
   obtain ⟨ad20, seg20, a20, rp20, ce20⟩ := zaz (q := at_ s i) (m := 1) l0_3 rfl (by omega) (by omega)
   obtain ⟨rfl, _⟩ := rp20
   have hf21 : (CFs ⟨b11, 3, none⟩ [.slice A0_3 m.last.length c0_3]).1 w17 := (CF.box (m := 1) (S17.box_at (j := 0) rfl) rfl)
   have hf22 : (CFs ad19 [.int .i64 (at_ s i)]).1 w17 := (CF.ghost ce19 (St.le0 S17))
   have hf23 : (CFs ad20 [.bool (at_ m.last (at_ s i))]).1 w17 := (CF.ghost ce20 (St.le0 S17))
   refine daS (hkC 1 hf21 (hkC 5 hf22 (hkC 7 hf23 (hkN (w := w17))))) 8 rfl mixed ?_
   intro wd24 gd24 hd24
   have S25 := S17.keep gd24
   have hf26 := spUp gd24 hf21
   have hf27 := spUp gd24 hf22
   have hf28 := spUp gd24 hf23
   refine qd0 (i := 0) (v := .pointer (some ⟨b11, 3, none⟩)) rfl (by decide +kernel) rfl rfl (zan fd27_3 ty25 rfl r17_2) (zaj rfl) <| qd1 0 (i := 1) (v := .slice A0_3 m.last.length c0_3) rfl rfl (by decide +kernel) rfl rfl (fun wq hq => (zal (seg := [.slice A0_3 m.last.length c0_3]) ty25 rfl (by simp) rfl hq)) (za9 hf26 (zaj rfl)) <| qd0 (i := 2) (v := .slice A1 s.length c1) rfl (by decide +kernel) rfl rfl (zag r17_1) (zaj rfl) <| qd0 (i := 3) (v := .int .i64 i) rfl (by decide +kernel) rfl rfl (zag r17_5) (zaj rfl) <| qd0 (i := 4) (v := .pointer (some ad19)) rfl (by decide +kernel) rfl rfl (zaw u23 ty3 rfl rfl a19 (by omega) (by omega)) (zaj rfl) <| qd1 1 (i := 5) (v := .int .i64 (at_ s i)) rfl rfl (by decide +kernel) rfl rfl (fun wq hq => (zal (seg := [.int .i64 (at_ s i)]) ty3 rfl (by simp) rfl hq)) (za1 rfl (za9 hf27 (zaj rfl))) <| qd0 (i := 6) (v := .pointer (some ad20)) rfl (by decide +kernel) rfl rfl (zaw u25 ty4 rfl rfl a20 (by omega) (by omega)) (zaj rfl) <| qd1 2 (i := 7) (v := .bool (at_ m.last (at_ s i))) rfl rfl (by decide +kernel) rfl rfl (fun wq hq => (zal (seg := [.bool (at_ m.last (at_ s i))]) ty4 rfl (by simp) rfl hq)) (za1 rfl (za1 rfl (za9 hf28 (zaj rfl)))) <| zb3 (by decide +kernel) ?_
   intro wd29 gd29
   have S30 := S25.keep gd29
   refine zbr (b := at_ m.last (at_ s i)) rfl (fun hc31 => ?_) (fun hc31 => ?_)
   ·skip
    refine zab <| zad (l := [0]) rfl <| p_v (v := .bool true) rfl rfl rfl (zah rfl) <| zaa <| zar Tryd.func95 (res1 rfl (zax (v := .bool true) rfl)) ?_
    have q0 : (zed m s : Bool) = true := by
     first | exact finalR_1 (by assumption) (by assumption) | (rw [finalR_2 (by first | exact .inl (by assumption) | exact .inr (by assumption)), List.any_eq_true.2 ⟨_, zdv hI17.1 (by omega), (by assumption)⟩]) | (rw [finalR_2 (by first | exact .inl (by assumption) | exact .inr (by assumption))]; have hz_ := hI17.2.2; rw [List.take_of_length_le (by omega)] at hz_; exact hz_)
    refine ⟨_, rfl, h17, ?_, ?_⟩
    · exact S30.sub [] (by decide) rfl _ rfl
    · first | rfl | (simp only [q0]; rfl) | (simp only [q0])
   refine zau <| zat <| zad (l := [0, 1, 2]) rfl <| p_v (v := .int .i64 i) rfl rfl rfl (zag r17_5) <| p_v (v := .int .i64 (i + 1)) rfl rfl rfl (zct rfl rfl (zao (by omega) (by omega))) <| p_v (v := .int .i64 (i + 1)) rfl rfl rfl (zah rfl) <| zaa ?_
   refine ih17 (i + 1) _ _ (by dsimp only; omega) ⟨h17, le17, S30.sub [0] (by decide) rfl _ rfl, r17_1, r17_2, rfl, (zao (by omega) (by omega)), (by exact ⟨by omega, by omega, any_step hI17.1 (by omega) hI17.2.2 (by assumption)⟩)⟩
  refine zbn rfl <| zab <| zad (l := [0]) rfl <| p_v (v := .bool false) rfl rfl rfl (zah rfl) <| zaa <| zar Tryd.func95 (res1 rfl (zax (v := .bool false) rfl)) ?_
  have q0 : (zed m s : Bool) = false := by
   first | exact finalR_1 (by assumption) (by assumption) | (rw [finalR_2 (by first | exact .inl (by assumption) | exact .inr (by assumption)), List.any_eq_true.2 ⟨_, zdv hI17.1 (by omega), (by assumption)⟩]) | (rw [finalR_2 (by first | exact .inl (by assumption) | exact .inr (by assumption))]; have hz_ := hI17.2.2; rw [List.take_of_length_le (by omega)] at hz_; exact hz_)
  refine ⟨_, rfl, h17, ?_, ?_⟩
  · exact S17.sub [] (by decide) rfl _ rfl
  · first | rfl | (simp only [q0]; rfl) | (simp only [q0])
 have hin_ := inL_of hI_ (.inl hc13)
 refine za2 rfl (wo 3 9 rfl rfl (bF hc13) rfl) rfl <| za2 rfl (wo 3 9 rfl rfl (bF hc13) rfl) rfl <| za2 rfl (wo 3 9 rfl rfl (bF hc13) rfl) rfl <| za2 rfl (wo 3 9 rfl rfl (bF hc13) rfl) rfl <| p_v (v := .bool false) rfl rfl rfl (zbk (bF hc13) rfl) <| zaa <| zb4 (b := false) rfl ?_
 simp only [if_true, if_false, Bool.false_eq_true]
 refine zau <| zab <| zab <| zad (l := [0]) rfl <| p_v (v := .int .i64 0) rfl rfl rfl (zah rfl) <| zaa <| zas <| zbo (S := Int) (fun (q_ : Int) ρ w' => match q_ with | i => ∃ (h : Ghost), Le (fun _ => none) h ∧ St w.heap.size w h w' [box b11 27 [.slice A0_0 m.spots.length c0_0, .slice A0_1 m.first.length c0_1, .slice A0_2 m.follow.length c0_2, .slice A0_3 m.last.length c0_3, .bool m.empty]] ∧ ρ 1 = .slice A1 s.length c1 ∧ ρ 2 = .pointer (some ⟨b11, 0, none⟩) ∧ ρ 5 = .int .i64 i ∧ inK .i64 i ∧ (0 ≤ i ∧ i ≤ (s.length : Int) ∧ (s.take i.toNat).any (fun z_ => at_ m.last z_) = false)) (fun q_ => match q_ with | i => (s.length - i).toNat) (0) ⟨(fun _ => none), Le.refl _, S12.sub [0] (by decide) rfl _ rfl, rfl, rfl, rfl, (zao (by omega) (by omega)), (by exact ⟨by omega, by omega, rfl⟩)⟩ ?_
 rintro i ih32 ρ32 w32 ⟨h32, le32, S32, r32_1, r32_2, r32_5, f32_0, hI32⟩
 have lf32_0 := za7 f32_0; have hf32_0 := za8 f32_0
 have hx_ : i < (s.length : Int) → 0 ≤ at_ s i ∧ at_ s i < (m.spots.length : Int) := fun h => hin_ _ (zdv hI32.1 h)
 refine zab <| zab <| zad (l := [0, 1, 2, 3]) rfl <| p_v (v := .int .i64 i) rfl rfl rfl (zag r32_5) <| p_v (v := .slice A1 s.length c1) rfl rfl rfl (zag r32_1) <| p_v (v := .int .i64 (s.length : Int)) rfl rfl rfl (za0 u23 rfl) <| p_v (v := .bool (decide (i < (s.length : Int)))) rfl rfl rfl (zdc rfl rfl) <| zaa ?_
 refine zap (p := i < (s.length : Int)) rfl (fun hc33 => ?_) (fun hc33 => ?_)
 ·skip
  refine zau <| zab <| zas <| zab ?_
  obtain ⟨ad34, seg34, a34, rp34, ce34⟩ := zaz (q := i) (m := 1) l1 rfl (by omega) (by omega)
  obtain ⟨rfl, in34⟩ := rp34
  have lo34 := za7 in34; have hi34 := za8 in34
  obtain ⟨ad35, seg35, a35, rp35, ce35⟩ := zaz (q := at_ s i) (m := 1) l0_3 rfl (by omega) (by omega)
  obtain ⟨rfl, _⟩ := rp35
  have hf36 : (CFs ⟨b11, 3, none⟩ [.slice A0_3 m.last.length c0_3]).1 w32 := (CF.box (m := 1) (S32.box_at (j := 0) rfl) rfl)
  have hf37 : (CFs ad34 [.int .i64 (at_ s i)]).1 w32 := (CF.ghost ce34 (St.le0 S32))
  have hf38 : (CFs ad35 [.bool (at_ m.last (at_ s i))]).1 w32 := (CF.ghost ce35 (St.le0 S32))
  refine daS (hkC 1 hf36 (hkC 5 hf37 (hkC 7 hf38 (hkN (w := w32))))) 8 rfl mixed ?_
  intro wd39 gd39 hd39
  have S40 := S32.keep gd39
  have hf41 := spUp gd39 hf36
  have hf42 := spUp gd39 hf37
  have hf43 := spUp gd39 hf38
  refine qd0 (i := 0) (v := .pointer (some ⟨b11, 3, none⟩)) rfl (by decide +kernel) rfl rfl (zan fd27_3 ty25 rfl r32_2) (zaj rfl) <| qd1 0 (i := 1) (v := .slice A0_3 m.last.length c0_3) rfl rfl (by decide +kernel) rfl rfl (fun wq hq => (zal (seg := [.slice A0_3 m.last.length c0_3]) ty25 rfl (by simp) rfl hq)) (za9 hf41 (zaj rfl)) <| qd0 (i := 2) (v := .slice A1 s.length c1) rfl (by decide +kernel) rfl rfl (zag r32_1) (zaj rfl) <| qd0 (i := 3) (v := .int .i64 i) rfl (by decide +kernel) rfl rfl (zag r32_5) (zaj rfl) <| qd0 (i := 4) (v := .pointer (some ad34)) rfl (by decide +kernel) rfl rfl (zaw u23 ty3 rfl rfl a34 (by omega) (by omega)) (zaj rfl) <| qd1 1 (i := 5) (v := .int .i64 (at_ s i)) rfl rfl (by decide +kernel) rfl rfl (fun wq hq => (zal (seg := [.int .i64 (at_ s i)]) ty3 rfl (by simp) rfl hq)) (za1 rfl (za9 hf42 (zaj rfl))) <| qd0 (i := 6) (v := .pointer (some ad35)) rfl (by decide +kernel) rfl rfl (zaw u25 ty4 rfl rfl a35 (by omega) (by omega)) (zaj rfl) <| qd1 2 (i := 7) (v := .bool (at_ m.last (at_ s i))) rfl rfl (by decide +kernel) rfl rfl (fun wq hq => (zal (seg := [.bool (at_ m.last (at_ s i))]) ty4 rfl (by simp) rfl hq)) (za1 rfl (za1 rfl (za9 hf43 (zaj rfl)))) <| zb3 (by decide +kernel) ?_
  intro wd44 gd44
  have S45 := S40.keep gd44
  refine zbr (b := at_ m.last (at_ s i)) rfl (fun hc46 => ?_) (fun hc46 => ?_)
  ·skip
   refine zab <| zad (l := [0]) rfl <| p_v (v := .bool true) rfl rfl rfl (zah rfl) <| zaa <| zar Tryd.func95 (res1 rfl (zax (v := .bool true) rfl)) ?_
   have q0 : (zed m s : Bool) = true := by
    first | exact finalR_1 (by assumption) (by assumption) | (rw [finalR_2 (by first | exact .inl (by assumption) | exact .inr (by assumption)), List.any_eq_true.2 ⟨_, zdv hI32.1 (by omega), (by assumption)⟩]) | (rw [finalR_2 (by first | exact .inl (by assumption) | exact .inr (by assumption))]; have hz_ := hI32.2.2; rw [List.take_of_length_le (by omega)] at hz_; exact hz_)
   refine ⟨_, rfl, h32, ?_, ?_⟩
   · exact S45.sub [] (by decide) rfl _ rfl
   · first | rfl | (simp only [q0]; rfl) | (simp only [q0])
  refine zau <| zat <| zad (l := [0, 1, 2]) rfl <| p_v (v := .int .i64 i) rfl rfl rfl (zag r32_5) <| p_v (v := .int .i64 (i + 1)) rfl rfl rfl (zct rfl rfl (zao (by omega) (by omega))) <| p_v (v := .int .i64 (i + 1)) rfl rfl rfl (zah rfl) <| zaa ?_
  refine ih32 (i + 1) _ _ (by dsimp only; omega) ⟨h32, le32, S45.sub [0] (by decide) rfl _ rfl, r32_1, r32_2, rfl, (zao (by omega) (by omega)), (by exact ⟨by omega, by omega, any_step hI32.1 (by omega) hI32.2.2 (by assumption)⟩)⟩
 refine zbn rfl <| zab <| zad (l := [0]) rfl <| p_v (v := .bool false) rfl rfl rfl (zah rfl) <| zaa <| zar Tryd.func95 (res1 rfl (zax (v := .bool false) rfl)) ?_
 have q0 : (zed m s : Bool) = false := by
  first | exact finalR_1 (by assumption) (by assumption) | (rw [finalR_2 (by first | exact .inl (by assumption) | exact .inr (by assumption)), List.any_eq_true.2 ⟨_, zdv hI32.1 (by omega), (by assumption)⟩]) | (rw [finalR_2 (by first | exact .inl (by assumption) | exact .inr (by assumption))]; have hz_ := hI32.2.2; rw [List.take_of_length_le (by omega)] at hz_; exact hz_)
 refine ⟨_, rfl, h32, ?_, ?_⟩
 · exact S32.sub [] (by decide) rfl _ rfl
 · (simp only [q0])
theorem ref11_calls (w : World) (m : Mach) (A0_0 : Option Addr) (c0_0 : Nat) (b0_0 : m.spots.length ≤ c0_0 ∧ c0_0 ≤ maxLen) (l0_0 : zbe zel (hp w) A0_0 m.spots) (A0_1 : Option Addr) (c0_1 : Nat) (b0_1 : m.first.length ≤ c0_1 ∧ c0_1 ≤ maxLen) (l0_1 : zbe (Kd.int .i64) (hp w) A0_1 m.first) (A0_2 : Option Addr) (c0_2 : Nat) (b0_2 : m.follow.length ≤ c0_2 ∧ c0_2 ≤ maxLen) (l0_2 : zbe (Kd.int .i64).slice (hp w) A0_2 m.follow) (A0_3 : Option Addr) (c0_3 : Nat) (b0_3 : m.last.length ≤ c0_3 ∧ c0_3 ≤ maxLen) (l0_3 : zbe Kd.bool (hp w) A0_3 m.last) (least : List Int) (A1 : Option Addr) (c1 : Nat) (b1 : least.length ≤ c1 ∧ c1 ≤ maxLen) (l1 : zbe (Kd.int .u8) (hp w) A1 least) (pre0 : Right m ∧ (m.spots.length : Int) ≤ 20 ∧ (least.length : Int) ≤ 256) :
    Calls Tryd.prog 29 #[.agg #[.slice A0_0 m.spots.length c0_0, .slice A0_1 m.first.length c0_1, .slice A0_2 m.follow.length c0_2, .slice A0_3 m.last.length c0_3, .bool m.empty], .slice A1 least.length c1] w fun e w' => ∃ v, e = .returned v ∧ ∃ (hn : Ghost) (r0 : Value) (r1 : Value), St w.heap.size w hn w' [row 23 (Kd.int .i64).slice r0 ((refB m least).next), row 4 Kd.bool r1 ((refB m least).final)] ∧ v = .agg #[.slice A1 least.length c1, r0, r1] := by
 refine zaq Tryd.func29 rfl Tryd.ntmps29 rfl ?_
 have S0 := St.init w
 have bb0_0 := b0_0.1; have bc0_0 := b0_0.2; simp only [maxLen] at bc0_0
 have bb0_1 := b0_1.1; have bc0_1 := b0_1.2; simp only [maxLen] at bc0_1
 have bb0_2 := b0_2.1; have bc0_2 := b0_2.2; simp only [maxLen] at bc0_2
 have bb0_3 := b0_3.1; have bc0_3 := b0_3.2; simp only [maxLen] at bc0_3
 have bb1 := b1.1; have bc1 := b1.2; simp only [maxLen] at bc1
 have hR_ := pre0.1; have h20_ := pre0.2.1; have hlb_ := pre0.2.2; have hsm_ := hR_.small; have hfo_ := hR_.follow; have hla_ := hR_.last
 refine zab <| zad (l := [0, 1]) rfl ?_
 obtain ⟨b11, w11, r11, g11, T11⟩ := zb2 (P := Tryd.prog) S0 27 (v := .agg #[.slice A0_0 m.spots.length c0_0, .slice A0_1 m.first.length c0_1, .slice A0_2 m.follow.length c0_2, .slice A0_3 m.last.length c0_3, .bool m.empty]) [.slice A0_0 m.spots.length c0_0, .slice A0_1 m.first.length c0_1, .slice A0_2 m.follow.length c0_2, .slice A0_3 m.last.length c0_3, .bool m.empty] rfl
 have S12 := T11
 dsimp only [lAa, lAn, lA0, lAs] at S12
 refine p_v (v := .pointer (some ⟨b11, 0, none⟩)) rfl rfl rfl (zc8 rfl r11) ?_
 obtain ⟨b13, w13, r13, g13, T13⟩ := zb2 (P := Tryd.prog) S12 47 (v := (.agg #[.slice none 0 0, .slice none 0 0, .slice none 0 0])) [.slice none 0 0, .slice none 0 0, .slice none 0 0] rfl
 have S14 := T13
 dsimp only [lAa, lAn, lA0, lAs] at S14
 refine p_v (v := .pointer (some ⟨b13, 0, none⟩)) rfl rfl rfl (zcj ty47 r13) <| zaa <| zab <| zad (l := [0, 1, 2, 3]) rfl <| p_v (v := .slice A1 least.length c1) rfl rfl rfl (zag rfl) <| p_v (v := .agg #[.slice A1 least.length c1, .slice none 0 0, .slice none 0 0]) rfl rfl rfl (zdj (pv := [(0, .slice A1 least.length c1)]) rfl (zbg pl47 ty47 rfl (cs := [.slice A1 least.length c1, .slice none 0 0, .slice none 0 0]) rfl)) ?_
 obtain ⟨b15, w15, r15, g15, T15⟩ := zb2 (P := Tryd.prog) S14 47 (v := (.agg #[.slice none 0 0, .slice none 0 0, .slice none 0 0])) [.slice none 0 0, .slice none 0 0, .slice none 0 0] rfl
 have S16 := T15
 dsimp only [lAa, lAn, lA0, lAs] at S16
 refine p_v (v := .pointer (some ⟨b15, 0, none⟩)) rfl rfl rfl (zcj ty47 r15) ?_
 obtain ⟨w17, r17, g17, T17⟩ := zcb (P := Tryd.prog) (off := 0) (v := .agg #[.slice A1 least.length c1, .slice none 0 0, .slice none 0 0]) (vs := [.slice A1 least.length c1, .slice none 0 0, .slice none 0 0]) S16 ty47 rfl rfl (j := 2) rfl (by first | decide | exact Nat.le_of_ble_eq_true rfl) (by simp [Value.oneCell'])
 have S18 := T17.fx 2 (box b15 47 [.slice A1 least.length c1, .slice none 0 0, .slice none 0 0]) rfl
 dsimp only [lAa, lAn, lA0, lAs] at S18
 refine p_s rfl rfl (zbh rfl rfl r17) <| zaa <| zab <| zad (l := [0, 1, 2]) rfl ?_
 obtain ⟨v19, w19, r19, g19, T19⟩ := za4 (kd := (Kd.int .i64)) (xs := ([(-1)] : List Int)) (len := 1) [.int .i64 (-1)] S18 u23 ty3 rfl rfl rfl rfl rfl (zbi rfl zbq) [.int .i64 (-1)] (zcg.single (k := (Kd.int .i64)) (h := (fun _ => none)) (x := (-1)) (cs := [.int .i64 (-1)]) ⟨rfl, (zao (by omega) (by omega))⟩) rfl
 have S20 := T19
 dsimp only [lAa, lAn, lA0, lAs] at S20
 refine p_v (v := v19) rfl rfl rfl (zav (pv := [(0, .int .i64 (-1))]) rfl r19) ?_
 obtain ⟨h22, le22, T22, rp22⟩ := S20.freeze (i := 3) rfl
 have S23 := T22.fx 3 (emp) rfl
 dsimp only [lAa, lAn, lA0, lAs] at S23
 obtain ⟨A22, c22, e22, lc22, cm22, ld22⟩ := rp22
 injection e22 with e22 _; subst e22
 have cn22 := cm22; simp only [maxLen] at cn22
 obtain ⟨v21, w21, r21, g21, T21⟩ := za4 (kd := (Kd.int .i64).slice) (xs := ([([(-1)] : List Int)] : List (List Int))) (len := 1) [.slice A22 ([(-1)] : List Int).length c22] S23 u24 ty23 rfl rfl rfl rfl rfl (zbi rfl zbq) [.slice A22 ([(-1)] : List Int).length c22] (zcg.single (k := (Kd.int .i64).slice) (h := h22) (x := ([(-1)] : List Int)) (cs := [.slice A22 ([(-1)] : List Int).length c22]) ⟨_, _, rfl, (And.intro lc22 cm22).1, (And.intro lc22 cm22).2, ld22.mono (Le.refl _)⟩) rfl
 have S24 := T21
 dsimp only [lAa, lAn, lA0, lAs] at S24
 refine p_v (v := v21) rfl rfl rfl (zav (pv := [(0, .slice A22 ([(-1)] : List Int).length c22)]) rfl r21) <| p_v (v := v21) rfl rfl rfl (zah rfl) <| zaa <| zab <| zab <| zad (l := [0]) rfl <| p_v (v := .int .i64 0) rfl rfl rfl (zah rfl) <| zaa <| zas ?_
 have T25 := S24.row_nil 23 (Kd.int .i64).slice
 obtain ⟨vn25, ev25, T25⟩ : ∃ v, v = (.slice none 0 0 : Value) ∧ St w.heap.size w h22 w21 [box b11 27 [.slice A0_0 m.spots.length c0_0, .slice A0_1 m.first.length c0_1, .slice A0_2 m.follow.length c0_2, .slice A0_3 m.last.length c0_3, .bool m.empty], box b13 47 [.slice none 0 0, .slice none 0 0, .slice none 0 0], box b15 47 [.slice A1 least.length c1, v, .slice none 0 0], emp, row 23 (Kd.int .i64).slice v21 ([([(-1)] : List Int)] : List (List Int)), row 23 (Kd.int .i64).slice v ([] : List (List Int))] := ⟨_, rfl, T25⟩
 have S26 : St w.heap.size w h22 w21 [box b11 27 [.slice A0_0 m.spots.length c0_0, .slice A0_1 m.first.length c0_1, .slice A0_2 m.follow.length c0_2, .slice A0_3 m.last.length c0_3, .bool m.empty], box b13 47 [.slice none 0 0, .slice none 0 0, .slice none 0 0], box b15 47 [.slice A1 least.length c1, vn25, .slice none 0 0], emp, row 23 (Kd.int .i64).slice v21 ([([(-1)] : List Int)] : List (List Int)), row 23 (Kd.int .i64).slice vn25 ([] : List (List Int))] := T25
 have T27 := S26.row_nil 4 Kd.bool
 obtain ⟨vn27, ev27, T27⟩ : ∃ v, v = (.slice none 0 0 : Value) ∧ St w.heap.size w h22 w21 [box b11 27 [.slice A0_0 m.spots.length c0_0, .slice A0_1 m.first.length c0_1, .slice A0_2 m.follow.length c0_2, .slice A0_3 m.last.length c0_3, .bool m.empty], box b13 47 [.slice none 0 0, .slice none 0 0, .slice none 0 0], box b15 47 [.slice A1 least.length c1, vn25, v], emp, row 23 (Kd.int .i64).slice v21 ([([(-1)] : List Int)] : List (List Int)), row 23 (Kd.int .i64).slice vn25 ([] : List (List Int)), row 4 Kd.bool v ([] : List Bool)] := ⟨_, rfl, T27⟩
 have S28 : St w.heap.size w h22 w21 [box b11 27 [.slice A0_0 m.spots.length c0_0, .slice A0_1 m.first.length c0_1, .slice A0_2 m.follow.length c0_2, .slice A0_3 m.last.length c0_3, .bool m.empty], box b13 47 [.slice none 0 0, .slice none 0 0, .slice none 0 0], box b15 47 [.slice A1 least.length c1, vn25, vn27], emp, row 23 (Kd.int .i64).slice v21 ([([(-1)] : List Int)] : List (List Int)), row 23 (Kd.int .i64).slice vn25 ([] : List (List Int)), row 4 Kd.bool vn27 ([] : List Bool)] := T27
 refine zbo (S := (List (List Int)) × (List (List Int)) × (List Bool) × Int) (fun (q_ : (List (List Int)) × (List (List Int)) × (List Bool) × Int) ρ w' => match q_ with | (all, d_1, d_2, i) => ∃ (h : Ghost) (v_all : Value) (v_d_1 : Value) (v_d_2 : Value), Le h22 h ∧ St w.heap.size w h w' [box b11 27 [.slice A0_0 m.spots.length c0_0, .slice A0_1 m.first.length c0_1, .slice A0_2 m.follow.length c0_2, .slice A0_3 m.last.length c0_3, .bool m.empty], box b13 47 [.slice none 0 0, .slice none 0 0, .slice none 0 0], box b15 47 [.slice A1 least.length c1, v_d_1, v_d_2], row 23 (Kd.int .i64).slice v_all all, row 23 (Kd.int .i64).slice v_d_1 d_1, row 4 Kd.bool v_d_2 d_2] ∧ ρ 1 = .slice A1 least.length c1 ∧ ρ 2 = .pointer (some ⟨b11, 0, none⟩) ∧ ρ 4 = .pointer (some ⟨b13, 0, none⟩) ∧ ρ 5 = .pointer (some ⟨b15, 0, none⟩) ∧ ρ 6 = v_all ∧ ρ 7 = .int .i64 i ∧ inK .i64 i ∧ (MadeI (nextR m least) (least.length : Int) [-1] (zed m) all (zcn all) d_1 d_2 i)) (fun q_ => match q_ with | (all, d_1, d_2, i) => (1048578 - i).toNat) (([([(-1)] : List Int)] : List (List Int)), ([] : List (List Int)), ([] : List Bool), 0) ⟨h22, v21, vn25, vn27, Le.refl _, S28.sub [0, 1, 2, 4, 5, 6] (by decide) rfl _ rfl, rfl, rfl, rfl, rfl, rfl, rfl, (zao (by omega) (by omega)), (by exact made_00)⟩ ?_
 rintro ⟨all, d_1, d_2, i⟩ ih29 ρ29 w29 ⟨h29, v_all, v_d_1, v_d_2, le29, S29, r29_1, r29_2, r29_4, r29_5, r29_6, r29_7, f29_0, hI29⟩
 have lf29_0 := za7 f29_0; have hf29_0 := za8 f29_0
 have rl29_3 := S29.row_le (j := 3) rfl; simp only [maxLen] at rl29_3
 have rl29_4 := S29.row_le (j := 4) rfl; simp only [maxLen] at rl29_4
 have rl29_5 := S29.row_le (j := 5) rfl; simp only [maxLen] at rl29_5
 have hi0_ := hI29.lo; have hi1_ := hI29.hi; have hb0_ := refs_bound hR_ h20_ hI29; have hn0_ := (made_len hI29).1; have hf0_ := (made_len hI29).2
 have hin_ : i < (all.length : Int) → InL m (at_ all i) := fun h => refs_in hR_ hI29 (zdv hI29.lo h)
 refine zab <| zab <| zad (l := [0, 1, 2, 3]) rfl <| p_v (v := .int .i64 i) rfl rfl rfl (zag r29_7) <| p_v (v := v_all) rfl rfl rfl (zag r29_6) ?_
 have lb30 := S29.row_le (j := 3) rfl; simp only [maxLen] at lb30
 refine p_v (v := .int .i64 (all.length : Int)) rfl rfl rfl (ze3 u24 rfl (ze8 S29 (j := 3) rfl)) <| p_v (v := .bool (decide (i < (all.length : Int)))) rfl rfl rfl (zdc rfl rfl) <| zaa ?_
 refine zap (p := i < (all.length : Int)) rfl (fun hc31 => ?_) (fun hc31 => ?_)
 ·skip
  refine zau <| zab <| zas <| zab <| zad (l := [0]) rfl <| p_v (v := .slice none 0 0) rfl rfl rfl (zah rfl) <| zaa <| zab <| zab <| zad (l := [0]) rfl <| p_v (v := .int .i64 0) rfl rfl rfl (zah rfl) <| zaa ?_
  refine zas ?_
  have T32 := S29.row_nil 3 (Kd.int .i64)
  obtain ⟨vn32, ev32, T32⟩ : ∃ v, v = (.slice none 0 0 : Value) ∧ St w.heap.size w h29 w29 ([box b11 27 [.slice A0_0 m.spots.length c0_0, .slice A0_1 m.first.length c0_1, .slice A0_2 m.follow.length c0_2, .slice A0_3 m.last.length c0_3, .bool m.empty], box b13 47 [.slice none 0 0, .slice none 0 0, .slice none 0 0], box b15 47 [.slice A1 least.length c1, v_d_1, v_d_2], row 23 (Kd.int .i64).slice v_all all, row 23 (Kd.int .i64).slice v_d_1 d_1, row 4 Kd.bool v_d_2 d_2] ++ [row 3 (Kd.int .i64) v []]) := ⟨_, rfl, T32⟩
  have S33 := T32
  dsimp only [lAa, lAn, lA0, lAs] at S33
  refine zbo (S := (List (List Int)) × (List Int) × Int) (fun (q_ : (List (List Int)) × (List Int) × Int) ρ w' => match q_ with | (all2, l, k) => ∃ (h : Ghost) (v_all2 : Value) (v_l : Value), Le h29 h ∧ St w.heap.size w h w' [box b11 27 [.slice A0_0 m.spots.length c0_0, .slice A0_1 m.first.length c0_1, .slice A0_2 m.follow.length c0_2, .slice A0_3 m.last.length c0_3, .bool m.empty], box b13 47 [.slice none 0 0, .slice none 0 0, .slice none 0 0], box b15 47 [.slice A1 least.length c1, v_d_1, v_d_2], row 23 (Kd.int .i64).slice v_all2 all2, row 23 (Kd.int .i64).slice v_d_1 d_1, row 4 Kd.bool v_d_2 d_2, row 3 (Kd.int .i64) v_l l] ∧ ρ 1 = .slice A1 least.length c1 ∧ ρ 2 = .pointer (some ⟨b11, 0, none⟩) ∧ ρ 4 = .pointer (some ⟨b13, 0, none⟩) ∧ ρ 5 = .pointer (some ⟨b15, 0, none⟩) ∧ ρ 6 = v_all2 ∧ ρ 7 = .int .i64 i ∧ ρ 8 = v_l ∧ ρ 9 = .int .i64 k ∧ inK .i64 k ∧ (0 ≤ k ∧ k ≤ (least.length : Int) ∧ MadeK (nextR m least) (at_ all i) all all2 (zcn all2) l k ∧ at_ all2 i = at_ all i ∧ (all.length : Int) ≤ all2.length)) (fun q_ => match q_ with | (all2, l, k) => (least.length - k).toNat) (all, ([] : List Int), 0) ⟨h29, v_all, vn32, Le.refl _, S33.sub [0, 1, 2, 3, 4, 5, 6] (by decide) rfl _ rfl, r29_1, r29_2, r29_4, r29_5, r29_6, r29_7, (ev32.symm), rfl, (zao (by omega) (by omega)), (by exact ⟨by omega, by omega, rr_0 hI29, rfl, by omega⟩)⟩ ?_
  rintro ⟨all2, l, k⟩ ih34 ρ34 w34 ⟨h34, v_all2, v_l, le34, S34, r34_1, r34_2, r34_4, r34_5, r34_6, r34_7, r34_8, r34_9, f34_0, hI34⟩
  have lf34_0 := za7 f34_0; have hf34_0 := za8 f34_0
  have rl34_3 := S34.row_le (j := 3) rfl; simp only [maxLen] at rl34_3
  have rl34_4 := S34.row_le (j := 4) rfl; simp only [maxLen] at rl34_4
  have rl34_5 := S34.row_le (j := 5) rfl; simp only [maxLen] at rl34_5
  have rl34_6 := S34.row_le (j := 6) rfl; simp only [maxLen] at rl34_6
  have hk0_ := hI34.1; have hk1_ := hI34.2.1; have hb1_ := refs_bound2 hR_ h20_ hI29 (zdv hI29.lo (by omega)) hI34.2.2.1 hI34.2.1; have hl1_ := madeK_len hI34.2.2.1; have hlen_ := hI34.2.2.2.2
  have hin2_ : InL m (at_ all2 i) := (by rw [hI34.2.2.2.1]; exact hin_ (by omega))
  refine zab <| zab <| zad (l := [0, 1, 2, 3]) rfl <| p_v (v := .int .i64 k) rfl rfl rfl (zag r34_9) <| p_v (v := .slice A1 least.length c1) rfl rfl rfl (zag r34_1) <| p_v (v := .int .i64 (least.length : Int)) rfl rfl rfl (za0 u39 rfl) <| p_v (v := .bool (decide (k < (least.length : Int)))) rfl rfl rfl (zdc rfl rfl) <| zaa ?_
  refine zap (p := k < (least.length : Int)) rfl (fun hc35 => ?_) (fun hc35 => ?_)
  ·skip
   refine zau <| zab <| zas <| zab ?_
   obtain ⟨ad36, a36, at36⟩ := zeq (q := i) (m := 1) S34 (j := 3) rfl rfl (by omega) (by omega)
   obtain ⟨seg37, rp37, cf37⟩ := e_load_own (q := i) S34 (j := 3) rfl rfl at36 (by omega) (by omega)
   obtain ⟨A37, c37, rfl, lc37, cm37, ld37⟩ := rp37
   have cn37 := cm37; simp only [maxLen] at cn37
   obtain ⟨ad38, seg38, a38, rp38, ce38⟩ := zaz (q := k) (m := 1) l1 rfl (by omega) (by omega)
   obtain ⟨rfl, in38⟩ := rp38
   have lo38 := zeu in38; have hi38 := zfa in38
   have hf39 : (CFs ⟨b11, 0, none⟩ [.slice A0_0 m.spots.length c0_0, .slice A0_1 m.first.length c0_1, .slice A0_2 m.follow.length c0_2, .slice A0_3 m.last.length c0_3, .bool m.empty]).1 w34 := (CF.box (m := 5) (S34.box_at (j := 0) rfl) rfl)
   have hf40 : (CFs ad36 [.slice A37 (at_ all2 i).length c37]).1 w34 := cf37
   have hf41 : (CFs ad38 [.int .u8 (at_ least k)]).1 w34 := (CF.ghost ce38 (St.le0 S34))
   refine daS (hkC 0 hf39 (hkC 4 hf40 (hkC 8 hf41 (hkN (w := w34))))) 11 rfl mixed ?_
   intro wd42 gd42 hd42
   have S43 := S34.keep gd42
   have hf44 := spUp gd42 hf39
   have hf45 := spUp gd42 hf40
   have hf46 := spUp gd42 hf41
   refine qd1 0 (i := 0) (v := .agg #[.slice A0_0 m.spots.length c0_0, .slice A0_1 m.first.length c0_1, .slice A0_2 m.follow.length c0_2, .slice A0_3 m.last.length c0_3, .bool m.empty]) rfl rfl (by decide +kernel) rfl rfl (fun wq hq => (zal (seg := [.slice A0_0 m.spots.length c0_0, .slice A0_1 m.first.length c0_1, .slice A0_2 m.follow.length c0_2, .slice A0_3 m.last.length c0_3, .bool m.empty]) ty27 rfl (by simp) r34_2 hq)) (za9 hf44 (zaj rfl)) <| qd0 (i := 1) (v := v_all2) rfl (by decide +kernel) rfl rfl (zag r34_6) (zaj rfl) <| qd0 (i := 2) (v := .int .i64 i) rfl (by decide +kernel) rfl rfl (zag r34_7) (zaj rfl) <| qd0 (i := 3) (v := .pointer (some ad36)) rfl (by decide +kernel) rfl rfl (zem u24 ty23 rfl rfl a36 (by omega) (by omega)) (zaj rfl) <| qd1 1 (i := 4) (v := .slice A37 (at_ all2 i).length c37) rfl rfl (by decide +kernel) rfl rfl (fun wq hq => (zal (seg := [.slice A37 (at_ all2 i).length c37]) ty23 rfl (by simp) rfl hq)) (za1 rfl (za9 hf45 (zaj rfl))) <| qd0 (i := 5) (v := .slice A1 least.length c1) rfl (by decide +kernel) rfl rfl (zag r34_1) (zaj rfl) <| qd0 (i := 6) (v := .int .i64 k) rfl (by decide +kernel) rfl rfl (zag r34_9) (zaj rfl) <| qd0 (i := 7) (v := .pointer (some ad38)) rfl (by decide +kernel) rfl rfl (zaw u39 ty5 rfl rfl a38 (by omega) (by omega)) (zaj rfl) <| qd1 2 (i := 8) (v := .int .u8 (at_ least k)) rfl rfl (by decide +kernel) rfl rfl (fun wq hq => (zal (seg := [.int .u8 (at_ least k)]) ty5 rfl (by simp) rfl hq)) (za1 rfl (za1 rfl (za9 hf46 (zaj rfl)))) <| zby (i := 9) (by decide +kernel) ?_
   intro wd47 gd47
   have S48 := S43.keep gd47
   have hf49 := spUp gd47 hf44
   have hf50 := spUp gd47 hf45
   have hf51 := spUp gd47 hf46
   refine d_c rfl rfl rfl (za6 (args := [.agg #[.slice A0_0 m.spots.length c0_0, .slice A0_1 m.first.length c0_1, .slice A0_2 m.follow.length c0_2, .slice A0_3 m.last.length c0_3, .bool m.empty], .slice A37 (at_ all2 i).length c37, .int .u8 (at_ least k)]) ca93 rfl rfl) (step11_calls wd47 m A0_0 c0_0 b0_0 (l0_0.mono (St.le0 S48)) A0_1 c0_1 b0_1 (l0_1.mono (St.le0 S48)) A0_2 c0_2 b0_2 (l0_2.mono (St.le0 S48)) A0_3 c0_3 b0_3 (l0_3.mono (St.le0 S48)) (at_ all2 i) A37 c37 (And.intro lc37 cm37) (ld37.mono ((Le.refl _).trans S48.ghost)) (at_ least k) (zec (by omega) (by omega)) (by first | assumption | exact ⟨by assumption, by assumption⟩)) ?_
   rintro v52_0 w52 ⟨h52, _, T52, rfl⟩
   obtain ⟨k52, lk52, ll52, U52⟩ := zci S48 T52
   have lc52_0 := (((((le22).trans le29)).trans le34)).trans lk52
   have lc52_1 := (((le29).trans le34)).trans lk52
   have lc52_2 := (le34).trans lk52
   have S53 := U52
   dsimp only [lAa, lAn, lA0, lAs] at S53
   have hf54 := spUp (Chg.of_below T52.below) hf49
   have hf55 := spUp (Chg.of_below T52.below) hf50
   have hf56 := spUp (Chg.of_below T52.below) hf51
   refine ⟨.inl (Chg.of_below T52.below), ?_⟩
   refine qd0 (i := 10) (v := v52_0) rfl (by decide +kernel) rfl rfl (zah rfl) (zaj rfl) <| zb3 (by decide +kernel) ?_
   intro wd57 gd57
   have S58 := S53.keep gd57
   refine zab <| zad (l := [0, 1, 2, 3]) rfl <| p_v (v := v_all2) rfl rfl rfl (zag r34_6) <| p_v (v := v52_0) rfl rfl rfl (zag rfl) ?_
   obtain ⟨A59, c59, ev59, lc59, cm59⟩ := S58.row_val (j := 3) rfl
   obtain ⟨A60, c60, ev60, lc60, cm60⟩ := S58.row_val (j := 7) rfl
   refine p_c rfl rfl rfl (za6 (args := [.slice A59 all2.length c59, .slice A60 (zeb m (at_ all2 i) (at_ least k)).length c60]) ca94 rfl (zd3 ev59 (zd3 ev60 rfl))) (find11_calls wd57 all2 A59 c59 (And.intro lc59 cm59) (zc5 S58 (j := 3) rfl ev59) (zeb m (at_ all2 i) (at_ least k)) A60 c60 (And.intro lc60 cm60) (zc5 S58 (j := 7) rfl ev60)) ?_
   rintro _ w61 ⟨h61, T61, rfl, in61_0⟩
   have S62 := S58.keep (Chg.of_below T61.below)
   have lo_in61_0 := za7 in61_0; have hi_in61_0 := za8 in61_0
   refine p_v (v := .int .i64 (zdx all2 (zeb m (at_ all2 i) (at_ least k)))) rfl rfl rfl (zah rfl) <| zaa <| zab <| zab <| zad (l := [0, 1]) rfl <| p_v (v := .int .i64 (zdx all2 (zeb m (at_ all2 i) (at_ least k)))) rfl rfl rfl (zag rfl) <| p_v (v := .bool (decide ((zdx all2 (zeb m (at_ all2 i) (at_ least k))) < 0))) rfl rfl rfl (zdc rfl rfl) <| zaa ?_
   refine zap (p := (zdx all2 (zeb m (at_ all2 i) (at_ least k))) < 0) rfl (fun hc63 => ?_) (fun hc63 => ?_)
   ·skip
    refine zab <| zad (l := [0, 1, 2]) rfl <| p_v (v := v_all2) rfl rfl rfl (zag r34_6) ?_
    have lb64 := S62.row_le (j := 3) rfl; simp only [maxLen] at lb64
    refine p_v (v := .int .i64 (all2.length : Int)) rfl rfl rfl (ze3 u24 rfl (ze8 S62 (j := 3) rfl)) <| p_v (v := .int .i64 (all2.length : Int)) rfl rfl rfl (zah rfl) <| zaa <| zad (l := [0, 1, 2, 3, 4]) rfl <| p_v (v := v_all2) rfl rfl rfl (zag r34_6) <| p_v (v := v52_0) rfl rfl rfl (zag rfl) ?_
    obtain ⟨h66, le66, T66, rp66⟩ := S62.freeze (i := 7) rfl
    have lf66_0 := (lc52_0).trans le66
    have lf66_1 := (lc52_1).trans le66
    have lf66_2 := (lc52_2).trans le66
    have lf66_3 := (lk52).trans le66
    have S67 := T66.fx 7 (emp) rfl
    dsimp only [lAa, lAn, lA0, lAs] at S67
    obtain ⟨A66, c66, e66, lc66, cm66, ld66⟩ := rp66
    injection e66 with e66 _; subst e66
    have cn66 := cm66; simp only [maxLen] at cn66
    obtain ⟨v65, w65, r65, g65, T65⟩ := za4 (kd := (Kd.int .i64).slice) (xs := ([zeb m (at_ all2 i) (at_ least k)] : List (List Int))) (len := 1) [.slice A66 (zeb m (at_ all2 i) (at_ least k)).length c66] S67 u24 ty23 rfl rfl rfl rfl rfl (zbi rfl zbq) [.slice A66 (zeb m (at_ all2 i) (at_ least k)).length c66] (zcg.single (k := (Kd.int .i64).slice) (h := h66) (x := zeb m (at_ all2 i) (at_ least k)) (cs := [.slice A66 (zeb m (at_ all2 i) (at_ least k)).length c66]) ⟨_, _, rfl, (And.intro lc66 cm66).1, (And.intro lc66 cm66).2, ld66.mono (Le.refl _)⟩) rfl
    have S68 := T65
    dsimp only [lAa, lAn, lA0, lAs] at S68
    refine p_v (v := v65) rfl rfl rfl (zav (pv := [(0, .slice A66 (zeb m (at_ all2 i) (at_ least k)).length c66)]) rfl r65) ?_
    obtain ⟨A70, c70, ev70, lc70, cm70⟩ := S68.row_val (j := 8) rfl
    obtain ⟨v71, w71, r71, g71, T71⟩ := zcd (kd := (Kd.int .i64).slice) (A := A70) (c := c70) (ys := ([zeb m (at_ all2 i) (at_ least k)] : List (List Int))) (len := ([zeb m (at_ all2 i) (at_ least k)] : List (List Int)).length) 24 S68 u24 ty23 rfl rfl (j := 3) rfl rfl (zcl S68 (j := 8) rfl ev70) (by first|omega|(simp;omega)|assumption|simp) (by first|omega|(simp;omega)|assumption|simp)
    have S72 := T71.fx 3 (row 23 (Kd.int .i64).slice v71 (all2 ++ ([zeb m (at_ all2 i) (at_ least k)] : List (List Int)))) rfl
    dsimp only [lAa, lAn, lA0, lAs] at S72
    refine p_v (v := v71) rfl rfl rfl (zcc rfl ev70 r71) <| p_v (v := v71) rfl rfl rfl (zah rfl) <| zaa <| zad (l := [0, 1, 2, 3, 4]) rfl <| p_v (v := v_l) rfl rfl rfl (zag r34_8) <| p_v (v := .int .i64 (all2.length : Int)) rfl rfl rfl (zag rfl) ?_
    obtain ⟨v73, w73, r73, g73, T73⟩ := za4 (kd := (Kd.int .i64)) (xs := ([(all2.length : Int)] : List Int)) (len := 1) [.int .i64 (all2.length : Int)] S72 u23 ty3 rfl rfl rfl rfl rfl (zbi rfl zbq) [.int .i64 (all2.length : Int)] (zcg.single (k := (Kd.int .i64)) (h := h66) (x := (all2.length : Int)) (cs := [.int .i64 (all2.length : Int)]) ⟨rfl, (zao (by omega) (by omega))⟩) rfl
    have S74 := T73
    dsimp only [lAa, lAn, lA0, lAs] at S74
    refine p_v (v := v73) rfl rfl rfl (zav (pv := [(0, .int .i64 (all2.length : Int))]) rfl r73) ?_
    obtain ⟨A76, c76, ev76, lc76, cm76⟩ := S74.row_val (j := 9) rfl
    obtain ⟨v77, w77, r77, g77, T77⟩ := zcd (kd := (Kd.int .i64)) (A := A76) (c := c76) (ys := ([(all2.length : Int)] : List Int)) (len := ([(all2.length : Int)] : List Int).length) 23 S74 u23 ty3 rfl rfl (j := 6) rfl rfl (zcl S74 (j := 9) rfl ev76) (by first|omega|(simp;omega)|assumption|simp) (by first|omega|(simp;omega)|assumption|simp)
    have S78 := T77.fx 6 (row 3 (Kd.int .i64) v77 (l ++ ([(all2.length : Int)] : List Int))) rfl
    dsimp only [lAa, lAn, lA0, lAs] at S78
    refine p_v (v := v77) rfl rfl rfl (zcc rfl ev76 r77) <| p_v (v := v77) rfl rfl rfl (zah rfl) <| zaa <| zat <| zad (l := [0, 1, 2]) rfl <| p_v (v := .int .i64 k) rfl rfl rfl (zag r34_9) <| p_v (v := .int .i64 (k + 1)) rfl rfl rfl (zct rfl rfl (zao (by omega) (by omega))) <| p_v (v := .int .i64 (k + 1)) rfl rfl rfl (zah rfl) <| zaa ?_
    refine ih34 (all2 ++ ([zeb m (at_ all2 i) (at_ least k)] : List (List Int)), l ++ ([(all2.length : Int)] : List Int), k + 1) _ _ (by dsimp only; omega) ⟨h66, v71, v77, lf66_2, S78.sub [0, 1, 2, 3, 4, 5, 6] (by decide) rfl _ rfl, r34_1, r34_2, r34_4, r34_5, rfl, r34_7, rfl, rfl, (zao (by omega) (by omega)), (by first | exact ⟨by omega, by omega, by rw [hI34.2.2.2.1]; exact rr_new hI34.2.2.1 (by rw [hI34.2.2.2.1] at *; assumption), (at_app1 _ _ hI29.lo (by omega)).trans hI34.2.2.2.1, by rw [List.length_append]; omega⟩ | exact ⟨by omega, by omega, by rw [hI34.2.2.2.1]; exact rr_old hI34.2.2.1 (by rw [hI34.2.2.2.1] at *; assumption), hI34.2.2.2.1, hI34.2.2.2.2⟩)⟩
   refine zau <| zad (l := [0, 1, 2, 3, 4]) rfl <| p_v (v := v_l) rfl rfl rfl (zag r34_8) <| p_v (v := .int .i64 (zdx all2 (zeb m (at_ all2 i) (at_ least k)))) rfl rfl rfl (zag rfl) ?_
   obtain ⟨v79, w79, r79, g79, T79⟩ := za4 (kd := (Kd.int .i64)) (xs := ([zdx all2 (zeb m (at_ all2 i) (at_ least k))] : List Int)) (len := 1) [.int .i64 (zdx all2 (zeb m (at_ all2 i) (at_ least k)))] S62 u23 ty3 rfl rfl rfl rfl rfl (zbi rfl zbq) [.int .i64 (zdx all2 (zeb m (at_ all2 i) (at_ least k)))] (zcg.single (k := (Kd.int .i64)) (h := k52) (x := zdx all2 (zeb m (at_ all2 i) (at_ least k))) (cs := [.int .i64 (zdx all2 (zeb m (at_ all2 i) (at_ least k)))]) ⟨rfl, in61_0⟩) rfl
   have S80 := T79
   dsimp only [lAa, lAn, lA0, lAs] at S80
   refine p_v (v := v79) rfl rfl rfl (zav (pv := [(0, .int .i64 (zdx all2 (zeb m (at_ all2 i) (at_ least k))))]) rfl r79) ?_
   obtain ⟨A82, c82, ev82, lc82, cm82⟩ := S80.row_val (j := 8) rfl
   obtain ⟨v83, w83, r83, g83, T83⟩ := zcd (kd := (Kd.int .i64)) (A := A82) (c := c82) (ys := ([zdx all2 (zeb m (at_ all2 i) (at_ least k))] : List Int)) (len := ([zdx all2 (zeb m (at_ all2 i) (at_ least k))] : List Int).length) 23 S80 u23 ty3 rfl rfl (j := 6) rfl rfl (zcl S80 (j := 8) rfl ev82) (by first|omega|(simp;omega)|assumption|simp) (by first|omega|(simp;omega)|assumption|simp)
   have S84 := T83.fx 6 (row 3 (Kd.int .i64) v83 (l ++ ([zdx all2 (zeb m (at_ all2 i) (at_ least k))] : List Int))) rfl
   dsimp only [lAa, lAn, lA0, lAs] at S84
   refine p_v (v := v83) rfl rfl rfl (zcc rfl ev82 r83) <| p_v (v := v83) rfl rfl rfl (zah rfl) <| zaa <| zat <| zad (l := [0, 1, 2]) rfl <| p_v (v := .int .i64 k) rfl rfl rfl (zag r34_9) <| p_v (v := .int .i64 (k + 1)) rfl rfl rfl (zct rfl rfl (zao (by omega) (by omega))) <| p_v (v := .int .i64 (k + 1)) rfl rfl rfl (zah rfl) <| zaa ?_
   refine ih34 (all2, l ++ ([zdx all2 (zeb m (at_ all2 i) (at_ least k))] : List Int), k + 1) _ _ (by dsimp only; omega) ⟨k52, v_all2, v83, lc52_2, S84.sub [0, 1, 2, 3, 4, 5, 6] (by decide) rfl _ rfl, r34_1, r34_2, r34_4, r34_5, r34_6, r34_7, rfl, rfl, (zao (by omega) (by omega)), (by first | exact ⟨by omega, by omega, by rw [hI34.2.2.2.1]; exact rr_new hI34.2.2.1 (by rw [hI34.2.2.2.1] at *; assumption), (at_app1 _ _ hI29.lo (by omega)).trans hI34.2.2.2.1, by rw [List.length_append]; omega⟩ | exact ⟨by omega, by omega, by rw [hI34.2.2.2.1]; exact rr_old hI34.2.2.1 (by rw [hI34.2.2.2.1] at *; assumption), hI34.2.2.2.1, hI34.2.2.2.2⟩)⟩
  refine zbn rfl <| zab <| zad (l := [0, 1, 2, 3, 4, 5, 6]) rfl <| p_v (v := .pointer (some ⟨b15, 1, none⟩)) rfl rfl rfl (zan fd47_1 ty24 rfl r34_5) <| p_v (v := v_d_1) rfl rfl rfl (zal (seg := [v_d_1]) ty24 rfl (by simp) rfl (CF.box (m := 1) (S34.box_at (j := 2) rfl) rfl)) <| p_v (v := v_l) rfl rfl rfl (zag r34_8) ?_
  obtain ⟨h86, le86, T86, rp86⟩ := S34.freeze (i := 6) rfl
  have lf86_0 := (((((le22).trans le29)).trans le34)).trans le86
  have lf86_1 := (((le29).trans le34)).trans le86
  have lf86_2 := (le34).trans le86
  have S87 := T86.fx 6 (emp) rfl
  dsimp only [lAa, lAn, lA0, lAs] at S87
  obtain ⟨A86, c86, e86, lc86, cm86, ld86⟩ := rp86
  injection e86 with e86 _; subst e86
  have cn86 := cm86; simp only [maxLen] at cn86
  obtain ⟨v85, w85, r85, g85, T85⟩ := za4 (kd := (Kd.int .i64).slice) (xs := ([l] : List (List Int))) (len := 1) [.slice A86 l.length c86] S87 u24 ty23 rfl rfl rfl rfl rfl (zbi rfl zbq) [.slice A86 l.length c86] (zcg.single (k := (Kd.int .i64).slice) (h := h86) (x := l) (cs := [.slice A86 l.length c86]) ⟨_, _, rfl, (And.intro lc86 cm86).1, (And.intro lc86 cm86).2, ld86.mono (Le.refl _)⟩) rfl
  have S88 := T85
  dsimp only [lAa, lAn, lA0, lAs] at S88
  refine p_v (v := v85) rfl rfl rfl (zav (pv := [(0, .slice A86 l.length c86)]) rfl r85) ?_
  obtain ⟨A90, c90, ev90, lc90, cm90⟩ := S88.row_val (j := 7) rfl
  obtain ⟨v91, w91, r91, g91, T91⟩ := zcd (kd := (Kd.int .i64).slice) (A := A90) (c := c90) (ys := ([l] : List (List Int))) (len := ([l] : List (List Int)).length) 24 S88 u24 ty23 rfl rfl (j := 4) rfl rfl (zcl S88 (j := 7) rfl ev90) (by first|omega|(simp;omega)|assumption|simp) (by first|omega|(simp;omega)|assumption|simp)
  have S92 := T91.fx 4 (row 23 (Kd.int .i64).slice v91 (d_1 ++ ([l] : List (List Int)))) rfl
  dsimp only [lAa, lAn, lA0, lAs] at S92
  refine p_v (v := v91) rfl rfl rfl (zcc rfl ev90 r91) <| p_v (v := .pointer (some ⟨b15, 1, none⟩)) rfl rfl rfl (zan fd47_1 ty24 rfl r34_5) ?_
  have oc94 := zcu S92 (j := 4) rfl
  obtain ⟨w93, r93, g93, T93⟩ := zcb (P := Tryd.prog) (off := 1) (v := v91) (vs := [v91]) S92 ty24 (zcy S92 (j := 4) rfl) rfl (j := 2) rfl (by first | decide | exact Nat.le_of_ble_eq_true rfl) (zb0 oc94 zde)
  have S95 := T93.fx 2 (box b15 47 [.slice A1 least.length c1, v91, v_d_2]) rfl
  dsimp only [lAa, lAn, lA0, lAs] at S95
  refine p_s rfl rfl (zbh rfl rfl r93) <| zaa ?_
  obtain ⟨ad96, a96, at96⟩ := zeq (q := i) (m := 1) S95 (j := 3) rfl rfl (by omega) (by omega)
  obtain ⟨seg97, rp97, cf97⟩ := e_load_own (q := i) S95 (j := 3) rfl rfl at96 (by omega) (by omega)
  obtain ⟨A97, c97, rfl, lc97, cm97, ld97⟩ := rp97
  have cn97 := cm97; simp only [maxLen] at cn97
  have hf99 : (CFs ⟨b15, 2, none⟩ [v_d_2]).1 w93 := (CF.box (m := 1) (S95.box_at (j := 2) rfl) rfl)
  have hf100 : (CFs ⟨b11, 0, none⟩ [.slice A0_0 m.spots.length c0_0, .slice A0_1 m.first.length c0_1, .slice A0_2 m.follow.length c0_2, .slice A0_3 m.last.length c0_3, .bool m.empty]).1 w93 := (CF.box (m := 5) (S95.box_at (j := 0) rfl) rfl)
  have hf101 : (CFs ad96 [.slice A97 (at_ all2 i).length c97]).1 w93 := cf97
  have hf102 : (zbx zel A0_0 m.spots).1 w93 := (l0_0.mono (St.le0 S95))
  have hf103 : (zbx (Kd.int .i64) A0_1 m.first).1 w93 := (l0_1.mono (St.le0 S95))
  have hf104 : (zbx (Kd.int .i64).slice A0_2 m.follow).1 w93 := (l0_2.mono (St.le0 S95))
  have hf105 : (zbx Kd.bool A0_3 m.last).1 w93 := (l0_3.mono (St.le0 S95))
  have hf106 : (zbx (Kd.int .i64) A97 (at_ all2 i)).1 w93 := (ld97.mono ((Le.refl _).trans S95.ghost))
  refine daS (hkC 1 hf99 (hkC 2 hf100 (hkC 6 hf101 (hkC 7 hf102 (hkC 7 hf103 (hkC 7 hf104 (hkC 7 hf105 (hkC 7 hf106 (hkN (w := w93)))))))))) 12 rfl mixed ?_
  intro wd107 gd107 hd107
  have S108 := S95.keep gd107
  have hf109 := spUp gd107 hf99
  have hf110 := spUp gd107 hf100
  have hf111 := spUp gd107 hf101
  have hf112 := spUp gd107 hf102
  have hf113 := spUp gd107 hf103
  have hf114 := spUp gd107 hf104
  have hf115 := spUp gd107 hf105
  have hf116 := spUp gd107 hf106
  refine qd0 (i := 0) (v := .pointer (some ⟨b15, 2, none⟩)) rfl (by decide +kernel) rfl rfl (zan fd47_2 ty25 rfl r34_5) (zaj rfl) <| qd1 0 (i := 1) (v := v_d_2) rfl rfl (by decide +kernel) rfl rfl (fun wq hq => (zal (seg := [v_d_2]) ty25 rfl (by simp) rfl hq)) (za9 hf109 (zaj rfl)) <| qd1 1 (i := 2) (v := .agg #[.slice A0_0 m.spots.length c0_0, .slice A0_1 m.first.length c0_1, .slice A0_2 m.follow.length c0_2, .slice A0_3 m.last.length c0_3, .bool m.empty]) rfl rfl (by decide +kernel) rfl rfl (fun wq hq => (zal (seg := [.slice A0_0 m.spots.length c0_0, .slice A0_1 m.first.length c0_1, .slice A0_2 m.follow.length c0_2, .slice A0_3 m.last.length c0_3, .bool m.empty]) ty27 rfl (by simp) r34_2 hq)) (za1 rfl (za9 hf110 (zaj rfl))) <| qd0 (i := 3) (v := v_all2) rfl (by decide +kernel) rfl rfl (zag r34_6) (zaj rfl) <| qd0 (i := 4) (v := .int .i64 i) rfl (by decide +kernel) rfl rfl (zag r34_7) (zaj rfl) <| qd0 (i := 5) (v := .pointer (some ad96)) rfl (by decide +kernel) rfl rfl (zem u24 ty23 rfl rfl a96 (by omega) (by omega)) (zaj rfl) <| qd1 2 (i := 6) (v := .slice A97 (at_ all2 i).length c97) rfl rfl (by decide +kernel) rfl rfl (fun wq hq => (zal (seg := [.slice A97 (at_ all2 i).length c97]) ty23 rfl (by simp) rfl hq)) (za1 rfl (za1 rfl (za9 hf111 (zaj rfl)))) <| d_m (i := 7) (v := .bool (zed m (at_ all2 i))) (fun wf => zbe zel (hp wf) A0_0 m.spots ∧ zbe (Kd.int .i64) (hp wf) A0_1 m.first ∧ zbe (Kd.int .i64).slice (hp wf) A0_2 m.follow ∧ zbe Kd.bool (hp wf) A0_3 m.last ∧ zbe (Kd.int .i64) (hp wf) A97 (at_ all2 i)) (fun _ ho => ⟨ho _ (List.mem_of_getElem? (i := 3) rfl) rfl, ho _ (List.mem_of_getElem? (i := 4) rfl) rfl, ho _ (List.mem_of_getElem? (i := 5) rfl) rfl, ho _ (List.mem_of_getElem? (i := 6) rfl) rfl, ho _ (List.mem_of_getElem? (i := 7) rfl) rfl⟩) rfl (by decide +kernel) (by decide +kernel) (by decide +kernel) rfl rfl (fun wq => (za6 (args := [.agg #[.slice A0_0 m.spots.length c0_0, .slice A0_1 m.first.length c0_1, .slice A0_2 m.follow.length c0_2, .slice A0_3 m.last.length c0_3, .bool m.empty], .slice A97 (at_ all2 i).length c97]) ca95 rfl rfl)) (fun wq hq => (final11_calls wq m A0_0 c0_0 b0_0 hq.1 A0_1 c0_1 b0_1 hq.2.1 A0_2 c0_2 b0_2 hq.2.2.1 A0_3 c0_3 b0_3 hq.2.2.2.1 (at_ all2 i) A97 c97 (And.intro lc97 cm97) hq.2.2.2.2 (by first | assumption | exact ⟨by assumption, by assumption⟩)).mono fun e w2 he => by obtain ⟨_, rfl, _, T, rfl⟩ := he; exact ⟨rfl, Chg.of_below T.below⟩) (za1 rfl (za1 rfl (za1 rfl (za9 hf112 (za9 hf113 (za9 hf114 (za9 hf115 (za9 hf116 (zaj rfl))))))))) <| zby (i := 8) (by decide +kernel) ?_
  intro wd117 gd117
  have S118 := S108.keep gd117
  have hf119 := spUp gd117 hf109
  have hf120 := spUp gd117 hf110
  have hf121 := spUp gd117 hf111
  have hf122 := spUp gd117 hf112
  have hf123 := spUp gd117 hf113
  have hf124 := spUp gd117 hf114
  have hf125 := spUp gd117 hf115
  have hf126 := spUp gd117 hf116
  obtain ⟨v127, w127, r127, g127, T127⟩ := za4 (kd := Kd.bool) (xs := ([zed m (at_ all2 i)] : List Bool)) (len := 1) [.bool (zed m (at_ all2 i))] S118 u25 ty4 rfl rfl rfl rfl rfl (zbi rfl zbq) [.bool (zed m (at_ all2 i))] (zcg.single (k := Kd.bool) (h := h86) (x := zed m (at_ all2 i)) (cs := [.bool (zed m (at_ all2 i))]) ⟨rfl, trivial⟩) rfl
  have S128 := T127
  dsimp only [lAa, lAn, lA0, lAs] at S128
  have hf129 := spUp g127 hf119
  have hf130 := spUp g127 hf120
  have hf131 := spUp g127 hf121
  have hf132 := spUp g127 hf122
  have hf133 := spUp g127 hf123
  have hf134 := spUp g127 hf124
  have hf135 := spUp g127 hf125
  have hf136 := spUp g127 hf126
  refine d_v (v := v127) rfl rfl rfl (zav (pv := [(0, .bool (zed m (at_ all2 i)))]) rfl r127) (.inl g127) <| zby (i := 9) (by decide +kernel) ?_
  intro wd137 gd137
  have S138 := S128.keep gd137
  have hf139 := spUp gd137 hf129
  have hf140 := spUp gd137 hf130
  have hf141 := spUp gd137 hf131
  have hf142 := spUp gd137 hf132
  have hf143 := spUp gd137 hf133
  have hf144 := spUp gd137 hf134
  have hf145 := spUp gd137 hf135
  have hf146 := spUp gd137 hf136
  obtain ⟨A148, c148, ev148, lc148, cm148⟩ := S138.row_val (j := 8) rfl
  obtain ⟨v149, w149, r149, g149, T149⟩ := zcd (kd := Kd.bool) (A := A148) (c := c148) (ys := ([zed m (at_ all2 i)] : List Bool)) (len := ([zed m (at_ all2 i)] : List Bool).length) 25 S138 u25 ty4 rfl rfl (j := 5) rfl rfl (zcl S138 (j := 8) rfl ev148) (by first|omega|(simp;omega)|assumption|simp) (by first|omega|(simp;omega)|assumption|simp)
  have S150 := T149.fx 5 (row 4 Kd.bool v149 (d_2 ++ ([zed m (at_ all2 i)] : List Bool))) rfl
  dsimp only [lAa, lAn, lA0, lAs] at S150
  have hf151 : (CFs ⟨b15, 2, none⟩ [v_d_2]).1 w149 := (CF.box (m := 1) (S150.box_at (j := 2) rfl) rfl)
  have hf152 : (CFs ⟨b11, 0, none⟩ [.slice A0_0 m.spots.length c0_0, .slice A0_1 m.first.length c0_1, .slice A0_2 m.follow.length c0_2, .slice A0_3 m.last.length c0_3, .bool m.empty]).1 w149 := (CF.box (m := 5) (S150.box_at (j := 0) rfl) rfl)
  have hf153 : (CFs ad96 [.slice A97 (at_ all2 i).length c97]).1 w149 := (cf_row S138 (j := 3) (i := 5) rfl rfl (by decide) at96 g149 hf141)
  have hf154 : (zbx zel A0_0 m.spots).1 w149 := (l0_0.mono (St.le0 S150))
  have hf155 : (zbx (Kd.int .i64) A0_1 m.first).1 w149 := (l0_1.mono (St.le0 S150))
  have hf156 : (zbx (Kd.int .i64).slice A0_2 m.follow).1 w149 := (l0_2.mono (St.le0 S150))
  have hf157 : (zbx Kd.bool A0_3 m.last).1 w149 := (l0_3.mono (St.le0 S150))
  have hf158 : (zbx (Kd.int .i64) A97 (at_ all2 i)).1 w149 := (ld97.mono ((Le.refl _).trans S150.ghost))
  refine d_v (v := v149) rfl rfl rfl (zcc rfl ev148 r149) (.inr (zba (by decide +kernel) (zbv hf152 (zbv hf153 (zba (by decide +kernel) (zba (by decide +kernel) (zba (by decide +kernel) (zba (by decide +kernel) (zba (by decide +kernel) trivial))))))))) <| qd0 (i := 10) (v := .pointer (some ⟨b15, 2, none⟩)) rfl (by decide +kernel) rfl rfl (zan fd47_2 ty25 rfl r34_5) (zaj rfl) <| zby (i := 11) (by decide +kernel) ?_
  intro wd159 gd159
  have S160 := S150.keep gd159
  have hf161 := spUp gd159 hf151
  have hf162 := spUp gd159 hf152
  have hf163 := spUp gd159 hf153
  have hf164 := spUp gd159 hf154
  have hf165 := spUp gd159 hf155
  have hf166 := spUp gd159 hf156
  have hf167 := spUp gd159 hf157
  have hf168 := spUp gd159 hf158
  have oc170 := zcu S160 (j := 5) rfl
  obtain ⟨w169, r169, g169, T169⟩ := zcb (P := Tryd.prog) (off := 2) (v := v149) (vs := [v149]) S160 ty25 (zcy S160 (j := 5) rfl) rfl (j := 2) rfl (by first | decide | exact Nat.le_of_ble_eq_true rfl) (zb0 oc170 zde)
  have S171 := T169.fx 2 (box b15 47 [.slice A1 least.length c1, v91, v149]) rfl
  dsimp only [lAa, lAn, lA0, lAs] at S171
  have hf172 : (CFs ⟨b11, 0, none⟩ [.slice A0_0 m.spots.length c0_0, .slice A0_1 m.first.length c0_1, .slice A0_2 m.follow.length c0_2, .slice A0_3 m.last.length c0_3, .bool m.empty]).1 w169 := (CF.box (m := 5) (S171.box_at (j := 0) rfl) rfl)
  have hf173 : (CFs ad96 [.slice A97 (at_ all2 i).length c97]).1 w169 := (cf_boxd S160 (j := 3) (i := 2) rfl rfl (by decide) at96 g169 hf163)
  have hf174 : (zbx zel A0_0 m.spots).1 w169 := (l0_0.mono (St.le0 S171))
  have hf175 : (zbx (Kd.int .i64) A0_1 m.first).1 w169 := (l0_1.mono (St.le0 S171))
  have hf176 : (zbx (Kd.int .i64).slice A0_2 m.follow).1 w169 := (l0_2.mono (St.le0 S171))
  have hf177 : (zbx Kd.bool A0_3 m.last).1 w169 := (l0_3.mono (St.le0 S171))
  have hf178 : (zbx (Kd.int .i64) A97 (at_ all2 i)).1 w169 := (ld97.mono ((Le.refl _).trans S171.ghost))
  refine d_s rfl rfl (zbh rfl rfl r169) (.inr (zba (by decide +kernel) (zba (by decide +kernel) (zba (by decide +kernel) (zba (by decide +kernel) (zba (by decide +kernel) (zba (by decide +kernel) (zba (by decide +kernel) (zba (by decide +kernel) trivial))))))))) <| zb3 (by decide +kernel) ?_
  intro wd179 gd179
  have S180 := S171.keep gd179
  refine zat <| zad (l := [0, 1, 2]) rfl <| p_v (v := .int .i64 i) rfl rfl rfl (zag r34_7) <| p_v (v := .int .i64 (i + 1)) rfl rfl rfl (zct rfl rfl (zao (by omega) (by omega))) <| p_v (v := .int .i64 (i + 1)) rfl rfl rfl (zah rfl) <| zaa ?_
  refine ih29 (all2, d_1 ++ ([l] : List (List Int)), d_2 ++ ([zed m (at_ all2 i)] : List Bool), i + 1) _ _ (by dsimp only; omega) ⟨h86, v_all2, v91, v149, lf86_1, S180.sub [0, 1, 2, 3, 4, 5] (by decide) rfl _ rfl, r34_1, r34_2, r34_4, r34_5, r34_6, rfl, (zao (by omega) (by omega)), (by rw [hI34.2.2.2.1]; exact made_next hI29 (by omega) (zdm hI29.lo (by omega)) (by have hz_ := hI34.2.2.1; rw [show k = (least.length : Int) by omega] at hz_; exact hz_))⟩
 refine zbn rfl <| zab <| zad (l := [0, 1]) rfl <| p_v (v := .agg #[.slice A1 least.length c1, v_d_1, v_d_2]) rfl rfl rfl (zal (seg := [.slice A1 least.length c1, v_d_1, v_d_2]) ty47 rfl (by simp) r29_5 (CF.box (m := 3) (S29.box_at (j := 2) rfl) rfl)) ?_
 have oc182 := zcu S29 (j := 4) rfl
 have oc183 := zcu S29 (j := 5) rfl
 obtain ⟨w181, r181, g181, T181⟩ := zcb (P := Tryd.prog) (off := 0) (v := .agg #[.slice A1 least.length c1, v_d_1, v_d_2]) (vs := [.slice A1 least.length c1, v_d_1, v_d_2]) S29 ty47 rfl rfl (j := 1) rfl (by first | decide | exact Nat.le_of_ble_eq_true rfl) (zb0 rfl (zb0 oc182 (zb0 oc183 zde)))
 have S184 := T181.fx 1 (box b13 47 [.slice A1 least.length c1, v_d_1, v_d_2]) rfl
 dsimp only [lAa, lAn, lA0, lAs] at S184
 refine p_s rfl rfl (zbh r29_4 rfl r181) <| zaa <| zar Tryd.func29 (res1 rfl (zcv S184 ty47 r29_4 (j := 1) rfl rfl (by simp) rfl)) ?_
 have q0 : ((refB m least).next : List (List Int)) = d_1 := by
  exact (refB_end hI29 (by omega)).1
 have q1 : ((refB m least).final : List Bool) = d_2 := by
  exact (refB_end hI29 (by omega)).2
 refine ⟨_, rfl, h29, v_d_1, v_d_2, ?_, ?_⟩
 · rw [q0]; rw [q1]; exact S184.sub [4, 5] (by decide) rfl _ rfl
 · rfl
theorem how11_calls (w : World) (xa : Bool) (xb : Bool) (n : Int) (i2 : inK .u8 n) :
    Calls Tryd.prog 97 #[.bool xa, .bool xb, .int .u8 n] w fun e w' => ∃ v, e = .returned v ∧ ∃ (hn : Ghost), St w.heap.size w hn w' [] ∧ v = .bool (howB xa xb n) := by
 refine zaq Tryd.func97 rfl Tryd.ntmps97 rfl ?_
 have S0 := St.init w
 have lo2 := zeu i2; have hi2 := zfa i2
 refine zab <| zad (l := [0]) rfl <| p_v (v := .bool false) rfl rfl rfl (zah rfl) <| zaa <| zab <| zab <| zad (l := [0, 1]) rfl <| p_v (v := .int .u8 n) rfl rfl rfl (zag rfl) <| p_v (v := .bool (decide (n = 1))) rfl rfl rfl (ze4 rfl rfl) <| zaa ?_
 refine zap (p := n = 1) rfl (fun hc1 => ?_) (fun hc1 => ?_)
 ·skip
  refine zab <| zad (l := [0, 1, 2, 3, 4]) rfl <| p_v (v := .bool xa) rfl rfl rfl (zag rfl) <| p_v (v := .bool xa) rfl rfl rfl (zag rfl) ?_
  rcases Bool.eq_false_or_eq_true xa with hc2 | hc2
  ·skip
   refine p_v (v := .bool xb) rfl (wo 1 10 rfl rfl (congrArg Value.bool hc2) rfl) rfl (zag rfl) <| p_v (v := .bool xb) rfl rfl rfl (za5 (congrArg Value.bool hc2) rfl) <| p_v (v := .bool xb) rfl rfl rfl (zah rfl) <| zaa <| zar Tryd.func97 (res1 rfl (zax (v := .bool xb) rfl)) ?_
   have q0 : (howB xa xb n : Bool) = xb := by
    unfold howB; simp [*]
   refine ⟨_, rfl, (fun _ => none), ?_, ?_⟩
   · exact S0.sub [] (by decide) rfl _ rfl
   · first | rfl | (simp only [q0]; rfl) | (simp only [q0])
  refine za2 rfl (wo 1 10 rfl rfl (congrArg Value.bool hc2) rfl) rfl <| p_v (v := .bool false) rfl rfl rfl (zbk (congrArg Value.bool hc2) rfl) <| p_v (v := .bool false) rfl rfl rfl (zah rfl) <| zaa <| zar Tryd.func97 (res1 rfl (zax (v := .bool false) rfl)) ?_
  have q0 : (howB xa xb n : Bool) = false := by
   unfold howB; simp [*]
  refine ⟨_, rfl, (fun _ => none), ?_, ?_⟩
  · exact S0.sub [] (by decide) rfl _ rfl
  · first | rfl | (simp only [q0]; rfl) | (simp only [q0])
 refine zau <| zab <| zab <| zad (l := [0, 1]) rfl <| p_v (v := .int .u8 n) rfl rfl rfl (zag rfl) <| p_v (v := .bool (decide (n = 2))) rfl rfl rfl (ze4 rfl rfl) <| zaa ?_
 refine zap (p := n = 2) rfl (fun hc4 => ?_) (fun hc4 => ?_)
 ·skip
  refine zab <| zad (l := [0, 1, 2, 3, 4]) rfl <| p_v (v := .bool xa) rfl rfl rfl (zag rfl) <| p_v (v := .bool xa) rfl rfl rfl (zag rfl) ?_
  rcases Bool.eq_false_or_eq_true xa with hc5 | hc5
  ·skip
   refine za2 rfl (wo 1 16 rfl rfl (congrArg Value.bool hc5) rfl) rfl <| p_v (v := .bool true) rfl rfl rfl (za5 (congrArg Value.bool hc5) rfl) <| p_v (v := .bool true) rfl rfl rfl (zah rfl) <| zaa <| zar Tryd.func97 (res1 rfl (zax (v := .bool true) rfl)) ?_
   have q0 : (howB xa xb n : Bool) = true := by
    unfold howB; simp [*]
   refine ⟨_, rfl, (fun _ => none), ?_, ?_⟩
   · exact S0.sub [] (by decide) rfl _ rfl
   · first | rfl | (simp only [q0]; rfl) | (simp only [q0])
  refine p_v (v := .bool xb) rfl (wo 1 16 rfl rfl (congrArg Value.bool hc5) rfl) rfl (zag rfl) <| p_v (v := .bool xb) rfl rfl rfl (zbk (congrArg Value.bool hc5) rfl) <| p_v (v := .bool xb) rfl rfl rfl (zah rfl) <| zaa <| zar Tryd.func97 (res1 rfl (zax (v := .bool xb) rfl)) ?_
  have q0 : (howB xa xb n : Bool) = xb := by
   unfold howB; simp [*]
  refine ⟨_, rfl, (fun _ => none), ?_, ?_⟩
  · exact S0.sub [] (by decide) rfl _ rfl
  · first | rfl | (simp only [q0]; rfl) | (simp only [q0])
 refine zau <| zab <| zad (l := [0, 1, 2, 3]) rfl <| p_v (v := .bool xa) rfl rfl rfl (zag rfl) <| p_v (v := .bool xb) rfl rfl rfl (zag rfl) <| p_v (v := .bool (decide (xa ≠ xb))) rfl rfl rfl (zfc u4 rfl rfl) <| p_v (v := .bool (decide (xa ≠ xb))) rfl rfl rfl (zah rfl) <| zaa <| zar Tryd.func97 (res1 rfl (zax (v := .bool (decide (xa ≠ xb))) rfl)) ?_
 have q0 : (howB xa xb n : Bool) = decide (xa ≠ xb) := by
  unfold howB; simp [*]
 refine ⟨_, rfl, (fun _ => none), ?_, ?_⟩
 · exact S0.sub [] (by decide) rfl _ rfl
 · (simp only [q0])
end Go.Proofs.YtfoemogojbnfhaaDoor
namespace Gx
open Go Go.RowKit
set_option linter.unusedSimpArgs false
set_option linter.unusedSectionVars false
set_option linter.unusedVariables false
def zez (a b : RefD) (s : List Int) (k : Int) : List Int := [at_ (at_ a.next (at_ s 0)) k, at_ (at_ b.next (at_ s 1)) k]
def finalR2 (a b : RefD) (n : Int) (s : List Int) : Bool := howB (at_ a.final (at_ s 0)) (at_ b.final (at_ s 1)) n
noncomputable def refO (a b : RefD) (n : Int) : RefD := ⟨a.least, nextTo (zez a b) a.least.length (allM (zez a b) a.least.length [0, 0]) (allM (zez a b) a.least.length [0, 0]).length, (allM (zez a b) a.least.length [0, 0]).map (finalR2 a b n)⟩
def listP (s : Int × Int) : List Int := [s.1, s.2]
theorem listP_inj (s t : Int × Int) (h : listP s = listP t) : s = t := by
  unfold listP at h
  simp only [List.cons.injEq, and_true] at h
  exact Prod.ext h.1 h.2
structure Both2 (a b : RefD) (A B : Dfa) : Prop where
  ga : Given a A
  gb : Given b B
  part : A.part = B.part
  la : (A.next.length : Int) ≤ 1048577
  lb : (B.next.length : Int) ≤ 1048577
section
variable {a b : RefD} {A B : Dfa}
theorem Both2.ra (h : Both2 a b A B) : RightD A := rightD_of h.ga.2.1 h.ga.1
theorem Both2.rb (h : Both2 a b A B) : RightD B := rightD_of h.gb.2.1 h.gb.1
theorem Both2.n (h : Both2 a b A B) : (a.least.length : Int) = A.part.n := by rw [h.ga.2.2.1]; exact leastB_len h.ra.part
theorem Both2.next (h : Both2 a b A B) (s : Int × Int) (k : Int) : zez a b (listP s) k = listP (zce A B s k) := by
  unfold zez listP zce
  rw [h.ga.2.2.2.1, h.gb.2.2.2.1]; rfl
theorem Both2.fin (h : Both2 a b A B) (n : Int) (s : Int × Int) : finalR2 a b n (listP s) = zdq A B n s := by
  unfold finalR2 listP zdq
  rw [h.ga.2.2.2.2, h.gb.2.2.2.2]; rfl
theorem Both2.first (h : Both2 a b A B) : InP A B (0, 0) := ⟨⟨Int.le_refl _, h.ra.some_⟩, Int.le_refl _, h.rb.some_⟩
theorem Both2.step (h : Both2 a b A B) (s : Int × Int) (k : Int) (hs : InP A B s) (h0 : 0 ≤ k) (h1 : k < (a.least.length : Int)) : InP A B (zce A B s k) := nextP_in h.ra h.rb (by rw [h.part]) hs h0 (by rw [← h.n]; exact h1)
theorem bfsO_map (h : Both2 a b A B) (i : Nat) : bfs (zez a b) a.least.length [0, 0] i = (bfs (zce A B) a.least.length ((0, 0) : Int × Int) i).map listP := by
  have := bfs_map (P := InP A B) (φ := listP) (next := zce A B) (next' := zez a b) (n := a.least.length) (first := ((0, 0) : Int × Int)) h.first (fun s k => h.step s k) (fun s t _ _ => listP_inj s t) (fun s k _ _ _ => h.next s k) i
  exact this
theorem refO_eq (h : Both2 a b A B) {n : Int} (h1 : 1 ≤ n) (h3 : n ≤ 3) : (refO a b n).next = (zbt A B n).next ∧ (refO a b n).final = (zbt A B n).final := by
  have hb := bfs_bound (P := InP A B) (f := codeP B) (N := A.next.length * B.next.length) (next := zce A B) (n := a.least.length) (first := ((0, 0) : Int × Int)) h.first (fun s k => h.step s k) (fun s t => codeP_inj) (fun s h => codeP_lt h) (A.next.length * B.next.length)
  have e := allM_map (P := InP A B) (φ := listP) (next := zce A B) (next' := zez a b) (n := a.least.length) (first := ((0, 0) : Int × Int)) h.first (fun s k => h.step s k) (fun s t _ _ => listP_inj s t) (fun s k _ _ _ => h.next s k) hb
  have hin : ∀ s ∈ allM (zce A B) a.least.length ((0, 0) : Int × Int), InP A B s := by
    rw [allM_eq hb]; exact bfs_all h.first (fun s k => h.step s k) _
  have hy := both_y (okb_y h.ga.1 h.gb.1 h.part h1 h3)
  have hn := h.n
  have e' : allM (zez a b) a.least.length [0, 0] = (allM (zce A B) a.least.length ((0, 0) : Int × Int)).map listP := e
  rw [hy.2.1, hy.2.2.1]
  unfold refO
  refine ⟨?_, ?_⟩
  · show nextTo (zez a b) a.least.length (allM (zez a b) a.least.length [0, 0]) (allM (zez a b) a.least.length [0, 0]).length = _
    rw [e', List.length_map, next_map (P := InP A B) (next := zce A B) (fun s k => h.step s k) (fun s t _ _ => listP_inj s t) (fun s k _ _ _ => h.next s k) hin, hn]
  · show (allM (zez a b) a.least.length [0, 0]).map (finalR2 a b n) = _
    rw [e', fin_map (P := InP A B) (fin := zdq A B n) (fun s _ => h.fin n s) hin, hn]
variable {fin : List Int → Bool} {all all2 : List (List Int)} {mp mp2 : List (List Int × Int)} {nx : List (List Int)} {fl : List Bool} {l : List Int} {i k : Int} {s : List Int}
def InR (A B : Dfa) (s : List Int) : Prop := (s.length : Int) = 2 ∧ (0 ≤ at_ s 0 ∧ at_ s 0 < (A.next.length : Int)) ∧ 0 ≤ at_ s 1 ∧ at_ s 1 < (B.next.length : Int)
theorem refO_in (h : Both2 a b A B) (W : MadeI (zez a b) a.least.length [0, 0] fin all mp nx fl i) (hs : s ∈ all) : InR A B s := by
  rw [W.all_, bfsO_map h] at hs
  obtain ⟨t, ht, rfl⟩ := List.mem_map.1 hs
  have := bfs_all (P := InP A B) h.first (fun s k => h.step s k) _ t ht
  exact ⟨rfl, this.1, this.2⟩
theorem refO_bound (h : Both2 a b A B) (W : MadeI (zez a b) a.least.length [0, 0] fin all mp nx fl i) : (all.length : Int) ≤ 1099513724929 := by
  have := bfs_bound (P := InP A B) (f := codeP B) (N := A.next.length * B.next.length) (next := zce A B) (n := a.least.length) (first := ((0, 0) : Int × Int)) h.first (fun s k => h.step s k) (fun s t => codeP_inj) (fun s h => codeP_lt h) i.toNat
  have h3 := mul_bound h.la h.lb
  rw [W.all_, bfsO_map h, List.length_map]; omega
theorem refO_bound2 (h : Both2 a b A B) (W : MadeI (zez a b) a.least.length [0, 0] fin all mp nx fl i) (hs : s ∈ all) (K : MadeK (zez a b) s all all2 mp2 l k) (hk : k ≤ (a.least.length : Int)) : (all2.length : Int) ≤ 1099513724929 := by
  have hall : all = (bfs (zce A B) a.least.length ((0, 0) : Int × Int) i.toNat).map listP := by rw [W.all_, bfsO_map h]
  rw [hall] at hs
  obtain ⟨t, ht, rfl⟩ := List.mem_map.1 hs
  have hp := bfs_all (P := InP A B) (next := zce A B) (n := a.least.length) (first := ((0, 0) : Int × Int)) h.first (fun s k => h.step s k) i.toNat
  have hpt := hp t ht
  have hrow : rowK (zez a b) (listP t) k = (rowK (zce A B) t k).map listP := by
    unfold rowK
    rw [List.map_map]
    exact List.map_congr_left fun q _ => h.next t _
  have hq0 : ∀ x ∈ rowK (zce A B) t k, InP A B x := fun x hx => by
    unfold rowK at hx
    obtain ⟨q, hq, rfl⟩ := List.mem_map.1 hx
    rw [List.mem_range] at hq
    exact h.step t _ hpt (by omega) (by omega)
  have h2 : all2 = ((rowK (zce A B) t k).foldl addL (bfs (zce A B) a.least.length ((0, 0) : Int × Int) i.toNat)).map listP := by
    rw [K.all_, hrow, hall]
    exact fold_map (P := InP A B) (fun s t _ _ => listP_inj s t) _ _ hp hq0
  have hq : ∀ x ∈ (rowK (zce A B) t k).foldl addL (bfs (zce A B) a.least.length ((0, 0) : Int × Int) i.toNat), InP A B x := fun x hx => by
    rcases fold_from _ _ x hx with hx | hx
    · exact hp x hx
    · exact hq0 x hx
  have hnd := fold_nodup (rowK (zce A B) t k) (bfs_nodup (zce A B) a.least.length ((0, 0) : Int × Int) i.toNat)
  have := nodup_lt (A.next.length * B.next.length) _ (map_nodup (P := InP A B) (f := codeP B) (fun s t => codeP_inj) hnd hq) fun x hx => by
    obtain ⟨y, hy, rfl⟩ := List.mem_map.1 hx
    exact codeP_lt (hq y hy)
  have h3 := mul_bound h.la h.lb
  rw [List.length_map] at this
  rw [h2, List.length_map]; omega
theorem refO_end {n : Int} (W : MadeI (zez a b) a.least.length [0, 0] (finalR2 a b n) all (zcn all) nx fl i) (h : (all.length : Int) ≤ i) : (refO a b n).next = nx ∧ (refO a b n).final = fl := by
  have := zc4 W h
  exact ⟨this.2.1.symm, this.2.2.symm⟩
end
def zeo (a b : RefD) : Bool := decide (a.next = b.next) && decide (a.final = b.final)
theorem sameR_1 {a b : RefD} (h : (a.next.length : Int) ≠ b.next.length) : zeo a b = false := by
  unfold zeo
  rw [decide_eq_false (fun e => h (by rw [e]))]; rfl
theorem sameR_2 {a b : RefD} (h : (a.final.length : Int) ≠ b.final.length) : zeo a b = false := by
  unfold zeo
  rw [decide_eq_false (p := a.final = b.final) (fun e => h (by rw [e]))]; simp
theorem sameR_3 {a b : RefD} {i : Int} (h : at_ a.next i ≠ at_ b.next i) : zeo a b = false := by
  unfold zeo
  rw [decide_eq_false (fun e => h (by rw [e]))]; rfl
theorem sameR_4 {a b : RefD} {i : Int} (h : at_ a.final i ≠ at_ b.final i) : zeo a b = false := by
  unfold zeo
  rw [decide_eq_false (p := a.final = b.final) (fun e => h (by rw [e]))]; simp
theorem sameR_5 {a b : RefD} (h1 : decide (a.next = b.next) = true) (h2 : decide (a.final = b.final) = true) : zeo a b = true := by unfold zeo; rw [h1, h2]; rfl
theorem sameR_yes {a b : RefD} (h1 : a.next = b.next) (h2 : a.final = b.final) : zeo a b = true := by unfold zeo; rw [decide_eq_true h1, decide_eq_true h2]; rfl
end Gx
namespace Go.Proofs.YtfoemogojbnfhaaDoor
open Go Go.RowKit Gx
set_option maxHeartbeats 1000000
set_option linter.unusedVariables false
set_option linter.unusedSimpArgs false
set_option maxRecDepth 8000
attribute [local irreducible] zcf count first has zb6 wbits Lib.ctz zds zbs rowOk tab markP intoP behindP runTo endsIn runM zep mayP zdt stepP mayTo anyTo allTo badQ zee zcm goD runD notD errD notTo zce zdq howB zek zbt errO zca nextC outTo readTo rowIn zdr lastB zam zd7 zaf errB zfb madeM allM bfs zcn putB beginB okB zdx zeo
theorem refO11_calls (w : World) (a : RefD) (A0_0 : Option Addr) (c0_0 : Nat) (b0_0 : a.least.length ≤ c0_0 ∧ c0_0 ≤ maxLen) (l0_0 : zbe (Kd.int .u8) (hp w) A0_0 a.least) (A0_1 : Option Addr) (c0_1 : Nat) (b0_1 : a.next.length ≤ c0_1 ∧ c0_1 ≤ maxLen) (l0_1 : zbe (Kd.int .i64).slice (hp w) A0_1 a.next) (A0_2 : Option Addr) (c0_2 : Nat) (b0_2 : a.final.length ≤ c0_2 ∧ c0_2 ≤ maxLen) (l0_2 : zbe Kd.bool (hp w) A0_2 a.final) (b : RefD) (A1_0 : Option Addr) (c1_0 : Nat) (b1_0 : b.least.length ≤ c1_0 ∧ c1_0 ≤ maxLen) (l1_0 : zbe (Kd.int .u8) (hp w) A1_0 b.least) (A1_1 : Option Addr) (c1_1 : Nat) (b1_1 : b.next.length ≤ c1_1 ∧ c1_1 ≤ maxLen) (l1_1 : zbe (Kd.int .i64).slice (hp w) A1_1 b.next) (A1_2 : Option Addr) (c1_2 : Nat) (b1_2 : b.final.length ≤ c1_2 ∧ c1_2 ≤ maxLen) (l1_2 : zbe Kd.bool (hp w) A1_2 b.final) (n : Int) (i2 : inK .u8 n) (A : Dfa) (B : Dfa) (pre0 : Both2 a b A B) :
    Calls Tryd.prog 32 #[.agg #[.slice A0_0 a.least.length c0_0, .slice A0_1 a.next.length c0_1, .slice A0_2 a.final.length c0_2], .agg #[.slice A1_0 b.least.length c1_0, .slice A1_1 b.next.length c1_1, .slice A1_2 b.final.length c1_2], .int .u8 n] w fun e w' => ∃ v, e = .returned v ∧ ∃ (hn : Ghost) (r0 : Value) (r1 : Value), St w.heap.size w hn w' [row 23 (Kd.int .i64).slice r0 ((refO a b n).next), row 4 Kd.bool r1 ((refO a b n).final)] ∧ v = .agg #[.slice A0_0 a.least.length c0_0, r0, r1] := by
 refine zaq Tryd.func32 rfl Tryd.ntmps32 rfl ?_
 have S0 := St.init w
 have bb0_0 := b0_0.1; have bc0_0 := b0_0.2; simp only [maxLen] at bc0_0
 have bb0_1 := b0_1.1; have bc0_1 := b0_1.2; simp only [maxLen] at bc0_1
 have bb0_2 := b0_2.1; have bc0_2 := b0_2.2; simp only [maxLen] at bc0_2
 have bb1_0 := b1_0.1; have bc1_0 := b1_0.2; simp only [maxLen] at bc1_0
 have bb1_1 := b1_1.1; have bc1_1 := b1_1.2; simp only [maxLen] at bc1_1
 have bb1_2 := b1_2.1; have bc1_2 := b1_2.2; simp only [maxLen] at bc1_2
 have lo2 := zeu i2; have hi2 := zfa i2
 have hB_ := pre0; have hra_ := hB_.ra; have hrb_ := hB_.rb; have hln_ := hB_.n; have hpm_ := hra_.part.hi; have hpl_ := hra_.part.lo; have hfa_ := hra_.final; have hfb_ := hrb_.final; have hla_ : (a.next.length : Int) = A.next.length := (by rw [hB_.ga.2.2.2.1]); have hlb_ : (b.next.length : Int) = B.next.length := (by rw [hB_.gb.2.2.2.1]); have hma_ : (a.final.length : Int) = A.final.length := (by rw [hB_.ga.2.2.2.2]); have hmb_ : (b.final.length : Int) = B.final.length := (by rw [hB_.gb.2.2.2.2])
 refine zab <| zad (l := [0, 1, 2]) rfl ?_
 obtain ⟨b11, w11, r11, g11, T11⟩ := zb2 (P := Tryd.prog) S0 47 (v := .agg #[.slice A0_0 a.least.length c0_0, .slice A0_1 a.next.length c0_1, .slice A0_2 a.final.length c0_2]) [.slice A0_0 a.least.length c0_0, .slice A0_1 a.next.length c0_1, .slice A0_2 a.final.length c0_2] rfl
 have S12 := T11
 dsimp only [lAa, lAn, lA0, lAs] at S12
 refine p_v (v := .pointer (some ⟨b11, 0, none⟩)) rfl rfl rfl (zc8 rfl r11) ?_
 obtain ⟨b13, w13, r13, g13, T13⟩ := zb2 (P := Tryd.prog) S12 47 (v := .agg #[.slice A1_0 b.least.length c1_0, .slice A1_1 b.next.length c1_1, .slice A1_2 b.final.length c1_2]) [.slice A1_0 b.least.length c1_0, .slice A1_1 b.next.length c1_1, .slice A1_2 b.final.length c1_2] rfl
 have S14 := T13
 dsimp only [lAa, lAn, lA0, lAs] at S14
 refine p_v (v := .pointer (some ⟨b13, 0, none⟩)) rfl rfl rfl (zc8 rfl r13) ?_
 obtain ⟨b15, w15, r15, g15, T15⟩ := zb2 (P := Tryd.prog) S14 47 (v := (.agg #[.slice none 0 0, .slice none 0 0, .slice none 0 0])) [.slice none 0 0, .slice none 0 0, .slice none 0 0] rfl
 have S16 := T15
 dsimp only [lAa, lAn, lA0, lAs] at S16
 refine p_v (v := .pointer (some ⟨b15, 0, none⟩)) rfl rfl rfl (zcj ty47 r15) <| zaa <| zab <| zad (l := [0, 1, 2, 3, 4]) rfl <| p_v (v := .pointer (some ⟨b11, 0, none⟩)) rfl rfl rfl (zan fd47_0 ty39 rfl rfl) <| p_v (v := .slice A0_0 a.least.length c0_0) rfl rfl rfl (zal (seg := [.slice A0_0 a.least.length c0_0]) ty39 rfl (by simp) rfl (CF.box (m := 1) (S16.box_at (j := 0) rfl) rfl)) <| p_v (v := .agg #[.slice A0_0 a.least.length c0_0, .slice none 0 0, .slice none 0 0]) rfl rfl rfl (zdj (pv := [(0, .slice A0_0 a.least.length c0_0)]) rfl (zbg pl47 ty47 rfl (cs := [.slice A0_0 a.least.length c0_0, .slice none 0 0, .slice none 0 0]) rfl)) ?_
 obtain ⟨b17, w17, r17, g17, T17⟩ := zb2 (P := Tryd.prog) S16 47 (v := (.agg #[.slice none 0 0, .slice none 0 0, .slice none 0 0])) [.slice none 0 0, .slice none 0 0, .slice none 0 0] rfl
 have S18 := T17
 dsimp only [lAa, lAn, lA0, lAs] at S18
 refine p_v (v := .pointer (some ⟨b17, 0, none⟩)) rfl rfl rfl (zcj ty47 r17) ?_
 obtain ⟨w19, r19, g19, T19⟩ := zcb (P := Tryd.prog) (off := 0) (v := .agg #[.slice A0_0 a.least.length c0_0, .slice none 0 0, .slice none 0 0]) (vs := [.slice A0_0 a.least.length c0_0, .slice none 0 0, .slice none 0 0]) S18 ty47 rfl rfl (j := 3) rfl (by first | decide | exact Nat.le_of_ble_eq_true rfl) (by simp [Value.oneCell'])
 have S20 := T19.fx 3 (box b17 47 [.slice A0_0 a.least.length c0_0, .slice none 0 0, .slice none 0 0]) rfl
 dsimp only [lAa, lAn, lA0, lAs] at S20
 refine p_s rfl rfl (zbh rfl rfl r19) <| zaa <| zab <| zad (l := [0, 1, 2]) rfl ?_
 obtain ⟨v21, w21, r21, g21, T21⟩ := za4 (kd := (Kd.int .i64)) (xs := ([0, 0] : List Int)) (len := 2) [.int .i64 0, .int .i64 0] S20 u23 ty3 rfl rfl rfl rfl rfl (zbi rfl (zbi rfl zbq)) ([.int .i64 0] ++ [.int .i64 0]) (zcg.cons (k := (Kd.int .i64)) (h := (fun _ => none)) (x := 0) (cs := [.int .i64 0]) ⟨rfl, (zao (by omega) (by omega))⟩ (zcg.single (k := (Kd.int .i64)) (h := (fun _ => none)) (x := 0) (cs := [.int .i64 0]) ⟨rfl, (zao (by omega) (by omega))⟩)) rfl
 have S22 := T21
 dsimp only [lAa, lAn, lA0, lAs] at S22
 refine p_v (v := v21) rfl rfl rfl (zav (pv := [(0, .int .i64 0), (1, .int .i64 0)]) rfl r21) ?_
 obtain ⟨h24, le24, T24, rp24⟩ := S22.freeze (i := 4) rfl
 have S25 := T24.fx 4 (emp) rfl
 dsimp only [lAa, lAn, lA0, lAs] at S25
 obtain ⟨A24, c24, e24, lc24, cm24, ld24⟩ := rp24
 injection e24 with e24 _; subst e24
 have cn24 := cm24; simp only [maxLen] at cn24
 obtain ⟨v23, w23, r23, g23, T23⟩ := za4 (kd := (Kd.int .i64).slice) (xs := ([([0, 0] : List Int)] : List (List Int))) (len := 1) [.slice A24 ([0, 0] : List Int).length c24] S25 u24 ty23 rfl rfl rfl rfl rfl (zbi rfl zbq) [.slice A24 ([0, 0] : List Int).length c24] (zcg.single (k := (Kd.int .i64).slice) (h := h24) (x := ([0, 0] : List Int)) (cs := [.slice A24 ([0, 0] : List Int).length c24]) ⟨_, _, rfl, (And.intro lc24 cm24).1, (And.intro lc24 cm24).2, ld24.mono (Le.refl _)⟩) rfl
 have S26 := T23
 dsimp only [lAa, lAn, lA0, lAs] at S26
 refine p_v (v := v23) rfl rfl rfl (zav (pv := [(0, .slice A24 ([0, 0] : List Int).length c24)]) rfl r23) <| p_v (v := v23) rfl rfl rfl (zah rfl) <| zaa <| zab <| zab <| zad (l := [0]) rfl <| p_v (v := .int .i64 0) rfl rfl rfl (zah rfl) <| zaa <| zas ?_
 have T27 := S26.row_nil 23 (Kd.int .i64).slice
 obtain ⟨vn27, ev27, T27⟩ : ∃ v, v = (.slice none 0 0 : Value) ∧ St w.heap.size w h24 w23 [box b11 47 [.slice A0_0 a.least.length c0_0, .slice A0_1 a.next.length c0_1, .slice A0_2 a.final.length c0_2], box b13 47 [.slice A1_0 b.least.length c1_0, .slice A1_1 b.next.length c1_1, .slice A1_2 b.final.length c1_2], box b15 47 [.slice none 0 0, .slice none 0 0, .slice none 0 0], box b17 47 [.slice A0_0 a.least.length c0_0, v, .slice none 0 0], emp, row 23 (Kd.int .i64).slice v23 ([([0, 0] : List Int)] : List (List Int)), row 23 (Kd.int .i64).slice v ([] : List (List Int))] := ⟨_, rfl, T27⟩
 have S28 : St w.heap.size w h24 w23 [box b11 47 [.slice A0_0 a.least.length c0_0, .slice A0_1 a.next.length c0_1, .slice A0_2 a.final.length c0_2], box b13 47 [.slice A1_0 b.least.length c1_0, .slice A1_1 b.next.length c1_1, .slice A1_2 b.final.length c1_2], box b15 47 [.slice none 0 0, .slice none 0 0, .slice none 0 0], box b17 47 [.slice A0_0 a.least.length c0_0, vn27, .slice none 0 0], emp, row 23 (Kd.int .i64).slice v23 ([([0, 0] : List Int)] : List (List Int)), row 23 (Kd.int .i64).slice vn27 ([] : List (List Int))] := T27
 have T29 := S28.row_nil 4 Kd.bool
 obtain ⟨vn29, ev29, T29⟩ : ∃ v, v = (.slice none 0 0 : Value) ∧ St w.heap.size w h24 w23 [box b11 47 [.slice A0_0 a.least.length c0_0, .slice A0_1 a.next.length c0_1, .slice A0_2 a.final.length c0_2], box b13 47 [.slice A1_0 b.least.length c1_0, .slice A1_1 b.next.length c1_1, .slice A1_2 b.final.length c1_2], box b15 47 [.slice none 0 0, .slice none 0 0, .slice none 0 0], box b17 47 [.slice A0_0 a.least.length c0_0, vn27, v], emp, row 23 (Kd.int .i64).slice v23 ([([0, 0] : List Int)] : List (List Int)), row 23 (Kd.int .i64).slice vn27 ([] : List (List Int)), row 4 Kd.bool v ([] : List Bool)] := ⟨_, rfl, T29⟩
 have S30 : St w.heap.size w h24 w23 [box b11 47 [.slice A0_0 a.least.length c0_0, .slice A0_1 a.next.length c0_1, .slice A0_2 a.final.length c0_2], box b13 47 [.slice A1_0 b.least.length c1_0, .slice A1_1 b.next.length c1_1, .slice A1_2 b.final.length c1_2], box b15 47 [.slice none 0 0, .slice none 0 0, .slice none 0 0], box b17 47 [.slice A0_0 a.least.length c0_0, vn27, vn29], emp, row 23 (Kd.int .i64).slice v23 ([([0, 0] : List Int)] : List (List Int)), row 23 (Kd.int .i64).slice vn27 ([] : List (List Int)), row 4 Kd.bool vn29 ([] : List Bool)] := T29
 refine zbo (S := (List (List Int)) × (List (List Int)) × (List Bool) × Int) (fun (q_ : (List (List Int)) × (List (List Int)) × (List Bool) × Int) ρ w' => match q_ with | (all, d_1, d_2, i) => ∃ (h : Ghost) (v_all : Value) (v_d_1 : Value) (v_d_2 : Value), Le h24 h ∧ St w.heap.size w h w' [box b11 47 [.slice A0_0 a.least.length c0_0, .slice A0_1 a.next.length c0_1, .slice A0_2 a.final.length c0_2], box b13 47 [.slice A1_0 b.least.length c1_0, .slice A1_1 b.next.length c1_1, .slice A1_2 b.final.length c1_2], box b15 47 [.slice none 0 0, .slice none 0 0, .slice none 0 0], box b17 47 [.slice A0_0 a.least.length c0_0, v_d_1, v_d_2], row 23 (Kd.int .i64).slice v_all all, row 23 (Kd.int .i64).slice v_d_1 d_1, row 4 Kd.bool v_d_2 d_2] ∧ ρ 2 = .int .u8 n ∧ ρ 3 = .pointer (some ⟨b11, 0, none⟩) ∧ ρ 4 = .pointer (some ⟨b13, 0, none⟩) ∧ ρ 6 = .pointer (some ⟨b15, 0, none⟩) ∧ ρ 7 = .pointer (some ⟨b17, 0, none⟩) ∧ ρ 8 = v_all ∧ ρ 9 = .int .i64 i ∧ inK .i64 i ∧ (MadeI (zez a b) (a.least.length : Int) [0, 0] (finalR2 a b n) all (zcn all) d_1 d_2 i)) (fun q_ => match q_ with | (all, d_1, d_2, i) => (1099513724931 - i).toNat) (([([0, 0] : List Int)] : List (List Int)), ([] : List (List Int)), ([] : List Bool), 0) ⟨h24, v23, vn27, vn29, Le.refl _, S30.sub [0, 1, 2, 3, 5, 6, 7] (by decide) rfl _ rfl, rfl, rfl, rfl, rfl, rfl, rfl, rfl, (zao (by omega) (by omega)), (by exact made_00)⟩ ?_
 rintro ⟨all, d_1, d_2, i⟩ ih31 ρ31 w31 ⟨h31, v_all, v_d_1, v_d_2, le31, S31, r31_2, r31_3, r31_4, r31_6, r31_7, r31_8, r31_9, f31_0, hI31⟩
 have lf31_0 := za7 f31_0; have hf31_0 := za8 f31_0
 have rl31_4 := S31.row_le (j := 4) rfl; simp only [maxLen] at rl31_4
 have rl31_5 := S31.row_le (j := 5) rfl; simp only [maxLen] at rl31_5
 have rl31_6 := S31.row_le (j := 6) rfl; simp only [maxLen] at rl31_6
 have hi0_ := hI31.lo; have hi1_ := hI31.hi; have hb0_ := refO_bound hB_ hI31; have hn0_ := (made_len hI31).1; have hf0_ := (made_len hI31).2
 have hin_ : i < (all.length : Int) → InR A B (at_ all i) := fun h => refO_in hB_ hI31 (zdv hI31.lo h)
 have hin0_ : i < (all.length : Int) → ((at_ all i).length : Int) = 2 := fun h => (hin_ h).1
 have hin1_ : i < (all.length : Int) → 0 ≤ at_ (at_ all i) 0 ∧ at_ (at_ all i) 0 < (A.next.length : Int) := fun h => (hin_ h).2.1
 have hin2_ : i < (all.length : Int) → 0 ≤ at_ (at_ all i) 1 ∧ at_ (at_ all i) 1 < (B.next.length : Int) := fun h => (hin_ h).2.2
 refine zab <| zab <| zad (l := [0, 1, 2, 3]) rfl <| p_v (v := .int .i64 i) rfl rfl rfl (zag r31_9) <| p_v (v := v_all) rfl rfl rfl (zag r31_8) ?_
 have lb32 := S31.row_le (j := 4) rfl; simp only [maxLen] at lb32
 refine p_v (v := .int .i64 (all.length : Int)) rfl rfl rfl (ze3 u24 rfl (ze8 S31 (j := 4) rfl)) <| p_v (v := .bool (decide (i < (all.length : Int)))) rfl rfl rfl (zdc rfl rfl) <| zaa ?_
 refine zap (p := i < (all.length : Int)) rfl (fun hc33 => ?_) (fun hc33 => ?_)
 ·skip
  refine zau <| zab <| zas <| zab <| zad (l := [0]) rfl <| p_v (v := .slice none 0 0) rfl rfl rfl (zah rfl) <| zaa <| zab <| zad (l := [0, 1, 2, 3, 4, 5, 6]) rfl <| p_v (v := v_all) rfl rfl rfl (zag r31_8) <| p_v (v := .int .i64 i) rfl rfl rfl (zag r31_9) ?_
  obtain ⟨ad34, a34, at34⟩ := zeq (q := i) (m := 1) S31 (j := 4) rfl rfl (by omega) (by omega)
  refine p_v (v := .pointer (some ad34)) rfl rfl rfl (zem u24 ty23 rfl rfl a34 (by omega) (by omega)) ?_
  obtain ⟨seg35, rp35, cf35⟩ := e_load_own (q := i) S31 (j := 4) rfl rfl at34 (by omega) (by omega)
  obtain ⟨A35, c35, rfl, lc35, cm35, ld35⟩ := rp35
  have cn35 := cm35; simp only [maxLen] at cn35
  refine p_v (v := .slice A35 (at_ all i).length c35) rfl rfl rfl (zal (seg := [.slice A35 (at_ all i).length c35]) ty23 rfl (by simp) rfl cf35) ?_
  obtain ⟨ad36, seg36, a36, rp36, ce36⟩ := zaz (q := (0 : Int)) (m := 1) ld35 rfl (by omega) (by omega)
  refine p_v (v := .pointer (some ad36)) rfl rfl rfl (zaw u23 ty3 rfl rfl a36 (by omega) (by omega)) ?_
  obtain ⟨rfl, in36⟩ := rp36
  have lo36 := za7 in36; have hi36 := za8 in36
  refine p_v (v := .int .i64 (at_ (at_ all i) (0 : Int))) rfl rfl rfl (zal (seg := [.int .i64 (at_ (at_ all i) (0 : Int))]) ty3 rfl (by simp) rfl (CF.ghost ce36 ((Le.refl _).trans S31.ghost))) <| p_v (v := .int .i64 (at_ (at_ all i) (0 : Int))) rfl rfl rfl (zah rfl) <| zaa <| zab <| zad (l := [0, 1, 2, 3, 4, 5, 6]) rfl <| p_v (v := v_all) rfl rfl rfl (zag r31_8) <| p_v (v := .int .i64 i) rfl rfl rfl (zag r31_9) ?_
  obtain ⟨ad37, a37, at37⟩ := zeq (q := i) (m := 1) S31 (j := 4) rfl rfl (by omega) (by omega)
  refine p_v (v := .pointer (some ad37)) rfl rfl rfl (zem u24 ty23 rfl rfl a37 (by omega) (by omega)) ?_
  obtain ⟨seg38, rp38, cf38⟩ := e_load_own (q := i) S31 (j := 4) rfl rfl at37 (by omega) (by omega)
  obtain ⟨A38, c38, rfl, lc38, cm38, ld38⟩ := rp38
  have cn38 := cm38; simp only [maxLen] at cn38
  refine p_v (v := .slice A38 (at_ all i).length c38) rfl rfl rfl (zal (seg := [.slice A38 (at_ all i).length c38]) ty23 rfl (by simp) rfl cf38) ?_
  obtain ⟨ad39, seg39, a39, rp39, ce39⟩ := zaz (q := (1 : Int)) (m := 1) ld38 rfl (by omega) (by omega)
  refine p_v (v := .pointer (some ad39)) rfl rfl rfl (zaw u23 ty3 rfl rfl a39 (by omega) (by omega)) ?_
  obtain ⟨rfl, in39⟩ := rp39
  have lo39 := za7 in39; have hi39 := za8 in39
  refine p_v (v := .int .i64 (at_ (at_ all i) (1 : Int))) rfl rfl rfl (zal (seg := [.int .i64 (at_ (at_ all i) (1 : Int))]) ty3 rfl (by simp) rfl (CF.ghost ce39 ((Le.refl _).trans S31.ghost))) <| p_v (v := .int .i64 (at_ (at_ all i) (1 : Int))) rfl rfl rfl (zah rfl) <| zaa <| zab <| zab <| zad (l := [0]) rfl <| p_v (v := .int .i64 0) rfl rfl rfl (zah rfl) <| zaa <| zas ?_
  have T40 := S31.row_nil 3 (Kd.int .i64)
  obtain ⟨vn40, ev40, T40⟩ : ∃ v, v = (.slice none 0 0 : Value) ∧ St w.heap.size w h31 w31 ([box b11 47 [.slice A0_0 a.least.length c0_0, .slice A0_1 a.next.length c0_1, .slice A0_2 a.final.length c0_2], box b13 47 [.slice A1_0 b.least.length c1_0, .slice A1_1 b.next.length c1_1, .slice A1_2 b.final.length c1_2], box b15 47 [.slice none 0 0, .slice none 0 0, .slice none 0 0], box b17 47 [.slice A0_0 a.least.length c0_0, v_d_1, v_d_2], row 23 (Kd.int .i64).slice v_all all, row 23 (Kd.int .i64).slice v_d_1 d_1, row 4 Kd.bool v_d_2 d_2] ++ [row 3 (Kd.int .i64) v []]) := ⟨_, rfl, T40⟩
  have S41 := T40
  dsimp only [lAa, lAn, lA0, lAs] at S41
  refine zbo (S := (List (List Int)) × (List Int) × Int) (fun (q_ : (List (List Int)) × (List Int) × Int) ρ w' => match q_ with | (all2, l, k) => ∃ (h : Ghost) (v_all2 : Value) (v_l : Value), Le h31 h ∧ St w.heap.size w h w' [box b11 47 [.slice A0_0 a.least.length c0_0, .slice A0_1 a.next.length c0_1, .slice A0_2 a.final.length c0_2], box b13 47 [.slice A1_0 b.least.length c1_0, .slice A1_1 b.next.length c1_1, .slice A1_2 b.final.length c1_2], box b15 47 [.slice none 0 0, .slice none 0 0, .slice none 0 0], box b17 47 [.slice A0_0 a.least.length c0_0, v_d_1, v_d_2], row 23 (Kd.int .i64).slice v_all2 all2, row 23 (Kd.int .i64).slice v_d_1 d_1, row 4 Kd.bool v_d_2 d_2, row 3 (Kd.int .i64) v_l l] ∧ ρ 2 = .int .u8 n ∧ ρ 3 = .pointer (some ⟨b11, 0, none⟩) ∧ ρ 4 = .pointer (some ⟨b13, 0, none⟩) ∧ ρ 6 = .pointer (some ⟨b15, 0, none⟩) ∧ ρ 7 = .pointer (some ⟨b17, 0, none⟩) ∧ ρ 8 = v_all2 ∧ ρ 9 = .int .i64 i ∧ ρ 10 = v_l ∧ ρ 11 = .int .i64 (at_ (at_ all i) (0 : Int)) ∧ ρ 12 = .int .i64 (at_ (at_ all i) (1 : Int)) ∧ ρ 13 = .int .i64 k ∧ inK .i64 k ∧ (0 ≤ k ∧ k ≤ (a.least.length : Int) ∧ MadeK (zez a b) (at_ all i) all all2 (zcn all2) l k ∧ (all.length : Int) ≤ all2.length)) (fun q_ => match q_ with | (all2, l, k) => (a.least.length - k).toNat) (all, ([] : List Int), 0) ⟨h31, v_all, vn40, Le.refl _, S41.sub [0, 1, 2, 3, 4, 5, 6, 7] (by decide) rfl _ rfl, r31_2, r31_3, r31_4, r31_6, r31_7, r31_8, r31_9, (ev40.symm), rfl, rfl, rfl, (zao (by omega) (by omega)), (by exact ⟨by omega, by omega, rr_0 hI31, by omega⟩)⟩ ?_
  rintro ⟨all2, l, k⟩ ih42 ρ42 w42 ⟨h42, v_all2, v_l, le42, S42, r42_2, r42_3, r42_4, r42_6, r42_7, r42_8, r42_9, r42_10, r42_11, r42_12, r42_13, f42_0, hI42⟩
  have lf42_0 := za7 f42_0; have hf42_0 := za8 f42_0
  have rl42_4 := S42.row_le (j := 4) rfl; simp only [maxLen] at rl42_4
  have rl42_5 := S42.row_le (j := 5) rfl; simp only [maxLen] at rl42_5
  have rl42_6 := S42.row_le (j := 6) rfl; simp only [maxLen] at rl42_6
  have rl42_7 := S42.row_le (j := 7) rfl; simp only [maxLen] at rl42_7
  have hk0_ := hI42.1; have hk1_ := hI42.2.1; have hb1_ := refO_bound2 hB_ hI31 (zdv hI31.lo (by omega)) hI42.2.2.1 hI42.2.1; have hl1_ := madeK_len hI42.2.2.1; have hlen_ := hI42.2.2.2
  have hrx_ : ((at_ a.next (at_ (at_ all i) 0)).length : Int) = A.part.n := (by rw [hB_.ga.2.2.2.1]; exact hra_.row _ (hin1_ (by omega)).1 (hin1_ (by omega)).2)
  have hry_ : ((at_ b.next (at_ (at_ all i) 1)).length : Int) = A.part.n := (by rw [hB_.gb.2.2.2.1, hB_.part]; exact hrb_.row _ (hin2_ (by omega)).1 (hin2_ (by omega)).2)
  refine zab <| zab <| zad (l := [0, 1, 2, 3, 4]) rfl <| p_v (v := .int .i64 k) rfl rfl rfl (zag r42_13) <| p_v (v := .pointer (some ⟨b11, 0, none⟩)) rfl rfl rfl (zan fd47_0 ty39 rfl r42_3) <| p_v (v := .slice A0_0 a.least.length c0_0) rfl rfl rfl (zal (seg := [.slice A0_0 a.least.length c0_0]) ty39 rfl (by simp) rfl (CF.box (m := 1) (S42.box_at (j := 0) rfl) rfl)) <| p_v (v := .int .i64 (a.least.length : Int)) rfl rfl rfl (za0 u39 rfl) <| p_v (v := .bool (decide (k < (a.least.length : Int)))) rfl rfl rfl (zdc rfl rfl) <| zaa ?_
  refine zap (p := k < (a.least.length : Int)) rfl (fun hc43 => ?_) (fun hc43 => ?_)
  ·skip
   refine zau <| zab <| zas <| zab ?_
   obtain ⟨ad44, seg44, a44, rp44, ce44⟩ := zaz (q := at_ (at_ all i) (0 : Int)) (m := 1) l0_1 rfl (by omega) (by omega)
   obtain ⟨A44, c44, rfl, lc44, cm44, ld44⟩ := rp44
   have cn44 := cm44; simp only [maxLen] at cn44
   obtain ⟨ad45, seg45, a45, rp45, ce45⟩ := zaz (q := k) (m := 1) ld44 rfl (by omega) (by omega)
   obtain ⟨rfl, in45⟩ := rp45
   have lo45 := za7 in45; have hi45 := za8 in45
   obtain ⟨ad46, seg46, a46, rp46, ce46⟩ := zaz (q := at_ (at_ all i) (1 : Int)) (m := 1) l1_1 rfl (by omega) (by omega)
   obtain ⟨A46, c46, rfl, lc46, cm46, ld46⟩ := rp46
   have cn46 := cm46; simp only [maxLen] at cn46
   obtain ⟨ad47, seg47, a47, rp47, ce47⟩ := zaz (q := k) (m := 1) ld46 rfl (by omega) (by omega)
   obtain ⟨rfl, in47⟩ := rp47
   have lo47 := za7 in47; have hi47 := za8 in47
   have hf48 : (CFs ⟨b11, 1, none⟩ [.slice A0_1 a.next.length c0_1]).1 w42 := (CF.box (m := 1) (S42.box_at (j := 0) rfl) rfl)
   have hf49 : (CFs ad44 [.slice A44 (at_ a.next (at_ (at_ all i) (0 : Int))).length c44]).1 w42 := (CF.ghost ce44 (St.le0 S42))
   have hf50 : (CFs ad45 [.int .i64 (at_ (at_ a.next (at_ (at_ all i) (0 : Int))) k)]).1 w42 := (CF.ghost ce45 (St.le0 S42))
   have hf51 : (CFs ⟨b13, 1, none⟩ [.slice A1_1 b.next.length c1_1]).1 w42 := (CF.box (m := 1) (S42.box_at (j := 1) rfl) rfl)
   have hf52 : (CFs ad46 [.slice A46 (at_ b.next (at_ (at_ all i) (1 : Int))).length c46]).1 w42 := (CF.ghost ce46 (St.le0 S42))
   have hf53 : (CFs ad47 [.int .i64 (at_ (at_ b.next (at_ (at_ all i) (1 : Int))) k)]).1 w42 := (CF.ghost ce47 (St.le0 S42))
   refine daS (hkC 1 hf48 (hkC 4 hf49 (hkC 7 hf50 (hkC 9 hf51 (hkC 12 hf52 (hkC 15 hf53 (hkN (w := w42)))))))) 18 rfl mixed ?_
   intro wd54 gd54 hd54
   have S55 := S42.keep gd54
   have hf56 := spUp gd54 hf48
   have hf57 := spUp gd54 hf49
   have hf58 := spUp gd54 hf50
   have hf59 := spUp gd54 hf51
   have hf60 := spUp gd54 hf52
   have hf61 := spUp gd54 hf53
   refine qd0 (i := 0) (v := .pointer (some ⟨b11, 1, none⟩)) rfl (by decide +kernel) rfl rfl (zan fd47_1 ty24 rfl r42_3) (zaj rfl) <| qd1 0 (i := 1) (v := .slice A0_1 a.next.length c0_1) rfl rfl (by decide +kernel) rfl rfl (fun wq hq => (zal (seg := [.slice A0_1 a.next.length c0_1]) ty24 rfl (by simp) rfl hq)) (za9 hf56 (zaj rfl)) <| qd0 (i := 2) (v := .int .i64 (at_ (at_ all i) (0 : Int))) rfl (by decide +kernel) rfl rfl (zag r42_11) (zaj rfl) <| qd0 (i := 3) (v := .pointer (some ad44)) rfl (by decide +kernel) rfl rfl (zaw u24 ty23 rfl rfl a44 (by omega) (by omega)) (zaj rfl) <| qd1 1 (i := 4) (v := .slice A44 (at_ a.next (at_ (at_ all i) (0 : Int))).length c44) rfl rfl (by decide +kernel) rfl rfl (fun wq hq => (zal (seg := [.slice A44 (at_ a.next (at_ (at_ all i) (0 : Int))).length c44]) ty23 rfl (by simp) rfl hq)) (za1 rfl (za9 hf57 (zaj rfl))) <| qd0 (i := 5) (v := .int .i64 k) rfl (by decide +kernel) rfl rfl (zag r42_13) (zaj rfl) <| qd0 (i := 6) (v := .pointer (some ad45)) rfl (by decide +kernel) rfl rfl (zaw u23 ty3 rfl rfl a45 (by omega) (by omega)) (zaj rfl) <| qd1 2 (i := 7) (v := .int .i64 (at_ (at_ a.next (at_ (at_ all i) (0 : Int))) k)) rfl rfl (by decide +kernel) rfl rfl (fun wq hq => (zal (seg := [.int .i64 (at_ (at_ a.next (at_ (at_ all i) (0 : Int))) k)]) ty3 rfl (by simp) rfl hq)) (za1 rfl (za1 rfl (za9 hf58 (zaj rfl)))) <| qd0 (i := 8) (v := .pointer (some ⟨b13, 1, none⟩)) rfl (by decide +kernel) rfl rfl (zan fd47_1 ty24 rfl r42_4) (zaj rfl) <| qd1 3 (i := 9) (v := .slice A1_1 b.next.length c1_1) rfl rfl (by decide +kernel) rfl rfl (fun wq hq => (zal (seg := [.slice A1_1 b.next.length c1_1]) ty24 rfl (by simp) rfl hq)) (za1 rfl (za1 rfl (za1 rfl (za9 hf59 (zaj rfl))))) <| qd0 (i := 10) (v := .int .i64 (at_ (at_ all i) (1 : Int))) rfl (by decide +kernel) rfl rfl (zag r42_12) (zaj rfl) <| qd0 (i := 11) (v := .pointer (some ad46)) rfl (by decide +kernel) rfl rfl (zaw u24 ty23 rfl rfl a46 (by omega) (by omega)) (zaj rfl) ?_
   refine qd1 4 (i := 12) (v := .slice A46 (at_ b.next (at_ (at_ all i) (1 : Int))).length c46) rfl rfl (by decide +kernel) rfl rfl (fun wq hq => (zal (seg := [.slice A46 (at_ b.next (at_ (at_ all i) (1 : Int))).length c46]) ty23 rfl (by simp) rfl hq)) (za1 rfl (za1 rfl (za1 rfl (za1 rfl (za9 hf60 (zaj rfl)))))) <| qd0 (i := 13) (v := .int .i64 k) rfl (by decide +kernel) rfl rfl (zag r42_13) (zaj rfl) <| qd0 (i := 14) (v := .pointer (some ad47)) rfl (by decide +kernel) rfl rfl (zaw u23 ty3 rfl rfl a47 (by omega) (by omega)) (zaj rfl) <| qd1 5 (i := 15) (v := .int .i64 (at_ (at_ b.next (at_ (at_ all i) (1 : Int))) k)) rfl rfl (by decide +kernel) rfl rfl (fun wq hq => (zal (seg := [.int .i64 (at_ (at_ b.next (at_ (at_ all i) (1 : Int))) k)]) ty3 rfl (by simp) rfl hq)) (za1 rfl (za1 rfl (za1 rfl (za1 rfl (za1 rfl (za9 hf61 (zaj rfl))))))) <| zby (i := 16) (by decide +kernel) ?_
   intro wd62 gd62
   have S63 := S55.keep gd62
   have hf64 := spUp gd62 hf56
   have hf65 := spUp gd62 hf57
   have hf66 := spUp gd62 hf58
   have hf67 := spUp gd62 hf59
   have hf68 := spUp gd62 hf60
   have hf69 := spUp gd62 hf61
   obtain ⟨v70, w70, r70, g70, T70⟩ := za4 (kd := (Kd.int .i64)) (xs := ([at_ (at_ a.next (at_ (at_ all i) (0 : Int))) k, at_ (at_ b.next (at_ (at_ all i) (1 : Int))) k] : List Int)) (len := 2) [.int .i64 (at_ (at_ a.next (at_ (at_ all i) (0 : Int))) k), .int .i64 (at_ (at_ b.next (at_ (at_ all i) (1 : Int))) k)] S63 u23 ty3 rfl rfl rfl rfl rfl (zbi rfl (zbi rfl zbq)) ([.int .i64 (at_ (at_ a.next (at_ (at_ all i) (0 : Int))) k)] ++ [.int .i64 (at_ (at_ b.next (at_ (at_ all i) (1 : Int))) k)]) (zcg.cons (k := (Kd.int .i64)) (h := h42) (x := at_ (at_ a.next (at_ (at_ all i) (0 : Int))) k) (cs := [.int .i64 (at_ (at_ a.next (at_ (at_ all i) (0 : Int))) k)]) ⟨rfl, (zao (by omega) (by omega))⟩ (zcg.single (k := (Kd.int .i64)) (h := h42) (x := at_ (at_ b.next (at_ (at_ all i) (1 : Int))) k) (cs := [.int .i64 (at_ (at_ b.next (at_ (at_ all i) (1 : Int))) k)]) ⟨rfl, (zao (by omega) (by omega))⟩)) rfl
   have S71 := T70
   dsimp only [lAa, lAn, lA0, lAs] at S71
   have hf72 := spUp g70 hf64
   have hf73 := spUp g70 hf65
   have hf74 := spUp g70 hf66
   have hf75 := spUp g70 hf67
   have hf76 := spUp g70 hf68
   have hf77 := spUp g70 hf69
   refine d_v (v := v70) rfl rfl rfl (zav (pv := [(0, .int .i64 (at_ (at_ a.next (at_ (at_ all i) (0 : Int))) k)), (1, .int .i64 (at_ (at_ b.next (at_ (at_ all i) (1 : Int))) k))]) rfl r70) (.inl g70) <| qd0 (i := 17) (v := v70) rfl (by decide +kernel) rfl rfl (zah rfl) (zaj rfl) <| zb3 (by decide +kernel) ?_
   intro wd78 gd78
   have S79 := S71.keep gd78
   refine zab <| zad (l := [0, 1, 2, 3]) rfl <| p_v (v := v_all2) rfl rfl rfl (zag r42_8) <| p_v (v := v70) rfl rfl rfl (zag rfl) ?_
   obtain ⟨A80, c80, ev80, lc80, cm80⟩ := S79.row_val (j := 4) rfl
   obtain ⟨A81, c81, ev81, lc81, cm81⟩ := S79.row_val (j := 8) rfl
   refine p_c rfl rfl rfl (za6 (args := [.slice A80 all2.length c80, .slice A81 ([at_ (at_ a.next (at_ (at_ all i) (0 : Int))) k, at_ (at_ b.next (at_ (at_ all i) (1 : Int))) k] : List Int).length c81]) ca94 rfl (zd3 ev80 (zd3 ev81 rfl))) (find11_calls wd78 all2 A80 c80 (And.intro lc80 cm80) (zc5 S79 (j := 4) rfl ev80) ([at_ (at_ a.next (at_ (at_ all i) (0 : Int))) k, at_ (at_ b.next (at_ (at_ all i) (1 : Int))) k] : List Int) A81 c81 (And.intro lc81 cm81) (zc5 S79 (j := 8) rfl ev81)) ?_
   rintro _ w82 ⟨h82, T82, rfl, in82_0⟩
   have S83 := S79.keep (Chg.of_below T82.below)
   have lo_in82_0 := za7 in82_0; have hi_in82_0 := za8 in82_0
   refine p_v (v := .int .i64 (zdx all2 ([at_ (at_ a.next (at_ (at_ all i) (0 : Int))) k, at_ (at_ b.next (at_ (at_ all i) (1 : Int))) k] : List Int))) rfl rfl rfl (zah rfl) <| zaa <| zab <| zab <| zad (l := [0, 1]) rfl <| p_v (v := .int .i64 (zdx all2 ([at_ (at_ a.next (at_ (at_ all i) (0 : Int))) k, at_ (at_ b.next (at_ (at_ all i) (1 : Int))) k] : List Int))) rfl rfl rfl (zag rfl) <| p_v (v := .bool (decide ((zdx all2 ([at_ (at_ a.next (at_ (at_ all i) (0 : Int))) k, at_ (at_ b.next (at_ (at_ all i) (1 : Int))) k] : List Int)) < 0))) rfl rfl rfl (zdc rfl rfl) <| zaa ?_
   refine zap (p := (zdx all2 ([at_ (at_ a.next (at_ (at_ all i) (0 : Int))) k, at_ (at_ b.next (at_ (at_ all i) (1 : Int))) k] : List Int)) < 0) rfl (fun hc84 => ?_) (fun hc84 => ?_)
   ·skip
    refine zab <| zad (l := [0, 1, 2]) rfl <| p_v (v := v_all2) rfl rfl rfl (zag r42_8) ?_
    have lb85 := S83.row_le (j := 4) rfl; simp only [maxLen] at lb85
    refine p_v (v := .int .i64 (all2.length : Int)) rfl rfl rfl (ze3 u24 rfl (ze8 S83 (j := 4) rfl)) <| p_v (v := .int .i64 (all2.length : Int)) rfl rfl rfl (zah rfl) <| zaa <| zad (l := [0, 1, 2, 3, 4]) rfl <| p_v (v := v_all2) rfl rfl rfl (zag r42_8) <| p_v (v := v70) rfl rfl rfl (zag rfl) ?_
    obtain ⟨h87, le87, T87, rp87⟩ := S83.freeze (i := 8) rfl
    have lf87_0 := (((((le24).trans le31)).trans le42)).trans le87
    have lf87_1 := (((le31).trans le42)).trans le87
    have lf87_2 := (le42).trans le87
    have S88 := T87.fx 8 (emp) rfl
    dsimp only [lAa, lAn, lA0, lAs] at S88
    obtain ⟨A87, c87, e87, lc87, cm87, ld87⟩ := rp87
    injection e87 with e87 _; subst e87
    have cn87 := cm87; simp only [maxLen] at cn87
    obtain ⟨v86, w86, r86, g86, T86⟩ := za4 (kd := (Kd.int .i64).slice) (xs := ([([at_ (at_ a.next (at_ (at_ all i) (0 : Int))) k, at_ (at_ b.next (at_ (at_ all i) (1 : Int))) k] : List Int)] : List (List Int))) (len := 1) [.slice A87 ([at_ (at_ a.next (at_ (at_ all i) (0 : Int))) k, at_ (at_ b.next (at_ (at_ all i) (1 : Int))) k] : List Int).length c87] S88 u24 ty23 rfl rfl rfl rfl rfl (zbi rfl zbq) [.slice A87 ([at_ (at_ a.next (at_ (at_ all i) (0 : Int))) k, at_ (at_ b.next (at_ (at_ all i) (1 : Int))) k] : List Int).length c87] (zcg.single (k := (Kd.int .i64).slice) (h := h87) (x := ([at_ (at_ a.next (at_ (at_ all i) (0 : Int))) k, at_ (at_ b.next (at_ (at_ all i) (1 : Int))) k] : List Int)) (cs := [.slice A87 ([at_ (at_ a.next (at_ (at_ all i) (0 : Int))) k, at_ (at_ b.next (at_ (at_ all i) (1 : Int))) k] : List Int).length c87]) ⟨_, _, rfl, (And.intro lc87 cm87).1, (And.intro lc87 cm87).2, ld87.mono (Le.refl _)⟩) rfl
    have S89 := T86
    dsimp only [lAa, lAn, lA0, lAs] at S89
    refine p_v (v := v86) rfl rfl rfl (zav (pv := [(0, .slice A87 ([at_ (at_ a.next (at_ (at_ all i) (0 : Int))) k, at_ (at_ b.next (at_ (at_ all i) (1 : Int))) k] : List Int).length c87)]) rfl r86) ?_
    obtain ⟨A91, c91, ev91, lc91, cm91⟩ := S89.row_val (j := 9) rfl
    obtain ⟨v92, w92, r92, g92, T92⟩ := zcd (kd := (Kd.int .i64).slice) (A := A91) (c := c91) (ys := ([([at_ (at_ a.next (at_ (at_ all i) (0 : Int))) k, at_ (at_ b.next (at_ (at_ all i) (1 : Int))) k] : List Int)] : List (List Int))) (len := ([([at_ (at_ a.next (at_ (at_ all i) (0 : Int))) k, at_ (at_ b.next (at_ (at_ all i) (1 : Int))) k] : List Int)] : List (List Int)).length) 24 S89 u24 ty23 rfl rfl (j := 4) rfl rfl (zcl S89 (j := 9) rfl ev91) (by first|omega|(simp;omega)|assumption|simp) (by first|omega|(simp;omega)|assumption|simp)
    have S93 := T92.fx 4 (row 23 (Kd.int .i64).slice v92 (all2 ++ ([([at_ (at_ a.next (at_ (at_ all i) (0 : Int))) k, at_ (at_ b.next (at_ (at_ all i) (1 : Int))) k] : List Int)] : List (List Int)))) rfl
    dsimp only [lAa, lAn, lA0, lAs] at S93
    refine p_v (v := v92) rfl rfl rfl (zcc rfl ev91 r92) <| p_v (v := v92) rfl rfl rfl (zah rfl) <| zaa <| zad (l := [0, 1, 2, 3, 4]) rfl <| p_v (v := v_l) rfl rfl rfl (zag r42_10) <| p_v (v := .int .i64 (all2.length : Int)) rfl rfl rfl (zag rfl) ?_
    obtain ⟨v94, w94, r94, g94, T94⟩ := za4 (kd := (Kd.int .i64)) (xs := ([(all2.length : Int)] : List Int)) (len := 1) [.int .i64 (all2.length : Int)] S93 u23 ty3 rfl rfl rfl rfl rfl (zbi rfl zbq) [.int .i64 (all2.length : Int)] (zcg.single (k := (Kd.int .i64)) (h := h87) (x := (all2.length : Int)) (cs := [.int .i64 (all2.length : Int)]) ⟨rfl, (zao (by omega) (by omega))⟩) rfl
    have S95 := T94
    dsimp only [lAa, lAn, lA0, lAs] at S95
    refine p_v (v := v94) rfl rfl rfl (zav (pv := [(0, .int .i64 (all2.length : Int))]) rfl r94) ?_
    obtain ⟨A97, c97, ev97, lc97, cm97⟩ := S95.row_val (j := 10) rfl
    obtain ⟨v98, w98, r98, g98, T98⟩ := zcd (kd := (Kd.int .i64)) (A := A97) (c := c97) (ys := ([(all2.length : Int)] : List Int)) (len := ([(all2.length : Int)] : List Int).length) 23 S95 u23 ty3 rfl rfl (j := 7) rfl rfl (zcl S95 (j := 10) rfl ev97) (by first|omega|(simp;omega)|assumption|simp) (by first|omega|(simp;omega)|assumption|simp)
    have S99 := T98.fx 7 (row 3 (Kd.int .i64) v98 (l ++ ([(all2.length : Int)] : List Int))) rfl
    dsimp only [lAa, lAn, lA0, lAs] at S99
    refine p_v (v := v98) rfl rfl rfl (zcc rfl ev97 r98) <| p_v (v := v98) rfl rfl rfl (zah rfl) <| zaa <| zat <| zad (l := [0, 1, 2]) rfl <| p_v (v := .int .i64 k) rfl rfl rfl (zag r42_13) <| p_v (v := .int .i64 (k + 1)) rfl rfl rfl (zct rfl rfl (zao (by omega) (by omega))) <| p_v (v := .int .i64 (k + 1)) rfl rfl rfl (zah rfl) <| zaa ?_
    refine ih42 (all2 ++ ([([at_ (at_ a.next (at_ (at_ all i) (0 : Int))) k, at_ (at_ b.next (at_ (at_ all i) (1 : Int))) k] : List Int)] : List (List Int)), l ++ ([(all2.length : Int)] : List Int), k + 1) _ _ (by dsimp only; omega) ⟨h87, v92, v98, lf87_2, S99.sub [0, 1, 2, 3, 4, 5, 6, 7] (by decide) rfl _ rfl, r42_2, r42_3, r42_4, r42_6, r42_7, rfl, r42_9, rfl, r42_11, r42_12, rfl, (zao (by omega) (by omega)), (by first | exact ⟨by omega, by omega, rr_new hI42.2.2.1 (by assumption), by rw [List.length_append]; omega⟩ | exact ⟨by omega, by omega, rr_old hI42.2.2.1 (by assumption), hI42.2.2.2⟩)⟩
   refine zau <| zad (l := [0, 1, 2, 3, 4]) rfl <| p_v (v := v_l) rfl rfl rfl (zag r42_10) <| p_v (v := .int .i64 (zdx all2 ([at_ (at_ a.next (at_ (at_ all i) (0 : Int))) k, at_ (at_ b.next (at_ (at_ all i) (1 : Int))) k] : List Int))) rfl rfl rfl (zag rfl) ?_
   obtain ⟨v100, w100, r100, g100, T100⟩ := za4 (kd := (Kd.int .i64)) (xs := ([zdx all2 ([at_ (at_ a.next (at_ (at_ all i) (0 : Int))) k, at_ (at_ b.next (at_ (at_ all i) (1 : Int))) k] : List Int)] : List Int)) (len := 1) [.int .i64 (zdx all2 ([at_ (at_ a.next (at_ (at_ all i) (0 : Int))) k, at_ (at_ b.next (at_ (at_ all i) (1 : Int))) k] : List Int))] S83 u23 ty3 rfl rfl rfl rfl rfl (zbi rfl zbq) [.int .i64 (zdx all2 ([at_ (at_ a.next (at_ (at_ all i) (0 : Int))) k, at_ (at_ b.next (at_ (at_ all i) (1 : Int))) k] : List Int))] (zcg.single (k := (Kd.int .i64)) (h := h42) (x := zdx all2 ([at_ (at_ a.next (at_ (at_ all i) (0 : Int))) k, at_ (at_ b.next (at_ (at_ all i) (1 : Int))) k] : List Int)) (cs := [.int .i64 (zdx all2 ([at_ (at_ a.next (at_ (at_ all i) (0 : Int))) k, at_ (at_ b.next (at_ (at_ all i) (1 : Int))) k] : List Int))]) ⟨rfl, in82_0⟩) rfl
   have S101 := T100
   dsimp only [lAa, lAn, lA0, lAs] at S101
   refine p_v (v := v100) rfl rfl rfl (zav (pv := [(0, .int .i64 (zdx all2 ([at_ (at_ a.next (at_ (at_ all i) (0 : Int))) k, at_ (at_ b.next (at_ (at_ all i) (1 : Int))) k] : List Int)))]) rfl r100) ?_
   obtain ⟨A103, c103, ev103, lc103, cm103⟩ := S101.row_val (j := 9) rfl
   obtain ⟨v104, w104, r104, g104, T104⟩ := zcd (kd := (Kd.int .i64)) (A := A103) (c := c103) (ys := ([zdx all2 ([at_ (at_ a.next (at_ (at_ all i) (0 : Int))) k, at_ (at_ b.next (at_ (at_ all i) (1 : Int))) k] : List Int)] : List Int)) (len := ([zdx all2 ([at_ (at_ a.next (at_ (at_ all i) (0 : Int))) k, at_ (at_ b.next (at_ (at_ all i) (1 : Int))) k] : List Int)] : List Int).length) 23 S101 u23 ty3 rfl rfl (j := 7) rfl rfl (zcl S101 (j := 9) rfl ev103) (by first|omega|(simp;omega)|assumption|simp) (by first|omega|(simp;omega)|assumption|simp)
   have S105 := T104.fx 7 (row 3 (Kd.int .i64) v104 (l ++ ([zdx all2 ([at_ (at_ a.next (at_ (at_ all i) (0 : Int))) k, at_ (at_ b.next (at_ (at_ all i) (1 : Int))) k] : List Int)] : List Int))) rfl
   dsimp only [lAa, lAn, lA0, lAs] at S105
   refine p_v (v := v104) rfl rfl rfl (zcc rfl ev103 r104) <| p_v (v := v104) rfl rfl rfl (zah rfl) <| zaa <| zat <| zad (l := [0, 1, 2]) rfl <| p_v (v := .int .i64 k) rfl rfl rfl (zag r42_13) <| p_v (v := .int .i64 (k + 1)) rfl rfl rfl (zct rfl rfl (zao (by omega) (by omega))) <| p_v (v := .int .i64 (k + 1)) rfl rfl rfl (zah rfl) <| zaa ?_
   refine ih42 (all2, l ++ ([zdx all2 ([at_ (at_ a.next (at_ (at_ all i) (0 : Int))) k, at_ (at_ b.next (at_ (at_ all i) (1 : Int))) k] : List Int)] : List Int), k + 1) _ _ (by dsimp only; omega) ⟨h42, v_all2, v104, le42, S105.sub [0, 1, 2, 3, 4, 5, 6, 7] (by decide) rfl _ rfl, r42_2, r42_3, r42_4, r42_6, r42_7, r42_8, r42_9, rfl, r42_11, r42_12, rfl, (zao (by omega) (by omega)), (by first | exact ⟨by omega, by omega, rr_new hI42.2.2.1 (by assumption), by rw [List.length_append]; omega⟩ | exact ⟨by omega, by omega, rr_old hI42.2.2.1 (by assumption), hI42.2.2.2⟩)⟩
  refine zbn rfl <| zab <| zad (l := [0, 1, 2, 3, 4, 5, 6]) rfl <| p_v (v := .pointer (some ⟨b17, 1, none⟩)) rfl rfl rfl (zan fd47_1 ty24 rfl r42_7) <| p_v (v := v_d_1) rfl rfl rfl (zal (seg := [v_d_1]) ty24 rfl (by simp) rfl (CF.box (m := 1) (S42.box_at (j := 3) rfl) rfl)) <| p_v (v := v_l) rfl rfl rfl (zag r42_10) ?_
  obtain ⟨h107, le107, T107, rp107⟩ := S42.freeze (i := 7) rfl
  have lf107_0 := (((((le24).trans le31)).trans le42)).trans le107
  have lf107_1 := (((le31).trans le42)).trans le107
  have lf107_2 := (le42).trans le107
  have S108 := T107.fx 7 (emp) rfl
  dsimp only [lAa, lAn, lA0, lAs] at S108
  obtain ⟨A107, c107, e107, lc107, cm107, ld107⟩ := rp107
  injection e107 with e107 _; subst e107
  have cn107 := cm107; simp only [maxLen] at cn107
  obtain ⟨v106, w106, r106, g106, T106⟩ := za4 (kd := (Kd.int .i64).slice) (xs := ([l] : List (List Int))) (len := 1) [.slice A107 l.length c107] S108 u24 ty23 rfl rfl rfl rfl rfl (zbi rfl zbq) [.slice A107 l.length c107] (zcg.single (k := (Kd.int .i64).slice) (h := h107) (x := l) (cs := [.slice A107 l.length c107]) ⟨_, _, rfl, (And.intro lc107 cm107).1, (And.intro lc107 cm107).2, ld107.mono (Le.refl _)⟩) rfl
  have S109 := T106
  dsimp only [lAa, lAn, lA0, lAs] at S109
  refine p_v (v := v106) rfl rfl rfl (zav (pv := [(0, .slice A107 l.length c107)]) rfl r106) ?_
  obtain ⟨A111, c111, ev111, lc111, cm111⟩ := S109.row_val (j := 8) rfl
  obtain ⟨v112, w112, r112, g112, T112⟩ := zcd (kd := (Kd.int .i64).slice) (A := A111) (c := c111) (ys := ([l] : List (List Int))) (len := ([l] : List (List Int)).length) 24 S109 u24 ty23 rfl rfl (j := 5) rfl rfl (zcl S109 (j := 8) rfl ev111) (by first|omega|(simp;omega)|assumption|simp) (by first|omega|(simp;omega)|assumption|simp)
  have S113 := T112.fx 5 (row 23 (Kd.int .i64).slice v112 (d_1 ++ ([l] : List (List Int)))) rfl
  dsimp only [lAa, lAn, lA0, lAs] at S113
  refine p_v (v := v112) rfl rfl rfl (zcc rfl ev111 r112) <| p_v (v := .pointer (some ⟨b17, 1, none⟩)) rfl rfl rfl (zan fd47_1 ty24 rfl r42_7) ?_
  have oc115 := zcu S113 (j := 5) rfl
  obtain ⟨w114, r114, g114, T114⟩ := zcb (P := Tryd.prog) (off := 1) (v := v112) (vs := [v112]) S113 ty24 (zcy S113 (j := 5) rfl) rfl (j := 3) rfl (by first | decide | exact Nat.le_of_ble_eq_true rfl) (zb0 oc115 zde)
  have S116 := T114.fx 3 (box b17 47 [.slice A0_0 a.least.length c0_0, v112, v_d_2]) rfl
  dsimp only [lAa, lAn, lA0, lAs] at S116
  refine p_s rfl rfl (zbh rfl rfl r114) <| zaa ?_
  obtain ⟨ad117, seg117, a117, rp117, ce117⟩ := zaz (q := at_ (at_ all i) (0 : Int)) (m := 1) l0_2 rfl (by omega) (by omega)
  obtain ⟨rfl, _⟩ := rp117
  obtain ⟨ad118, seg118, a118, rp118, ce118⟩ := zaz (q := at_ (at_ all i) (1 : Int)) (m := 1) l1_2 rfl (by omega) (by omega)
  obtain ⟨rfl, _⟩ := rp118
  have hf120 : (CFs ⟨b17, 2, none⟩ [v_d_2]).1 w114 := (CF.box (m := 1) (S116.box_at (j := 3) rfl) rfl)
  have hf121 : (CFs ⟨b11, 2, none⟩ [.slice A0_2 a.final.length c0_2]).1 w114 := (CF.box (m := 1) (S116.box_at (j := 0) rfl) rfl)
  have hf122 : (CFs ad117 [.bool (at_ a.final (at_ (at_ all i) (0 : Int)))]).1 w114 := (CF.ghost ce117 (St.le0 S116))
  have hf123 : (CFs ⟨b13, 2, none⟩ [.slice A1_2 b.final.length c1_2]).1 w114 := (CF.box (m := 1) (S116.box_at (j := 1) rfl) rfl)
  have hf124 : (CFs ad118 [.bool (at_ b.final (at_ (at_ all i) (1 : Int)))]).1 w114 := (CF.ghost ce118 (St.le0 S116))
  refine daS (hkC 1 hf120 (hkC 3 hf121 (hkC 6 hf122 (hkC 8 hf123 (hkC 11 hf124 (hkN (w := w114))))))) 18 rfl mixed ?_
  intro wd125 gd125 hd125
  have S126 := S116.keep gd125
  have hf127 := spUp gd125 hf120
  have hf128 := spUp gd125 hf121
  have hf129 := spUp gd125 hf122
  have hf130 := spUp gd125 hf123
  have hf131 := spUp gd125 hf124
  refine qd0 (i := 0) (v := .pointer (some ⟨b17, 2, none⟩)) rfl (by decide +kernel) rfl rfl (zan fd47_2 ty25 rfl r42_7) (zaj rfl) <| qd1 0 (i := 1) (v := v_d_2) rfl rfl (by decide +kernel) rfl rfl (fun wq hq => (zal (seg := [v_d_2]) ty25 rfl (by simp) rfl hq)) (za9 hf127 (zaj rfl)) <| qd0 (i := 2) (v := .pointer (some ⟨b11, 2, none⟩)) rfl (by decide +kernel) rfl rfl (zan fd47_2 ty25 rfl r42_3) (zaj rfl) <| qd1 1 (i := 3) (v := .slice A0_2 a.final.length c0_2) rfl rfl (by decide +kernel) rfl rfl (fun wq hq => (zal (seg := [.slice A0_2 a.final.length c0_2]) ty25 rfl (by simp) rfl hq)) (za1 rfl (za9 hf128 (zaj rfl))) <| qd0 (i := 4) (v := .int .i64 (at_ (at_ all i) (0 : Int))) rfl (by decide +kernel) rfl rfl (zag r42_11) (zaj rfl) <| qd0 (i := 5) (v := .pointer (some ad117)) rfl (by decide +kernel) rfl rfl (zaw u25 ty4 rfl rfl a117 (by omega) (by omega)) (zaj rfl) <| qd1 2 (i := 6) (v := .bool (at_ a.final (at_ (at_ all i) (0 : Int)))) rfl rfl (by decide +kernel) rfl rfl (fun wq hq => (zal (seg := [.bool (at_ a.final (at_ (at_ all i) (0 : Int)))]) ty4 rfl (by simp) rfl hq)) (za1 rfl (za1 rfl (za9 hf129 (zaj rfl)))) <| qd0 (i := 7) (v := .pointer (some ⟨b13, 2, none⟩)) rfl (by decide +kernel) rfl rfl (zan fd47_2 ty25 rfl r42_4) (zaj rfl) <| qd1 3 (i := 8) (v := .slice A1_2 b.final.length c1_2) rfl rfl (by decide +kernel) rfl rfl (fun wq hq => (zal (seg := [.slice A1_2 b.final.length c1_2]) ty25 rfl (by simp) rfl hq)) (za1 rfl (za1 rfl (za1 rfl (za9 hf130 (zaj rfl))))) <| qd0 (i := 9) (v := .int .i64 (at_ (at_ all i) (1 : Int))) rfl (by decide +kernel) rfl rfl (zag r42_12) (zaj rfl) <| qd0 (i := 10) (v := .pointer (some ad118)) rfl (by decide +kernel) rfl rfl (zaw u25 ty4 rfl rfl a118 (by omega) (by omega)) (zaj rfl) <| qd1 4 (i := 11) (v := .bool (at_ b.final (at_ (at_ all i) (1 : Int)))) rfl rfl (by decide +kernel) rfl rfl (fun wq hq => (zal (seg := [.bool (at_ b.final (at_ (at_ all i) (1 : Int)))]) ty4 rfl (by simp) rfl hq)) (za1 rfl (za1 rfl (za1 rfl (za1 rfl (za9 hf131 (zaj rfl)))))) ?_
  refine qd0 (i := 12) (v := .int .u8 n) rfl (by decide +kernel) rfl rfl (zag r42_2) (zaj rfl) <| d_m (i := 13) (v := .bool (howB (at_ a.final (at_ (at_ all i) (0 : Int))) (at_ b.final (at_ (at_ all i) (1 : Int))) n)) (fun _ => True) (fun _ ho => trivial) rfl (by decide +kernel) (by decide +kernel) (by decide +kernel) rfl rfl (fun wq => (za6 (args := [.bool (at_ a.final (at_ (at_ all i) (0 : Int))), .bool (at_ b.final (at_ (at_ all i) (1 : Int))), .int .u8 n]) ca97 rfl rfl)) (fun wq hq => (how11_calls wq (at_ a.final (at_ (at_ all i) (0 : Int))) (at_ b.final (at_ (at_ all i) (1 : Int))) n (zec (by omega) (by omega))).mono fun e w2 he => by obtain ⟨_, rfl, _, T, rfl⟩ := he; exact ⟨rfl, Chg.of_below T.below⟩) (zaj rfl) <| zby (i := 14) (by decide +kernel) ?_
  intro wd132 gd132
  have S133 := S126.keep gd132
  have hf134 := spUp gd132 hf127
  have hf135 := spUp gd132 hf128
  have hf136 := spUp gd132 hf129
  have hf137 := spUp gd132 hf130
  have hf138 := spUp gd132 hf131
  obtain ⟨v139, w139, r139, g139, T139⟩ := za4 (kd := Kd.bool) (xs := ([howB (at_ a.final (at_ (at_ all i) (0 : Int))) (at_ b.final (at_ (at_ all i) (1 : Int))) n] : List Bool)) (len := 1) [.bool (howB (at_ a.final (at_ (at_ all i) (0 : Int))) (at_ b.final (at_ (at_ all i) (1 : Int))) n)] S133 u25 ty4 rfl rfl rfl rfl rfl (zbi rfl zbq) [.bool (howB (at_ a.final (at_ (at_ all i) (0 : Int))) (at_ b.final (at_ (at_ all i) (1 : Int))) n)] (zcg.single (k := Kd.bool) (h := h107) (x := howB (at_ a.final (at_ (at_ all i) (0 : Int))) (at_ b.final (at_ (at_ all i) (1 : Int))) n) (cs := [.bool (howB (at_ a.final (at_ (at_ all i) (0 : Int))) (at_ b.final (at_ (at_ all i) (1 : Int))) n)]) ⟨rfl, trivial⟩) rfl
  have S140 := T139
  dsimp only [lAa, lAn, lA0, lAs] at S140
  have hf141 := spUp g139 hf134
  have hf142 := spUp g139 hf135
  have hf143 := spUp g139 hf136
  have hf144 := spUp g139 hf137
  have hf145 := spUp g139 hf138
  refine d_v (v := v139) rfl rfl rfl (zav (pv := [(0, .bool (howB (at_ a.final (at_ (at_ all i) (0 : Int))) (at_ b.final (at_ (at_ all i) (1 : Int))) n))]) rfl r139) (.inl g139) <| zby (i := 15) (by decide +kernel) ?_
  intro wd146 gd146
  have S147 := S140.keep gd146
  have hf148 := spUp gd146 hf141
  have hf149 := spUp gd146 hf142
  have hf150 := spUp gd146 hf143
  have hf151 := spUp gd146 hf144
  have hf152 := spUp gd146 hf145
  obtain ⟨A154, c154, ev154, lc154, cm154⟩ := S147.row_val (j := 9) rfl
  obtain ⟨v155, w155, r155, g155, T155⟩ := zcd (kd := Kd.bool) (A := A154) (c := c154) (ys := ([howB (at_ a.final (at_ (at_ all i) (0 : Int))) (at_ b.final (at_ (at_ all i) (1 : Int))) n] : List Bool)) (len := ([howB (at_ a.final (at_ (at_ all i) (0 : Int))) (at_ b.final (at_ (at_ all i) (1 : Int))) n] : List Bool).length) 25 S147 u25 ty4 rfl rfl (j := 6) rfl rfl (zcl S147 (j := 9) rfl ev154) (by first|omega|(simp;omega)|assumption|simp) (by first|omega|(simp;omega)|assumption|simp)
  have S156 := T155.fx 6 (row 4 Kd.bool v155 (d_2 ++ ([howB (at_ a.final (at_ (at_ all i) (0 : Int))) (at_ b.final (at_ (at_ all i) (1 : Int))) n] : List Bool))) rfl
  dsimp only [lAa, lAn, lA0, lAs] at S156
  have hf157 : (CFs ⟨b17, 2, none⟩ [v_d_2]).1 w155 := (CF.box (m := 1) (S156.box_at (j := 3) rfl) rfl)
  have hf158 : (CFs ⟨b11, 2, none⟩ [.slice A0_2 a.final.length c0_2]).1 w155 := (CF.box (m := 1) (S156.box_at (j := 0) rfl) rfl)
  have hf159 : (CFs ad117 [.bool (at_ a.final (at_ (at_ all i) (0 : Int)))]).1 w155 := (CF.ghost ce117 (St.le0 S156))
  have hf160 : (CFs ⟨b13, 2, none⟩ [.slice A1_2 b.final.length c1_2]).1 w155 := (CF.box (m := 1) (S156.box_at (j := 1) rfl) rfl)
  have hf161 : (CFs ad118 [.bool (at_ b.final (at_ (at_ all i) (1 : Int)))]).1 w155 := (CF.ghost ce118 (St.le0 S156))
  refine d_v (v := v155) rfl rfl rfl (zcc rfl ev154 r155) (.inr (zba (by decide +kernel) (zbv hf158 (zbv hf159 (zbv hf160 (zbv hf161 trivial)))))) <| qd0 (i := 16) (v := .pointer (some ⟨b17, 2, none⟩)) rfl (by decide +kernel) rfl rfl (zan fd47_2 ty25 rfl r42_7) (zaj rfl) <| zby (i := 17) (by decide +kernel) ?_
  intro wd162 gd162
  have S163 := S156.keep gd162
  have hf164 := spUp gd162 hf157
  have hf165 := spUp gd162 hf158
  have hf166 := spUp gd162 hf159
  have hf167 := spUp gd162 hf160
  have hf168 := spUp gd162 hf161
  have oc170 := zcu S163 (j := 6) rfl
  obtain ⟨w169, r169, g169, T169⟩ := zcb (P := Tryd.prog) (off := 2) (v := v155) (vs := [v155]) S163 ty25 (zcy S163 (j := 6) rfl) rfl (j := 3) rfl (by first | decide | exact Nat.le_of_ble_eq_true rfl) (zb0 oc170 zde)
  have S171 := T169.fx 3 (box b17 47 [.slice A0_0 a.least.length c0_0, v112, v155]) rfl
  dsimp only [lAa, lAn, lA0, lAs] at S171
  have hf172 : (CFs ⟨b11, 2, none⟩ [.slice A0_2 a.final.length c0_2]).1 w169 := (CF.box (m := 1) (S171.box_at (j := 0) rfl) rfl)
  have hf173 : (CFs ad117 [.bool (at_ a.final (at_ (at_ all i) (0 : Int)))]).1 w169 := (CF.ghost ce117 (St.le0 S171))
  have hf174 : (CFs ⟨b13, 2, none⟩ [.slice A1_2 b.final.length c1_2]).1 w169 := (CF.box (m := 1) (S171.box_at (j := 1) rfl) rfl)
  have hf175 : (CFs ad118 [.bool (at_ b.final (at_ (at_ all i) (1 : Int)))]).1 w169 := (CF.ghost ce118 (St.le0 S171))
  refine d_s rfl rfl (zbh rfl rfl r169) (.inr (zba (by decide +kernel) (zba (by decide +kernel) (zba (by decide +kernel) (zba (by decide +kernel) (zba (by decide +kernel) trivial)))))) <| zb3 (by decide +kernel) ?_
  intro wd176 gd176
  have S177 := S171.keep gd176
  refine zat <| zad (l := [0, 1, 2]) rfl <| p_v (v := .int .i64 i) rfl rfl rfl (zag r42_9) <| p_v (v := .int .i64 (i + 1)) rfl rfl rfl (zct rfl rfl (zao (by omega) (by omega))) <| p_v (v := .int .i64 (i + 1)) rfl rfl rfl (zah rfl) <| zaa ?_
  refine ih31 (all2, d_1 ++ ([l] : List (List Int)), d_2 ++ ([howB (at_ a.final (at_ (at_ all i) (0 : Int))) (at_ b.final (at_ (at_ all i) (1 : Int))) n] : List Bool), i + 1) _ _ (by dsimp only; omega) ⟨h107, v_all2, v112, v155, lf107_1, S177.sub [0, 1, 2, 3, 4, 5, 6] (by decide) rfl _ rfl, r42_2, r42_3, r42_4, r42_6, r42_7, r42_8, rfl, (zao (by omega) (by omega)), (by exact made_next hI31 (by omega) (zdm hI31.lo (by omega)) (by have hz_ := hI42.2.2.1; rw [show k = (a.least.length : Int) by omega] at hz_; exact hz_))⟩
 refine zbn rfl <| zab <| zad (l := [0, 1]) rfl <| p_v (v := .agg #[.slice A0_0 a.least.length c0_0, v_d_1, v_d_2]) rfl rfl rfl (zal (seg := [.slice A0_0 a.least.length c0_0, v_d_1, v_d_2]) ty47 rfl (by simp) r31_7 (CF.box (m := 3) (S31.box_at (j := 3) rfl) rfl)) ?_
 have oc179 := zcu S31 (j := 5) rfl
 have oc180 := zcu S31 (j := 6) rfl
 obtain ⟨w178, r178, g178, T178⟩ := zcb (P := Tryd.prog) (off := 0) (v := .agg #[.slice A0_0 a.least.length c0_0, v_d_1, v_d_2]) (vs := [.slice A0_0 a.least.length c0_0, v_d_1, v_d_2]) S31 ty47 rfl rfl (j := 2) rfl (by first | decide | exact Nat.le_of_ble_eq_true rfl) (zb0 rfl (zb0 oc179 (zb0 oc180 zde)))
 have S181 := T178.fx 2 (box b15 47 [.slice A0_0 a.least.length c0_0, v_d_1, v_d_2]) rfl
 dsimp only [lAa, lAn, lA0, lAs] at S181
 refine p_s rfl rfl (zbh r31_6 rfl r178) <| zaa <| zar Tryd.func32 (res1 rfl (zcv S181 ty47 r31_6 (j := 2) rfl rfl (by simp) rfl)) ?_
 have q0 : ((refO a b n).next : List (List Int)) = d_1 := by
  exact (refO_end hI31 (by omega)).1
 have q1 : ((refO a b n).final : List Bool) = d_2 := by
  exact (refO_end hI31 (by omega)).2
 refine ⟨_, rfl, h31, v_d_1, v_d_2, ?_, ?_⟩
 · rw [q0]; rw [q1]; exact S181.sub [5, 6] (by decide) rfl _ rfl
 · rfl
theorem sameR_calls (w : World) (a : RefD) (A0_0 : Option Addr) (c0_0 : Nat) (b0_0 : a.least.length ≤ c0_0 ∧ c0_0 ≤ maxLen) (l0_0 : zbe (Kd.int .u8) (hp w) A0_0 a.least) (A0_1 : Option Addr) (c0_1 : Nat) (b0_1 : a.next.length ≤ c0_1 ∧ c0_1 ≤ maxLen) (l0_1 : zbe (Kd.int .i64).slice (hp w) A0_1 a.next) (A0_2 : Option Addr) (c0_2 : Nat) (b0_2 : a.final.length ≤ c0_2 ∧ c0_2 ≤ maxLen) (l0_2 : zbe Kd.bool (hp w) A0_2 a.final) (b : RefD) (A1_0 : Option Addr) (c1_0 : Nat) (b1_0 : b.least.length ≤ c1_0 ∧ c1_0 ≤ maxLen) (l1_0 : zbe (Kd.int .u8) (hp w) A1_0 b.least) (A1_1 : Option Addr) (c1_1 : Nat) (b1_1 : b.next.length ≤ c1_1 ∧ c1_1 ≤ maxLen) (l1_1 : zbe (Kd.int .i64).slice (hp w) A1_1 b.next) (A1_2 : Option Addr) (c1_2 : Nat) (b1_2 : b.final.length ≤ c1_2 ∧ c1_2 ≤ maxLen) (l1_2 : zbe Kd.bool (hp w) A1_2 b.final) :
    Calls Tryd.prog 30 #[.agg #[.slice A0_0 a.least.length c0_0, .slice A0_1 a.next.length c0_1, .slice A0_2 a.final.length c0_2], .agg #[.slice A1_0 b.least.length c1_0, .slice A1_1 b.next.length c1_1, .slice A1_2 b.final.length c1_2]] w fun e w' => ∃ v, e = .returned v ∧ ∃ (hn : Ghost), St w.heap.size w hn w' [] ∧ v = .bool (zeo a b) := by
 refine zaq Tryd.func30 rfl Tryd.ntmps30 rfl ?_
 have S0 := St.init w
 have bb0_0 := b0_0.1; have bc0_0 := b0_0.2; simp only [maxLen] at bc0_0
 have bb0_1 := b0_1.1; have bc0_1 := b0_1.2; simp only [maxLen] at bc0_1
 have bb0_2 := b0_2.1; have bc0_2 := b0_2.2; simp only [maxLen] at bc0_2
 have bb1_0 := b1_0.1; have bc1_0 := b1_0.2; simp only [maxLen] at bc1_0
 have bb1_1 := b1_1.1; have bc1_1 := b1_1.2; simp only [maxLen] at bc1_1
 have bb1_2 := b1_2.1; have bc1_2 := b1_2.2; simp only [maxLen] at bc1_2
 refine zab <| zad (l := [0, 1, 2]) rfl ?_
 obtain ⟨b11, w11, r11, g11, T11⟩ := zb2 (P := Tryd.prog) S0 47 (v := .agg #[.slice A0_0 a.least.length c0_0, .slice A0_1 a.next.length c0_1, .slice A0_2 a.final.length c0_2]) [.slice A0_0 a.least.length c0_0, .slice A0_1 a.next.length c0_1, .slice A0_2 a.final.length c0_2] rfl
 have S12 := T11
 dsimp only [lAa, lAn, lA0, lAs] at S12
 refine p_v (v := .pointer (some ⟨b11, 0, none⟩)) rfl rfl rfl (zc8 rfl r11) ?_
 obtain ⟨b13, w13, r13, g13, T13⟩ := zb2 (P := Tryd.prog) S12 47 (v := .agg #[.slice A1_0 b.least.length c1_0, .slice A1_1 b.next.length c1_1, .slice A1_2 b.final.length c1_2]) [.slice A1_0 b.least.length c1_0, .slice A1_1 b.next.length c1_1, .slice A1_2 b.final.length c1_2] rfl
 have S14 := T13
 dsimp only [lAa, lAn, lA0, lAs] at S14
 refine p_v (v := .pointer (some ⟨b13, 0, none⟩)) rfl rfl rfl (zc8 rfl r13) <| p_v (v := .bool false) rfl rfl rfl (zah rfl) <| zaa <| zab <| zab <| zad (l := [0, 1, 2, 3, 4, 5, 6, 7, 8, 9, 10, 11, 12, 13, 14, 15]) rfl <| p_v (v := .pointer (some ⟨b11, 1, none⟩)) rfl rfl rfl (zan fd47_1 ty24 rfl rfl) <| p_v (v := .slice A0_1 a.next.length c0_1) rfl rfl rfl (zal (seg := [.slice A0_1 a.next.length c0_1]) ty24 rfl (by simp) rfl (CF.box (m := 1) (S14.box_at (j := 0) rfl) rfl)) <| p_v (v := .int .i64 (a.next.length : Int)) rfl rfl rfl (za0 u24 rfl) <| p_v (v := .pointer (some ⟨b13, 1, none⟩)) rfl rfl rfl (zan fd47_1 ty24 rfl rfl) <| p_v (v := .slice A1_1 b.next.length c1_1) rfl rfl rfl (zal (seg := [.slice A1_1 b.next.length c1_1]) ty24 rfl (by simp) rfl (CF.box (m := 1) (S14.box_at (j := 1) rfl) rfl)) <| p_v (v := .int .i64 (b.next.length : Int)) rfl rfl rfl (za0 u24 rfl) ?_
 refine p_v (v := .bool (decide ((a.next.length : Int) ≠ (b.next.length : Int)))) rfl rfl rfl (x_neq rfl rfl) <| p_v (v := .bool (decide ((a.next.length : Int) ≠ (b.next.length : Int)))) rfl rfl rfl (zag rfl) ?_
 by_cases hc15 : (a.next.length : Int) ≠ (b.next.length : Int)
 ·skip
  refine za2 rfl (wo 7 14 rfl rfl (bT hc15) rfl) rfl <| za2 rfl (wo 7 14 rfl rfl (bT hc15) rfl) rfl <| za2 rfl (wo 7 14 rfl rfl (bT hc15) rfl) rfl <| za2 rfl (wo 7 14 rfl rfl (bT hc15) rfl) rfl <| za2 rfl (wo 7 14 rfl rfl (bT hc15) rfl) rfl <| za2 rfl (wo 7 14 rfl rfl (bT hc15) rfl) rfl <| za2 rfl (wo 7 14 rfl rfl (bT hc15) rfl) rfl <| p_v (v := .bool true) rfl rfl rfl (za5 (bT hc15) rfl) <| zaa <| zb4 (b := true) rfl ?_
  simp only [if_true, if_false, Bool.false_eq_true]
  refine zab <| zad (l := [0]) rfl <| p_v (v := .bool false) rfl rfl rfl (zah rfl) <| zaa <| zar Tryd.func30 (res1 rfl (zax (v := .bool false) rfl)) ?_
  have q0 : (zeo a b : Bool) = false := by
   exact sameR_1 (by assumption)
  refine ⟨_, rfl, (fun _ => none), ?_, ?_⟩
  · exact S14.sub [] (by decide) rfl _ rfl
  · first | rfl | (simp only [q0]; rfl) | (simp only [q0])
 refine p_v (v := .pointer (some ⟨b11, 2, none⟩)) rfl (wo 7 14 rfl rfl (bF hc15) rfl) rfl (zan fd47_2 ty25 rfl rfl) <| p_v (v := .slice A0_2 a.final.length c0_2) rfl (wo 7 14 rfl rfl (bF hc15) rfl) rfl (zal (seg := [.slice A0_2 a.final.length c0_2]) ty25 rfl (by simp) rfl (CF.box (m := 1) (S14.box_at (j := 0) rfl) rfl)) <| p_v (v := .int .i64 (a.final.length : Int)) rfl (wo 7 14 rfl rfl (bF hc15) rfl) rfl (za0 u25 rfl) <| p_v (v := .pointer (some ⟨b13, 2, none⟩)) rfl (wo 7 14 rfl rfl (bF hc15) rfl) rfl (zan fd47_2 ty25 rfl rfl) <| p_v (v := .slice A1_2 b.final.length c1_2) rfl (wo 7 14 rfl rfl (bF hc15) rfl) rfl (zal (seg := [.slice A1_2 b.final.length c1_2]) ty25 rfl (by simp) rfl (CF.box (m := 1) (S14.box_at (j := 1) rfl) rfl)) <| p_v (v := .int .i64 (b.final.length : Int)) rfl (wo 7 14 rfl rfl (bF hc15) rfl) rfl (za0 u25 rfl) <| p_v (v := .bool (decide ((a.final.length : Int) ≠ (b.final.length : Int)))) rfl (wo 7 14 rfl rfl (bF hc15) rfl) rfl (x_neq rfl rfl) <| p_v (v := .bool (decide ((a.final.length : Int) ≠ (b.final.length : Int)))) rfl rfl rfl (zbk (bF hc15) rfl) <| zaa ?_
 refine zap (p := (a.final.length : Int) ≠ (b.final.length : Int)) rfl (fun hc16 => ?_) (fun hc16 => ?_)
 ·skip
  refine zab <| zad (l := [0]) rfl <| p_v (v := .bool false) rfl rfl rfl (zah rfl) <| zaa <| zar Tryd.func30 (res1 rfl (zax (v := .bool false) rfl)) ?_
  have q0 : (zeo a b : Bool) = false := by
   exact sameR_2 (by assumption)
  refine ⟨_, rfl, (fun _ => none), ?_, ?_⟩
  · exact S14.sub [] (by decide) rfl _ rfl
  · first | rfl | (simp only [q0]; rfl) | (simp only [q0])
 refine zau <| zab <| zab <| zad (l := [0]) rfl <| p_v (v := .int .i64 0) rfl rfl rfl (zah rfl) <| zaa <| zas <| zbo (S := Int) (fun (q_ : Int) ρ w' => match q_ with | i => ∃ (h : Ghost), Le (fun _ => none) h ∧ St w.heap.size w h w' [box b11 47 [.slice A0_0 a.least.length c0_0, .slice A0_1 a.next.length c0_1, .slice A0_2 a.final.length c0_2], box b13 47 [.slice A1_0 b.least.length c1_0, .slice A1_1 b.next.length c1_1, .slice A1_2 b.final.length c1_2]] ∧ ρ 2 = .pointer (some ⟨b11, 0, none⟩) ∧ ρ 3 = .pointer (some ⟨b13, 0, none⟩) ∧ ρ 5 = .int .i64 i ∧ inK .i64 i ∧ (0 ≤ i ∧ i ≤ (a.next.length : Int) ∧ a.next.take i.toNat = b.next.take i.toNat)) (fun q_ => match q_ with | i => (a.next.length - i).toNat) (0) ⟨(fun _ => none), Le.refl _, S14.sub [0, 1] (by decide) rfl _ rfl, rfl, rfl, rfl, (zao (by omega) (by omega)), (by exact ⟨by omega, by omega, rfl⟩)⟩ ?_
 rintro i ih17 ρ17 w17 ⟨h17, le17, S17, r17_2, r17_3, r17_5, f17_0, hI17⟩
 have lf17_0 := za7 f17_0; have hf17_0 := za8 f17_0
 refine zab <| zab <| zad (l := [0, 1, 2, 3, 4]) rfl <| p_v (v := .int .i64 i) rfl rfl rfl (zag r17_5) <| p_v (v := .pointer (some ⟨b11, 1, none⟩)) rfl rfl rfl (zan fd47_1 ty24 rfl r17_2) <| p_v (v := .slice A0_1 a.next.length c0_1) rfl rfl rfl (zal (seg := [.slice A0_1 a.next.length c0_1]) ty24 rfl (by simp) rfl (CF.box (m := 1) (S17.box_at (j := 0) rfl) rfl)) <| p_v (v := .int .i64 (a.next.length : Int)) rfl rfl rfl (za0 u24 rfl) <| p_v (v := .bool (decide (i < (a.next.length : Int)))) rfl rfl rfl (zdc rfl rfl) <| zaa ?_
 refine zap (p := i < (a.next.length : Int)) rfl (fun hc18 => ?_) (fun hc18 => ?_)
 ·skip
  refine zau <| zab <| zas <| zab ?_
  obtain ⟨ad19, seg19, a19, rp19, ce19⟩ := zaz (q := i) (m := 1) l0_1 rfl (by omega) (by omega)
  obtain ⟨A19, c19, rfl, lc19, cm19, ld19⟩ := rp19
  have cn19 := cm19; simp only [maxLen] at cn19
  obtain ⟨ad20, seg20, a20, rp20, ce20⟩ := zaz (q := i) (m := 1) l1_1 rfl (by omega) (by omega)
  obtain ⟨A20, c20, rfl, lc20, cm20, ld20⟩ := rp20
  have cn20 := cm20; simp only [maxLen] at cn20
  have hf22 : (CFs ⟨b11, 1, none⟩ [.slice A0_1 a.next.length c0_1]).1 w17 := (CF.box (m := 1) (S17.box_at (j := 0) rfl) rfl)
  have hf23 : (CFs ad19 [.slice A19 (at_ a.next i).length c19]).1 w17 := (CF.ghost ce19 (St.le0 S17))
  have hf24 : (CFs ⟨b13, 1, none⟩ [.slice A1_1 b.next.length c1_1]).1 w17 := (CF.box (m := 1) (S17.box_at (j := 1) rfl) rfl)
  have hf25 : (CFs ad20 [.slice A20 (at_ b.next i).length c20]).1 w17 := (CF.ghost ce20 (St.le0 S17))
  have hf26 : (zbx (Kd.int .i64) A19 (at_ a.next i)).1 w17 := (ld19.mono (St.le0 S17))
  have hf27 : (zbx (Kd.int .i64) A20 (at_ b.next i)).1 w17 := (ld20.mono (St.le0 S17))
  refine daS (hkC 1 hf22 (hkC 4 hf23 (hkC 6 hf24 (hkC 9 hf25 (hkC 10 hf26 (hkC 10 hf27 (hkN (w := w17)))))))) 12 rfl mixed ?_
  intro wd28 gd28 hd28
  have S29 := S17.keep gd28
  have hf30 := spUp gd28 hf22
  have hf31 := spUp gd28 hf23
  have hf32 := spUp gd28 hf24
  have hf33 := spUp gd28 hf25
  have hf34 := spUp gd28 hf26
  have hf35 := spUp gd28 hf27
  refine qd0 (i := 0) (v := .pointer (some ⟨b11, 1, none⟩)) rfl (by decide +kernel) rfl rfl (zan fd47_1 ty24 rfl r17_2) (zaj rfl) <| qd1 0 (i := 1) (v := .slice A0_1 a.next.length c0_1) rfl rfl (by decide +kernel) rfl rfl (fun wq hq => (zal (seg := [.slice A0_1 a.next.length c0_1]) ty24 rfl (by simp) rfl hq)) (za9 hf30 (zaj rfl)) <| qd0 (i := 2) (v := .int .i64 i) rfl (by decide +kernel) rfl rfl (zag r17_5) (zaj rfl) <| qd0 (i := 3) (v := .pointer (some ad19)) rfl (by decide +kernel) rfl rfl (zaw u24 ty23 rfl rfl a19 (by omega) (by omega)) (zaj rfl) <| qd1 1 (i := 4) (v := .slice A19 (at_ a.next i).length c19) rfl rfl (by decide +kernel) rfl rfl (fun wq hq => (zal (seg := [.slice A19 (at_ a.next i).length c19]) ty23 rfl (by simp) rfl hq)) (za1 rfl (za9 hf31 (zaj rfl))) <| qd0 (i := 5) (v := .pointer (some ⟨b13, 1, none⟩)) rfl (by decide +kernel) rfl rfl (zan fd47_1 ty24 rfl r17_3) (zaj rfl) <| qd1 2 (i := 6) (v := .slice A1_1 b.next.length c1_1) rfl rfl (by decide +kernel) rfl rfl (fun wq hq => (zal (seg := [.slice A1_1 b.next.length c1_1]) ty24 rfl (by simp) rfl hq)) (za1 rfl (za1 rfl (za9 hf32 (zaj rfl)))) <| qd0 (i := 7) (v := .int .i64 i) rfl (by decide +kernel) rfl rfl (zag r17_5) (zaj rfl) <| qd0 (i := 8) (v := .pointer (some ad20)) rfl (by decide +kernel) rfl rfl (zaw u24 ty23 rfl rfl a20 (by omega) (by omega)) (zaj rfl) <| qd1 3 (i := 9) (v := .slice A20 (at_ b.next i).length c20) rfl rfl (by decide +kernel) rfl rfl (fun wq hq => (zal (seg := [.slice A20 (at_ b.next i).length c20]) ty23 rfl (by simp) rfl hq)) (za1 rfl (za1 rfl (za1 rfl (za9 hf33 (zaj rfl))))) <| d_m (i := 10) (v := .bool (decide ((at_ a.next i) = (at_ b.next i)))) (fun wf => zbe (Kd.int .i64) (hp wf) A19 (at_ a.next i) ∧ zbe (Kd.int .i64) (hp wf) A20 (at_ b.next i)) (fun _ ho => ⟨ho _ (List.mem_of_getElem? (i := 4) rfl) rfl, ho _ (List.mem_of_getElem? (i := 5) rfl) rfl⟩) rfl (by decide +kernel) (by decide +kernel) (by decide +kernel) rfl rfl (fun wq => (za6 (args := [.slice A19 (at_ a.next i).length c19, .slice A20 (at_ b.next i).length c20]) ca96 rfl rfl)) (fun wq hq => (same11_calls wq (at_ a.next i) A19 c19 (And.intro lc19 cm19) hq.1 (at_ b.next i) A20 c20 (And.intro lc20 cm20) hq.2).mono fun e w2 he => by obtain ⟨_, rfl, _, T, rfl⟩ := he; exact ⟨rfl, Chg.of_below T.below⟩) (za1 rfl (za1 rfl (za1 rfl (za1 rfl (za9 hf34 (za9 hf35 (zaj rfl))))))) <| qd0 (i := 11) (v := .bool (!(decide ((at_ a.next i) = (at_ b.next i))))) rfl (by decide +kernel) rfl rfl (ze2 rfl) (zaj rfl) ?_
  refine zb3 (by decide +kernel) ?_
  intro wd36 gd36
  have S37 := S29.keep gd36
  refine zch (b := decide ((at_ a.next i) = (at_ b.next i))) rfl (fun hc38 => ?_) (fun hc38 => ?_)
  ·skip
   refine zab <| zad (l := [0]) rfl <| p_v (v := .bool false) rfl rfl rfl (zah rfl) <| zaa <| zar Tryd.func30 (res1 rfl (zax (v := .bool false) rfl)) ?_
   have q0 : (zeo a b : Bool) = false := by
    exact sameR_3 (i := i) (of_decide_eq_false (by assumption))
   refine ⟨_, rfl, h17, ?_, ?_⟩
   · exact S37.sub [] (by decide) rfl _ rfl
   · first | rfl | (simp only [q0]; rfl) | (simp only [q0])
  refine zau <| zat <| zad (l := [0, 1, 2]) rfl <| p_v (v := .int .i64 i) rfl rfl rfl (zag r17_5) <| p_v (v := .int .i64 (i + 1)) rfl rfl rfl (zct rfl rfl (zao (by omega) (by omega))) <| p_v (v := .int .i64 (i + 1)) rfl rfl rfl (zah rfl) <| zaa ?_
  refine ih17 (i + 1) _ _ (by dsimp only; omega) ⟨h17, le17, S37.sub [0, 1] (by decide) rfl _ rfl, r17_2, r17_3, rfl, (zao (by omega) (by omega)), (by exact ⟨by omega, by omega, eq_step hI17.1 (by omega) (by omega) hI17.2.2 (of_decide_eq_true (by assumption))⟩)⟩
 refine zbn rfl <| zab <| zab <| zad (l := [0]) rfl <| p_v (v := .int .i64 0) rfl rfl rfl (zah rfl) <| zaa <| zas <| zbo (S := Int) (fun (q_ : Int) ρ w' => match q_ with | i2 => ∃ (h : Ghost), Le h17 h ∧ St w.heap.size w h w' [box b11 47 [.slice A0_0 a.least.length c0_0, .slice A0_1 a.next.length c0_1, .slice A0_2 a.final.length c0_2], box b13 47 [.slice A1_0 b.least.length c1_0, .slice A1_1 b.next.length c1_1, .slice A1_2 b.final.length c1_2]] ∧ ρ 2 = .pointer (some ⟨b11, 0, none⟩) ∧ ρ 3 = .pointer (some ⟨b13, 0, none⟩) ∧ ρ 6 = .int .i64 i2 ∧ inK .i64 i2 ∧ (0 ≤ i2 ∧ i2 ≤ (a.final.length : Int) ∧ a.final.take i2.toNat = b.final.take i2.toNat)) (fun q_ => match q_ with | i2 => (a.final.length - i2).toNat) (0) ⟨h17, Le.refl _, S17.sub [0, 1] (by decide) rfl _ rfl, r17_2, r17_3, rfl, (zao (by omega) (by omega)), (by exact ⟨by omega, by omega, rfl⟩)⟩ ?_
 rintro i2 ih39 ρ39 w39 ⟨h39, le39, S39, r39_2, r39_3, r39_6, f39_0, hI39⟩
 have lf39_0 := za7 f39_0; have hf39_0 := za8 f39_0
 refine zab <| zab <| zad (l := [0, 1, 2, 3, 4]) rfl <| p_v (v := .int .i64 i2) rfl rfl rfl (zag r39_6) <| p_v (v := .pointer (some ⟨b11, 2, none⟩)) rfl rfl rfl (zan fd47_2 ty25 rfl r39_2) <| p_v (v := .slice A0_2 a.final.length c0_2) rfl rfl rfl (zal (seg := [.slice A0_2 a.final.length c0_2]) ty25 rfl (by simp) rfl (CF.box (m := 1) (S39.box_at (j := 0) rfl) rfl)) <| p_v (v := .int .i64 (a.final.length : Int)) rfl rfl rfl (za0 u25 rfl) <| p_v (v := .bool (decide (i2 < (a.final.length : Int)))) rfl rfl rfl (zdc rfl rfl) <| zaa ?_
 refine zap (p := i2 < (a.final.length : Int)) rfl (fun hc40 => ?_) (fun hc40 => ?_)
 ·skip
  refine zau <| zab <| zas <| zab ?_
  obtain ⟨ad41, seg41, a41, rp41, ce41⟩ := zaz (q := i2) (m := 1) l0_2 rfl (by omega) (by omega)
  obtain ⟨rfl, _⟩ := rp41
  obtain ⟨ad42, seg42, a42, rp42, ce42⟩ := zaz (q := i2) (m := 1) l1_2 rfl (by omega) (by omega)
  obtain ⟨rfl, _⟩ := rp42
  have hf43 : (CFs ⟨b11, 2, none⟩ [.slice A0_2 a.final.length c0_2]).1 w39 := (CF.box (m := 1) (S39.box_at (j := 0) rfl) rfl)
  have hf44 : (CFs ad41 [.bool (at_ a.final i2)]).1 w39 := (CF.ghost ce41 (St.le0 S39))
  have hf45 : (CFs ⟨b13, 2, none⟩ [.slice A1_2 b.final.length c1_2]).1 w39 := (CF.box (m := 1) (S39.box_at (j := 1) rfl) rfl)
  have hf46 : (CFs ad42 [.bool (at_ b.final i2)]).1 w39 := (CF.ghost ce42 (St.le0 S39))
  refine daS (hkC 1 hf43 (hkC 4 hf44 (hkC 6 hf45 (hkC 9 hf46 (hkN (w := w39)))))) 11 rfl mixed ?_
  intro wd47 gd47 hd47
  have S48 := S39.keep gd47
  have hf49 := spUp gd47 hf43
  have hf50 := spUp gd47 hf44
  have hf51 := spUp gd47 hf45
  have hf52 := spUp gd47 hf46
  refine qd0 (i := 0) (v := .pointer (some ⟨b11, 2, none⟩)) rfl (by decide +kernel) rfl rfl (zan fd47_2 ty25 rfl r39_2) (zaj rfl) <| qd1 0 (i := 1) (v := .slice A0_2 a.final.length c0_2) rfl rfl (by decide +kernel) rfl rfl (fun wq hq => (zal (seg := [.slice A0_2 a.final.length c0_2]) ty25 rfl (by simp) rfl hq)) (za9 hf49 (zaj rfl)) <| qd0 (i := 2) (v := .int .i64 i2) rfl (by decide +kernel) rfl rfl (zag r39_6) (zaj rfl) <| qd0 (i := 3) (v := .pointer (some ad41)) rfl (by decide +kernel) rfl rfl (zaw u25 ty4 rfl rfl a41 (by omega) (by omega)) (zaj rfl) <| qd1 1 (i := 4) (v := .bool (at_ a.final i2)) rfl rfl (by decide +kernel) rfl rfl (fun wq hq => (zal (seg := [.bool (at_ a.final i2)]) ty4 rfl (by simp) rfl hq)) (za1 rfl (za9 hf50 (zaj rfl))) <| qd0 (i := 5) (v := .pointer (some ⟨b13, 2, none⟩)) rfl (by decide +kernel) rfl rfl (zan fd47_2 ty25 rfl r39_3) (zaj rfl) <| qd1 2 (i := 6) (v := .slice A1_2 b.final.length c1_2) rfl rfl (by decide +kernel) rfl rfl (fun wq hq => (zal (seg := [.slice A1_2 b.final.length c1_2]) ty25 rfl (by simp) rfl hq)) (za1 rfl (za1 rfl (za9 hf51 (zaj rfl)))) <| qd0 (i := 7) (v := .int .i64 i2) rfl (by decide +kernel) rfl rfl (zag r39_6) (zaj rfl) <| qd0 (i := 8) (v := .pointer (some ad42)) rfl (by decide +kernel) rfl rfl (zaw u25 ty4 rfl rfl a42 (by omega) (by omega)) (zaj rfl) <| qd1 3 (i := 9) (v := .bool (at_ b.final i2)) rfl rfl (by decide +kernel) rfl rfl (fun wq hq => (zal (seg := [.bool (at_ b.final i2)]) ty4 rfl (by simp) rfl hq)) (za1 rfl (za1 rfl (za1 rfl (za9 hf52 (zaj rfl))))) <| qd0 (i := 10) (v := .bool (decide ((at_ a.final i2) ≠ (at_ b.final i2)))) rfl (by decide +kernel) rfl rfl (zfc u4 rfl rfl) (zaj rfl) <| zb3 (by decide +kernel) ?_
  intro wd53 gd53
  have S54 := S48.keep gd53
  refine zap (p := (at_ a.final i2) ≠ (at_ b.final i2)) rfl (fun hc55 => ?_) (fun hc55 => ?_)
  ·skip
   refine zab <| zad (l := [0]) rfl <| p_v (v := .bool false) rfl rfl rfl (zah rfl) <| zaa <| zar Tryd.func30 (res1 rfl (zax (v := .bool false) rfl)) ?_
   have q0 : (zeo a b : Bool) = false := by
    exact sameR_4 (i := i2) (by assumption)
   refine ⟨_, rfl, h39, ?_, ?_⟩
   · exact S54.sub [] (by decide) rfl _ rfl
   · first | rfl | (simp only [q0]; rfl) | (simp only [q0])
  refine zau <| zat <| zad (l := [0, 1, 2]) rfl <| p_v (v := .int .i64 i2) rfl rfl rfl (zag r39_6) <| p_v (v := .int .i64 (i2 + 1)) rfl rfl rfl (zct rfl rfl (zao (by omega) (by omega))) <| p_v (v := .int .i64 (i2 + 1)) rfl rfl rfl (zah rfl) <| zaa ?_
  refine ih39 (i2 + 1) _ _ (by dsimp only; omega) ⟨h39, le39, S54.sub [0, 1] (by decide) rfl _ rfl, r39_2, r39_3, rfl, (zao (by omega) (by omega)), (by exact ⟨by omega, by omega, eq_step hI39.1 (by omega) (by omega) hI39.2.2 (Decidable.not_not.1 (by assumption))⟩)⟩
 refine zbn rfl <| zab <| zad (l := [0]) rfl <| p_v (v := .bool true) rfl rfl rfl (zah rfl) <| zaa <| zar Tryd.func30 (res1 rfl (zax (v := .bool true) rfl)) ?_
 have q0 : (zeo a b : Bool) = true := by
  exact sameR_5 (eq_yes (t := i) (by omega) (by omega) hI17.2.2) (eq_yes (t := i2) (by omega) (by omega) hI39.2.2)
 refine ⟨_, rfl, h39, ?_, ?_⟩
 · exact S39.sub [] (by decide) rfl _ rfl
 · (simp only [q0])
theorem splits11_calls (w : World) (p : PartM) (o0 : okPart p) (m : Mach) (A1_0 : Option Addr) (c1_0 : Nat) (b1_0 : m.spots.length ≤ c1_0 ∧ c1_0 ≤ maxLen) (l1_0 : zbe zel (hp w) A1_0 m.spots) (A1_1 : Option Addr) (c1_1 : Nat) (b1_1 : m.first.length ≤ c1_1 ∧ c1_1 ≤ maxLen) (l1_1 : zbe (Kd.int .i64) (hp w) A1_1 m.first) (A1_2 : Option Addr) (c1_2 : Nat) (b1_2 : m.follow.length ≤ c1_2 ∧ c1_2 ≤ maxLen) (l1_2 : zbe (Kd.int .i64).slice (hp w) A1_2 m.follow) (A1_3 : Option Addr) (c1_3 : Nat) (b1_3 : m.last.length ≤ c1_3 ∧ c1_3 ≤ maxLen) (l1_3 : zbe Kd.bool (hp w) A1_3 m.last) (pre0 : (m.spots.length : Int) ≤ 1000) :
    Calls Tryd.prog 27 #[.agg (zac p).toArray, .agg #[.slice A1_0 m.spots.length c1_0, .slice A1_1 m.first.length c1_1, .slice A1_2 m.follow.length c1_2, .slice A1_3 m.last.length c1_3, .bool m.empty]] w fun e w' => ∃ v, e = .returned v ∧ ∃ (hn : Ghost), St w.heap.size w hn w' [] ∧ v = .bool ((zcw m).any (zc1 p)) := by
 refine zaq Tryd.func27 rfl Tryd.ntmps27 rfl ?_
 have S0 := St.init w
 have ploo0 := za7 o0.2; have phio0 := za8 o0.2
 have bb1_0 := b1_0.1; have bc1_0 := b1_0.2; simp only [maxLen] at bc1_0
 have bb1_1 := b1_1.1; have bc1_1 := b1_1.2; simp only [maxLen] at bc1_1
 have bb1_2 := b1_2.1; have bc1_2 := b1_2.2; simp only [maxLen] at bc1_2
 have bb1_3 := b1_3.1; have bc1_3 := b1_3.2; simp only [maxLen] at bc1_3
 have hsl_ := sets_le m
 refine zab <| zad (l := [0, 1, 2]) rfl ?_
 obtain ⟨b11, w11, r11, g11, T11⟩ := zb2 (P := Tryd.prog) S0 32 (v := .agg (zac p).toArray) (zac p) rfl
 have S12 := T11
 dsimp only [lAa, lAn, lA0, lAs] at S12
 refine p_v (v := .pointer (some ⟨b11, 0, none⟩)) rfl rfl rfl (zc8 rfl r11) ?_
 obtain ⟨b13, w13, r13, g13, T13⟩ := zb2 (P := Tryd.prog) S12 27 (v := .agg #[.slice A1_0 m.spots.length c1_0, .slice A1_1 m.first.length c1_1, .slice A1_2 m.follow.length c1_2, .slice A1_3 m.last.length c1_3, .bool m.empty]) [.slice A1_0 m.spots.length c1_0, .slice A1_1 m.first.length c1_1, .slice A1_2 m.follow.length c1_2, .slice A1_3 m.last.length c1_3, .bool m.empty] rfl
 have S14 := T13
 dsimp only [lAa, lAn, lA0, lAs] at S14
 refine p_v (v := .pointer (some ⟨b13, 0, none⟩)) rfl rfl rfl (zc8 rfl r13) <| p_v (v := .bool false) rfl rfl rfl (zah rfl) <| zaa <| zab <| zad (l := [0, 1, 2]) rfl <| p_v (v := .agg #[.slice A1_0 m.spots.length c1_0, .slice A1_1 m.first.length c1_1, .slice A1_2 m.follow.length c1_2, .slice A1_3 m.last.length c1_3, .bool m.empty]) rfl rfl rfl (zal (seg := [.slice A1_0 m.spots.length c1_0, .slice A1_1 m.first.length c1_1, .slice A1_2 m.follow.length c1_2, .slice A1_3 m.last.length c1_3, .bool m.empty]) ty27 rfl (by simp) rfl (CF.box (m := 5) (S14.box_at (j := 1) rfl) rfl)) <| p_c rfl rfl rfl (za6 (args := [.agg #[.slice A1_0 m.spots.length c1_0, .slice A1_1 m.first.length c1_1, .slice A1_2 m.follow.length c1_2, .slice A1_3 m.last.length c1_3, .bool m.empty]]) ca63 rfl rfl) (setsN_calls w13 m A1_0 c1_0 b1_0 (l1_0.mono (St.le0 S14)) A1_1 c1_1 b1_1 (l1_1.mono (St.le0 S14)) A1_2 c1_2 b1_2 (l1_2.mono (St.le0 S14)) A1_3 c1_3 b1_3 (l1_3.mono (St.le0 S14)) (by first | assumption | omega | decide)) ?_
 rintro v15_0 w15 ⟨h15, _, T15, rfl⟩
 obtain ⟨k15, lk15, ll15, U15⟩ := zci S14 T15
 have S16 := U15
 dsimp only [lAa, lAn, lA0, lAs] at S16
 obtain ⟨h17, le17, T17, rp17⟩ := S16.freeze (i := 2) rfl
 have lf17_0 := (lk15).trans le17
 have S18 := T17.fx 2 (emp) rfl
 dsimp only [lAa, lAn, lA0, lAs] at S18
 obtain ⟨A17, c17, e17, lc17, cm17, ld17⟩ := rp17
 injection e17 with e17 _; subst e17
 have cn17 := cm17; simp only [maxLen] at cn17
 refine p_v (v := .slice A17 (zcw m).length c17) rfl rfl rfl (zah rfl) <| zaa <| zab <| zab <| zad (l := [0]) rfl <| p_v (v := .int .i64 0) rfl rfl rfl (zah rfl) <| zaa <| zas <| zbo (S := Int) (fun (q_ : Int) ρ w' => match q_ with | i => ∃ (h : Ghost), Le h17 h ∧ St w.heap.size w h w' [box b11 32 (zac p)] ∧ ρ 2 = .pointer (some ⟨b11, 0, none⟩) ∧ ρ 5 = .slice A17 (zcw m).length c17 ∧ ρ 6 = .int .i64 i ∧ inK .i64 i ∧ (0 ≤ i ∧ i ≤ ((zcw m).length : Int) ∧ ((zcw m).take i.toNat).any (zc1 p) = false)) (fun q_ => match q_ with | i => ((zcw m).length - i).toNat) (0) ⟨h17, Le.refl _, S18.sub [0] (by decide) rfl _ rfl, rfl, rfl, rfl, (zao (by omega) (by omega)), (by exact ⟨by omega, by omega, rfl⟩)⟩ ?_
 rintro i ih19 ρ19 w19 ⟨h19, le19, S19, r19_2, r19_5, r19_6, f19_0, hI19⟩
 have lf19_0 := za7 f19_0; have hf19_0 := za8 f19_0
 refine zab <| zab <| zad (l := [0, 1, 2, 3]) rfl <| p_v (v := .int .i64 i) rfl rfl rfl (zag r19_6) <| p_v (v := .slice A17 (zcw m).length c17) rfl rfl rfl (zag r19_5) <| p_v (v := .int .i64 ((zcw m).length : Int)) rfl rfl rfl (za0 u62 rfl) <| p_v (v := .bool (decide (i < ((zcw m).length : Int)))) rfl rfl rfl (zdc rfl rfl) <| zaa ?_
 refine zap (p := i < ((zcw m).length : Int)) rfl (fun hc20 => ?_) (fun hc20 => ?_)
 ·skip
  refine zau <| zab <| zas <| zab ?_
  obtain ⟨ad21, seg21, a21, rp21, ce21⟩ := zaz (q := i) (m := 4) ld17 rfl (by omega) (by omega)
  obtain ⟨rfl, ok21⟩ := rp21
  have hf23 : (CFs ⟨b11, 0, none⟩ (zac p)).1 w19 := (CF.box (m := 257) (S19.box_at (j := 0) rfl) (by rw [List.drop_zero, List.take_of_length_le (by rw [zae o0]; exact Nat.le_refl _)]))
  have hf24 : (CFs ad21 (zak (at_ (zcw m) i))).1 w19 := (CF.ghost ce21 (le19.trans S19.ghost))
  refine daS (hkC 0 hf23 (hkC 4 hf24 (hkN (w := w19)))) 6 rfl mixed ?_
  intro wd25 gd25 hd25
  have S26 := S19.keep gd25
  have hf27 := spUp gd25 hf23
  have hf28 := spUp gd25 hf24
  refine qd1 0 (i := 0) (v := .agg (zac p).toArray) rfl rfl (by decide +kernel) rfl rfl (fun wq hq => (zal (seg := (zac p)) ty32 (zae o0) (by simp) r19_2 hq)) (za9 hf27 (zaj rfl)) <| qd0 (i := 1) (v := .slice A17 (zcw m).length c17) rfl (by decide +kernel) rfl rfl (zag r19_5) (zaj rfl) <| qd0 (i := 2) (v := .int .i64 i) rfl (by decide +kernel) rfl rfl (zag r19_6) (zaj rfl) <| qd0 (i := 3) (v := .pointer (some ad21)) rfl (by decide +kernel) rfl rfl (zaw u62 ty74 rfl rfl a21 (by omega) (by omega)) (zaj rfl) <| qd1 1 (i := 4) (v := .agg (zak (at_ (zcw m) i)).toArray) rfl rfl (by decide +kernel) rfl rfl (fun wq hq => (zal (seg := (zak (at_ (zcw m) i))) ty74 rfl (by simp) rfl hq)) (za1 rfl (za9 hf28 (zaj rfl))) <| d_m (i := 5) (v := .bool (zc1 p (at_ (zcw m) i))) (fun _ => True) (fun _ ho => trivial) rfl (by decide +kernel) (by decide +kernel) (by decide +kernel) rfl rfl (fun wq => (za6 (args := [.agg (zac p).toArray, .agg (zak (at_ (zcw m) i)).toArray]) ca89 rfl rfl)) (fun wq hq => (splits_calls wq p o0 (at_ (zcw m) i)).mono fun e w2 he => by obtain ⟨_, rfl, _, T, rfl⟩ := he; exact ⟨rfl, Chg.of_below T.below⟩) (zaj rfl) <| zb3 (by decide +kernel) ?_
  intro wd29 gd29
  have S30 := S26.keep gd29
  refine zbr (b := zc1 p (at_ (zcw m) i)) rfl (fun hc31 => ?_) (fun hc31 => ?_)
  ·skip
   refine zab <| zad (l := [0]) rfl <| p_v (v := .bool true) rfl rfl rfl (zah rfl) <| zaa <| zar Tryd.func27 (res1 rfl (zax (v := .bool true) rfl)) ?_
   have q0 : ((zcw m).any (zc1 p) : Bool) = true := by
    exact List.any_eq_true.2 ⟨_, zdv hI19.1 (by omega), by assumption⟩
   refine ⟨_, rfl, h19, ?_, ?_⟩
   · exact S30.sub [] (by decide) rfl _ rfl
   · first | rfl | (simp only [q0]; rfl) | (simp only [q0])
  refine zau <| zat <| zad (l := [0, 1, 2]) rfl <| p_v (v := .int .i64 i) rfl rfl rfl (zag r19_6) <| p_v (v := .int .i64 (i + 1)) rfl rfl rfl (zct rfl rfl (zao (by omega) (by omega))) <| p_v (v := .int .i64 (i + 1)) rfl rfl rfl (zah rfl) <| zaa ?_
  refine ih19 (i + 1) _ _ (by dsimp only; omega) ⟨h19, le19, S30.sub [0] (by decide) rfl _ rfl, r19_2, r19_5, rfl, (zao (by omega) (by omega)), (by exact ⟨by omega, by omega, any_step hI19.1 (by omega) hI19.2.2 (by assumption)⟩)⟩
 refine zbn rfl <| zab <| zad (l := [0]) rfl <| p_v (v := .bool false) rfl rfl rfl (zah rfl) <| zaa <| zar Tryd.func27 (res1 rfl (zax (v := .bool false) rfl)) ?_
 have q0 : ((zcw m).any (zc1 p) : Bool) = false := by
  (have hz_ := hI19.2.2; rw [List.take_of_length_le (by omega)] at hz_; exact hz_)
 refine ⟨_, rfl, h19, ?_, ?_⟩
 · exact S19.sub [] (by decide) rfl _ rfl
 · (simp only [q0])
end Go.Proofs.YtfoemogojbnfhaaDoor
namespace Gx
open Go Go.RowKit
set_option linter.unusedSimpArgs false
set_option linter.unusedSectionVars false
set_option linter.unusedVariables false
theorem errB_dec (m : Mach) (p : PartM) : decide (errB m p = 0) = okB m p := by
  cases h : okB m p with
  | true => exact decide_eq_true (errB_iff.2 h)
  | false => exact decide_eq_false fun e => by rw [errB_iff.1 e] at h; cases h
theorem b_1 (a b : Mach) : decide (errB a (zai a b) = 0) = zbs a := by rw [errB_dec]; exact okB_ref1 a b
theorem b_2 (a b : Mach) : decide (errB b (zai a b) = 0) = zbs b := by rw [errB_dec]; exact okB_ref2 a b
theorem b_3 (m : Mach) (p : PartM) : decide (errB m p = 0) = (zbs m && (zc7 p && !(zcw m).any (zc1 p))) := by rw [errB_dec]; rfl
theorem nz {x y : Bool} (h : x = y) : ¬ (x ≠ y) := fun h2 => h2 h
theorem okB_no {m : Mach} {p : PartM} (h : errB m p ≠ 0) : okB m p = false := Bool.eq_false_iff.2 fun e => h (errB_iff.2 e)
theorem errB_one {m : Mach} {p : PartM} (h : errB m p ≠ 0) : errB m p = 1 := by unfold errB; rw [if_neg (by rw [okB_no h]; simp)]
theorem build_nil {m : Mach} {p : PartM} (h : errB m p ≠ 0) : zaf m p = zeroD := by unfold zaf; rw [if_neg (by rw [okB_no h]; simp)]; rfl
theorem build_none {m : Mach} {p : PartM} (h : errB m p ≠ 0) : ((zaf m p).next.length : Int) = 0 := by rw [build_nil h]; rfl
theorem build_bad {m : Mach} {p : PartM} (h : errB m p ≠ 0) : zcm (zaf m p) = false := by rw [build_nil h]; exact rightD_1 rfl
theorem errO_no {a b : Dfa} {how : Int} (h : zek a b how = false) : errO a b how = 1 := by unfold errO; rw [if_neg (by rw [h]; simp)]
theorem errO_1 {m : Mach} {p : PartM} (b : Dfa) (how : Int) (h : errB m p ≠ 0) : errO (zaf m p) b how = 1 := errO_no (okb_1 (build_bad h))
theorem errO_2 {m : Mach} {p : PartM} (a : Dfa) (how : Int) (h : errB m p ≠ 0) : errO a (zaf m p) how = 1 := errO_no (okb_2 (build_bad h))
theorem errD_b {m : Mach} {p : PartM} (ho : okPart p) : decide (errD (zaf m p) = 0) = decide (errB m p = 0) := by
  by_cases h : errB m p = 0
  · rw [decide_eq_true h]
    exact decide_eq_true (errD_yes (build_right ho (errB_iff.1 h)))
  · rw [decide_eq_false h]
    exact decide_eq_false (by rw [errD_no (build_bad h)]; simp)
theorem not_flen {d : Dfa} (h : zcm d = true) : ((notD d).final.length : Int) = d.final.length := by rw [notD_yes h]; show (((d.final.map fun x => !x).length : Nat) : Int) = _; rw [List.length_map]
theorem not_fat {d : Dfa} (h : zcm d = true) {k : Int} (h0 : 0 ≤ k) (h1 : k < ((notD d).final.length : Int)) : ¬ (at_ (notD d).final k = at_ d.final k) := by
  rw [not_flen h] at h1
  rw [notD_yes h]
  show ¬ (at_ (d.final.map fun x => !x) k = _)
  rw [at_map _ _ h0 h1]
  cases at_ d.final k <;> simp
section
variable {m other : Mach}
theorem both2_of (ha : okB m (zai m other) = true) (hb : okB other (zai m other) = true) (h1 : (m.spots.length : Int) ≤ 20) (h2 : (other.spots.length : Int) ≤ 20) : Both2 (refB m (zam (zai m other))) (refB other (zam (zai m other))) (zaf m (zai m other)) (zaf other (zai m other)) := by
  have ho := okPart_pP m other
  have ea := refB_eq ho ha
  have eb := refB_eq ho hb
  have pa := build_part ha
  have pb := build_part hb
  refine ⟨⟨build_right ho ha, by rw [pa]; exact ho, ?_, ?_, ?_⟩, ⟨build_right ho hb, by rw [pb]; exact ho, ?_, ?_, ?_⟩, by rw [pa, pb], build_len h1, build_len h2⟩
  · rw [ea, pa]
  · rw [ea]
  · rw [ea]
  · rw [eb, pb]
  · rw [eb]
  · rw [eb]
theorem same_b {p : PartM} (ho : okPart p) (h : okB m p = true) (l : List Int) : zeo ⟨l, (zaf m p).next, (zaf m p).final⟩ (refB m (zam p)) = true := by
  rw [refB_eq ho h]
  exact sameR_yes rfl rfl
theorem same_o {a b : RefD} {A B : Dfa} (h : Both2 a b A B) {n : Int} (h1 : 1 ≤ n) (h3 : n ≤ 3) (l : List Int) : zeo ⟨l, (zbt A B n).next, (zbt A B n).final⟩ (refO a b n) = true := by
  have e := refO_eq h h1 h3
  exact sameR_yes e.1.symm e.2.symm
end
end Gx
