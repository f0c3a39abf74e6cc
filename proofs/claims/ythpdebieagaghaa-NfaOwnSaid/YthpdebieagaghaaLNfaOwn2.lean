/- My own library for walks through the translated code, and the walks of the functions that the law NfaOwn comes to, part 3; no conditions but those that each contract tells. -/
import Derived.Test.YthpdebieagaghaaLNfaOwn1
namespace Go.Proofs.Ythpdebieagaghaa
open Go Go.RowKit Gx
set_option maxHeartbeats 1000000
set_option linter.unusedVariables false
set_option linter.unusedSimpArgs false
attribute [local irreducible] listOf count first has zb6 wbits Lib.ctz zcu zbq rowOk tab markP intoP intoTo zcy zcd zct runTo endsIn endTo runM posTo zco greatTo anyTo allTo zc6 numsL numsIn zb3 kept lefts zc0 lastTp zcg za2 errM zdd zao lfp seekN seekB fullS zdb useN trues
theorem useful1_calls (w : World) (n : Int) (i0 : inK .i64 n) (p1 : List Bool) (A1 : Option Addr) (c1 : Nat) (b1 : p1.length ≤ c1 ∧ c1 ≤ maxLen) (l1 : zbb Kd.bool (hp w) A1 p1) (a1 : Addr) (pc1 : ∀ j v, [.slice A1 p1.length c1][j]? = some v → gcell (hp w) (a1.add j) = some v) (pre0 : 0 ≤ n ∧ n < (p1.length : Int)) :
    Calls Try.prog 29 #[.int .i64 n, .pointer (some a1)] w fun e w' => ∃ v, e = .returned v ∧ ∃ (hn : Ghost), St w.heap.size w hn w' [] ∧ v = .bool (at_ p1 n) := by
 refine zax Try.func29 rfl Try.ntmps29 rfl ?_
 have S0 := St.init w
 have lo0 := zbk i0; have hi0 := zbl i0
 have bb1 := b1.1; have bc1 := b1.2; simp only [maxLen] at bc1
 have hp0_ := pre0.1; have hp1_ := pre0.2
 refine zab <| zac (l := [0]) rfl <| p_v (v := .bool false) rfl rfl rfl (zad rfl) <| zaa <| zab <| zac (l := [0, 1, 2, 3, 4]) rfl <| p_v (v := .slice A1 p1.length c1) rfl rfl rfl (zag (seg := [.slice A1 p1.length c1]) ty25 rfl (by simp) rfl (CF.ghost pc1 (St.le0 S0))) <| p_v (v := .int .i64 n) rfl rfl rfl (zae rfl) ?_
 obtain ⟨ad1, seg1, a1, rp1, ce1⟩ := zaz (q := n) (m := 1) l1 rfl (by first|omega|(simp;omega)|assumption) (by first|omega|(simp;omega)|assumption)
 refine p_v (v := .pointer (some ad1)) rfl rfl rfl (zay u25 ty4 rfl rfl a1 (by first|omega|(simp;omega)|assumption) (by first|omega|(simp;omega)|assumption)) ?_
 obtain ⟨rfl, _⟩ := rp1
 refine p_v (v := .bool (at_ p1 n)) rfl rfl rfl (zag (seg := [.bool (at_ p1 n)]) ty4 rfl (by simp) rfl (CF.ghost ce1 (St.le0 S0))) <| p_v (v := .bool (at_ p1 n)) rfl rfl rfl (zad rfl) <| zaa <| za0 Try.func29 (res1 rfl (za3 (v := .bool (at_ p1 n)) rfl)) ?_
 have q0 : (at_ p1 n : Bool) = at_ p1 n := rfl
 refine ⟨_, rfl, (fun _ => none), ?_, ?_⟩
 · exact S0.sub [] (by decide) rfl _ rfl
 · rfl
theorem indexI_calls (w : World) (s : List Int) (A0 : Option Addr) (c0 : Nat) (b0 : s.length ≤ c0 ∧ c0 ≤ maxLen) (l0 : zbb (Kd.int .i64) (hp w) A0 s) (f : List Bool) (A1 : Option Addr) (c1 : Nat) (b1 : f.length ≤ c1 ∧ c1 ≤ maxLen) (l1 : zbb Kd.bool (hp w) A1 f) (a1 : Addr) (pc1 : ∀ j v, [.slice A1 f.length c1][j]? = some v → gcell (hp w) (a1.add j) = some v) (pre0 : ∀ x ∈ s, 0 ≤ x ∧ x < (f.length : Int)) :
    Calls Try.prog 33 #[.slice A0 s.length c0, .func (.func 29) #[] #[.pointer (some a1)]] w fun e w' => ∃ v, e = .returned v ∧ ∃ (hn : Ghost), St w.heap.size w hn w' [] ∧ v = .int .i64 (zdb (fun x => at_ f x) s 0) ∧ inK .i64 (zdb (fun x => at_ f x) s 0) := by
 refine zax Try.func33 rfl Try.ntmps33 rfl ?_
 have S0 := St.init w
 have bb0 := b0.1; have bc0 := b0.2; simp only [maxLen] at bc0
 have bb1 := b1.1; have bc1 := b1.2; simp only [maxLen] at bc1
 refine zab <| zac (l := [0]) rfl <| p_v (v := .int .i64 0) rfl rfl rfl (zad rfl) <| zaa <| zab <| zab <| zac (l := [0, 1, 2]) rfl <| p_v (v := .slice A0 s.length c0) rfl rfl rfl (zae rfl) <| p_v (v := .int .i64 (s.length : Int)) rfl rfl rfl (zaq u23 rfl) <| p_v (v := .int .i64 0) rfl rfl rfl (zae rfl) <| zaa <| zal ?_
 refine zbm (S := Int) (fun (q_ : Int) ρ w' => match q_ with | t8 => ∃ (h : Ghost), Le (fun _ => none) h ∧ St w.heap.size w h w' [] ∧ ρ 0 = .slice A0 s.length c0 ∧ ρ 1 = .func (.func 29) #[] #[.pointer (some a1)] ∧ ρ 7 = .int .i64 (s.length : Int) ∧ ρ 8 = .int .i64 t8 ∧ inK .i64 t8 ∧ (0 ≤ t8 ∧ t8 ≤ (s.length : Int) ∧ zdb (fun x => at_ f x) s 0 = zdb (fun x => at_ f x) (s.drop t8.toNat) t8)) (fun q_ => match q_ with | t8 => (s.length - t8).toNat) (0) ⟨(fun _ => none), Le.refl _, S0.sub [] (by decide) rfl _ rfl, rfl, rfl, rfl, rfl, (zah (by first|omega|(simp;omega)|assumption) (by first|omega|(simp;omega)|assumption)), (by exact ⟨by omega, by omega, rfl⟩)⟩ ?_
 rintro t8 ih1 ρ1 w1 ⟨h1, le1, S1, r1_0, r1_1, r1_7, r1_8, f1_0, hI1⟩
 have lf1_0 := zbk f1_0; have hf1_0 := zbl f1_0
 refine zab <| zac (l := [0]) rfl <| p_v (v := .bool (decide (t8 < (s.length : Int)))) rfl rfl rfl (x_lss r1_8 r1_7) <| zaa <| zab ?_
 refine zak (p := t8 < (s.length : Int)) rfl (fun hc2 => ?_) (fun hc2 => ?_)
 ·skip
  refine zas <| zab <| zal <| zab <| zac (l := [0, 1]) rfl <| p_v (v := .int .i64 t8) rfl rfl rfl (zae r1_8) <| p_v (v := .int .i64 t8) rfl rfl rfl (zad rfl) <| zaa <| zab <| zac (l := [0, 1, 2, 3, 4, 5]) rfl <| p_v (v := .func (.func 29) #[] #[.pointer (some a1)]) rfl rfl rfl (zae r1_1) <| p_v (v := .slice A0 s.length c0) rfl rfl rfl (zae r1_0) ?_
  refine p_v (v := .int .i64 t8) rfl rfl rfl (zae rfl) ?_
  obtain ⟨ad3, seg3, a3, rp3, ce3⟩ := zaz (q := t8) (m := 1) l0 rfl (by first|omega|(simp;omega)|assumption) (by first|omega|(simp;omega)|assumption)
  refine p_v (v := .pointer (some ad3)) rfl rfl rfl (zay u23 ty3 rfl rfl a3 (by first|omega|(simp;omega)|assumption) (by first|omega|(simp;omega)|assumption)) ?_
  obtain ⟨rfl, in3⟩ := rp3
  have lo3 := zbk in3; have hi3 := zbl in3
  refine p_v (v := .int .i64 (at_ s t8)) rfl rfl rfl (zag (seg := [.int .i64 (at_ s t8)]) ty3 rfl (by simp) rfl (CF.ghost ce3 (St.le0 S1))) <| p_c rfl rfl rfl (zbp (args := [.int .i64 (at_ s t8), .pointer (some a1)]) ca29 rfl rfl) (useful1_calls w1 (at_ s t8) (zah (by first|omega|(simp;omega)|assumption) (by first|omega|(simp;omega)|assumption)) f A1 c1 b1 (l1.mono (St.le0 S1)) a1 (fun j v h => gcell_mono (St.le0 S1) (pc1 j v h)) (by first | assumption | omega | exact pre0 _ (at_mem (by omega) (by omega)))) ?_
  rintro _ w4 ⟨h4, T4, rfl⟩
  have S5 := S1.keep (Chg.of_below T4.below)
  refine zaa ?_
  refine zbe (b := at_ f (at_ s t8)) rfl (fun hc6 => ?_) (fun hc6 => ?_)
  ·skip
   refine zab <| zac (l := [0, 1]) rfl <| p_v (v := .int .i64 t8) rfl rfl rfl (zae rfl) <| p_v (v := .int .i64 t8) rfl rfl rfl (zad rfl) <| zaa <| za0 Try.func33 (res1 rfl (za3 (v := .int .i64 t8) rfl)) ?_
   have q0 : (zdb (fun x => at_ f x) s 0 : Int) = t8 := by
    rw [hI1.2.2, placeF_drop _ _ hI1.1 (by omega), if_pos (by assumption)]
   refine ⟨_, rfl, h1, ?_, ?_, ?_⟩
   · exact S5.sub [] (by decide) rfl _ rfl
   · first | rfl | (simp only [q0]; rfl) | (simp only [q0])
   · rw [q0]; exact f1_0
  refine zas <| zar <| zac (l := [0, 1]) rfl <| p_v (v := .int .i64 (t8 + 1)) rfl rfl rfl (zb9 r1_8 rfl (zah (by first|omega|(simp;omega)|assumption) (by first|omega|(simp;omega)|assumption))) <| p_v (v := .int .i64 (t8 + 1)) rfl rfl rfl (zae rfl) <| zaa ?_
  refine ih1 (t8 + 1) _ _ (by dsimp only; omega) ⟨h1, le1, S5.sub [] (by decide) rfl _ rfl, r1_0, r1_1, r1_7, rfl, (zah (by first|omega|(simp;omega)|assumption) (by first|omega|(simp;omega)|assumption)), (by exact ⟨by omega, by omega, by rw [hI1.2.2, placeF_drop _ _ hI1.1 (by omega), if_neg (by simp [*])]⟩)⟩
 refine zbd rfl <| zab <| zac (l := [0]) rfl <| p_v (v := .int .i64 (-1)) rfl rfl rfl (zad rfl) <| zaa <| za0 Try.func33 (res1 rfl (za3 (v := .int .i64 (-1)) rfl)) ?_
 have q0 : (zdb (fun x => at_ f x) s 0 : Int) = (-1) := by
  rw [hI1.2.2, List.drop_of_length_le (by omega)]; exact placeF_nil _ _
 refine ⟨_, rfl, h1, ?_, ?_, ?_⟩
 · exact S1.sub [] (by decide) rfl _ rfl
 · first | rfl | (simp only [q0]; rfl) | (simp only [q0])
 · rw [q0]; exact (zah (by first|omega|(simp;omega)|assumption) (by first|omega|(simp;omega)|assumption))
theorem containsI_calls (w : World) (s : List Int) (A0 : Option Addr) (c0 : Nat) (b0 : s.length ≤ c0 ∧ c0 ≤ maxLen) (l0 : zbb (Kd.int .i64) (hp w) A0 s) (f : List Bool) (A1 : Option Addr) (c1 : Nat) (b1 : f.length ≤ c1 ∧ c1 ≤ maxLen) (l1 : zbb Kd.bool (hp w) A1 f) (a1 : Addr) (pc1 : ∀ j v, [.slice A1 f.length c1][j]? = some v → gcell (hp w) (a1.add j) = some v) (pre0 : ∀ x ∈ s, 0 ≤ x ∧ x < (f.length : Int)) :
    Calls Try.prog 28 #[.slice A0 s.length c0, .func (.func 29) #[] #[.pointer (some a1)]] w fun e w' => ∃ v, e = .returned v ∧ ∃ (hn : Ghost), St w.heap.size w hn w' [] ∧ v = .bool (s.any fun x => at_ f x) := by
 refine zax Try.func28 rfl Try.ntmps28 rfl ?_
 have S0 := St.init w
 have bb0 := b0.1; have bc0 := b0.2; simp only [maxLen] at bc0
 have bb1 := b1.1; have bc1 := b1.2; simp only [maxLen] at bc1
 refine zab <| zac (l := [0]) rfl <| p_v (v := .bool false) rfl rfl rfl (zad rfl) <| zaa <| zab <| zac (l := [0, 1, 2, 3, 4]) rfl <| p_v (v := .slice A0 s.length c0) rfl rfl rfl (zae rfl) <| p_v (v := .func (.func 29) #[] #[.pointer (some a1)]) rfl rfl rfl (zae rfl) <| p_c rfl rfl rfl (zbp (args := [.slice A0 s.length c0, .func (.func 29) #[] #[.pointer (some a1)]]) ca33 rfl rfl) (indexI_calls w s A0 c0 b0 (l0.mono (St.le0 S0)) f A1 c1 b1 (l1.mono (St.le0 S0)) a1 (fun j v h => gcell_mono (St.le0 S0) (pc1 j v h)) (by first | assumption | (intro x hx; have := hR_.rows (by assumption) (by omega) x hx; omega))) ?_
 rintro _ w1 ⟨h1, T1, rfl, in1_0⟩
 have S2 := S0.keep (Chg.of_below T1.below)
 have lo_in1_0 := zbk in1_0; have hi_in1_0 := zbl in1_0
 refine p_v (v := .bool (decide (0 ≤ (zdb (fun x => at_ f x) s 0)))) rfl rfl rfl (x_geq rfl rfl) <| p_v (v := .bool (decide (0 ≤ (zdb (fun x => at_ f x) s 0)))) rfl rfl rfl (zad rfl) <| zaa <| za0 Try.func28 (res1 rfl (za3 (v := .bool (decide (0 ≤ (zdb (fun x => at_ f x) s 0)))) rfl)) ?_
 have q0 : (s.any fun x => at_ f x : Bool) = decide (0 ≤ (zdb (fun x => at_ f x) s 0)) := by
  exact (placeF_any _ _ _ (by omega)).symm
 refine ⟨_, rfl, (fun _ => none), ?_, ?_⟩
 · exact S2.sub [] (by decide) rfl _ rfl
 · first | rfl | (simp only [q0]; rfl) | (simp only [q0])
theorem useful_calls (w : World) (m : Mach) (A0_0 : Option Addr) (c0_0 : Nat) (b0_0 : m.spots.length ≤ c0_0 ∧ c0_0 ≤ maxLen) (l0_0 : zbb za8 (hp w) A0_0 m.spots) (A0_1 : Option Addr) (c0_1 : Nat) (b0_1 : m.first.length ≤ c0_1 ∧ c0_1 ≤ maxLen) (l0_1 : zbb (Kd.int .i64) (hp w) A0_1 m.first) (A0_2 : Option Addr) (c0_2 : Nat) (b0_2 : m.follow.length ≤ c0_2 ∧ c0_2 ≤ maxLen) (l0_2 : zbb (Kd.int .i64).slice (hp w) A0_2 m.follow) (A0_3 : Option Addr) (c0_3 : Nat) (b0_3 : m.last.length ≤ c0_3 ∧ c0_3 ≤ maxLen) (l0_3 : zbb Kd.bool (hp w) A0_3 m.last) (pre0 : Right m) :
    Calls Try.prog 18 #[.agg #[.slice A0_0 m.spots.length c0_0, .slice A0_1 m.first.length c0_1, .slice A0_2 m.follow.length c0_2, .slice A0_3 m.last.length c0_3, .bool m.empty]] w fun e w' => ∃ v, e = .returned v ∧ ∃ (hn : Ghost) (r0 : Value), St w.heap.size w hn w' [row 4 Kd.bool r0 (zao m)] ∧ v = r0 := by
 refine zax Try.func18 rfl Try.ntmps18 rfl ?_
 have S0 := St.init w
 have bb0_0 := b0_0.1; have bc0_0 := b0_0.2; simp only [maxLen] at bc0_0
 have bb0_1 := b0_1.1; have bc0_1 := b0_1.2; simp only [maxLen] at bc0_1
 have bb0_2 := b0_2.1; have bc0_2 := b0_2.2; simp only [maxLen] at bc0_2
 have bb0_3 := b0_3.1; have bc0_3 := b0_3.2; simp only [maxLen] at bc0_3
 have hsm_ := pre0.small; have hfo_ := pre0.follow; have hla_ := pre0.last; have hss_ := pre0.small'; have hfi_ := hss_.first; have hcl_ := comeM_len m; have hR_ := pre0
 refine zab <| zac (l := [0, 1]) rfl ?_
 obtain ⟨b1, w1, r1, g1, T1⟩ := zc1 (P := Try.prog) S0 27 (v := .agg #[.slice A0_0 m.spots.length c0_0, .slice A0_1 m.first.length c0_1, .slice A0_2 m.follow.length c0_2, .slice A0_3 m.last.length c0_3, .bool m.empty]) [.slice A0_0 m.spots.length c0_0, .slice A0_1 m.first.length c0_1, .slice A0_2 m.follow.length c0_2, .slice A0_3 m.last.length c0_3, .bool m.empty] rfl
 have S2 := T1
 dsimp only [lAa, lAn, lA0, lAs] at S2
 refine p_v (v := .pointer (some ⟨b1, 0, none⟩)) rfl rfl rfl (x_box rfl r1) <| p_v (v := .slice none 0 0) rfl rfl rfl (zad rfl) <| zaa <| zab <| zac (l := [0, 1, 2]) rfl <| p_v (v := .agg #[.slice A0_0 m.spots.length c0_0, .slice A0_1 m.first.length c0_1, .slice A0_2 m.follow.length c0_2, .slice A0_3 m.last.length c0_3, .bool m.empty]) rfl rfl rfl (zag (seg := [.slice A0_0 m.spots.length c0_0, .slice A0_1 m.first.length c0_1, .slice A0_2 m.follow.length c0_2, .slice A0_3 m.last.length c0_3, .bool m.empty]) ty27 rfl (by simp) rfl (CF.box (m := 5) (S2.box_at (j := 0) rfl) rfl)) <| p_c rfl rfl rfl (zbp (args := [.agg #[.slice A0_0 m.spots.length c0_0, .slice A0_1 m.first.length c0_1, .slice A0_2 m.follow.length c0_2, .slice A0_3 m.last.length c0_3, .bool m.empty]]) ca27 rfl rfl) (reached_calls w1 m A0_0 c0_0 b0_0 (l0_0.mono (St.le0 S2)) A0_1 c0_1 b0_1 (l0_1.mono (St.le0 S2)) A0_2 c0_2 b0_2 (l0_2.mono (St.le0 S2)) A0_3 c0_3 b0_3 (l0_3.mono (St.le0 S2)) (by assumption)) ?_
 rintro v3_0 w3 ⟨h3, _, T3, rfl⟩
 obtain ⟨k3, lk3, ll3, U3⟩ := zbg S2 T3
 have S4 := U3
 dsimp only [lAa, lAn, lA0, lAs] at S4
 refine p_v (v := v3_0) rfl rfl rfl (zad rfl) <| zaa <| zab <| zac (l := [0, 1, 2, 3, 4, 5]) rfl <| p_v (v := .pointer (some ⟨b1, 0, none⟩)) rfl rfl rfl (zaf zcp ty22 rfl rfl) <| p_v (v := .slice A0_0 m.spots.length c0_0) rfl rfl rfl (zag (seg := [.slice A0_0 m.spots.length c0_0]) ty22 rfl (by simp) rfl (CF.box (m := 1) (S4.box_at (j := 0) rfl) rfl)) <| p_v (v := .int .i64 (m.spots.length : Int)) rfl rfl rfl (zaq u22 rfl) ?_
 obtain ⟨v5, w5, r5, g5, T5⟩ := e_make (kk := .i64) (kk' := .i64) (kd := Kd.bool) (q := (m.spots.length : Int)) (z := false) (zc := [.bool false]) S4 u25 ty4 rfl rfl ⟨rfl, trivial⟩ (by first|omega|(simp;omega)|assumption) (by first|omega|(simp;omega)|assumption) (by first|omega|(simp;omega)|assumption)
 have S6 := T5
 dsimp only [lAa, lAn, lA0, lAs] at S6
 refine p_v (v := v5) rfl rfl rfl (x_make rfl rfl r5) ?_
 obtain ⟨b7, w7, r7, g7, T7⟩ := zc1 (P := Try.prog) S6 25 (v := (.slice none 0 0)) [.slice none 0 0] rfl
 have S8 := T7
 dsimp only [lAa, lAn, lA0, lAs] at S8
 refine p_v (v := .pointer (some ⟨b7, 0, none⟩)) rfl rfl rfl (zck ty25 r7) ?_
 have oc10 := za5 S8 (j := 2) rfl
 obtain ⟨w9, r9, g9, T9⟩ := zbf (P := Try.prog) (off := 0) (v := v5) (vs := [v5]) S8 ty25 (za9 S8 (j := 2) rfl) rfl (j := 3) rfl (by first | decide | exact Nat.le_of_ble_eq_true rfl) (zai oc10 zbt)
 have S11 := T9.fx 3 (box b7 25 [v5]) rfl
 dsimp only [lAa, lAn, lA0, lAs] at S11
 refine p_s rfl rfl (za7 rfl rfl r9) <| zaa <| zab <| zab <| zac (l := [0]) rfl <| p_v (v := .bool true) rfl rfl rfl (zad rfl) <| zaa <| zal <| zbm (S := (List Bool) × Bool) (fun (q_ : (List Bool) × Bool) ρ w' => match q_ with | (out, more) => ∃ (h : Ghost) (v_out : Value), Le k3 h ∧ St w.heap.size w h w' [box b1 27 [.slice A0_0 m.spots.length c0_0, .slice A0_1 m.first.length c0_1, .slice A0_2 m.follow.length c0_2, .slice A0_3 m.last.length c0_3, .bool m.empty], row 4 Kd.bool v3_0 (zdd m), row 4 Kd.bool v_out out, box b7 25 [v_out]] ∧ ρ 1 = .pointer (some ⟨b1, 0, none⟩) ∧ ρ 3 = v3_0 ∧ ρ 4 = .pointer (some ⟨b7, 0, none⟩) ∧ ρ 5 = .bool more ∧ (UseI m out more)) (fun q_ => match q_ with | (out, more) => useN m out more) (List.replicate ((m.spots.length : Int)).toNat false, true) ⟨k3, v5, Le.refl _, S11.sub [0, 1, 2, 3] (by decide) rfl _ rfl, rfl, rfl, rfl, rfl, (by exact use_0 m)⟩ ?_
 rintro ⟨out, more⟩ ih12 ρ12 w12 ⟨h12, v_out, le12, S12, r12_1, r12_3, r12_4, r12_5, hI12⟩
 have rl12_1 := S12.row_le (j := 1) rfl; simp only [maxLen] at rl12_1
 have rl12_2 := S12.row_le (j := 2) rfl; simp only [maxLen] at rl12_2
 have hol_ := hI12.len
 refine zab <| zab <| zac (l := [0]) rfl <| p_v (v := .bool more) rfl rfl rfl (zae r12_5) <| zaa ?_
 refine zbe (b := more) rfl (fun hc13 => ?_) (fun hc13 => ?_)
 ·skip
  refine zas <| zal <| zab <| zac (l := [0]) rfl <| p_v (v := .bool false) rfl rfl rfl (zad rfl) <| zaa <| zab <| zac (l := [0, 1, 2]) rfl <| p_v (v := v_out) rfl rfl rfl (zag (seg := [v_out]) ty25 rfl (by simp) r12_4 (CF.box (m := 1) (S12.box_at (j := 3) rfl) rfl)) ?_
  have lb14 := S12.row_le (j := 2) rfl; simp only [maxLen] at lb14
  refine p_v (v := .int .i64 (out.length : Int)) rfl rfl rfl (zcm u25 rfl (zcq S12 (j := 2) rfl)) <| p_v (v := .int .i64 0) rfl rfl rfl (zae rfl) <| zaa <| zal <| zbm (S := (List Bool) × Bool × Int) (fun (q_ : (List Bool) × Bool × Int) ρ w' => match q_ with | (out2, more2, t16) => ∃ (h : Ghost) (v_out2 : Value), Le h12 h ∧ St w.heap.size w h w' [box b1 27 [.slice A0_0 m.spots.length c0_0, .slice A0_1 m.first.length c0_1, .slice A0_2 m.follow.length c0_2, .slice A0_3 m.last.length c0_3, .bool m.empty], row 4 Kd.bool v3_0 (zdd m), row 4 Kd.bool v_out2 out2, box b7 25 [v_out2]] ∧ ρ 1 = .pointer (some ⟨b1, 0, none⟩) ∧ ρ 3 = v3_0 ∧ ρ 4 = .pointer (some ⟨b7, 0, none⟩) ∧ ρ 5 = .bool more2 ∧ ρ 15 = .int .i64 (out.length : Int) ∧ ρ 16 = .int .i64 t16 ∧ inK .i64 t16 ∧ (0 ≤ t16 ∧ t16 ≤ (m.spots.length : Int) ∧ UseJ m out out2 more2 t16)) (fun q_ => match q_ with | (out2, more2, t16) => (m.spots.length - t16).toNat) (out, false, 0) ⟨h12, v_out, Le.refl _, S12.sub [0, 1, 2, 3] (by decide) rfl _ rfl, r12_1, r12_3, r12_4, rfl, rfl, rfl, (zah (by first|omega|(simp;omega)|assumption) (by first|omega|(simp;omega)|assumption)), (by exact ⟨by omega, by omega, use_j0 hI12⟩)⟩ ?_
  rintro ⟨out2, more2, t16⟩ ih15 ρ15 w15 ⟨h15, v_out2, le15, S15, r15_1, r15_3, r15_4, r15_5, r15_15, r15_16, f15_0, hI15⟩
  have lf15_0 := zbk f15_0; have hf15_0 := zbl f15_0
  have rl15_1 := S15.row_le (j := 1) rfl; simp only [maxLen] at rl15_1
  have rl15_2 := S15.row_le (j := 2) rfl; simp only [maxLen] at rl15_2
  have hol2_ := hI15.2.2.len; have hi0_ : 0 ≤ t16 := hI15.1
  refine zab <| zac (l := [0]) rfl <| p_v (v := .bool (decide (t16 < (out.length : Int)))) rfl rfl rfl (x_lss r15_16 r15_15) <| zaa <| zab ?_
  refine zak (p := t16 < (out.length : Int)) rfl (fun hc16 => ?_) (fun hc16 => ?_)
  ·skip
   refine zas <| zab <| zal <| zab <| zac (l := [0, 1]) rfl <| p_v (v := .int .i64 t16) rfl rfl rfl (zae r15_16) <| p_v (v := .int .i64 t16) rfl rfl rfl (zad rfl) <| zaa <| zab <| zab <| zac (l := [0, 1, 2, 3, 4, 5, 6, 7, 8, 9, 10]) rfl <| p_v (v := v_out2) rfl rfl rfl (zag (seg := [v_out2]) ty25 rfl (by simp) r15_4 (CF.box (m := 1) (S15.box_at (j := 3) rfl) rfl)) ?_
   refine p_v (v := .int .i64 t16) rfl rfl rfl (zae rfl) ?_
   obtain ⟨ad17, a17, at17⟩ := za4 (q := t16) (m := 1) S15 (j := 2) rfl rfl (by first|omega|(simp;omega)|assumption) (by first|omega|(simp;omega)|assumption)
   refine p_v (v := .pointer (some ad17)) rfl rfl rfl (za1 u25 ty4 rfl rfl a17 (by first|omega|(simp;omega)|assumption) (by first|omega|(simp;omega)|assumption)) ?_
   obtain ⟨seg18, rp18, cf18⟩ := zb4 (q := t16) S15 (j := 2) rfl rfl at17 (by first|omega|(simp;omega)|assumption) (by first|omega|(simp;omega)|assumption)
   obtain ⟨rfl, _⟩ := rp18
   refine p_v (v := .bool (at_ out2 t16)) rfl rfl rfl (zag (seg := [.bool (at_ out2 t16)]) ty4 rfl (by simp) rfl cf18) <| p_v (v := .bool (at_ out2 t16)) rfl rfl rfl (zae rfl) ?_
   rcases Bool.eq_false_or_eq_true (at_ out2 t16) with hc19 | hc19
   ·skip
    refine zat rfl (wo 4 23 rfl rfl (congrArg Value.bool hc19) rfl) rfl <| zat rfl (wo 4 23 rfl rfl (congrArg Value.bool hc19) rfl) rfl <| zat rfl (wo 4 23 rfl rfl (congrArg Value.bool hc19) rfl) rfl <| zat rfl (wo 4 23 rfl rfl (congrArg Value.bool hc19) rfl) rfl <| zat rfl (wo 4 23 rfl rfl (congrArg Value.bool hc19) rfl) rfl <| p_v (v := .bool true) rfl rfl rfl (zbc (congrArg Value.bool hc19) rfl) <| zaa <| zcn (b := true) rfl ?_
    simp only [if_true, if_false, Bool.false_eq_true]
    refine zbd rfl <| zac (l := [0, 1]) rfl <| p_v (v := .int .i64 (t16 + 1)) rfl rfl rfl (zb9 r15_16 rfl (zah (by first|omega|(simp;omega)|assumption) (by first|omega|(simp;omega)|assumption))) <| p_v (v := .int .i64 (t16 + 1)) rfl rfl rfl (zae rfl) <| zaa ?_
    refine ih15 (out2, more2, t16 + 1) _ _ (by dsimp only; omega) ⟨h15, v_out2, le15, S15.sub [0, 1, 2, 3] (by decide) rfl _ rfl, r15_1, r15_3, r15_4, r15_5, r15_15, rfl, (zah (by first|omega|(simp;omega)|assumption) (by first|omega|(simp;omega)|assumption)), (by first | exact ⟨by omega, by omega, use_old hI15.2.2 hI15.1 (.inl (by assumption))⟩ | exact ⟨by omega, by omega, use_old hI15.2.2 hI15.1 (.inr (by assumption))⟩ | exact ⟨by omega, by omega, use_no hI15.2.2 hI15.1 (by assumption) (by assumption)⟩ | exact ⟨by omega, by omega, use_new hR_ hI15.2.2 hI15.1 (by omega) (by assumption) (by assumption) (.inl (by assumption))⟩ | exact ⟨by omega, by omega, use_new hR_ hI15.2.2 hI15.1 (by omega) (by assumption) (by assumption) (.inr (by assumption))⟩)⟩
   refine p_v (v := v3_0) rfl (wo 4 23 rfl rfl (congrArg Value.bool hc19) rfl) rfl (zae r15_3) <| p_v (v := .int .i64 t16) rfl (wo 4 23 rfl rfl (congrArg Value.bool hc19) rfl) rfl (zae rfl) ?_
   obtain ⟨ad20, a20, at20⟩ := za4 (q := t16) (m := 1) S15 (j := 1) rfl rfl (by first|omega|(simp;omega)|assumption) (by first|omega|(simp;omega)|assumption)
   refine p_v (v := .pointer (some ad20)) rfl (wo 4 23 rfl rfl (congrArg Value.bool hc19) rfl) rfl (za1 u25 ty4 rfl rfl a20 (by first|omega|(simp;omega)|assumption) (by first|omega|(simp;omega)|assumption)) ?_
   obtain ⟨seg21, rp21, cf21⟩ := zb4 (q := t16) S15 (j := 1) rfl rfl at20 (by first|omega|(simp;omega)|assumption) (by first|omega|(simp;omega)|assumption)
   obtain ⟨rfl, _⟩ := rp21
   refine p_v (v := .bool (at_ (zdd m) t16)) rfl (wo 4 23 rfl rfl (congrArg Value.bool hc19) rfl) rfl (zag (seg := [.bool (at_ (zdd m) t16)]) ty4 rfl (by simp) rfl cf21) <| p_v (v := .bool (!(at_ (zdd m) t16))) rfl (wo 4 23 rfl rfl (congrArg Value.bool hc19) rfl) rfl (x_not rfl) <| p_v (v := .bool (!(at_ (zdd m) t16))) rfl rfl rfl (zcl (congrArg Value.bool hc19) rfl) <| zaa ?_
   refine zb0 (b := at_ (zdd m) t16) rfl (fun hc22 => ?_) (fun hc22 => ?_)
   ·skip
    refine zbd rfl <| zac (l := [0, 1]) rfl <| p_v (v := .int .i64 (t16 + 1)) rfl rfl rfl (zb9 r15_16 rfl (zah (by first|omega|(simp;omega)|assumption) (by first|omega|(simp;omega)|assumption))) <| p_v (v := .int .i64 (t16 + 1)) rfl rfl rfl (zae rfl) <| zaa ?_
    refine ih15 (out2, more2, t16 + 1) _ _ (by dsimp only; omega) ⟨h15, v_out2, le15, S15.sub [0, 1, 2, 3] (by decide) rfl _ rfl, r15_1, r15_3, r15_4, r15_5, r15_15, rfl, (zah (by first|omega|(simp;omega)|assumption) (by first|omega|(simp;omega)|assumption)), (by first | exact ⟨by omega, by omega, use_old hI15.2.2 hI15.1 (.inl (by assumption))⟩ | exact ⟨by omega, by omega, use_old hI15.2.2 hI15.1 (.inr (by assumption))⟩ | exact ⟨by omega, by omega, use_no hI15.2.2 hI15.1 (by assumption) (by assumption)⟩ | exact ⟨by omega, by omega, use_new hR_ hI15.2.2 hI15.1 (by omega) (by assumption) (by assumption) (.inl (by assumption))⟩ | exact ⟨by omega, by omega, use_new hR_ hI15.2.2 hI15.1 (by omega) (by assumption) (by assumption) (.inr (by assumption))⟩)⟩
   refine zas <| zab <| zac (l := [0, 1, 2, 3, 4, 5, 6, 7, 8, 9, 10, 11, 12, 13]) rfl <| p_v (v := .pointer (some ⟨b1, 3, none⟩)) rfl rfl rfl (zaf zc8 ty25 rfl r15_1) <| p_v (v := .slice A0_3 m.last.length c0_3) rfl rfl rfl (zag (seg := [.slice A0_3 m.last.length c0_3]) ty25 rfl (by simp) rfl (CF.box (m := 1) (S15.box_at (j := 0) rfl) rfl)) <| p_v (v := .int .i64 t16) rfl rfl rfl (zae rfl) ?_
   obtain ⟨ad23, seg23, a23, rp23, ce23⟩ := zaz (q := t16) (m := 1) l0_3 rfl (by first|omega|(simp;omega)|assumption) (by first|omega|(simp;omega)|assumption)
   refine p_v (v := .pointer (some ad23)) rfl rfl rfl (zay u25 ty4 rfl rfl a23 (by first|omega|(simp;omega)|assumption) (by first|omega|(simp;omega)|assumption)) ?_
   obtain ⟨rfl, _⟩ := rp23
   refine p_v (v := .bool (at_ m.last t16)) rfl rfl rfl (zag (seg := [.bool (at_ m.last t16)]) ty4 rfl (by simp) rfl (CF.ghost ce23 (St.le0 S15))) <| p_v (v := .bool (at_ m.last t16)) rfl rfl rfl (zae rfl) ?_
   rcases Bool.eq_false_or_eq_true (at_ m.last t16) with hc24 | hc24
   ·skip
    refine zat rfl (wo 5 35 rfl rfl (congrArg Value.bool hc24) rfl) rfl <| zat rfl (wo 5 35 rfl rfl (congrArg Value.bool hc24) rfl) rfl <| zat rfl (wo 5 35 rfl rfl (congrArg Value.bool hc24) rfl) rfl <| zat rfl (wo 5 35 rfl rfl (congrArg Value.bool hc24) rfl) rfl <| zat rfl (wo 5 35 rfl rfl (congrArg Value.bool hc24) rfl) rfl <| zat rfl (wo 5 35 rfl rfl (congrArg Value.bool hc24) rfl) rfl <| zat rfl (wo 5 35 rfl rfl (congrArg Value.bool hc24) rfl) rfl <| p_v (v := .bool true) rfl rfl rfl (zbc (congrArg Value.bool hc24) rfl) <| zaa <| zcn (b := true) rfl ?_
    simp only [if_true, if_false, Bool.false_eq_true]
    refine zac (l := [0, 1, 2, 3, 4]) rfl <| p_v (v := v_out2) rfl rfl rfl (zag (seg := [v_out2]) ty25 rfl (by simp) r15_4 (CF.box (m := 1) (S15.box_at (j := 3) rfl) rfl)) <| p_v (v := .int .i64 t16) rfl rfl rfl (zae rfl) ?_
    obtain ⟨ad25, a25, at25⟩ := za4 (q := t16) (m := 1) S15 (j := 2) rfl rfl (by first|omega|(simp;omega)|assumption) (by first|omega|(simp;omega)|assumption)
    refine p_v (v := .pointer (some ad25)) rfl rfl rfl (za1 u25 ty4 rfl rfl a25 (by first|omega|(simp;omega)|assumption) (by first|omega|(simp;omega)|assumption)) ?_
    obtain ⟨w26, r26, g26, T26⟩ := zb7 (u := .bool true) (q := t16) true (vs := [.bool true]) S15 ty4 rfl (j := 2) rfl rfl ⟨rfl, trivial⟩ at25 (by first|omega|(simp;omega)|assumption) (by first|omega|(simp;omega)|assumption)
    have S27 := T26.fx 2 (row 4 Kd.bool v_out2 (out2.set (t16).toNat true)) rfl
    dsimp only [lAa, lAn, lA0, lAs] at S27
    refine p_s rfl rfl (za7 rfl rfl r26) <| p_v (v := .bool true) rfl rfl rfl (zad rfl) <| zaa <| zar <| zac (l := [0, 1]) rfl <| p_v (v := .int .i64 (t16 + 1)) rfl rfl rfl (zb9 r15_16 rfl (zah (by first|omega|(simp;omega)|assumption) (by first|omega|(simp;omega)|assumption))) <| p_v (v := .int .i64 (t16 + 1)) rfl rfl rfl (zae rfl) <| zaa ?_
    refine ih15 (out2.set (t16).toNat true, true, t16 + 1) _ _ (by dsimp only; omega) ⟨h15, v_out2, le15, S27.sub [0, 1, 2, 3] (by decide) rfl _ rfl, r15_1, r15_3, r15_4, rfl, r15_15, rfl, (zah (by first|omega|(simp;omega)|assumption) (by first|omega|(simp;omega)|assumption)), (by first | exact ⟨by omega, by omega, use_old hI15.2.2 hI15.1 (.inl (by assumption))⟩ | exact ⟨by omega, by omega, use_old hI15.2.2 hI15.1 (.inr (by assumption))⟩ | exact ⟨by omega, by omega, use_no hI15.2.2 hI15.1 (by assumption) (by assumption)⟩ | exact ⟨by omega, by omega, use_new hR_ hI15.2.2 hI15.1 (by omega) (by assumption) (by assumption) (.inl (by assumption))⟩ | exact ⟨by omega, by omega, use_new hR_ hI15.2.2 hI15.1 (by omega) (by assumption) (by assumption) (.inr (by assumption))⟩)⟩
   refine p_v (v := .pointer (some ⟨b1, 2, none⟩)) rfl (wo 5 35 rfl rfl (congrArg Value.bool hc24) rfl) rfl (zaf zcr ty24 rfl r15_1) <| p_v (v := .slice A0_2 m.follow.length c0_2) rfl (wo 5 35 rfl rfl (congrArg Value.bool hc24) rfl) rfl (zag (seg := [.slice A0_2 m.follow.length c0_2]) ty24 rfl (by simp) rfl (CF.box (m := 1) (S15.box_at (j := 0) rfl) rfl)) <| p_v (v := .int .i64 t16) rfl (wo 5 35 rfl rfl (congrArg Value.bool hc24) rfl) rfl (zae rfl) ?_
   obtain ⟨ad28, seg28, a28, rp28, ce28⟩ := zaz (q := t16) (m := 1) l0_2 rfl (by first|omega|(simp;omega)|assumption) (by first|omega|(simp;omega)|assumption)
   refine p_v (v := .pointer (some ad28)) rfl (wo 5 35 rfl rfl (congrArg Value.bool hc24) rfl) rfl (zay u24 ty23 rfl rfl a28 (by first|omega|(simp;omega)|assumption) (by first|omega|(simp;omega)|assumption)) ?_
   obtain ⟨A28, c28, rfl, lc28, cm28, ld28⟩ := rp28
   have cn28 := cm28; simp only [maxLen] at cn28
   refine p_v (v := .slice A28 (at_ m.follow t16).length c28) rfl (wo 5 35 rfl rfl (congrArg Value.bool hc24) rfl) rfl (zag (seg := [.slice A28 (at_ m.follow t16).length c28]) ty23 rfl (by simp) rfl (CF.ghost ce28 (St.le0 S15))) <| p_v (v := .func (.func 29) #[] #[.pointer (some ⟨b7, 0, none⟩)]) rfl (wo 5 35 rfl rfl (congrArg Value.bool hc24) rfl) rfl (y_makeFunc (fv := []) (cv := [.pointer (some ⟨b7, 0, none⟩)]) rfl (zcw r15_4 rfl)) ?_
   obtain ⟨A29, c29, ev29, lc29, cm29⟩ := S15.row_val (j := 2) rfl
   refine p_c rfl (wo 5 35 rfl rfl (congrArg Value.bool hc24) rfl) rfl (zbp (args := [.slice A28 (at_ m.follow t16).length c28, .func (.func 29) #[] #[.pointer (some ⟨b7, 0, none⟩)]]) ca28 rfl rfl) (containsI_calls w15 (at_ m.follow t16) A28 c28 (And.intro lc28 cm28) (ld28.mono (St.le0 S15)) out2 A29 c29 (And.intro lc29 cm29) (zbi S15 (j := 2) rfl ev29) ⟨b7, 0, none⟩ (by rw [← ev29]; exact (zcx (S15.box_at (j := 3) rfl))) (by first | assumption | (intro x hx; have := hR_.rows (by assumption) (by omega) x hx; omega))) ?_
   rintro _ w30 ⟨h30, T30, rfl⟩
   have S31 := S15.keep (Chg.of_below T30.below)
   refine p_v (v := .bool ((at_ m.follow t16).any fun x => at_ out2 x)) rfl rfl rfl (zcl (congrArg Value.bool hc24) rfl) <| zaa ?_
   refine zbe (b := (at_ m.follow t16).any fun x => at_ out2 x) rfl (fun hc32 => ?_) (fun hc32 => ?_)
   ·skip
    refine zac (l := [0, 1, 2, 3, 4]) rfl <| p_v (v := v_out2) rfl rfl rfl (zag (seg := [v_out2]) ty25 rfl (by simp) r15_4 (CF.box (m := 1) (S31.box_at (j := 3) rfl) rfl)) <| p_v (v := .int .i64 t16) rfl rfl rfl (zae rfl) ?_
    obtain ⟨ad33, a33, at33⟩ := za4 (q := t16) (m := 1) S31 (j := 2) rfl rfl (by first|omega|(simp;omega)|assumption) (by first|omega|(simp;omega)|assumption)
    refine p_v (v := .pointer (some ad33)) rfl rfl rfl (za1 u25 ty4 rfl rfl a33 (by first|omega|(simp;omega)|assumption) (by first|omega|(simp;omega)|assumption)) ?_
    obtain ⟨w34, r34, g34, T34⟩ := zb7 (u := .bool true) (q := t16) true (vs := [.bool true]) S31 ty4 rfl (j := 2) rfl rfl ⟨rfl, trivial⟩ at33 (by first|omega|(simp;omega)|assumption) (by first|omega|(simp;omega)|assumption)
    have S35 := T34.fx 2 (row 4 Kd.bool v_out2 (out2.set (t16).toNat true)) rfl
    dsimp only [lAa, lAn, lA0, lAs] at S35
    refine p_s rfl rfl (za7 rfl rfl r34) <| p_v (v := .bool true) rfl rfl rfl (zad rfl) <| zaa <| zar <| zac (l := [0, 1]) rfl <| p_v (v := .int .i64 (t16 + 1)) rfl rfl rfl (zb9 r15_16 rfl (zah (by first|omega|(simp;omega)|assumption) (by first|omega|(simp;omega)|assumption))) <| p_v (v := .int .i64 (t16 + 1)) rfl rfl rfl (zae rfl) <| zaa ?_
    refine ih15 (out2.set (t16).toNat true, true, t16 + 1) _ _ (by dsimp only; omega) ⟨h15, v_out2, le15, S35.sub [0, 1, 2, 3] (by decide) rfl _ rfl, r15_1, r15_3, r15_4, rfl, r15_15, rfl, (zah (by first|omega|(simp;omega)|assumption) (by first|omega|(simp;omega)|assumption)), (by first | exact ⟨by omega, by omega, use_old hI15.2.2 hI15.1 (.inl (by assumption))⟩ | exact ⟨by omega, by omega, use_old hI15.2.2 hI15.1 (.inr (by assumption))⟩ | exact ⟨by omega, by omega, use_no hI15.2.2 hI15.1 (by assumption) (by assumption)⟩ | exact ⟨by omega, by omega, use_new hR_ hI15.2.2 hI15.1 (by omega) (by assumption) (by assumption) (.inl (by assumption))⟩ | exact ⟨by omega, by omega, use_new hR_ hI15.2.2 hI15.1 (by omega) (by assumption) (by assumption) (.inr (by assumption))⟩)⟩
   refine zas <| zar <| zac (l := [0, 1]) rfl <| p_v (v := .int .i64 (t16 + 1)) rfl rfl rfl (zb9 r15_16 rfl (zah (by first|omega|(simp;omega)|assumption) (by first|omega|(simp;omega)|assumption))) <| p_v (v := .int .i64 (t16 + 1)) rfl rfl rfl (zae rfl) <| zaa ?_
   refine ih15 (out2, more2, t16 + 1) _ _ (by dsimp only; omega) ⟨h15, v_out2, le15, S31.sub [0, 1, 2, 3] (by decide) rfl _ rfl, r15_1, r15_3, r15_4, r15_5, r15_15, rfl, (zah (by first|omega|(simp;omega)|assumption) (by first|omega|(simp;omega)|assumption)), (by first | exact ⟨by omega, by omega, use_old hI15.2.2 hI15.1 (.inl (by assumption))⟩ | exact ⟨by omega, by omega, use_old hI15.2.2 hI15.1 (.inr (by assumption))⟩ | exact ⟨by omega, by omega, use_no hI15.2.2 hI15.1 (by assumption) (by assumption)⟩ | exact ⟨by omega, by omega, use_new hR_ hI15.2.2 hI15.1 (by omega) (by assumption) (by assumption) (.inl (by assumption))⟩ | exact ⟨by omega, by omega, use_new hR_ hI15.2.2 hI15.1 (by omega) (by assumption) (by assumption) (.inr (by assumption))⟩)⟩
  refine zbd rfl <| zar ?_
  refine ih12 (out2, more2) _ _ (by exact use_dec hI15.2.2 (by assumption)) ⟨h15, v_out2, ((le12).trans le15), S15.sub [0, 1, 2, 3] (by decide) rfl _ rfl, r15_1, r15_3, r15_4, r15_5, (by exact use_i hI15.2.2 (by omega))⟩
 refine zbd rfl <| zab <| zac (l := [0, 1]) rfl <| p_v (v := v_out) rfl rfl rfl (zag (seg := [v_out]) ty25 rfl (by simp) r12_4 (CF.box (m := 1) (S12.box_at (j := 3) rfl) rfl)) <| p_v (v := v_out) rfl rfl rfl (zad rfl) <| zaa <| za0 Try.func18 (res1 rfl (za3 (v := v_out) rfl)) ?_
 have q0 : (zao m : List Bool) = out := by
  exact use_end pre0 hI12 (by assumption)
 refine ⟨_, rfl, h12, v_out, ?_, ?_⟩
 · rw [q0]; exact S12.sub [2] (by decide) rfl _ rfl
 · first | rfl | (simp only [q0]; rfl) | (simp only [q0])
theorem left_calls (w : World) (l : List Int) (A0 : Option Addr) (c0 : Nat) (b0 : l.length ≤ c0 ∧ c0 ≤ maxLen) (l0 : zbb (Kd.int .i64) (hp w) A0 l) (keep : List Bool) (A1 : Option Addr) (c1 : Nat) (b1 : keep.length ≤ c1 ∧ c1 ≤ maxLen) (l1 : zbb Kd.bool (hp w) A1 keep) (a1 : Addr) (pc1 : ∀ j v, [.slice A1 keep.length c1][j]? = some v → gcell (hp w) (a1.add j) = some v) (number : List Int) (A2 : Option Addr) (c2 : Nat) (b2 : number.length ≤ c2 ∧ c2 ≤ maxLen) (l2 : zbb (Kd.int .i64) (hp w) A2 number) (a2 : Addr) (pc2 : ∀ j v, [.slice A2 number.length c2][j]? = some v → gcell (hp w) (a2.add j) = some v) (pre0 : (l.length : Int) ≤ 250 ∧ ∀ x ∈ l, 0 ≤ x ∧ x < (keep.length : Int) ∧ x < (number.length : Int)) :
    Calls Try.prog 19 #[.slice A0 l.length c0, .pointer (some a1), .pointer (some a2)] w fun e w' => ∃ v, e = .returned v ∧ ∃ (hn : Ghost) (r0 : Value), St w.heap.size w hn w' [row 3 (Kd.int .i64) r0 (zb3 keep number l)] ∧ v = r0 := by
 refine zax Try.func19 rfl Try.ntmps19 rfl ?_
 have S0 := St.init w
 have bb0 := b0.1; have bc0 := b0.2; simp only [maxLen] at bc0
 have bb1 := b1.1; have bc1 := b1.2; simp only [maxLen] at bc1
 have bb2 := b2.1; have bc2 := b2.2; simp only [maxLen] at bc2
 have hp0_ := pre0.1
 refine zab <| zac (l := [0]) rfl <| p_v (v := .slice none 0 0) rfl rfl rfl (zad rfl) <| zaa <| zab <| zac (l := [0]) rfl <| p_v (v := .slice none 0 0) rfl rfl rfl (zad rfl) <| zaa <| zab <| zab <| zac (l := [0, 1, 2]) rfl <| p_v (v := .slice A0 l.length c0) rfl rfl rfl (zae rfl) ?_
 refine p_v (v := .int .i64 (l.length : Int)) rfl rfl rfl (zaq u23 rfl) <| p_v (v := .int .i64 0) rfl rfl rfl (zae rfl) <| zaa <| zal ?_
 have T1 := S0.row_nil 3 (Kd.int .i64)
 obtain ⟨vn1, ev1, T1⟩ : ∃ v, v = (.slice none 0 0 : Value) ∧ St w.heap.size w (fun _ => none) w ([] ++ [row 3 (Kd.int .i64) v []]) := ⟨_, rfl, T1⟩
 have S2 := T1
 dsimp only [lAa, lAn, lA0, lAs] at S2
 refine zbm (S := (List Int) × Int) (fun (q_ : (List Int) × Int) ρ w' => match q_ with | (out, t10) => ∃ (h : Ghost) (v_out : Value), Le (fun _ => none) h ∧ St w.heap.size w h w' [row 3 (Kd.int .i64) v_out out] ∧ ρ 1 = .pointer (some a1) ∧ ρ 2 = .pointer (some a2) ∧ ρ 5 = v_out ∧ ρ 8 = .slice A0 l.length c0 ∧ ρ 9 = .int .i64 (l.length : Int) ∧ ρ 10 = .int .i64 t10 ∧ inK .i64 t10 ∧ (0 ≤ t10 ∧ t10 ≤ (l.length : Int) ∧ out = zb3 keep number (l.take t10.toNat))) (fun q_ => match q_ with | (out, t10) => (l.length - t10).toNat) (([] : List Int), 0) ⟨(fun _ => none), vn1, Le.refl _, S2.sub [0] (by decide) rfl _ rfl, rfl, rfl, (ev1.symm), rfl, rfl, rfl, (zah (by first|omega|(simp;omega)|assumption) (by first|omega|(simp;omega)|assumption)), (by exact ⟨by omega, by omega, left_0 _ _ _⟩)⟩ ?_
 rintro ⟨out, t10⟩ ih3 ρ3 w3 ⟨h3, v_out, le3, S3, r3_1, r3_2, r3_5, r3_8, r3_9, r3_10, f3_0, hI3⟩
 have lf3_0 := zbk f3_0; have hf3_0 := zbl f3_0
 have rl3_0 := S3.row_le (j := 0) rfl; simp only [maxLen] at rl3_0
 have hx_ : t10 < (l.length : Int) → 0 ≤ at_ l t10 ∧ at_ l t10 < (keep.length : Int) ∧ at_ l t10 < (number.length : Int) := fun h => pre0.2 _ (at_mem hI3.1 h)
 have hl_ : (out.length : Int) ≤ 250 := by rw [hI3.2.2]; have := left_take keep number l t10; omega
 refine zab <| zac (l := [0]) rfl <| p_v (v := .bool (decide (t10 < (l.length : Int)))) rfl rfl rfl (x_lss r3_10 r3_9) <| zaa <| zab ?_
 refine zak (p := t10 < (l.length : Int)) rfl (fun hc4 => ?_) (fun hc4 => ?_)
 ·skip
  refine zas <| zab <| zal <| zab <| zac (l := [0, 1, 2]) rfl ?_
  obtain ⟨ad5, seg5, a5, rp5, ce5⟩ := zaz (q := t10) (m := 1) l0 rfl (by first|omega|(simp;omega)|assumption) (by first|omega|(simp;omega)|assumption)
  refine p_v (v := .pointer (some ad5)) rfl rfl rfl (zay u23 ty3 r3_8 r3_10 a5 (by first|omega|(simp;omega)|assumption) (by first|omega|(simp;omega)|assumption)) ?_
  obtain ⟨rfl, in5⟩ := rp5
  have lo5 := zbk in5; have hi5 := zbl in5
  refine p_v (v := .int .i64 (at_ l t10)) rfl rfl rfl (zag (seg := [.int .i64 (at_ l t10)]) ty3 rfl (by simp) rfl (CF.ghost ce5 (St.le0 S3))) <| p_v (v := .int .i64 (at_ l t10)) rfl rfl rfl (zad rfl) <| zaa <| zab <| zac (l := [0, 1, 2, 3]) rfl <| p_v (v := .slice A1 keep.length c1) rfl rfl rfl (zag (seg := [.slice A1 keep.length c1]) ty25 rfl (by simp) r3_1 (CF.ghost pc1 (St.le0 S3))) <| p_v (v := .int .i64 (at_ l t10)) rfl rfl rfl (zae rfl) ?_
  obtain ⟨ad6, seg6, a6, rp6, ce6⟩ := zaz (q := at_ l t10) (m := 1) l1 rfl (by first|omega|(simp;omega)|assumption) (by first|omega|(simp;omega)|assumption)
  refine p_v (v := .pointer (some ad6)) rfl rfl rfl (zay u25 ty4 rfl rfl a6 (by first|omega|(simp;omega)|assumption) (by first|omega|(simp;omega)|assumption)) ?_
  obtain ⟨rfl, _⟩ := rp6
  refine p_v (v := .bool (at_ keep (at_ l t10))) rfl rfl rfl (zag (seg := [.bool (at_ keep (at_ l t10))]) ty4 rfl (by simp) rfl (CF.ghost ce6 (St.le0 S3))) <| zaa ?_
  refine zbe (b := at_ keep (at_ l t10)) rfl (fun hc7 => ?_) (fun hc7 => ?_)
  ·skip
   refine zac (l := [0, 1, 2, 3, 4, 5, 6, 7]) rfl <| p_v (v := v_out) rfl rfl rfl (zae r3_5) <| p_v (v := .slice A2 number.length c2) rfl rfl rfl (zag (seg := [.slice A2 number.length c2]) ty23 rfl (by simp) r3_2 (CF.ghost pc2 (St.le0 S3))) <| p_v (v := .int .i64 (at_ l t10)) rfl rfl rfl (zae rfl) ?_
   obtain ⟨ad8, seg8, a8, rp8, ce8⟩ := zaz (q := at_ l t10) (m := 1) l2 rfl (by first|omega|(simp;omega)|assumption) (by first|omega|(simp;omega)|assumption)
   refine p_v (v := .pointer (some ad8)) rfl rfl rfl (zay u23 ty3 rfl rfl a8 (by first|omega|(simp;omega)|assumption) (by first|omega|(simp;omega)|assumption)) ?_
   obtain ⟨rfl, in8⟩ := rp8
   have lo8 := zbk in8; have hi8 := zbl in8
   refine p_v (v := .int .i64 (at_ number (at_ l t10))) rfl rfl rfl (zag (seg := [.int .i64 (at_ number (at_ l t10))]) ty3 rfl (by simp) rfl (CF.ghost ce8 (St.le0 S3))) ?_
   obtain ⟨v9, w9, r9, g9, T9⟩ := zba (kd := (Kd.int .i64)) (xs := ([at_ number (at_ l t10)] : List Int)) (len := 1) [.int .i64 (at_ number (at_ l t10))] S3 u23 ty3 rfl rfl rfl rfl rfl (zbz rfl zb8) [.int .i64 (at_ number (at_ l t10))] (zbx.single (k := (Kd.int .i64)) (h := h3) (x := at_ number (at_ l t10)) (cs := [.int .i64 (at_ number (at_ l t10))]) ⟨rfl, (zah (by first|omega|(simp;omega)|assumption) (by first|omega|(simp;omega)|assumption))⟩) rfl
   have S10 := T9
   dsimp only [lAa, lAn, lA0, lAs] at S10
   refine p_v (v := v9) rfl rfl rfl (zaw (pv := [(0, .int .i64 (at_ number (at_ l t10)))]) rfl r9) ?_
   obtain ⟨A12, c12, ev12, lc12, cm12⟩ := S10.row_val (j := 1) rfl
   obtain ⟨v13, w13, r13, g13, T13⟩ := zcc (kd := (Kd.int .i64)) (A := A12) (c := c12) (ys := ([at_ number (at_ l t10)] : List Int)) (len := ([at_ number (at_ l t10)] : List Int).length) 23 S10 u23 ty3 rfl rfl (j := 0) rfl rfl (zcs S10 (j := 1) rfl ev12) (by first|omega|(simp;omega)|assumption) (by first|omega|(simp;omega)|assumption)
   have S14 := T13.fx 0 (row 3 (Kd.int .i64) v13 (out ++ ([at_ number (at_ l t10)] : List Int))) rfl
   dsimp only [lAa, lAn, lA0, lAs] at S14
   refine p_v (v := v13) rfl rfl rfl (zca rfl ev12 r13) <| p_v (v := v13) rfl rfl rfl (zad rfl) <| zaa <| zar <| zac (l := [0, 1]) rfl <| p_v (v := .int .i64 (t10 + 1)) rfl rfl rfl (zb9 r3_10 rfl (zah (by first|omega|(simp;omega)|assumption) (by first|omega|(simp;omega)|assumption))) <| p_v (v := .int .i64 (t10 + 1)) rfl rfl rfl (zae rfl) <| zaa ?_
   refine ih3 (out ++ ([at_ number (at_ l t10)] : List Int), t10 + 1) _ _ (by dsimp only; omega) ⟨h3, v13, le3, S14.sub [0] (by decide) rfl _ rfl, r3_1, r3_2, rfl, r3_8, r3_9, rfl, (zah (by first|omega|(simp;omega)|assumption) (by first|omega|(simp;omega)|assumption)), (by first | exact ⟨by omega, by omega, by rw [hI3.2.2]; exact left_yes _ _ _ hI3.1 (by omega) (by assumption)⟩ | exact ⟨by omega, by omega, by rw [hI3.2.2]; exact left_no _ _ _ hI3.1 (by omega) (by assumption)⟩)⟩
  refine zas <| zar <| zac (l := [0, 1]) rfl <| p_v (v := .int .i64 (t10 + 1)) rfl rfl rfl (zb9 r3_10 rfl (zah (by first|omega|(simp;omega)|assumption) (by first|omega|(simp;omega)|assumption))) <| p_v (v := .int .i64 (t10 + 1)) rfl rfl rfl (zae rfl) <| zaa ?_
  refine ih3 (out, t10 + 1) _ _ (by dsimp only; omega) ⟨h3, v_out, le3, S3.sub [0] (by decide) rfl _ rfl, r3_1, r3_2, r3_5, r3_8, r3_9, rfl, (zah (by first|omega|(simp;omega)|assumption) (by first|omega|(simp;omega)|assumption)), (by first | exact ⟨by omega, by omega, by rw [hI3.2.2]; exact left_yes _ _ _ hI3.1 (by omega) (by assumption)⟩ | exact ⟨by omega, by omega, by rw [hI3.2.2]; exact left_no _ _ _ hI3.1 (by omega) (by assumption)⟩)⟩
 refine zbd rfl <| zab <| zac (l := [0, 1]) rfl <| p_v (v := v_out) rfl rfl rfl (zae r3_5) <| p_v (v := v_out) rfl rfl rfl (zad rfl) <| zaa <| za0 Try.func19 (res1 rfl (za3 (v := v_out) rfl)) ?_
 have q0 : (zb3 keep number l : List Int) = out := by
  rw [hI3.2.2]; exact left_end _ _ _ (by omega)
 refine ⟨_, rfl, h3, v_out, ?_, ?_⟩
 · rw [q0]; exact S3.sub [0] (by decide) rfl _ rfl
 · first | rfl | (simp only [q0]; rfl) | (simp only [q0])
theorem trimN_calls (w : World) (m : Mach) (A0_0 : Option Addr) (c0_0 : Nat) (b0_0 : m.spots.length ≤ c0_0 ∧ c0_0 ≤ maxLen) (l0_0 : zbb za8 (hp w) A0_0 m.spots) (A0_1 : Option Addr) (c0_1 : Nat) (b0_1 : m.first.length ≤ c0_1 ∧ c0_1 ≤ maxLen) (l0_1 : zbb (Kd.int .i64) (hp w) A0_1 m.first) (A0_2 : Option Addr) (c0_2 : Nat) (b0_2 : m.follow.length ≤ c0_2 ∧ c0_2 ≤ maxLen) (l0_2 : zbb (Kd.int .i64).slice (hp w) A0_2 m.follow) (A0_3 : Option Addr) (c0_3 : Nat) (b0_3 : m.last.length ≤ c0_3 ∧ c0_3 ≤ maxLen) (l0_3 : zbb Kd.bool (hp w) A0_3 m.last) :
    Calls Try.prog 8 #[.agg #[.slice A0_0 m.spots.length c0_0, .slice A0_1 m.first.length c0_1, .slice A0_2 m.follow.length c0_2, .slice A0_3 m.last.length c0_3, .bool m.empty]] w fun e w' => ∃ v, e = .returned v ∧ ∃ (hn : Ghost) (r0 : Value) (r1 : Value) (r2 : Value) (r3 : Value), St w.heap.size w hn w' [row 38 za8 r0 ((za2 m).spots), row 3 (Kd.int .i64) r1 ((za2 m).first), row 23 (Kd.int .i64).slice r2 ((za2 m).follow), row 4 Kd.bool r3 ((za2 m).last)] ∧ v = .tuple #[.agg #[r0, r1, r2, r3, .bool ((za2 m).empty)], .int .i64 (errM m)] ∧ inK .i64 (errM m) := by
 refine zax Try.func8 rfl Try.ntmps8 rfl ?_
 have S0 := St.init w
 have bb0_0 := b0_0.1; have bc0_0 := b0_0.2; simp only [maxLen] at bc0_0
 have bb0_1 := b0_1.1; have bc0_1 := b0_1.2; simp only [maxLen] at bc0_1
 have bb0_2 := b0_2.1; have bc0_2 := b0_2.2; simp only [maxLen] at bc0_2
 have bb0_3 := b0_3.1; have bc0_3 := b0_3.2; simp only [maxLen] at bc0_3
 refine zab <| zac (l := [0, 1, 2]) rfl ?_
 obtain ⟨b1, w1, r1, g1, T1⟩ := zc1 (P := Try.prog) S0 27 (v := .agg #[.slice A0_0 m.spots.length c0_0, .slice A0_1 m.first.length c0_1, .slice A0_2 m.follow.length c0_2, .slice A0_3 m.last.length c0_3, .bool m.empty]) [.slice A0_0 m.spots.length c0_0, .slice A0_1 m.first.length c0_1, .slice A0_2 m.follow.length c0_2, .slice A0_3 m.last.length c0_3, .bool m.empty] rfl
 have S2 := T1
 dsimp only [lAa, lAn, lA0, lAs] at S2
 refine p_v (v := .pointer (some ⟨b1, 0, none⟩)) rfl rfl rfl (x_box rfl r1) ?_
 obtain ⟨b3, w3, r3, g3, T3⟩ := zc1 (P := Try.prog) S2 27 (v := (.agg #[.slice none 0 0, .slice none 0 0, .slice none 0 0, .slice none 0 0, .bool false])) [.slice none 0 0, .slice none 0 0, .slice none 0 0, .slice none 0 0, .bool false] rfl
 have S4 := T3
 dsimp only [lAa, lAn, lA0, lAs] at S4
 refine p_v (v := .pointer (some ⟨b3, 0, none⟩)) rfl rfl rfl (zck ty27 r3) <| p_v (v := .int .i64 0) rfl rfl rfl (zad rfl) <| zaa <| zab <| zab <| zac (l := [0, 1, 2]) rfl <| p_v (v := .agg #[.slice A0_0 m.spots.length c0_0, .slice A0_1 m.first.length c0_1, .slice A0_2 m.follow.length c0_2, .slice A0_3 m.last.length c0_3, .bool m.empty]) rfl rfl rfl (zag (seg := [.slice A0_0 m.spots.length c0_0, .slice A0_1 m.first.length c0_1, .slice A0_2 m.follow.length c0_2, .slice A0_3 m.last.length c0_3, .bool m.empty]) ty27 rfl (by simp) rfl (CF.box (m := 5) (S4.box_at (j := 0) rfl) rfl)) <| p_c rfl rfl rfl (zbp (args := [.agg #[.slice A0_0 m.spots.length c0_0, .slice A0_1 m.first.length c0_1, .slice A0_2 m.follow.length c0_2, .slice A0_3 m.last.length c0_3, .bool m.empty]]) ca12 rfl rfl) (rightN_calls w3 m A0_0 c0_0 b0_0 (l0_0.mono (St.le0 S4)) A0_1 c0_1 b0_1 (l0_1.mono (St.le0 S4)) A0_2 c0_2 b0_2 (l0_2.mono (St.le0 S4)) A0_3 c0_3 b0_3 (l0_3.mono (St.le0 S4))) ?_
 rintro _ w5 ⟨h5, T5, rfl⟩
 have S6 := S4.keep (Chg.of_below T5.below)
 refine p_v (v := .bool (!(zbq m))) rfl rfl rfl (x_not rfl) <| zaa ?_
 refine zb0 (b := zbq m) rfl (fun hc7 => ?_) (fun hc7 => ?_)
 ·skip
  refine zab <| zac (l := [0, 1, 2]) rfl <| p_v (v := .agg #[.slice none 0 0, .slice none 0 0, .slice none 0 0, .slice none 0 0, .bool false]) rfl rfl rfl (y_build (pv := []) rfl (zby pl27 ty27 rfl (cs := [.slice none 0 0, .slice none 0 0, .slice none 0 0, .slice none 0 0, .bool false]) rfl)) ?_
  obtain ⟨w8, r8, g8, T8⟩ := zbf (P := Try.prog) (off := 0) (v := .agg #[.slice none 0 0, .slice none 0 0, .slice none 0 0, .slice none 0 0, .bool false]) (vs := [.slice none 0 0, .slice none 0 0, .slice none 0 0, .slice none 0 0, .bool false]) S6 ty27 rfl rfl (j := 1) rfl (by first | decide | exact Nat.le_of_ble_eq_true rfl) (by simp [Value.oneCell'])
  have S9 : St w.heap.size w (fun _ => none) w8 [box b1 27 [.slice A0_0 m.spots.length c0_0, .slice A0_1 m.first.length c0_1, .slice A0_2 m.follow.length c0_2, .slice A0_3 m.last.length c0_3, .bool m.empty], box b3 27 [.slice none 0 0, .slice none 0 0, .slice none 0 0, .slice none 0 0, .bool false]] := T8
  refine p_s rfl rfl (za7 rfl rfl r8) <| p_v (v := .int .i64 1) rfl rfl rfl (zad rfl) <| zaa ?_
  have T10 := S9.row_nil 38 za8
  have S11 := T10
  dsimp only [lAa, lAn, lA0, lAs] at S11
  have T12 := S11.row_nil 3 (Kd.int .i64)
  have S13 := T12
  dsimp only [lAa, lAn, lA0, lAs] at S13
  have T14 := S13.row_nil 23 (Kd.int .i64).slice
  have S15 := T14
  dsimp only [lAa, lAn, lA0, lAs] at S15
  have T16 := S15.row_nil 4 Kd.bool
  have S17 := T16
  dsimp only [lAa, lAn, lA0, lAs] at S17
  refine za0 Try.func8 (res2 rfl (res_cell S9 ty27 rfl (j := 1) rfl rfl (by simp) rfl) (za3 (v := .int .i64 1) rfl)) ?_
  have q0 : ((za2 m).spots : List Spot) = ([] : List Spot) := by
   first | (rw [zam (by assumption)]; done) | (rw [zam (by assumption)]) | exact zbr (by assumption) | exact zbs (by assumption) | (rw [zan (by assumption)]; done) | (rw [zan (by assumption)]; first | rfl | (rw [hI_.2.2.1, show t47 = (m.spots.length : Int) by omega]; done) | (rw [hI_.2.2.2.1, show t47 = (m.spots.length : Int) by omega]; done) | (rw [hI_.2.2.2.2, show t47 = (m.spots.length : Int) by omega]; done) | (rw [hnum_, zbv]))
  have q1 : ((za2 m).first : List Int) = ([] : List Int) := by
   first | (rw [zam (by assumption)]; done) | (rw [zam (by assumption)]) | exact zbr (by assumption) | exact zbs (by assumption) | (rw [zan (by assumption)]; done) | (rw [zan (by assumption)]; first | rfl | (rw [hI_.2.2.1, show t47 = (m.spots.length : Int) by omega]; done) | (rw [hI_.2.2.2.1, show t47 = (m.spots.length : Int) by omega]; done) | (rw [hI_.2.2.2.2, show t47 = (m.spots.length : Int) by omega]; done) | (rw [hnum_, zbv]))
  have q2 : ((za2 m).follow : List (List Int)) = ([] : List (List Int)) := by
   first | (rw [zam (by assumption)]; done) | (rw [zam (by assumption)]) | exact zbr (by assumption) | exact zbs (by assumption) | (rw [zan (by assumption)]; done) | (rw [zan (by assumption)]; first | rfl | (rw [hI_.2.2.1, show t47 = (m.spots.length : Int) by omega]; done) | (rw [hI_.2.2.2.1, show t47 = (m.spots.length : Int) by omega]; done) | (rw [hI_.2.2.2.2, show t47 = (m.spots.length : Int) by omega]; done) | (rw [hnum_, zbv]))
  have q3 : ((za2 m).last : List Bool) = ([] : List Bool) := by
   first | (rw [zam (by assumption)]; done) | (rw [zam (by assumption)]) | exact zbr (by assumption) | exact zbs (by assumption) | (rw [zan (by assumption)]; done) | (rw [zan (by assumption)]; first | rfl | (rw [hI_.2.2.1, show t47 = (m.spots.length : Int) by omega]; done) | (rw [hI_.2.2.2.1, show t47 = (m.spots.length : Int) by omega]; done) | (rw [hI_.2.2.2.2, show t47 = (m.spots.length : Int) by omega]; done) | (rw [hnum_, zbv]))
  have q4 : ((za2 m).empty : Bool) = false := by
   first | (rw [zam (by assumption)]; done) | (rw [zam (by assumption)]) | exact zbr (by assumption) | exact zbs (by assumption) | (rw [zan (by assumption)]; done) | (rw [zan (by assumption)]; first | rfl | (rw [hI_.2.2.1, show t47 = (m.spots.length : Int) by omega]; done) | (rw [hI_.2.2.2.1, show t47 = (m.spots.length : Int) by omega]; done) | (rw [hI_.2.2.2.2, show t47 = (m.spots.length : Int) by omega]; done) | (rw [hnum_, zbv]))
  have q5 : (errM m : Int) = 1 := by
   first | (rw [zam (by assumption)]; done) | (rw [zam (by assumption)]) | exact zbr (by assumption) | exact zbs (by assumption) | (rw [zan (by assumption)]; done) | (rw [zan (by assumption)]; first | rfl | (rw [hI_.2.2.1, show t47 = (m.spots.length : Int) by omega]; done) | (rw [hI_.2.2.2.1, show t47 = (m.spots.length : Int) by omega]; done) | (rw [hI_.2.2.2.2, show t47 = (m.spots.length : Int) by omega]; done) | (rw [hnum_, zbv]))
  refine ⟨_, rfl, (fun _ => none), (.slice none 0 0), (.slice none 0 0), (.slice none 0 0), (.slice none 0 0), ?_, ?_, ?_⟩
  · rw [q0]; rw [q1]; rw [q2]; rw [q3]; exact S17.sub [2, 3, 4, 5] (by decide) rfl _ rfl
  · first | rfl | (simp only [q0, q1, q2, q3, q4, q5]; rfl) | (simp only [q0, q1, q2, q3, q4, q5])
  · rw [q5]; exact (zah (by first|omega|(simp;omega)|assumption) (by first|omega|(simp;omega)|assumption))
 have hR_ := right_iff.1 hc7
 have hsm_ := hR_.small; have hfo_ := hR_.follow; have hla_ := hR_.last; have hkl_ := keepM_len m; have hss_ := hR_.small'; have hfi_ := hss_.first
 refine zas <| zab <| zac (l := [0, 1, 2, 3]) rfl <| p_v (v := .agg #[.slice A0_0 m.spots.length c0_0, .slice A0_1 m.first.length c0_1, .slice A0_2 m.follow.length c0_2, .slice A0_3 m.last.length c0_3, .bool m.empty]) rfl rfl rfl (zag (seg := [.slice A0_0 m.spots.length c0_0, .slice A0_1 m.first.length c0_1, .slice A0_2 m.follow.length c0_2, .slice A0_3 m.last.length c0_3, .bool m.empty]) ty27 rfl (by simp) rfl (CF.box (m := 5) (S6.box_at (j := 0) rfl) rfl)) <| p_c rfl rfl rfl (zbp (args := [.agg #[.slice A0_0 m.spots.length c0_0, .slice A0_1 m.first.length c0_1, .slice A0_2 m.follow.length c0_2, .slice A0_3 m.last.length c0_3, .bool m.empty]]) ca18 rfl rfl) (useful_calls w5 m A0_0 c0_0 b0_0 (l0_0.mono (St.le0 S6)) A0_1 c0_1 b0_1 (l0_1.mono (St.le0 S6)) A0_2 c0_2 b0_2 (l0_2.mono (St.le0 S6)) A0_3 c0_3 b0_3 (l0_3.mono (St.le0 S6)) (by assumption)) ?_
 rintro v18_0 w18 ⟨h18, _, T18, rfl⟩
 obtain ⟨k18, lk18, ll18, U18⟩ := zbg S6 T18
 have S19 := U18
 dsimp only [lAa, lAn, lA0, lAs] at S19
 obtain ⟨b20, w20, r20, g20, T20⟩ := zc1 (P := Try.prog) S19 25 (v := (.slice none 0 0)) [.slice none 0 0] rfl
 have S21 := T20
 dsimp only [lAa, lAn, lA0, lAs] at S21
 refine p_v (v := .pointer (some ⟨b20, 0, none⟩)) rfl rfl rfl (zck ty25 r20) ?_
 have oc23 := za5 S21 (j := 2) rfl
 obtain ⟨w22, r22, g22, T22⟩ := zbf (P := Try.prog) (off := 0) (v := v18_0) (vs := [v18_0]) S21 ty25 (za9 S21 (j := 2) rfl) rfl (j := 3) rfl (by first | decide | exact Nat.le_of_ble_eq_true rfl) (zai oc23 zbt)
 have S24 := T22.fx 3 (box b20 25 [v18_0]) rfl
 dsimp only [lAa, lAn, lA0, lAs] at S24
 refine p_s rfl rfl (za7 rfl rfl r22) <| zaa <| zab <| zac (l := [0, 1, 2, 3, 4]) rfl <| p_v (v := v18_0) rfl rfl rfl (zag (seg := [v18_0]) ty25 rfl (by simp) rfl (CF.box (m := 1) (S24.box_at (j := 3) rfl) rfl)) ?_
 have lb25 := S24.row_le (j := 2) rfl; simp only [maxLen] at lb25
 refine p_v (v := .int .i64 ((zao m).length : Int)) rfl rfl rfl (zcm u25 rfl (zcq S24 (j := 2) rfl)) ?_
 obtain ⟨v26, w26, r26, g26, T26⟩ := e_make (kk := .i64) (kk' := .i64) (kd := (Kd.int .i64)) (q := ((zao m).length : Int)) (z := (0 : Int)) (zc := [.int .i64 0]) S24 u23 ty3 rfl rfl ⟨rfl, by constructor <;> decide⟩ (by first|omega|(simp;omega)|assumption) (by first|omega|(simp;omega)|assumption) (by first|omega|(simp;omega)|assumption)
 have S27 := T26
 dsimp only [lAa, lAn, lA0, lAs] at S27
 refine p_v (v := v26) rfl rfl rfl (x_make rfl rfl r26) ?_
 obtain ⟨b28, w28, r28, g28, T28⟩ := zc1 (P := Try.prog) S27 23 (v := (.slice none 0 0)) [.slice none 0 0] rfl
 have S29 := T28
 dsimp only [lAa, lAn, lA0, lAs] at S29
 refine p_v (v := .pointer (some ⟨b28, 0, none⟩)) rfl rfl rfl (zck ty23 r28) ?_
 have oc31 := za5 S29 (j := 4) rfl
 obtain ⟨w30, r30, g30, T30⟩ := zbf (P := Try.prog) (off := 0) (v := v26) (vs := [v26]) S29 ty23 (za9 S29 (j := 4) rfl) rfl (j := 5) rfl (by first | decide | exact Nat.le_of_ble_eq_true rfl) (zai oc31 zbt)
 have S32 := T30.fx 5 (box b28 23 [v26]) rfl
 dsimp only [lAa, lAn, lA0, lAs] at S32
 refine p_s rfl rfl (za7 rfl rfl r30) <| zaa <| zab <| zac (l := [0]) rfl <| p_v (v := .int .i64 0) rfl rfl rfl (zad rfl) <| zaa <| zab <| zab <| zac (l := [0, 1, 2]) rfl <| p_v (v := v18_0) rfl rfl rfl (zag (seg := [v18_0]) ty25 rfl (by simp) rfl (CF.box (m := 1) (S32.box_at (j := 3) rfl) rfl)) ?_
 have lb33 := S32.row_le (j := 2) rfl; simp only [maxLen] at lb33
 refine p_v (v := .int .i64 ((zao m).length : Int)) rfl rfl rfl (zcm u25 rfl (zcq S32 (j := 2) rfl)) <| p_v (v := .int .i64 0) rfl rfl rfl (zae rfl) <| zaa <| zal <| zbm (S := (List Int) × Int × Int) (fun (q_ : (List Int) × Int × Int) ρ w' => match q_ with | (number, n, t24) => ∃ (h : Ghost) (v_number : Value), Le k18 h ∧ St w.heap.size w h w' [box b1 27 [.slice A0_0 m.spots.length c0_0, .slice A0_1 m.first.length c0_1, .slice A0_2 m.follow.length c0_2, .slice A0_3 m.last.length c0_3, .bool m.empty], box b3 27 [.slice none 0 0, .slice none 0 0, .slice none 0 0, .slice none 0 0, .bool false], row 4 Kd.bool v18_0 (zao m), box b20 25 [v18_0], row 3 (Kd.int .i64) v_number number, box b28 23 [v_number]] ∧ ρ 1 = .pointer (some ⟨b1, 0, none⟩) ∧ ρ 2 = .pointer (some ⟨b3, 0, none⟩) ∧ ρ 4 = .pointer (some ⟨b20, 0, none⟩) ∧ ρ 5 = .pointer (some ⟨b28, 0, none⟩) ∧ ρ 6 = .int .i64 n ∧ ρ 22 = v18_0 ∧ ρ 23 = .int .i64 ((zao m).length : Int) ∧ ρ 24 = .int .i64 t24 ∧ inK .i64 n ∧ inK .i64 t24 ∧ (0 ≤ t24 ∧ t24 ≤ (m.spots.length : Int) ∧ n = zc6 (zao m) t24 ∧ number = numsIn (zao m) m.spots.length t24)) (fun q_ => match q_ with | (number, n, t24) => (m.spots.length - t24).toNat) (List.replicate (((zao m).length : Int)).toNat (0 : Int), 0, 0) ⟨k18, v26, Le.refl _, S32.sub [0, 1, 2, 3, 4, 5] (by decide) rfl _ rfl, rfl, rfl, rfl, rfl, rfl, rfl, rfl, rfl, (zah (by first|omega|(simp;omega)|assumption) (by first|omega|(simp;omega)|assumption)), (zah (by first|omega|(simp;omega)|assumption) (by first|omega|(simp;omega)|assumption)), (by exact ⟨by omega, by omega, (num_at0 _).symm, by rw [hkl_]; exact numsIn_0 _ _⟩)⟩ ?_
 rintro ⟨number, n, t24⟩ ih34 ρ34 w34 ⟨h34, v_number, le34, S34, r34_1, r34_2, r34_4, r34_5, r34_6, r34_22, r34_23, r34_24, f34_0, f34_1, hI34⟩
 have lf34_0 := zbk f34_0; have hf34_0 := zbl f34_0
 have lf34_1 := zbk f34_1; have hf34_1 := zbl f34_1
 have rl34_2 := S34.row_le (j := 2) rfl; simp only [maxLen] at rl34_2
 have rl34_4 := S34.row_le (j := 4) rfl; simp only [maxLen] at rl34_4
 have hn_ := num_at_le (zao m) hI34.1; rw [← hI34.2.2.1] at hn_
 have hnl_ : (number.length : Int) = m.spots.length := by rw [hI34.2.2.2, numsIn_len]
 refine zab <| zac (l := [0]) rfl <| p_v (v := .bool (decide (t24 < ((zao m).length : Int)))) rfl rfl rfl (x_lss r34_24 r34_23) <| zaa <| zab ?_
 refine zak (p := t24 < ((zao m).length : Int)) rfl (fun hc35 => ?_) (fun hc35 => ?_)
 ·skip
  refine zas <| zab <| zal <| zab <| zac (l := [0, 1, 2, 3, 4]) rfl <| p_v (v := .int .i64 t24) rfl rfl rfl (zae r34_24) ?_
  obtain ⟨ad36, a36, at36⟩ := za4 (q := t24) (m := 1) S34 (j := 2) rfl rfl (by first|omega|(simp;omega)|assumption) (by first|omega|(simp;omega)|assumption)
  refine p_v (v := .pointer (some ad36)) rfl rfl rfl (za1 u25 ty4 r34_22 r34_24 a36 (by first|omega|(simp;omega)|assumption) (by first|omega|(simp;omega)|assumption)) ?_
  obtain ⟨seg37, rp37, cf37⟩ := zb4 (q := t24) S34 (j := 2) rfl rfl at36 (by first|omega|(simp;omega)|assumption) (by first|omega|(simp;omega)|assumption)
  obtain ⟨rfl, _⟩ := rp37
  refine p_v (v := .bool (at_ (zao m) t24)) rfl rfl rfl (zag (seg := [.bool (at_ (zao m) t24)]) ty4 rfl (by simp) rfl cf37) <| p_v (v := .int .i64 t24) rfl rfl rfl (zad rfl) <| p_v (v := .bool (at_ (zao m) t24)) rfl rfl rfl (zad rfl) <| zaa <| zab <| zac (l := [0, 1, 2, 3, 4]) rfl <| p_v (v := v_number) rfl rfl rfl (zag (seg := [v_number]) ty23 rfl (by simp) r34_5 (CF.box (m := 1) (S34.box_at (j := 5) rfl) rfl)) <| p_v (v := .int .i64 t24) rfl rfl rfl (zae rfl) <| p_v (v := .int .i64 n) rfl rfl rfl (zae r34_6) ?_
  obtain ⟨ad38, a38, at38⟩ := za4 (q := t24) (m := 1) S34 (j := 4) rfl rfl (by first|omega|(simp;omega)|assumption) (by first|omega|(simp;omega)|assumption)
  refine p_v (v := .pointer (some ad38)) rfl rfl rfl (za1 u23 ty3 rfl rfl a38 (by first|omega|(simp;omega)|assumption) (by first|omega|(simp;omega)|assumption)) ?_
  obtain ⟨w39, r39, g39, T39⟩ := zb7 (u := .int .i64 n) (q := t24) n (vs := [.int .i64 n]) S34 ty3 rfl (j := 4) rfl rfl ⟨rfl, f34_0⟩ at38 (by first|omega|(simp;omega)|assumption) (by first|omega|(simp;omega)|assumption)
  have S40 := T39.fx 4 (row 3 (Kd.int .i64) v_number (number.set (t24).toNat n)) rfl
  dsimp only [lAa, lAn, lA0, lAs] at S40
  refine p_s rfl rfl (za7 rfl rfl r39) <| zaa <| zab <| zac (l := [0]) rfl <| p_v (v := .bool (at_ (zao m) t24)) rfl rfl rfl (zae rfl) <| zaa ?_
  refine zbe (b := at_ (zao m) t24) rfl (fun hc41 => ?_) (fun hc41 => ?_)
  ·skip
   refine zac (l := [0, 1, 2]) rfl <| p_v (v := .int .i64 n) rfl rfl rfl (zae r34_6) <| p_v (v := .int .i64 (n + 1)) rfl rfl rfl (zb9 rfl rfl (zah (by first|omega|(simp;omega)|assumption) (by first|omega|(simp;omega)|assumption))) <| p_v (v := .int .i64 (n + 1)) rfl rfl rfl (zad rfl) <| zaa <| zar <| zac (l := [0, 1]) rfl <| p_v (v := .int .i64 (t24 + 1)) rfl rfl rfl (zb9 r34_24 rfl (zah (by first|omega|(simp;omega)|assumption) (by first|omega|(simp;omega)|assumption))) <| p_v (v := .int .i64 (t24 + 1)) rfl rfl rfl (zae rfl) <| zaa ?_
   refine ih34 (number.set (t24).toNat n, n + 1, t24 + 1) _ _ (by dsimp only; omega) ⟨h34, v_number, le34, S40.sub [0, 1, 2, 3, 4, 5] (by decide) rfl _ rfl, r34_1, r34_2, r34_4, r34_5, rfl, r34_22, r34_23, rfl, (zah (by first|omega|(simp;omega)|assumption) (by first|omega|(simp;omega)|assumption)), (zah (by first|omega|(simp;omega)|assumption) (by first|omega|(simp;omega)|assumption)), (by first | exact ⟨by omega, by omega, by rw [hI34.2.2.1, num_at1 _ hI34.1 (by assumption)], by rw [hI34.2.2.1, hI34.2.2.2]; exact zc5 _ _ hI34.1 (by omega)⟩ | exact ⟨by omega, by omega, by rw [hI34.2.2.1, num_at2 _ hI34.1 (by assumption)], by rw [hI34.2.2.1, hI34.2.2.2]; exact zc5 _ _ hI34.1 (by omega)⟩)⟩
  refine zas <| zar <| zac (l := [0, 1]) rfl <| p_v (v := .int .i64 (t24 + 1)) rfl rfl rfl (zb9 r34_24 rfl (zah (by first|omega|(simp;omega)|assumption) (by first|omega|(simp;omega)|assumption))) <| p_v (v := .int .i64 (t24 + 1)) rfl rfl rfl (zae rfl) <| zaa ?_
  refine ih34 (number.set (t24).toNat n, n, t24 + 1) _ _ (by dsimp only; omega) ⟨h34, v_number, le34, S40.sub [0, 1, 2, 3, 4, 5] (by decide) rfl _ rfl, r34_1, r34_2, r34_4, r34_5, r34_6, r34_22, r34_23, rfl, f34_0, (zah (by first|omega|(simp;omega)|assumption) (by first|omega|(simp;omega)|assumption)), (by first | exact ⟨by omega, by omega, by rw [hI34.2.2.1, num_at1 _ hI34.1 (by assumption)], by rw [hI34.2.2.1, hI34.2.2.2]; exact zc5 _ _ hI34.1 (by omega)⟩ | exact ⟨by omega, by omega, by rw [hI34.2.2.1, num_at2 _ hI34.1 (by assumption)], by rw [hI34.2.2.1, hI34.2.2.2]; exact zc5 _ _ hI34.1 (by omega)⟩)⟩
 have hnl2_ : (number.length : Int) = m.spots.length := hnl_
 have leftPre_ : ∀ l : List Int, ((l.length : Int) ≤ 250 ∧ ∀ x ∈ l, 0 ≤ x ∧ x < (m.spots.length : Int)) → ((l.length : Int) ≤ 250 ∧ ∀ x ∈ l, 0 ≤ x ∧ x < ((zao m).length : Int) ∧ x < (number.length : Int)) := fun l h => ⟨h.1, fun x hx => by have := h.2 x hx; omega⟩
 have hnum_ : number = numsL (zao m) m.spots.length := by rw [hI34.2.2.2]; exact numsIn_end _ (by omega)
 refine zbd rfl <| zab <| zac (l := [0, 1]) rfl ?_
 obtain ⟨h42, le42, T42, rp42⟩ := S34.freeze (i := 2) rfl
 have lf42_0 := (((lk18).trans le34)).trans le42
 have lf42_1 := (le34).trans le42
 have S43 := T42.fx 2 (emp) rfl
 dsimp only [lAa, lAn, lA0, lAs] at S43
 obtain ⟨A42, c42, e42, lc42, cm42, ld42⟩ := rp42
 injection e42 with e42 _; subst e42
 have cn42 := cm42; simp only [maxLen] at cn42
 obtain ⟨h44, le44, T44, rp44⟩ := S43.freeze (i := 4) rfl
 have lf44_0 := (lf42_0).trans le44
 have lf44_1 := (lf42_1).trans le44
 have lf44_2 := (le42).trans le44
 have S45 : St w.heap.size w h44 w34 [box b1 27 [.slice A0_0 m.spots.length c0_0, .slice A0_1 m.first.length c0_1, .slice A0_2 m.follow.length c0_2, .slice A0_3 m.last.length c0_3, .bool m.empty], box b3 27 [.slice none 0 0, .slice none 0 0, .slice none 0 0, .slice none 0 0, .bool false], emp, box b20 25 [.slice A42 (zao m).length c42], emp, box b28 23 [v_number]] := T44
 obtain ⟨A44, c44, e44, lc44, cm44, ld44⟩ := rp44
 injection e44 with e44 _; subst e44
 have cn44 := cm44; simp only [maxLen] at cn44
 refine p_v (v := .func (.func 19) #[] #[.pointer (some ⟨b20, 0, none⟩), .pointer (some ⟨b28, 0, none⟩)]) rfl rfl rfl (y_makeFunc (fv := []) (cv := [.pointer (some ⟨b20, 0, none⟩), .pointer (some ⟨b28, 0, none⟩)]) rfl (zcw r34_4 (zcw r34_5 rfl))) <| p_v (v := .func (.func 19) #[] #[.pointer (some ⟨b20, 0, none⟩), .pointer (some ⟨b28, 0, none⟩)]) rfl rfl rfl (zad rfl) <| zaa <| zab ?_
 have hf46 : (CFs ⟨b1, 1, none⟩ [.slice A0_1 m.first.length c0_1]).1 w34 := (CF.box (m := 1) (S45.box_at (j := 0) rfl) rfl)
 have hf47 : (CFs ⟨b1, 4, none⟩ [.bool m.empty]).1 w34 := (CF.box (m := 1) (S45.box_at (j := 0) rfl) rfl)
 refine daS (hkC 2 hf46 (hkC 5 hf47 (hkN (w := w34)))) 9 rfl mixed ?_
 intro wd48 gd48 hd48
 have S49 := S45.keep gd48
 have hf50 := spUp gd48 hf46
 have hf51 := spUp gd48 hf47
 refine qd0 (i := 0) (v := .func (.func 19) #[] #[.pointer (some ⟨b20, 0, none⟩), .pointer (some ⟨b28, 0, none⟩)]) rfl (by decide +kernel) rfl rfl (zae rfl) (zav rfl) <| qd0 (i := 1) (v := .pointer (some ⟨b1, 1, none⟩)) rfl (by decide +kernel) rfl rfl (zaf fd27_1 ty23 rfl r34_1) (zav rfl) <| qd1 0 (i := 2) (v := .slice A0_1 m.first.length c0_1) rfl rfl (by decide +kernel) rfl rfl (fun wq hq => (zag (seg := [.slice A0_1 m.first.length c0_1]) ty23 rfl (by simp) rfl hq)) (zcf hf50 (zav rfl)) <| qd0 (i := 4) (v := .pointer (some ⟨b1, 4, none⟩)) rfl (by decide +kernel) rfl rfl (zaf fd27_4 ty4 rfl r34_1) (zav rfl) <| qd1 1 (i := 5) (v := .bool m.empty) rfl rfl (by decide +kernel) rfl rfl (fun wq hq => (zag (seg := [.bool m.empty]) ty4 rfl (by simp) rfl hq)) (zbw rfl (zcf hf51 (zav rfl))) ?_
 refine ra_join (fun ρ w' => ∃ (h : Ghost) (j79_b64 : Nat) (j79_v56_0 : Value), Le h44 h ∧ St w.heap.size w h w' [box b1 27 [.slice A0_0 m.spots.length c0_0, .slice A0_1 m.first.length c0_1, .slice A0_2 m.follow.length c0_2, .slice A0_3 m.last.length c0_3, .bool m.empty], box b3 27 [.slice none 0 0, .slice none 0 0, .slice none 0 0, .slice none 0 0, .bool false], box b20 25 [.slice A42 (zao m).length c42], box b28 23 [.slice A44 number.length c44], row 3 (Kd.int .i64) j79_v56_0 (zb3 (zao m) number m.first), box j79_b64 27 [.slice none 0 0, j79_v56_0, .slice none 0 0, .slice none 0 0, .bool m.empty]] ∧ ρ 1 = .pointer (some ⟨b1, 0, none⟩) ∧ ρ 2 = .pointer (some ⟨b3, 0, none⟩) ∧ ρ 4 = .pointer (some ⟨b20, 0, none⟩) ∧ ρ 9 = .func (.func 19) #[] #[.pointer (some ⟨b20, 0, none⟩), .pointer (some ⟨b28, 0, none⟩)] ∧ ρ 10 = .pointer (some ⟨j79_b64, 0, none⟩)) ?_ (fun jn79 => ?_)
 ·skip
  rintro ρj79 wj79 ⟨hj79, j79_b64, j79_v56_0, lej79, Sj79, rj79_1, rj79_2, rj79_4, rj79_9, rj79_10⟩
  have jr79_4 := Sj79.row_le (j := 4) rfl; simp only [maxLen] at jr79_4
  refine zab <| zab <| zac (l := [0, 1, 2]) rfl <| p_v (v := .slice A42 (zao m).length c42) rfl rfl rfl (zag (seg := [.slice A42 (zao m).length c42]) ty25 rfl (by simp) rj79_4 (CF.box (m := 1) (Sj79.box_at (j := 2) rfl) rfl)) <| p_v (v := .int .i64 ((zao m).length : Int)) rfl rfl rfl (zaq u25 rfl) <| p_v (v := .int .i64 0) rfl rfl rfl (zae rfl) <| zaa <| zal ?_
  have T80 := Sj79.row_nil 38 za8
  obtain ⟨vn80, ev80, T80⟩ : ∃ v, v = (.slice none 0 0 : Value) ∧ St w.heap.size w hj79 wj79 [box b1 27 [.slice A0_0 m.spots.length c0_0, .slice A0_1 m.first.length c0_1, .slice A0_2 m.follow.length c0_2, .slice A0_3 m.last.length c0_3, .bool m.empty], box b3 27 [.slice none 0 0, .slice none 0 0, .slice none 0 0, .slice none 0 0, .bool false], box b20 25 [.slice A42 (zao m).length c42], box b28 23 [.slice A44 number.length c44], row 3 (Kd.int .i64) j79_v56_0 (zb3 (zao m) number m.first), box j79_b64 27 [v, j79_v56_0, .slice none 0 0, .slice none 0 0, .bool m.empty], row 38 za8 v ([] : List Spot)] := ⟨_, rfl, T80⟩
  have S81 : St w.heap.size w hj79 wj79 [box b1 27 [.slice A0_0 m.spots.length c0_0, .slice A0_1 m.first.length c0_1, .slice A0_2 m.follow.length c0_2, .slice A0_3 m.last.length c0_3, .bool m.empty], box b3 27 [.slice none 0 0, .slice none 0 0, .slice none 0 0, .slice none 0 0, .bool false], box b20 25 [.slice A42 (zao m).length c42], box b28 23 [.slice A44 number.length c44], row 3 (Kd.int .i64) j79_v56_0 (zb3 (zao m) number m.first), box j79_b64 27 [vn80, j79_v56_0, .slice none 0 0, .slice none 0 0, .bool m.empty], row 38 za8 vn80 ([] : List Spot)] := T80
  have T82 := S81.row_nil 23 (Kd.int .i64).slice
  obtain ⟨vn82, ev82, T82⟩ : ∃ v, v = (.slice none 0 0 : Value) ∧ St w.heap.size w hj79 wj79 [box b1 27 [.slice A0_0 m.spots.length c0_0, .slice A0_1 m.first.length c0_1, .slice A0_2 m.follow.length c0_2, .slice A0_3 m.last.length c0_3, .bool m.empty], box b3 27 [.slice none 0 0, .slice none 0 0, .slice none 0 0, .slice none 0 0, .bool false], box b20 25 [.slice A42 (zao m).length c42], box b28 23 [.slice A44 number.length c44], row 3 (Kd.int .i64) j79_v56_0 (zb3 (zao m) number m.first), box j79_b64 27 [vn80, j79_v56_0, v, .slice none 0 0, .bool m.empty], row 38 za8 vn80 ([] : List Spot), row 23 (Kd.int .i64).slice v ([] : List (List Int))] := ⟨_, rfl, T82⟩
  have S83 : St w.heap.size w hj79 wj79 [box b1 27 [.slice A0_0 m.spots.length c0_0, .slice A0_1 m.first.length c0_1, .slice A0_2 m.follow.length c0_2, .slice A0_3 m.last.length c0_3, .bool m.empty], box b3 27 [.slice none 0 0, .slice none 0 0, .slice none 0 0, .slice none 0 0, .bool false], box b20 25 [.slice A42 (zao m).length c42], box b28 23 [.slice A44 number.length c44], row 3 (Kd.int .i64) j79_v56_0 (zb3 (zao m) number m.first), box j79_b64 27 [vn80, j79_v56_0, vn82, .slice none 0 0, .bool m.empty], row 38 za8 vn80 ([] : List Spot), row 23 (Kd.int .i64).slice vn82 ([] : List (List Int))] := T82
  have T84 := S83.row_nil 4 Kd.bool
  obtain ⟨vn84, ev84, T84⟩ : ∃ v, v = (.slice none 0 0 : Value) ∧ St w.heap.size w hj79 wj79 [box b1 27 [.slice A0_0 m.spots.length c0_0, .slice A0_1 m.first.length c0_1, .slice A0_2 m.follow.length c0_2, .slice A0_3 m.last.length c0_3, .bool m.empty], box b3 27 [.slice none 0 0, .slice none 0 0, .slice none 0 0, .slice none 0 0, .bool false], box b20 25 [.slice A42 (zao m).length c42], box b28 23 [.slice A44 number.length c44], row 3 (Kd.int .i64) j79_v56_0 (zb3 (zao m) number m.first), box j79_b64 27 [vn80, j79_v56_0, vn82, v, .bool m.empty], row 38 za8 vn80 ([] : List Spot), row 23 (Kd.int .i64).slice vn82 ([] : List (List Int)), row 4 Kd.bool v ([] : List Bool)] := ⟨_, rfl, T84⟩
  have S85 : St w.heap.size w hj79 wj79 [box b1 27 [.slice A0_0 m.spots.length c0_0, .slice A0_1 m.first.length c0_1, .slice A0_2 m.follow.length c0_2, .slice A0_3 m.last.length c0_3, .bool m.empty], box b3 27 [.slice none 0 0, .slice none 0 0, .slice none 0 0, .slice none 0 0, .bool false], box b20 25 [.slice A42 (zao m).length c42], box b28 23 [.slice A44 number.length c44], row 3 (Kd.int .i64) j79_v56_0 (zb3 (zao m) number m.first), box j79_b64 27 [vn80, j79_v56_0, vn82, vn84, .bool m.empty], row 38 za8 vn80 ([] : List Spot), row 23 (Kd.int .i64).slice vn82 ([] : List (List Int)), row 4 Kd.bool vn84 ([] : List Bool)] := T84
  refine zbm (S := (List Spot) × (List (List Int)) × (List Bool) × Int) (fun (q_ : (List Spot) × (List (List Int)) × (List Bool) × Int) ρ w' => match q_ with | (t_0, t_2, t_3, t47) => ∃ (h : Ghost) (v_t_0 : Value) (v_t_2 : Value) (v_t_3 : Value), Le hj79 h ∧ St w.heap.size w h w' [box b1 27 [.slice A0_0 m.spots.length c0_0, .slice A0_1 m.first.length c0_1, .slice A0_2 m.follow.length c0_2, .slice A0_3 m.last.length c0_3, .bool m.empty], box b3 27 [.slice none 0 0, .slice none 0 0, .slice none 0 0, .slice none 0 0, .bool false], box b20 25 [.slice A42 (zao m).length c42], box b28 23 [.slice A44 number.length c44], row 3 (Kd.int .i64) j79_v56_0 (zb3 (zao m) number m.first), box j79_b64 27 [v_t_0, j79_v56_0, v_t_2, v_t_3, .bool m.empty], row 38 za8 v_t_0 t_0, row 23 (Kd.int .i64).slice v_t_2 t_2, row 4 Kd.bool v_t_3 t_3] ∧ ρ 1 = .pointer (some ⟨b1, 0, none⟩) ∧ ρ 2 = .pointer (some ⟨b3, 0, none⟩) ∧ ρ 9 = .func (.func 19) #[] #[.pointer (some ⟨b20, 0, none⟩), .pointer (some ⟨b28, 0, none⟩)] ∧ ρ 10 = .pointer (some ⟨j79_b64, 0, none⟩) ∧ ρ 45 = .slice A42 (zao m).length c42 ∧ ρ 46 = .int .i64 ((zao m).length : Int) ∧ ρ 47 = .int .i64 t47 ∧ inK .i64 t47 ∧ (0 ≤ t47 ∧ t47 ≤ (m.spots.length : Int) ∧ t_0 = zc0 m t47 ∧ t_2 = zcg m t47 ∧ t_3 = lastTp m t47)) (fun q_ => match q_ with | (t_0, t_2, t_3, t47) => (m.spots.length - t47).toNat) (([] : List Spot), ([] : List (List Int)), ([] : List Bool), 0) ⟨hj79, vn80, vn82, vn84, Le.refl _, S85.sub [0, 1, 2, 3, 4, 5, 6, 7, 8] (by decide) rfl _ rfl, rj79_1, rj79_2, rj79_9, rj79_10, rfl, rfl, rfl, (zah (by first|omega|(simp;omega)|assumption) (by first|omega|(simp;omega)|assumption)), (by exact ⟨by omega, by omega, spotsTo_0 m, followTo_0 m, lastTo_0 m⟩)⟩ ?_
  rintro ⟨t_0, t_2, t_3, t47⟩ ih86 ρ86 w86 ⟨h86, v_t_0, v_t_2, v_t_3, le86, S86, r86_1, r86_2, r86_9, r86_10, r86_45, r86_46, r86_47, f86_0, hI86⟩
  have lf86_0 := zbk f86_0; have hf86_0 := zbl f86_0
  have rl86_4 := S86.row_le (j := 4) rfl; simp only [maxLen] at rl86_4
  have rl86_6 := S86.row_le (j := 6) rfl; simp only [maxLen] at rl86_6
  have rl86_7 := S86.row_le (j := 7) rfl; simp only [maxLen] at rl86_7
  have rl86_8 := S86.row_le (j := 8) rfl; simp only [maxLen] at rl86_8
  have hq0_ : (t_0.length : Int) ≤ t47 := by rw [hI86.2.2.1]; exact spotsTo_len m hI86.1
  have hq2_ : (t_2.length : Int) ≤ t47 := by rw [hI86.2.2.2.1]; exact followTo_len m hI86.1
  have hq3_ : (t_3.length : Int) ≤ t47 := by rw [hI86.2.2.2.2]; exact lastTo_len m hI86.1
  have hi47_ := hI86.1
  refine zab <| zac (l := [0]) rfl <| p_v (v := .bool (decide (t47 < ((zao m).length : Int)))) rfl rfl rfl (x_lss r86_47 r86_46) <| zaa <| zab ?_
  refine zak (p := t47 < ((zao m).length : Int)) rfl (fun hc87 => ?_) (fun hc87 => ?_)
  ·skip
   refine zas <| zab <| zal <| zab <| zac (l := [0, 1, 2, 3, 4]) rfl <| p_v (v := .int .i64 t47) rfl rfl rfl (zae r86_47) ?_
   obtain ⟨ad88, seg88, a88, rp88, ce88⟩ := zaz (q := t47) (m := 1) ld42 rfl (by first|omega|(simp;omega)|assumption) (by first|omega|(simp;omega)|assumption)
   refine p_v (v := .pointer (some ad88)) rfl rfl rfl (zay u25 ty4 r86_45 r86_47 a88 (by first|omega|(simp;omega)|assumption) (by first|omega|(simp;omega)|assumption)) ?_
   obtain ⟨rfl, _⟩ := rp88
   refine p_v (v := .bool (at_ (zao m) t47)) rfl rfl rfl (zag (seg := [.bool (at_ (zao m) t47)]) ty4 rfl (by simp) rfl (CF.ghost ce88 (((((le44).trans lej79)).trans le86).trans S86.ghost))) <| p_v (v := .int .i64 t47) rfl rfl rfl (zad rfl) <| p_v (v := .bool (at_ (zao m) t47)) rfl rfl rfl (zad rfl) <| zaa <| zab <| zac (l := [0]) rfl <| p_v (v := .bool (at_ (zao m) t47)) rfl rfl rfl (zae rfl) <| zaa ?_
   refine zbe (b := at_ (zao m) t47) rfl (fun hc89 => ?_) (fun hc89 => ?_)
   ·skip
    refine zab ?_
    obtain ⟨ad90, seg90, a90, rp90, ce90⟩ := zaz (q := t47) (m := 5) l0_0 rfl (by first|omega|(simp;omega)|assumption) (by first|omega|(simp;omega)|assumption)
    obtain ⟨rfl, ok90⟩ := rp90
    have slook90 := u8_lo ok90; have shiok90 := u8_hi ok90
    obtain ⟨ad91, seg91, a91, rp91, ce91⟩ := zaz (q := t47) (m := 1) l0_3 rfl (by first|omega|(simp;omega)|assumption) (by first|omega|(simp;omega)|assumption)
    obtain ⟨rfl, _⟩ := rp91
    have hf92 : (CFs ⟨j79_b64, 0, none⟩ [v_t_0]).1 w86 := (CF.box (m := 1) (S86.box_at (j := 5) rfl) rfl)
    have hf93 : (CFs ⟨b1, 0, none⟩ [.slice A0_0 m.spots.length c0_0]).1 w86 := (CF.box (m := 1) (S86.box_at (j := 0) rfl) rfl)
    have hf94 : (CFs ad90 (zaj (at_ m.spots t47))).1 w86 := (CF.ghost ce90 (St.le0 S86))
    have hf95 : (CFs ⟨j79_b64, 3, none⟩ [v_t_3]).1 w86 := (CF.box (m := 1) (S86.box_at (j := 5) rfl) rfl)
    have hf96 : (CFs ⟨b1, 3, none⟩ [.slice A0_3 m.last.length c0_3]).1 w86 := (CF.box (m := 1) (S86.box_at (j := 0) rfl) rfl)
    have hf97 : (CFs ad91 [.bool (at_ m.last t47)]).1 w86 := (CF.ghost ce91 (St.le0 S86))
    refine daS (hkC 1 hf92 (hkC 3 hf93 (hkC 6 hf94 (hkC 10 hf95 (hkC 12 hf96 (hkC 15 hf97 (hkN (w := w86)))))))) 22 rfl mixed ?_
    intro wd98 gd98 hd98
    have S99 := S86.keep gd98
    have hf100 := spUp gd98 hf92
    have hf101 := spUp gd98 hf93
    have hf102 := spUp gd98 hf94
    have hf103 := spUp gd98 hf95
    have hf104 := spUp gd98 hf96
    have hf105 := spUp gd98 hf97
    refine qd0 (i := 0) (v := .pointer (some ⟨j79_b64, 0, none⟩)) rfl (by decide +kernel) rfl rfl (zaf zcp ty22 rfl r86_10) (zav rfl) <| qd1 0 (i := 1) (v := v_t_0) rfl rfl (by decide +kernel) rfl rfl (fun wq hq => (zag (seg := [v_t_0]) ty22 rfl (by simp) rfl hq)) (zcf hf100 (zav rfl)) <| qd0 (i := 2) (v := .pointer (some ⟨b1, 0, none⟩)) rfl (by decide +kernel) rfl rfl (zaf zcp ty22 rfl r86_1) (zav rfl) <| qd1 1 (i := 3) (v := .slice A0_0 m.spots.length c0_0) rfl rfl (by decide +kernel) rfl rfl (fun wq hq => (zag (seg := [.slice A0_0 m.spots.length c0_0]) ty22 rfl (by simp) rfl hq)) (zbw rfl (zcf hf101 (zav rfl))) <| qd0 (i := 4) (v := .int .i64 t47) rfl (by decide +kernel) rfl rfl (zae rfl) (zav rfl) <| qd0 (i := 5) (v := .pointer (some ad90)) rfl (by decide +kernel) rfl rfl (zay u22 ty38 rfl rfl a90 (by first|omega|(simp;omega)|assumption) (by first|omega|(simp;omega)|assumption)) (zav rfl) <| qd1 2 (i := 6) (v := .agg (zaj (at_ m.spots t47)).toArray) rfl rfl (by decide +kernel) rfl rfl (fun wq hq => (zag (seg := (zaj (at_ m.spots t47))) ty38 rfl (by simp) rfl hq)) (zbw rfl (zbw rfl (zcf hf102 (zav rfl)))) <| qd0 (i := 9) (v := .pointer (some ⟨j79_b64, 3, none⟩)) rfl (by decide +kernel) rfl rfl (zaf zc8 ty25 rfl r86_10) (zav rfl) <| qd1 3 (i := 10) (v := v_t_3) rfl rfl (by decide +kernel) rfl rfl (fun wq hq => (zag (seg := [v_t_3]) ty25 rfl (by simp) rfl hq)) (zbw rfl (zbw rfl (zbw rfl (zcf hf103 (zav rfl))))) <| qd0 (i := 11) (v := .pointer (some ⟨b1, 3, none⟩)) rfl (by decide +kernel) rfl rfl (zaf zc8 ty25 rfl r86_1) (zav rfl) <| qd1 4 (i := 12) (v := .slice A0_3 m.last.length c0_3) rfl rfl (by decide +kernel) rfl rfl (fun wq hq => (zag (seg := [.slice A0_3 m.last.length c0_3]) ty25 rfl (by simp) rfl hq)) (zbw rfl (zbw rfl (zbw rfl (zbw rfl (zcf hf104 (zav rfl)))))) <| qd0 (i := 13) (v := .int .i64 t47) rfl (by decide +kernel) rfl rfl (zae rfl) (zav rfl) ?_
    refine qd0 (i := 14) (v := .pointer (some ad91)) rfl (by decide +kernel) rfl rfl (zay u25 ty4 rfl rfl a91 (by first|omega|(simp;omega)|assumption) (by first|omega|(simp;omega)|assumption)) (zav rfl) <| qd1 5 (i := 15) (v := .bool (at_ m.last t47)) rfl rfl (by decide +kernel) rfl rfl (fun wq hq => (zag (seg := [.bool (at_ m.last t47)]) ty4 rfl (by simp) rfl hq)) (zbw rfl (zbw rfl (zbw rfl (zbw rfl (zbw rfl (zcf hf105 (zav rfl))))))) ?_
    refine ra_join (fun ρ w' => ∃ (h : Ghost) (j204_v132 : Value) (j204_v166 : Value), Le h86 h ∧ St w.heap.size w h w' [box b1 27 [.slice A0_0 m.spots.length c0_0, .slice A0_1 m.first.length c0_1, .slice A0_2 m.follow.length c0_2, .slice A0_3 m.last.length c0_3, .bool m.empty], box b3 27 [.slice none 0 0, .slice none 0 0, .slice none 0 0, .slice none 0 0, .bool false], box b20 25 [.slice A42 (zao m).length c42], box b28 23 [.slice A44 number.length c44], row 3 (Kd.int .i64) j79_v56_0 (zb3 (zao m) number m.first), box j79_b64 27 [j204_v132, j79_v56_0, v_t_2, j204_v166, .bool m.empty], row 38 za8 j204_v132 (t_0 ++ ([at_ m.spots t47] : List Spot)), row 23 (Kd.int .i64).slice v_t_2 t_2, row 4 Kd.bool j204_v166 (t_3 ++ ([at_ m.last t47] : List Bool))] ∧ ρ 1 = .pointer (some ⟨b1, 0, none⟩) ∧ ρ 2 = .pointer (some ⟨b3, 0, none⟩) ∧ ρ 9 = .func (.func 19) #[] #[.pointer (some ⟨b20, 0, none⟩), .pointer (some ⟨b28, 0, none⟩)] ∧ ρ 10 = .pointer (some ⟨j79_b64, 0, none⟩) ∧ ρ 11 = .int .i64 t47 ∧ ρ 45 = .slice A42 (zao m).length c42 ∧ ρ 46 = .int .i64 ((zao m).length : Int) ∧ ρ 47 = .int .i64 t47) ?_ (fun jn204 => ?_)
    ·skip
     rintro ρj204 wj204 ⟨hj204, j204_v132, j204_v166, lej204, Sj204, rj204_1, rj204_2, rj204_9, rj204_10, rj204_11, rj204_45, rj204_46, rj204_47⟩
     have jr204_4 := Sj204.row_le (j := 4) rfl; simp only [maxLen] at jr204_4
     have jr204_6 := Sj204.row_le (j := 6) rfl; simp only [maxLen] at jr204_6
     have jr204_7 := Sj204.row_le (j := 7) rfl; simp only [maxLen] at jr204_7
     have jr204_8 := Sj204.row_le (j := 8) rfl; simp only [maxLen] at jr204_8
     obtain ⟨ad205, seg205, a205, rp205, ce205⟩ := zaz (q := t47) (m := 1) l0_2 rfl (by first|omega|(simp;omega)|assumption) (by first|omega|(simp;omega)|assumption)
     obtain ⟨A205, c205, rfl, lc205, cm205, ld205⟩ := rp205
     have cn205 := cm205; simp only [maxLen] at cn205
     have hf206 : (CFs ⟨j79_b64, 2, none⟩ [v_t_2]).1 wj204 := (CF.box (m := 1) (Sj204.box_at (j := 5) rfl) rfl)
     have hf207 : (CFs ⟨b1, 2, none⟩ [.slice A0_2 m.follow.length c0_2]).1 wj204 := (CF.box (m := 1) (Sj204.box_at (j := 0) rfl) rfl)
     have hf208 : (CFs ad205 [.slice A205 (at_ m.follow t47).length c205]).1 wj204 := (CF.ghost ce205 (St.le0 Sj204))
     refine daS (hkC 1 hf206 (hkC 4 hf207 (hkC 7 hf208 (hkN (w := wj204))))) 13 rfl mixed ?_
     intro wd209 gd209 hd209
     have S210 := Sj204.keep gd209
     have hf211 := spUp gd209 hf206
     have hf212 := spUp gd209 hf207
     have hf213 := spUp gd209 hf208
     refine qd0 (i := 0) (v := .pointer (some ⟨j79_b64, 2, none⟩)) rfl (by decide +kernel) rfl rfl (zaf zcr ty24 rfl rj204_10) (zav rfl) <| qd1 0 (i := 1) (v := v_t_2) rfl rfl (by decide +kernel) rfl rfl (fun wq hq => (zag (seg := [v_t_2]) ty24 rfl (by simp) rfl hq)) (zcf hf211 (zav rfl)) <| qd0 (i := 2) (v := .func (.func 19) #[] #[.pointer (some ⟨b20, 0, none⟩), .pointer (some ⟨b28, 0, none⟩)]) rfl (by decide +kernel) rfl rfl (zae rj204_9) (zav rfl) <| qd0 (i := 3) (v := .pointer (some ⟨b1, 2, none⟩)) rfl (by decide +kernel) rfl rfl (zaf zcr ty24 rfl rj204_1) (zav rfl) <| qd1 1 (i := 4) (v := .slice A0_2 m.follow.length c0_2) rfl rfl (by decide +kernel) rfl rfl (fun wq hq => (zag (seg := [.slice A0_2 m.follow.length c0_2]) ty24 rfl (by simp) rfl hq)) (zbw rfl (zcf hf212 (zav rfl))) <| qd0 (i := 5) (v := .int .i64 t47) rfl (by decide +kernel) rfl rfl (zae rj204_11) (zav rfl) <| qd0 (i := 6) (v := .pointer (some ad205)) rfl (by decide +kernel) rfl rfl (zay u24 ty23 rfl rfl a205 (by first|omega|(simp;omega)|assumption) (by first|omega|(simp;omega)|assumption)) (zav rfl) <| qd1 2 (i := 7) (v := .slice A205 (at_ m.follow t47).length c205) rfl rfl (by decide +kernel) rfl rfl (fun wq hq => (zag (seg := [.slice A205 (at_ m.follow t47).length c205]) ty23 rfl (by simp) rfl hq)) (zbw rfl (zbw rfl (zcf hf213 (zav rfl)))) <| zbj (i := 8) (by decide +kernel) ?_
     intro wd214 gd214
     have S215 := S210.keep gd214
     have hf216 := spUp gd214 hf211
     have hf217 := spUp gd214 hf212
     have hf218 := spUp gd214 hf213
     refine d_c rfl rfl rfl (zbp (args := [.slice A205 (at_ m.follow t47).length c205, .pointer (some ⟨b20, 0, none⟩), .pointer (some ⟨b28, 0, none⟩)]) ca19 rfl rfl) (left_calls wd214 (at_ m.follow t47) A205 c205 (And.intro lc205 cm205) (ld205.mono (St.le0 S215)) (zao m) A42 c42 (And.intro lc42 cm42) (ld42.mono (((((((le44).trans lej79)).trans le86)).trans lej204).trans S215.ghost)) ⟨b20, 0, none⟩ (zcx (S215.box_at (j := 2) rfl)) number A44 c44 (And.intro lc44 cm44) (ld44.mono (((((lej79).trans le86)).trans lej204).trans S215.ghost)) ⟨b28, 0, none⟩ (zcx (S215.box_at (j := 3) rfl)) (by first | assumption | exact leftPre_ _ ⟨by omega, hR_.firsts⟩ | exact leftPre_ _ ⟨hss_.row _ (by assumption) (by omega), hR_.rows (by assumption) (by omega)⟩)) ?_
     rintro v219_0 w219 ⟨h219, _, T219, rfl⟩
     obtain ⟨k219, lk219, ll219, U219⟩ := zbg S215 T219
     have lc219_0 := (((((((lf44_0).trans lej79)).trans le86)).trans lej204)).trans lk219
     have lc219_1 := (((((((lf44_1).trans lej79)).trans le86)).trans lej204)).trans lk219
     have lc219_2 := (((((((lf44_2).trans lej79)).trans le86)).trans lej204)).trans lk219
     have lc219_3 := (((((((le44).trans lej79)).trans le86)).trans lej204)).trans lk219
     have lc219_4 := (((((lej79).trans le86)).trans lej204)).trans lk219
     have lc219_5 := (((le86).trans lej204)).trans lk219
     have lc219_6 := (lej204).trans lk219
     have S220 := U219
     dsimp only [lAa, lAn, lA0, lAs] at S220
     have hf221 := spUp (Chg.of_below T219.below) hf216
     have hf222 := spUp (Chg.of_below T219.below) hf217
     have hf223 := spUp (Chg.of_below T219.below) hf218
     refine ⟨.inl (Chg.of_below T219.below), ?_⟩
     refine zbj (i := 9) (by decide +kernel) ?_
     intro wd224 gd224
     have S225 := S220.keep gd224
     have hf226 := spUp gd224 hf221
     have hf227 := spUp gd224 hf222
     have hf228 := spUp gd224 hf223
     obtain ⟨h230, le230, T230, rp230⟩ := S225.freeze (i := 9) rfl
     have lf230_0 := (lc219_0).trans le230
     have lf230_1 := (lc219_1).trans le230
     have lf230_2 := (lc219_2).trans le230
     have lf230_3 := (lc219_3).trans le230
     have lf230_4 := (lc219_4).trans le230
     have lf230_5 := (lc219_5).trans le230
     have lf230_6 := (lc219_6).trans le230
     have lf230_7 := (lk219).trans le230
     have S231 := T230.fx 9 (emp) rfl
     dsimp only [lAa, lAn, lA0, lAs] at S231
     obtain ⟨A230, c230, e230, lc230, cm230, ld230⟩ := rp230
     injection e230 with e230 _; subst e230
     have cn230 := cm230; simp only [maxLen] at cn230
     obtain ⟨v229, w229, r229, g229, T229⟩ := zba (kd := (Kd.int .i64).slice) (xs := ([zb3 (zao m) number (at_ m.follow t47)] : List (List Int))) (len := 1) [.slice A230 (zb3 (zao m) number (at_ m.follow t47)).length c230] S231 u24 ty23 rfl rfl rfl rfl rfl (zbz rfl zb8) [.slice A230 (zb3 (zao m) number (at_ m.follow t47)).length c230] (zbx.single (k := (Kd.int .i64).slice) (h := h230) (x := zb3 (zao m) number (at_ m.follow t47)) (cs := [.slice A230 (zb3 (zao m) number (at_ m.follow t47)).length c230]) ⟨_, _, rfl, (And.intro lc230 cm230).1, (And.intro lc230 cm230).2, ld230.mono (Le.refl _)⟩) rfl
     have S232 := T229
     dsimp only [lAa, lAn, lA0, lAs] at S232
     have hf233 := spUp g229 hf226
     have hf234 := spUp g229 hf227
     have hf235 := spUp g229 hf228
     refine d_v (v := v229) rfl rfl rfl (zaw (pv := [(0, .slice A230 (zb3 (zao m) number (at_ m.follow t47)).length c230)]) rfl r229) (.inl g229) <| zbj (i := 10) (by decide +kernel) ?_
     intro wd236 gd236
     have S237 := S232.keep gd236
     have hf238 := spUp gd236 hf233
     have hf239 := spUp gd236 hf234
     have hf240 := spUp gd236 hf235
     obtain ⟨A242, c242, ev242, lc242, cm242⟩ := S237.row_val (j := 10) rfl
     obtain ⟨v243, w243, r243, g243, T243⟩ := zcc (kd := (Kd.int .i64).slice) (A := A242) (c := c242) (ys := ([zb3 (zao m) number (at_ m.follow t47)] : List (List Int))) (len := ([zb3 (zao m) number (at_ m.follow t47)] : List (List Int)).length) 24 S237 u24 ty23 rfl rfl (j := 7) rfl rfl (zcs S237 (j := 10) rfl ev242) (by first|omega|(simp;omega)|assumption) (by first|omega|(simp;omega)|assumption)
     have S244 := T243.fx 7 (row 23 (Kd.int .i64).slice v243 (t_2 ++ ([zb3 (zao m) number (at_ m.follow t47)] : List (List Int)))) rfl
     dsimp only [lAa, lAn, lA0, lAs] at S244
     have hf245 : (CFs ⟨j79_b64, 2, none⟩ [v_t_2]).1 w243 := (CF.box (m := 1) (S244.box_at (j := 5) rfl) rfl)
     have hf246 : (CFs ⟨b1, 2, none⟩ [.slice A0_2 m.follow.length c0_2]).1 w243 := (CF.box (m := 1) (S244.box_at (j := 0) rfl) rfl)
     have hf247 : (CFs ad205 [.slice A205 (at_ m.follow t47).length c205]).1 w243 := (CF.ghost ce205 (St.le0 S244))
     refine d_v (v := v243) rfl rfl rfl (zca rfl ev242 r243) (.inr (zau (by decide +kernel) (za6 hf246 (za6 hf247 trivial)))) <| qd0 (i := 11) (v := .pointer (some ⟨j79_b64, 2, none⟩)) rfl (by decide +kernel) rfl rfl (zaf zcr ty24 rfl rj204_10) (zav rfl) <| zbj (i := 12) (by decide +kernel) ?_
     intro wd248 gd248
     have S249 := S244.keep gd248
     have hf250 := spUp gd248 hf245
     have hf251 := spUp gd248 hf246
     have hf252 := spUp gd248 hf247
     have oc254 := za5 S249 (j := 7) rfl
     obtain ⟨w253, r253, g253, T253⟩ := zbf (P := Try.prog) (off := 2) (v := v243) (vs := [v243]) S249 ty24 (za9 S249 (j := 7) rfl) rfl (j := 5) rfl (by first | decide | exact Nat.le_of_ble_eq_true rfl) (zai oc254 zbt)
     have S255 := T253.fx 5 (box j79_b64 27 [j204_v132, j79_v56_0, v243, j204_v166, .bool m.empty]) rfl
     dsimp only [lAa, lAn, lA0, lAs] at S255
     have hf256 : (CFs ⟨b1, 2, none⟩ [.slice A0_2 m.follow.length c0_2]).1 w253 := (CF.box (m := 1) (S255.box_at (j := 0) rfl) rfl)
     have hf257 : (CFs ad205 [.slice A205 (at_ m.follow t47).length c205]).1 w253 := (CF.ghost ce205 (St.le0 S255))
     refine d_s rfl rfl (za7 rfl rfl r253) (.inr (zau (by decide +kernel) (zau (by decide +kernel) (zau (by decide +kernel) trivial)))) <| zcv (by decide +kernel) ?_
     intro wd258 gd258
     have S259 := S255.keep gd258
     refine zar <| zac (l := [0, 1]) rfl <| p_v (v := .int .i64 (t47 + 1)) rfl rfl rfl (zb9 rj204_47 rfl (zah (by first|omega|(simp;omega)|assumption) (by first|omega|(simp;omega)|assumption))) <| p_v (v := .int .i64 (t47 + 1)) rfl rfl rfl (zae rfl) <| zaa ?_
     refine ih86 (t_0 ++ ([at_ m.spots t47] : List Spot), t_2 ++ ([zb3 (zao m) number (at_ m.follow t47)] : List (List Int)), t_3 ++ ([at_ m.last t47] : List Bool), t47 + 1) _ _ (by dsimp only; omega) ⟨h230, j204_v132, v243, j204_v166, lf230_5, S259.sub [0, 1, 2, 3, 4, 5, 6, 7, 8] (by decide) rfl _ rfl, rj204_1, rj204_2, rj204_9, rj204_10, rj204_45, rj204_46, rfl, (zah (by first|omega|(simp;omega)|assumption) (by first|omega|(simp;omega)|assumption)), (by first | exact ⟨by omega, by omega, by rw [hI86.2.2.1]; exact spotsTo_yes m hI86.1 (by assumption), by rw [hI86.2.2.2.1, hnum_, zbv]; exact followTo_yes m hI86.1 (by assumption), by rw [hI86.2.2.2.2]; exact lastTo_yes m hI86.1 (by assumption)⟩ | exact ⟨by omega, by omega, by rw [hI86.2.2.1]; exact spotsTo_no m hI86.1 (by assumption), by rw [hI86.2.2.2.1]; exact followTo_no m hI86.1 (by assumption), by rw [hI86.2.2.2.2]; exact lastTo_no m hI86.1 (by assumption)⟩)⟩
    refine ra_two (i := 7) (i2 := 16) (by decide +kernel) ?_ ?_
    ·skip
     intro wd260 gd260
     have S261 := S99.keep gd260
     have hf262 := spUp gd260 hf100
     have hf263 := spUp gd260 hf101
     have hf264 := spUp gd260 hf102
     have hf265 := spUp gd260 hf103
     have hf266 := spUp gd260 hf104
     have hf267 := spUp gd260 hf105
     obtain ⟨v268, w268, r268, g268, T268⟩ := zdf (kd := za8) (xs := ([at_ m.spots t47] : List Spot)) (len := 1) (m := 5) [(.agg (zaj (at_ m.spots t47)).toArray, (zaj (at_ m.spots t47)))] S261 u22 ty38 rfl rfl rfl rfl (segs_cons rfl rfl segs_nil) (cs := (zaj (at_ m.spots t47))) (zbx.single (k := za8) (h := h86) (x := at_ m.spots t47) (cs := (zaj (at_ m.spots t47))) ⟨rfl, ok90⟩) (by simp)
     have S269 := T268
     dsimp only [lAa, lAn, lA0, lAs] at S269
     have hf270 := spUp g268 hf262
     have hf271 := spUp g268 hf263
     have hf272 := spUp g268 hf264
     have hf273 := spUp g268 hf265
     have hf274 := spUp g268 hf266
     have hf275 := spUp g268 hf267
     refine d_v (v := v268) rfl rfl rfl (zaw (pv := [(0, .agg (zaj (at_ m.spots t47)).toArray)]) rfl r268) (.inl g268) ?_
     refine ra_two (i := 8) (i2 := 16) (by decide +kernel) ?_ ?_
     ·skip
      intro wd276 gd276
      have S277 := S269.keep gd276
      have hf278 := spUp gd276 hf270
      have hf279 := spUp gd276 hf271
      have hf280 := spUp gd276 hf272
      have hf281 := spUp gd276 hf273
      have hf282 := spUp gd276 hf274
      have hf283 := spUp gd276 hf275
      obtain ⟨A285, c285, ev285, lc285, cm285⟩ := S277.row_val (j := 9) rfl
      obtain ⟨v286, w286, r286, g286, T286⟩ := zcc (kd := za8) (A := A285) (c := c285) (ys := ([at_ m.spots t47] : List Spot)) (len := ([at_ m.spots t47] : List Spot).length) 22 S277 u22 ty38 rfl rfl (j := 6) rfl rfl (zcs S277 (j := 9) rfl ev285) (by first|omega|(simp;omega)|assumption) (by first|omega|(simp;omega)|assumption)
      have S287 := T286.fx 6 (row 38 za8 v286 (t_0 ++ ([at_ m.spots t47] : List Spot))) rfl
      dsimp only [lAa, lAn, lA0, lAs] at S287
      have hf288 : (CFs ⟨j79_b64, 0, none⟩ [v_t_0]).1 w286 := (CF.box (m := 1) (S287.box_at (j := 5) rfl) rfl)
      have hf289 : (CFs ⟨b1, 0, none⟩ [.slice A0_0 m.spots.length c0_0]).1 w286 := (CF.box (m := 1) (S287.box_at (j := 0) rfl) rfl)
      have hf290 : (CFs ad90 (zaj (at_ m.spots t47))).1 w286 := (CF.ghost ce90 (St.le0 S287))
      have hf291 : (CFs ⟨j79_b64, 3, none⟩ [v_t_3]).1 w286 := (CF.box (m := 1) (S287.box_at (j := 5) rfl) rfl)
      have hf292 : (CFs ⟨b1, 3, none⟩ [.slice A0_3 m.last.length c0_3]).1 w286 := (CF.box (m := 1) (S287.box_at (j := 0) rfl) rfl)
      have hf293 : (CFs ad91 [.bool (at_ m.last t47)]).1 w286 := (CF.ghost ce91 (St.le0 S287))
      refine d_v (v := v286) rfl rfl rfl (zca rfl ev285 r286) (.inr (zau (by decide +kernel) (za6 hf289 (za6 hf290 (za6 hf291 (za6 hf292 (za6 hf293 trivial))))))) <| qd0 (i := 18) (v := .pointer (some ⟨j79_b64, 0, none⟩)) rfl (by decide +kernel) rfl rfl (zaf zcp ty22 rfl r86_10) (zav rfl) <| zbj (i := 16) (by decide +kernel) ?_
      intro wd294 gd294
      have S295 := S287.keep gd294
      have hf296 := spUp gd294 hf288
      have hf297 := spUp gd294 hf289
      have hf298 := spUp gd294 hf290
      have hf299 := spUp gd294 hf291
      have hf300 := spUp gd294 hf292
      have hf301 := spUp gd294 hf293
      obtain ⟨v302, w302, r302, g302, T302⟩ := zba (kd := Kd.bool) (xs := ([at_ m.last t47] : List Bool)) (len := 1) [.bool (at_ m.last t47)] S295 u25 ty4 rfl rfl rfl rfl rfl (zbz rfl zb8) [.bool (at_ m.last t47)] (zbx.single (k := Kd.bool) (h := h86) (x := at_ m.last t47) (cs := [.bool (at_ m.last t47)]) ⟨rfl, trivial⟩) rfl
      have S303 := T302
      dsimp only [lAa, lAn, lA0, lAs] at S303
      have hf304 := spUp g302 hf296
      have hf305 := spUp g302 hf297
      have hf306 := spUp g302 hf298
      have hf307 := spUp g302 hf299
      have hf308 := spUp g302 hf300
      have hf309 := spUp g302 hf301
      refine d_v (v := v302) rfl rfl rfl (zaw (pv := [(0, .bool (at_ m.last t47))]) rfl r302) (.inl g302) <| zbj (i := 17) (by decide +kernel) ?_
      intro wd310 gd310
      have S311 := S303.keep gd310
      have hf312 := spUp gd310 hf304
      have hf313 := spUp gd310 hf305
      have hf314 := spUp gd310 hf306
      have hf315 := spUp gd310 hf307
      have hf316 := spUp gd310 hf308
      have hf317 := spUp gd310 hf309
      obtain ⟨A319, c319, ev319, lc319, cm319⟩ := S311.row_val (j := 10) rfl
      obtain ⟨v320, w320, r320, g320, T320⟩ := zcc (kd := Kd.bool) (A := A319) (c := c319) (ys := ([at_ m.last t47] : List Bool)) (len := ([at_ m.last t47] : List Bool).length) 25 S311 u25 ty4 rfl rfl (j := 8) rfl rfl (zcs S311 (j := 10) rfl ev319) (by first|omega|(simp;omega)|assumption) (by first|omega|(simp;omega)|assumption)
      have S321 := T320.fx 8 (row 4 Kd.bool v320 (t_3 ++ ([at_ m.last t47] : List Bool))) rfl
      dsimp only [lAa, lAn, lA0, lAs] at S321
      have hf322 : (CFs ⟨j79_b64, 0, none⟩ [v_t_0]).1 w320 := (CF.box (m := 1) (S321.box_at (j := 5) rfl) rfl)
      have hf323 : (CFs ⟨b1, 0, none⟩ [.slice A0_0 m.spots.length c0_0]).1 w320 := (CF.box (m := 1) (S321.box_at (j := 0) rfl) rfl)
      have hf324 : (CFs ad90 (zaj (at_ m.spots t47))).1 w320 := (CF.ghost ce90 (St.le0 S321))
      have hf325 : (CFs ⟨j79_b64, 3, none⟩ [v_t_3]).1 w320 := (CF.box (m := 1) (S321.box_at (j := 5) rfl) rfl)
      have hf326 : (CFs ⟨b1, 3, none⟩ [.slice A0_3 m.last.length c0_3]).1 w320 := (CF.box (m := 1) (S321.box_at (j := 0) rfl) rfl)
      have hf327 : (CFs ad91 [.bool (at_ m.last t47)]).1 w320 := (CF.ghost ce91 (St.le0 S321))
      refine d_v (v := v320) rfl rfl rfl (zca rfl ev319 r320) (.inr (za6 hf322 (za6 hf323 (za6 hf324 (zau (by decide +kernel) (za6 hf326 (za6 hf327 trivial))))))) <| zbj (i := 19) (by decide +kernel) ?_
      intro wd328 gd328
      have S329 := S321.keep gd328
      have hf330 := spUp gd328 hf322
      have hf331 := spUp gd328 hf323
      have hf332 := spUp gd328 hf324
      have hf333 := spUp gd328 hf325
      have hf334 := spUp gd328 hf326
      have hf335 := spUp gd328 hf327
      have oc337 := za5 S329 (j := 6) rfl
      obtain ⟨w336, r336, g336, T336⟩ := zbf (P := Try.prog) (off := 0) (v := v286) (vs := [v286]) S329 ty22 (za9 S329 (j := 6) rfl) rfl (j := 5) rfl (by first | decide | exact Nat.le_of_ble_eq_true rfl) (zai oc337 zbt)
      have S338 := T336.fx 5 (box j79_b64 27 [v286, j79_v56_0, v_t_2, v_t_3, .bool m.empty]) rfl
      dsimp only [lAa, lAn, lA0, lAs] at S338
      have hf339 : (CFs ⟨b1, 0, none⟩ [.slice A0_0 m.spots.length c0_0]).1 w336 := (CF.box (m := 1) (S338.box_at (j := 0) rfl) rfl)
      have hf340 : (CFs ad90 (zaj (at_ m.spots t47))).1 w336 := (CF.ghost ce90 (St.le0 S338))
      have hf341 : (CFs ⟨b1, 3, none⟩ [.slice A0_3 m.last.length c0_3]).1 w336 := (CF.box (m := 1) (S338.box_at (j := 0) rfl) rfl)
      have hf342 : (CFs ad91 [.bool (at_ m.last t47)]).1 w336 := (CF.ghost ce91 (St.le0 S338))
      refine d_s rfl rfl (za7 rfl rfl r336) (.inr (zau (by decide +kernel) (zau (by decide +kernel) (zau (by decide +kernel) (zau (by decide +kernel) (za6 hf341 (za6 hf342 trivial))))))) <| qd0 (i := 20) (v := .pointer (some ⟨j79_b64, 3, none⟩)) rfl (by decide +kernel) rfl rfl (zaf zc8 ty25 rfl r86_10) (zav rfl) <| zbj (i := 21) (by decide +kernel) ?_
      intro wd343 gd343
      have S344 := S338.keep gd343
      have hf345 := spUp gd343 hf339
      have hf346 := spUp gd343 hf340
      have hf347 := spUp gd343 hf341
      have hf348 := spUp gd343 hf342
      have oc350 := za5 S344 (j := 8) rfl
      obtain ⟨w349, r349, g349, T349⟩ := zbf (P := Try.prog) (off := 3) (v := v320) (vs := [v320]) S344 ty25 (za9 S344 (j := 8) rfl) rfl (j := 5) rfl (by first | decide | exact Nat.le_of_ble_eq_true rfl) (zai oc350 zbt)
      have S351 := T349.fx 5 (box j79_b64 27 [v286, j79_v56_0, v_t_2, v320, .bool m.empty]) rfl
      dsimp only [lAa, lAn, lA0, lAs] at S351
      have hf352 : (CFs ⟨b1, 0, none⟩ [.slice A0_0 m.spots.length c0_0]).1 w349 := (CF.box (m := 1) (S351.box_at (j := 0) rfl) rfl)
      have hf353 : (CFs ad90 (zaj (at_ m.spots t47))).1 w349 := (CF.ghost ce90 (St.le0 S351))
      have hf354 : (CFs ⟨b1, 3, none⟩ [.slice A0_3 m.last.length c0_3]).1 w349 := (CF.box (m := 1) (S351.box_at (j := 0) rfl) rfl)
      have hf355 : (CFs ad91 [.bool (at_ m.last t47)]).1 w349 := (CF.ghost ce91 (St.le0 S351))
      refine d_s rfl rfl (za7 rfl rfl r349) (.inr (zau (by decide +kernel) (zau (by decide +kernel) (zau (by decide +kernel) (zau (by decide +kernel) (zau (by decide +kernel) (zau (by decide +kernel) trivial))))))) <| zcv (by decide +kernel) ?_
      intro wd356 gd356
      have S357 := S351.keep gd356
      exact jn204 _ _ ⟨h86, v286, v320, (Le.refl _), S357.sub [0, 1, 2, 3, 4, 5, 6, 7, 8] (by decide) rfl _ rfl, r86_1, r86_2, r86_9, r86_10, rfl, r86_45, r86_46, r86_47⟩
     intro wd358 gd358
     have S359 := S269.keep gd358
     have hf360 := spUp gd358 hf270
     have hf361 := spUp gd358 hf271
     have hf362 := spUp gd358 hf272
     have hf363 := spUp gd358 hf273
     have hf364 := spUp gd358 hf274
     have hf365 := spUp gd358 hf275
     obtain ⟨v366, w366, r366, g366, T366⟩ := zba (kd := Kd.bool) (xs := ([at_ m.last t47] : List Bool)) (len := 1) [.bool (at_ m.last t47)] S359 u25 ty4 rfl rfl rfl rfl rfl (zbz rfl zb8) [.bool (at_ m.last t47)] (zbx.single (k := Kd.bool) (h := h86) (x := at_ m.last t47) (cs := [.bool (at_ m.last t47)]) ⟨rfl, trivial⟩) rfl
     have S367 := T366
     dsimp only [lAa, lAn, lA0, lAs] at S367
     have hf368 := spUp g366 hf360
     have hf369 := spUp g366 hf361
     have hf370 := spUp g366 hf362
     have hf371 := spUp g366 hf363
     have hf372 := spUp g366 hf364
     have hf373 := spUp g366 hf365
     refine d_v (v := v366) rfl rfl rfl (zaw (pv := [(0, .bool (at_ m.last t47))]) rfl r366) (.inl g366) <| zbj (i := 8) (by decide +kernel) ?_
     intro wd374 gd374
     have S375 := S367.keep gd374
     have hf376 := spUp gd374 hf368
     have hf377 := spUp gd374 hf369
     have hf378 := spUp gd374 hf370
     have hf379 := spUp gd374 hf371
     have hf380 := spUp gd374 hf372
     have hf381 := spUp gd374 hf373
     obtain ⟨A383, c383, ev383, lc383, cm383⟩ := S375.row_val (j := 9) rfl
     obtain ⟨v384, w384, r384, g384, T384⟩ := zcc (kd := za8) (A := A383) (c := c383) (ys := ([at_ m.spots t47] : List Spot)) (len := ([at_ m.spots t47] : List Spot).length) 22 S375 u22 ty38 rfl rfl (j := 6) rfl rfl (zcs S375 (j := 9) rfl ev383) (by first|omega|(simp;omega)|assumption) (by first|omega|(simp;omega)|assumption)
     have S385 := T384.fx 6 (row 38 za8 v384 (t_0 ++ ([at_ m.spots t47] : List Spot))) rfl
     dsimp only [lAa, lAn, lA0, lAs] at S385
     have hf386 : (CFs ⟨j79_b64, 0, none⟩ [v_t_0]).1 w384 := (CF.box (m := 1) (S385.box_at (j := 5) rfl) rfl)
     have hf387 : (CFs ⟨b1, 0, none⟩ [.slice A0_0 m.spots.length c0_0]).1 w384 := (CF.box (m := 1) (S385.box_at (j := 0) rfl) rfl)
     have hf388 : (CFs ad90 (zaj (at_ m.spots t47))).1 w384 := (CF.ghost ce90 (St.le0 S385))
     have hf389 : (CFs ⟨j79_b64, 3, none⟩ [v_t_3]).1 w384 := (CF.box (m := 1) (S385.box_at (j := 5) rfl) rfl)
     have hf390 : (CFs ⟨b1, 3, none⟩ [.slice A0_3 m.last.length c0_3]).1 w384 := (CF.box (m := 1) (S385.box_at (j := 0) rfl) rfl)
     have hf391 : (CFs ad91 [.bool (at_ m.last t47)]).1 w384 := (CF.ghost ce91 (St.le0 S385))
     refine d_v (v := v384) rfl rfl rfl (zca rfl ev383 r384) (.inr (zau (by decide +kernel) (za6 hf387 (za6 hf388 (za6 hf389 (za6 hf390 (za6 hf391 trivial))))))) <| qd0 (i := 18) (v := .pointer (some ⟨j79_b64, 0, none⟩)) rfl (by decide +kernel) rfl rfl (zaf zcp ty22 rfl r86_10) (zav rfl) <| zbj (i := 17) (by decide +kernel) ?_
     intro wd392 gd392
     have S393 := S385.keep gd392
     have hf394 := spUp gd392 hf386
     have hf395 := spUp gd392 hf387
     have hf396 := spUp gd392 hf388
     have hf397 := spUp gd392 hf389
     have hf398 := spUp gd392 hf390
     have hf399 := spUp gd392 hf391
     obtain ⟨A401, c401, ev401, lc401, cm401⟩ := S393.row_val (j := 10) rfl
     obtain ⟨v402, w402, r402, g402, T402⟩ := zcc (kd := Kd.bool) (A := A401) (c := c401) (ys := ([at_ m.last t47] : List Bool)) (len := ([at_ m.last t47] : List Bool).length) 25 S393 u25 ty4 rfl rfl (j := 8) rfl rfl (zcs S393 (j := 10) rfl ev401) (by first|omega|(simp;omega)|assumption) (by first|omega|(simp;omega)|assumption)
     have S403 := T402.fx 8 (row 4 Kd.bool v402 (t_3 ++ ([at_ m.last t47] : List Bool))) rfl
     dsimp only [lAa, lAn, lA0, lAs] at S403
     have hf404 : (CFs ⟨j79_b64, 0, none⟩ [v_t_0]).1 w402 := (CF.box (m := 1) (S403.box_at (j := 5) rfl) rfl)
     have hf405 : (CFs ⟨b1, 0, none⟩ [.slice A0_0 m.spots.length c0_0]).1 w402 := (CF.box (m := 1) (S403.box_at (j := 0) rfl) rfl)
     have hf406 : (CFs ad90 (zaj (at_ m.spots t47))).1 w402 := (CF.ghost ce90 (St.le0 S403))
     have hf407 : (CFs ⟨j79_b64, 3, none⟩ [v_t_3]).1 w402 := (CF.box (m := 1) (S403.box_at (j := 5) rfl) rfl)
     have hf408 : (CFs ⟨b1, 3, none⟩ [.slice A0_3 m.last.length c0_3]).1 w402 := (CF.box (m := 1) (S403.box_at (j := 0) rfl) rfl)
     have hf409 : (CFs ad91 [.bool (at_ m.last t47)]).1 w402 := (CF.ghost ce91 (St.le0 S403))
     refine d_v (v := v402) rfl rfl rfl (zca rfl ev401 r402) (.inr (za6 hf404 (za6 hf405 (za6 hf406 (zau (by decide +kernel) (za6 hf408 (za6 hf409 trivial))))))) <| zbj (i := 19) (by decide +kernel) ?_
     intro wd410 gd410
     have S411 := S403.keep gd410
     have hf412 := spUp gd410 hf404
     have hf413 := spUp gd410 hf405
     have hf414 := spUp gd410 hf406
     have hf415 := spUp gd410 hf407
     have hf416 := spUp gd410 hf408
     have hf417 := spUp gd410 hf409
     have oc419 := za5 S411 (j := 6) rfl
     obtain ⟨w418, r418, g418, T418⟩ := zbf (P := Try.prog) (off := 0) (v := v384) (vs := [v384]) S411 ty22 (za9 S411 (j := 6) rfl) rfl (j := 5) rfl (by first | decide | exact Nat.le_of_ble_eq_true rfl) (zai oc419 zbt)
     have S420 := T418.fx 5 (box j79_b64 27 [v384, j79_v56_0, v_t_2, v_t_3, .bool m.empty]) rfl
     dsimp only [lAa, lAn, lA0, lAs] at S420
     have hf421 : (CFs ⟨b1, 0, none⟩ [.slice A0_0 m.spots.length c0_0]).1 w418 := (CF.box (m := 1) (S420.box_at (j := 0) rfl) rfl)
     have hf422 : (CFs ad90 (zaj (at_ m.spots t47))).1 w418 := (CF.ghost ce90 (St.le0 S420))
     have hf423 : (CFs ⟨b1, 3, none⟩ [.slice A0_3 m.last.length c0_3]).1 w418 := (CF.box (m := 1) (S420.box_at (j := 0) rfl) rfl)
     have hf424 : (CFs ad91 [.bool (at_ m.last t47)]).1 w418 := (CF.ghost ce91 (St.le0 S420))
     refine d_s rfl rfl (za7 rfl rfl r418) (.inr (zau (by decide +kernel) (zau (by decide +kernel) (zau (by decide +kernel) (zau (by decide +kernel) (za6 hf423 (za6 hf424 trivial))))))) <| qd0 (i := 20) (v := .pointer (some ⟨j79_b64, 3, none⟩)) rfl (by decide +kernel) rfl rfl (zaf zc8 ty25 rfl r86_10) (zav rfl) <| zbj (i := 21) (by decide +kernel) ?_
     intro wd425 gd425
     have S426 := S420.keep gd425
     have hf427 := spUp gd425 hf421
     have hf428 := spUp gd425 hf422
     have hf429 := spUp gd425 hf423
     have hf430 := spUp gd425 hf424
     have oc432 := za5 S426 (j := 8) rfl
     obtain ⟨w431, r431, g431, T431⟩ := zbf (P := Try.prog) (off := 3) (v := v402) (vs := [v402]) S426 ty25 (za9 S426 (j := 8) rfl) rfl (j := 5) rfl (by first | decide | exact Nat.le_of_ble_eq_true rfl) (zai oc432 zbt)
     have S433 := T431.fx 5 (box j79_b64 27 [v384, j79_v56_0, v_t_2, v402, .bool m.empty]) rfl
     dsimp only [lAa, lAn, lA0, lAs] at S433
     have hf434 : (CFs ⟨b1, 0, none⟩ [.slice A0_0 m.spots.length c0_0]).1 w431 := (CF.box (m := 1) (S433.box_at (j := 0) rfl) rfl)
     have hf435 : (CFs ad90 (zaj (at_ m.spots t47))).1 w431 := (CF.ghost ce90 (St.le0 S433))
     have hf436 : (CFs ⟨b1, 3, none⟩ [.slice A0_3 m.last.length c0_3]).1 w431 := (CF.box (m := 1) (S433.box_at (j := 0) rfl) rfl)
     have hf437 : (CFs ad91 [.bool (at_ m.last t47)]).1 w431 := (CF.ghost ce91 (St.le0 S433))
     refine d_s rfl rfl (za7 rfl rfl r431) (.inr (zau (by decide +kernel) (zau (by decide +kernel) (zau (by decide +kernel) (zau (by decide +kernel) (zau (by decide +kernel) (zau (by decide +kernel) trivial))))))) <| zcv (by decide +kernel) ?_
     intro wd438 gd438
     have S439 := S433.keep gd438
     exact jn204 _ _ ⟨h86, v384, v402, (Le.refl _), S439.sub [0, 1, 2, 3, 4, 5, 6, 7, 8] (by decide) rfl _ rfl, r86_1, r86_2, r86_9, r86_10, rfl, r86_45, r86_46, r86_47⟩
    intro wd440 gd440
    have S441 := S99.keep gd440
    have hf442 := spUp gd440 hf100
    have hf443 := spUp gd440 hf101
    have hf444 := spUp gd440 hf102
    have hf445 := spUp gd440 hf103
    have hf446 := spUp gd440 hf104
    have hf447 := spUp gd440 hf105
    obtain ⟨v448, w448, r448, g448, T448⟩ := zba (kd := Kd.bool) (xs := ([at_ m.last t47] : List Bool)) (len := 1) [.bool (at_ m.last t47)] S441 u25 ty4 rfl rfl rfl rfl rfl (zbz rfl zb8) [.bool (at_ m.last t47)] (zbx.single (k := Kd.bool) (h := h86) (x := at_ m.last t47) (cs := [.bool (at_ m.last t47)]) ⟨rfl, trivial⟩) rfl
    have S449 := T448
    dsimp only [lAa, lAn, lA0, lAs] at S449
    have hf450 := spUp g448 hf442
    have hf451 := spUp g448 hf443
    have hf452 := spUp g448 hf444
    have hf453 := spUp g448 hf445
    have hf454 := spUp g448 hf446
    have hf455 := spUp g448 hf447
    refine d_v (v := v448) rfl rfl rfl (zaw (pv := [(0, .bool (at_ m.last t47))]) rfl r448) (.inl g448) <| zbj (i := 7) (by decide +kernel) ?_
    intro wd456 gd456
    have S457 := S449.keep gd456
    have hf458 := spUp gd456 hf450
    have hf459 := spUp gd456 hf451
    have hf460 := spUp gd456 hf452
    have hf461 := spUp gd456 hf453
    have hf462 := spUp gd456 hf454
    have hf463 := spUp gd456 hf455
    obtain ⟨v464, w464, r464, g464, T464⟩ := zdf (kd := za8) (xs := ([at_ m.spots t47] : List Spot)) (len := 1) (m := 5) [(.agg (zaj (at_ m.spots t47)).toArray, (zaj (at_ m.spots t47)))] S457 u22 ty38 rfl rfl rfl rfl (segs_cons rfl rfl segs_nil) (cs := (zaj (at_ m.spots t47))) (zbx.single (k := za8) (h := h86) (x := at_ m.spots t47) (cs := (zaj (at_ m.spots t47))) ⟨rfl, ok90⟩) (by simp)
    have S465 := T464
    dsimp only [lAa, lAn, lA0, lAs] at S465
    have hf466 := spUp g464 hf458
    have hf467 := spUp g464 hf459
    have hf468 := spUp g464 hf460
    have hf469 := spUp g464 hf461
    have hf470 := spUp g464 hf462
    have hf471 := spUp g464 hf463
    refine d_v (v := v464) rfl rfl rfl (zaw (pv := [(0, .agg (zaj (at_ m.spots t47)).toArray)]) rfl r464) (.inl g464) <| zbj (i := 8) (by decide +kernel) ?_
    intro wd472 gd472
    have S473 := S465.keep gd472
    have hf474 := spUp gd472 hf466
    have hf475 := spUp gd472 hf467
    have hf476 := spUp gd472 hf468
    have hf477 := spUp gd472 hf469
    have hf478 := spUp gd472 hf470
    have hf479 := spUp gd472 hf471
    obtain ⟨A481, c481, ev481, lc481, cm481⟩ := S473.row_val (j := 10) rfl
    obtain ⟨v482, w482, r482, g482, T482⟩ := zcc (kd := za8) (A := A481) (c := c481) (ys := ([at_ m.spots t47] : List Spot)) (len := ([at_ m.spots t47] : List Spot).length) 22 S473 u22 ty38 rfl rfl (j := 6) rfl rfl (zcs S473 (j := 10) rfl ev481) (by first|omega|(simp;omega)|assumption) (by first|omega|(simp;omega)|assumption)
    have S483 := T482.fx 6 (row 38 za8 v482 (t_0 ++ ([at_ m.spots t47] : List Spot))) rfl
    dsimp only [lAa, lAn, lA0, lAs] at S483
    have hf484 : (CFs ⟨j79_b64, 0, none⟩ [v_t_0]).1 w482 := (CF.box (m := 1) (S483.box_at (j := 5) rfl) rfl)
    have hf485 : (CFs ⟨b1, 0, none⟩ [.slice A0_0 m.spots.length c0_0]).1 w482 := (CF.box (m := 1) (S483.box_at (j := 0) rfl) rfl)
    have hf486 : (CFs ad90 (zaj (at_ m.spots t47))).1 w482 := (CF.ghost ce90 (St.le0 S483))
    have hf487 : (CFs ⟨j79_b64, 3, none⟩ [v_t_3]).1 w482 := (CF.box (m := 1) (S483.box_at (j := 5) rfl) rfl)
    have hf488 : (CFs ⟨b1, 3, none⟩ [.slice A0_3 m.last.length c0_3]).1 w482 := (CF.box (m := 1) (S483.box_at (j := 0) rfl) rfl)
    have hf489 : (CFs ad91 [.bool (at_ m.last t47)]).1 w482 := (CF.ghost ce91 (St.le0 S483))
    refine d_v (v := v482) rfl rfl rfl (zca rfl ev481 r482) (.inr (zau (by decide +kernel) (za6 hf485 (za6 hf486 (za6 hf487 (za6 hf488 (za6 hf489 trivial))))))) <| qd0 (i := 18) (v := .pointer (some ⟨j79_b64, 0, none⟩)) rfl (by decide +kernel) rfl rfl (zaf zcp ty22 rfl r86_10) (zav rfl) <| zbj (i := 17) (by decide +kernel) ?_
    intro wd490 gd490
    have S491 := S483.keep gd490
    have hf492 := spUp gd490 hf484
    have hf493 := spUp gd490 hf485
    have hf494 := spUp gd490 hf486
    have hf495 := spUp gd490 hf487
    have hf496 := spUp gd490 hf488
    have hf497 := spUp gd490 hf489
    obtain ⟨A499, c499, ev499, lc499, cm499⟩ := S491.row_val (j := 9) rfl
    obtain ⟨v500, w500, r500, g500, T500⟩ := zcc (kd := Kd.bool) (A := A499) (c := c499) (ys := ([at_ m.last t47] : List Bool)) (len := ([at_ m.last t47] : List Bool).length) 25 S491 u25 ty4 rfl rfl (j := 8) rfl rfl (zcs S491 (j := 9) rfl ev499) (by first|omega|(simp;omega)|assumption) (by first|omega|(simp;omega)|assumption)
    have S501 := T500.fx 8 (row 4 Kd.bool v500 (t_3 ++ ([at_ m.last t47] : List Bool))) rfl
    dsimp only [lAa, lAn, lA0, lAs] at S501
    have hf502 : (CFs ⟨j79_b64, 0, none⟩ [v_t_0]).1 w500 := (CF.box (m := 1) (S501.box_at (j := 5) rfl) rfl)
    have hf503 : (CFs ⟨b1, 0, none⟩ [.slice A0_0 m.spots.length c0_0]).1 w500 := (CF.box (m := 1) (S501.box_at (j := 0) rfl) rfl)
    have hf504 : (CFs ad90 (zaj (at_ m.spots t47))).1 w500 := (CF.ghost ce90 (St.le0 S501))
    have hf505 : (CFs ⟨j79_b64, 3, none⟩ [v_t_3]).1 w500 := (CF.box (m := 1) (S501.box_at (j := 5) rfl) rfl)
    have hf506 : (CFs ⟨b1, 3, none⟩ [.slice A0_3 m.last.length c0_3]).1 w500 := (CF.box (m := 1) (S501.box_at (j := 0) rfl) rfl)
    have hf507 : (CFs ad91 [.bool (at_ m.last t47)]).1 w500 := (CF.ghost ce91 (St.le0 S501))
    refine d_v (v := v500) rfl rfl rfl (zca rfl ev499 r500) (.inr (za6 hf502 (za6 hf503 (za6 hf504 (zau (by decide +kernel) (za6 hf506 (za6 hf507 trivial))))))) <| zbj (i := 19) (by decide +kernel) ?_
    intro wd508 gd508
    have S509 := S501.keep gd508
    have hf510 := spUp gd508 hf502
    have hf511 := spUp gd508 hf503
    have hf512 := spUp gd508 hf504
    have hf513 := spUp gd508 hf505
    have hf514 := spUp gd508 hf506
    have hf515 := spUp gd508 hf507
    have oc517 := za5 S509 (j := 6) rfl
    obtain ⟨w516, r516, g516, T516⟩ := zbf (P := Try.prog) (off := 0) (v := v482) (vs := [v482]) S509 ty22 (za9 S509 (j := 6) rfl) rfl (j := 5) rfl (by first | decide | exact Nat.le_of_ble_eq_true rfl) (zai oc517 zbt)
    have S518 := T516.fx 5 (box j79_b64 27 [v482, j79_v56_0, v_t_2, v_t_3, .bool m.empty]) rfl
    dsimp only [lAa, lAn, lA0, lAs] at S518
    have hf519 : (CFs ⟨b1, 0, none⟩ [.slice A0_0 m.spots.length c0_0]).1 w516 := (CF.box (m := 1) (S518.box_at (j := 0) rfl) rfl)
    have hf520 : (CFs ad90 (zaj (at_ m.spots t47))).1 w516 := (CF.ghost ce90 (St.le0 S518))
    have hf521 : (CFs ⟨b1, 3, none⟩ [.slice A0_3 m.last.length c0_3]).1 w516 := (CF.box (m := 1) (S518.box_at (j := 0) rfl) rfl)
    have hf522 : (CFs ad91 [.bool (at_ m.last t47)]).1 w516 := (CF.ghost ce91 (St.le0 S518))
    refine d_s rfl rfl (za7 rfl rfl r516) (.inr (zau (by decide +kernel) (zau (by decide +kernel) (zau (by decide +kernel) (zau (by decide +kernel) (za6 hf521 (za6 hf522 trivial))))))) <| qd0 (i := 20) (v := .pointer (some ⟨j79_b64, 3, none⟩)) rfl (by decide +kernel) rfl rfl (zaf zc8 ty25 rfl r86_10) (zav rfl) <| zbj (i := 21) (by decide +kernel) ?_
    intro wd523 gd523
    have S524 := S518.keep gd523
    have hf525 := spUp gd523 hf519
    have hf526 := spUp gd523 hf520
    have hf527 := spUp gd523 hf521
    have hf528 := spUp gd523 hf522
    have oc530 := za5 S524 (j := 8) rfl
    obtain ⟨w529, r529, g529, T529⟩ := zbf (P := Try.prog) (off := 3) (v := v500) (vs := [v500]) S524 ty25 (za9 S524 (j := 8) rfl) rfl (j := 5) rfl (by first | decide | exact Nat.le_of_ble_eq_true rfl) (zai oc530 zbt)
    have S531 := T529.fx 5 (box j79_b64 27 [v482, j79_v56_0, v_t_2, v500, .bool m.empty]) rfl
    dsimp only [lAa, lAn, lA0, lAs] at S531
    have hf532 : (CFs ⟨b1, 0, none⟩ [.slice A0_0 m.spots.length c0_0]).1 w529 := (CF.box (m := 1) (S531.box_at (j := 0) rfl) rfl)
    have hf533 : (CFs ad90 (zaj (at_ m.spots t47))).1 w529 := (CF.ghost ce90 (St.le0 S531))
    have hf534 : (CFs ⟨b1, 3, none⟩ [.slice A0_3 m.last.length c0_3]).1 w529 := (CF.box (m := 1) (S531.box_at (j := 0) rfl) rfl)
    have hf535 : (CFs ad91 [.bool (at_ m.last t47)]).1 w529 := (CF.ghost ce91 (St.le0 S531))
    refine d_s rfl rfl (za7 rfl rfl r529) (.inr (zau (by decide +kernel) (zau (by decide +kernel) (zau (by decide +kernel) (zau (by decide +kernel) (zau (by decide +kernel) (zau (by decide +kernel) trivial))))))) <| zcv (by decide +kernel) ?_
    intro wd536 gd536
    have S537 := S531.keep gd536
    exact jn204 _ _ ⟨h86, v482, v500, (Le.refl _), S537.sub [0, 1, 2, 3, 4, 5, 6, 7, 8] (by decide) rfl _ rfl, r86_1, r86_2, r86_9, r86_10, rfl, r86_45, r86_46, r86_47⟩
   refine zas <| zar <| zac (l := [0, 1]) rfl <| p_v (v := .int .i64 (t47 + 1)) rfl rfl rfl (zb9 r86_47 rfl (zah (by first|omega|(simp;omega)|assumption) (by first|omega|(simp;omega)|assumption))) <| p_v (v := .int .i64 (t47 + 1)) rfl rfl rfl (zae rfl) <| zaa ?_
   refine ih86 (t_0, t_2, t_3, t47 + 1) _ _ (by dsimp only; omega) ⟨h86, v_t_0, v_t_2, v_t_3, le86, S86.sub [0, 1, 2, 3, 4, 5, 6, 7, 8] (by decide) rfl _ rfl, r86_1, r86_2, r86_9, r86_10, r86_45, r86_46, rfl, (zah (by first|omega|(simp;omega)|assumption) (by first|omega|(simp;omega)|assumption)), (by first | exact ⟨by omega, by omega, by rw [hI86.2.2.1]; exact spotsTo_yes m hI86.1 (by assumption), by rw [hI86.2.2.2.1, hnum_, zbv]; exact followTo_yes m hI86.1 (by assumption), by rw [hI86.2.2.2.2]; exact lastTo_yes m hI86.1 (by assumption)⟩ | exact ⟨by omega, by omega, by rw [hI86.2.2.1]; exact spotsTo_no m hI86.1 (by assumption), by rw [hI86.2.2.2.1]; exact followTo_no m hI86.1 (by assumption), by rw [hI86.2.2.2.2]; exact lastTo_no m hI86.1 (by assumption)⟩)⟩
  refine zbd rfl <| zab <| zac (l := [0, 1, 2]) rfl <| p_v (v := .agg #[v_t_0, j79_v56_0, v_t_2, v_t_3, .bool m.empty]) rfl rfl rfl (zag (seg := [v_t_0, j79_v56_0, v_t_2, v_t_3, .bool m.empty]) ty27 rfl (by simp) r86_10 (CF.box (m := 5) (S86.box_at (j := 5) rfl) rfl)) ?_
  have oc539 := za5 S86 (j := 6) rfl
  have oc540 := za5 S86 (j := 4) rfl
  have oc541 := za5 S86 (j := 7) rfl
  have oc542 := za5 S86 (j := 8) rfl
  obtain ⟨w538, r538, g538, T538⟩ := zbf (P := Try.prog) (off := 0) (v := .agg #[v_t_0, j79_v56_0, v_t_2, v_t_3, .bool m.empty]) (vs := [v_t_0, j79_v56_0, v_t_2, v_t_3, .bool m.empty]) S86 ty27 rfl rfl (j := 1) rfl (by first | decide | exact Nat.le_of_ble_eq_true rfl) (zai oc539 (zai oc540 (zai oc541 (zai oc542 (zai rfl zbt)))))
  have S543 := T538.fx 1 (box b3 27 [v_t_0, j79_v56_0, v_t_2, v_t_3, .bool m.empty]) rfl
  dsimp only [lAa, lAn, lA0, lAs] at S543
  refine p_s rfl rfl (za7 r86_2 rfl r538) <| p_v (v := .int .i64 0) rfl rfl rfl (zad rfl) <| zaa <| za0 Try.func8 (res2 rfl (res_cell S543 ty27 r86_2 (j := 1) rfl rfl (by simp) rfl) (za3 (v := .int .i64 0) rfl)) ?_
  have q0 : ((za2 m).spots : List Spot) = t_0 := by
   first | (rw [zam (by assumption)]; done) | (rw [zam (by assumption)]) | exact zbr (by assumption) | exact zbs (by assumption) | (rw [zan (by assumption)]; done) | (rw [zan (by assumption)]; first | rfl | (rw [hI86.2.2.1, show t47 = (m.spots.length : Int) by omega]; done) | (rw [hI86.2.2.2.1, show t47 = (m.spots.length : Int) by omega]; done) | (rw [hI86.2.2.2.2, show t47 = (m.spots.length : Int) by omega]; done) | (rw [hnum_, zbv]))
  have q1 : ((za2 m).first : List Int) = zb3 (zao m) number m.first := by
   first | (rw [zam (by assumption)]; done) | (rw [zam (by assumption)]) | exact zbr (by assumption) | exact zbs (by assumption) | (rw [zan (by assumption)]; done) | (rw [zan (by assumption)]; first | rfl | (rw [hI86.2.2.1, show t47 = (m.spots.length : Int) by omega]; done) | (rw [hI86.2.2.2.1, show t47 = (m.spots.length : Int) by omega]; done) | (rw [hI86.2.2.2.2, show t47 = (m.spots.length : Int) by omega]; done) | (rw [hnum_, zbv]))
  have q2 : ((za2 m).follow : List (List Int)) = t_2 := by
   first | (rw [zam (by assumption)]; done) | (rw [zam (by assumption)]) | exact zbr (by assumption) | exact zbs (by assumption) | (rw [zan (by assumption)]; done) | (rw [zan (by assumption)]; first | rfl | (rw [hI86.2.2.1, show t47 = (m.spots.length : Int) by omega]; done) | (rw [hI86.2.2.2.1, show t47 = (m.spots.length : Int) by omega]; done) | (rw [hI86.2.2.2.2, show t47 = (m.spots.length : Int) by omega]; done) | (rw [hnum_, zbv]))
  have q3 : ((za2 m).last : List Bool) = t_3 := by
   first | (rw [zam (by assumption)]; done) | (rw [zam (by assumption)]) | exact zbr (by assumption) | exact zbs (by assumption) | (rw [zan (by assumption)]; done) | (rw [zan (by assumption)]; first | rfl | (rw [hI86.2.2.1, show t47 = (m.spots.length : Int) by omega]; done) | (rw [hI86.2.2.2.1, show t47 = (m.spots.length : Int) by omega]; done) | (rw [hI86.2.2.2.2, show t47 = (m.spots.length : Int) by omega]; done) | (rw [hnum_, zbv]))
  have q4 : ((za2 m).empty : Bool) = m.empty := by
   first | (rw [zam (by assumption)]; done) | (rw [zam (by assumption)]) | exact zbr (by assumption) | exact zbs (by assumption) | (rw [zan (by assumption)]; done) | (rw [zan (by assumption)]; first | rfl | (rw [hI86.2.2.1, show t47 = (m.spots.length : Int) by omega]; done) | (rw [hI86.2.2.2.1, show t47 = (m.spots.length : Int) by omega]; done) | (rw [hI86.2.2.2.2, show t47 = (m.spots.length : Int) by omega]; done) | (rw [hnum_, zbv]))
  have q5 : (errM m : Int) = 0 := by
   first | (rw [zam (by assumption)]; done) | (rw [zam (by assumption)]) | exact zbr (by assumption) | exact zbs (by assumption) | (rw [zan (by assumption)]; done) | (rw [zan (by assumption)]; first | rfl | (rw [hI86.2.2.1, show t47 = (m.spots.length : Int) by omega]; done) | (rw [hI86.2.2.2.1, show t47 = (m.spots.length : Int) by omega]; done) | (rw [hI86.2.2.2.2, show t47 = (m.spots.length : Int) by omega]; done) | (rw [hnum_, zbv]))
  refine ⟨_, rfl, h86, v_t_0, j79_v56_0, v_t_2, v_t_3, ?_, ?_, ?_⟩
  · rw [q0]; rw [q1]; rw [q2]; rw [q3]; exact S543.sub [6, 4, 7, 8] (by decide) rfl _ rfl
  · first | rfl | (simp only [q0, q1, q2, q3, q4, q5]; rfl) | (simp only [q0, q1, q2, q3, q4, q5])
  · rw [q5]; exact (zah (by first|omega|(simp;omega)|assumption) (by first|omega|(simp;omega)|assumption))
 refine ra_two (i := 3) (i2 := 7) (by decide +kernel) ?_ ?_
 ·skip
  intro wd544 gd544
  have S545 := S49.keep gd544
  have hf546 := spUp gd544 hf50
  have hf547 := spUp gd544 hf51
  refine d_c rfl rfl rfl (zbp (args := [.slice A0_1 m.first.length c0_1, .pointer (some ⟨b20, 0, none⟩), .pointer (some ⟨b28, 0, none⟩)]) ca19 rfl rfl) (left_calls wd544 m.first A0_1 c0_1 b0_1 (l0_1.mono (St.le0 S545)) (zao m) A42 c42 (And.intro lc42 cm42) (ld42.mono (le44.trans S545.ghost)) ⟨b20, 0, none⟩ (zcx (S545.box_at (j := 3) rfl)) number A44 c44 (And.intro lc44 cm44) (ld44.mono ((Le.refl _).trans S545.ghost)) ⟨b28, 0, none⟩ (zcx (S545.box_at (j := 5) rfl)) (by first | assumption | exact leftPre_ _ ⟨by omega, hR_.firsts⟩ | exact leftPre_ _ ⟨hss_.row _ (by assumption) (by omega), hR_.rows (by assumption) (by omega)⟩)) ?_
  rintro v548_0 w548 ⟨h548, _, T548, rfl⟩
  obtain ⟨k548, lk548, ll548, U548⟩ := zbg S545 T548
  have lc548_0 := (lf44_0).trans lk548
  have lc548_1 := (lf44_1).trans lk548
  have lc548_2 := (lf44_2).trans lk548
  have lc548_3 := (le44).trans lk548
  have S549 := U548
  dsimp only [lAa, lAn, lA0, lAs] at S549
  have hf550 := spUp (Chg.of_below T548.below) hf546
  have hf551 := spUp (Chg.of_below T548.below) hf547
  refine ⟨.inl (Chg.of_below T548.below), ?_⟩
  refine qd0 (i := 6) (v := .agg #[.slice none 0 0, v548_0, .slice none 0 0, .slice none 0 0, .bool m.empty]) rfl (by decide +kernel) rfl rfl (y_build (pv := [(1, v548_0), (4, .bool m.empty)]) rfl (zby pl27 ty27 rfl (cs := [.slice none 0 0, v548_0, .slice none 0 0, .slice none 0 0, .bool m.empty]) (zc9 (vc := [v548_0]) rfl (za9 S549 (j := 6) rfl) rfl rfl (zc9 (vc := [.bool m.empty]) rfl rfl rfl rfl (fill_end rfl))))) (zav rfl) <| zbj (i := 7) (by decide +kernel) ?_
  intro wd552 gd552
  have S553 := S549.keep gd552
  have hf554 := spUp gd552 hf550
  have hf555 := spUp gd552 hf551
  obtain ⟨b556, w556, r556, g556, T556⟩ := zc1 (P := Try.prog) S553 27 (v := (.agg #[.slice none 0 0, .slice none 0 0, .slice none 0 0, .slice none 0 0, .bool false])) [.slice none 0 0, .slice none 0 0, .slice none 0 0, .slice none 0 0, .bool false] rfl
  have S557 := T556
  dsimp only [lAa, lAn, lA0, lAs] at S557
  have hf558 := spUp g556 hf554
  have hf559 := spUp g556 hf555
  refine d_v (v := .pointer (some ⟨b556, 0, none⟩)) rfl rfl rfl (zck ty27 r556) (.inl g556) <| zbj (i := 8) (by decide +kernel) ?_
  intro wd560 gd560
  have S561 := S557.keep gd560
  have hf562 := spUp gd560 hf558
  have hf563 := spUp gd560 hf559
  have oc565 := za5 S561 (j := 6) rfl
  obtain ⟨w564, r564, g564, T564⟩ := zbf (P := Try.prog) (off := 0) (v := .agg #[.slice none 0 0, v548_0, .slice none 0 0, .slice none 0 0, .bool m.empty]) (vs := [.slice none 0 0, v548_0, .slice none 0 0, .slice none 0 0, .bool m.empty]) S561 ty27 rfl rfl (j := 7) rfl (by first | decide | exact Nat.le_of_ble_eq_true rfl) (zai rfl (zai oc565 (zai rfl (zai rfl (zai rfl zbt)))))
  have S566 := T564.fx 7 (box b556 27 [.slice none 0 0, v548_0, .slice none 0 0, .slice none 0 0, .bool m.empty]) rfl
  dsimp only [lAa, lAn, lA0, lAs] at S566
  have hf567 : (CFs ⟨b1, 1, none⟩ [.slice A0_1 m.first.length c0_1]).1 w564 := (CF.box (m := 1) (S566.box_at (j := 0) rfl) rfl)
  have hf568 : (CFs ⟨b1, 4, none⟩ [.bool m.empty]).1 w564 := (CF.box (m := 1) (S566.box_at (j := 0) rfl) rfl)
  refine d_s rfl rfl (za7 rfl rfl r564) (.inr (zau (by decide +kernel) (zau (by decide +kernel) trivial))) <| zcv (by decide +kernel) ?_
  intro wd569 gd569
  have S570 := S566.keep gd569
  exact jn79 _ _ ⟨k548, b556, v548_0, lk548, S570.sub [0, 1, 3, 5, 6, 7] (by decide) rfl _ rfl, r34_1, r34_2, r34_4, rfl, rfl⟩
 intro wd571 gd571
 have S572 := S49.keep gd571
 have hf573 := spUp gd571 hf50
 have hf574 := spUp gd571 hf51
 obtain ⟨b575, w575, r575, g575, T575⟩ := zc1 (P := Try.prog) S572 27 (v := (.agg #[.slice none 0 0, .slice none 0 0, .slice none 0 0, .slice none 0 0, .bool false])) [.slice none 0 0, .slice none 0 0, .slice none 0 0, .slice none 0 0, .bool false] rfl
 have S576 := T575
 dsimp only [lAa, lAn, lA0, lAs] at S576
 have hf577 := spUp g575 hf573
 have hf578 := spUp g575 hf574
 refine d_v (v := .pointer (some ⟨b575, 0, none⟩)) rfl rfl rfl (zck ty27 r575) (.inl g575) <| zbj (i := 3) (by decide +kernel) ?_
 intro wd579 gd579
 have S580 := S576.keep gd579
 have hf581 := spUp gd579 hf577
 have hf582 := spUp gd579 hf578
 refine d_c rfl rfl rfl (zbp (args := [.slice A0_1 m.first.length c0_1, .pointer (some ⟨b20, 0, none⟩), .pointer (some ⟨b28, 0, none⟩)]) ca19 rfl rfl) (left_calls wd579 m.first A0_1 c0_1 b0_1 (l0_1.mono (St.le0 S580)) (zao m) A42 c42 (And.intro lc42 cm42) (ld42.mono (le44.trans S580.ghost)) ⟨b20, 0, none⟩ (zcx (S580.box_at (j := 3) rfl)) number A44 c44 (And.intro lc44 cm44) (ld44.mono ((Le.refl _).trans S580.ghost)) ⟨b28, 0, none⟩ (zcx (S580.box_at (j := 5) rfl)) (by first | assumption | exact leftPre_ _ ⟨by omega, hR_.firsts⟩ | exact leftPre_ _ ⟨hss_.row _ (by assumption) (by omega), hR_.rows (by assumption) (by omega)⟩)) ?_
 rintro v583_0 w583 ⟨h583, _, T583, rfl⟩
 obtain ⟨k583, lk583, ll583, U583⟩ := zbg S580 T583
 have lc583_0 := (lf44_0).trans lk583
 have lc583_1 := (lf44_1).trans lk583
 have lc583_2 := (lf44_2).trans lk583
 have lc583_3 := (le44).trans lk583
 have S584 := U583
 dsimp only [lAa, lAn, lA0, lAs] at S584
 have hf585 := spUp (Chg.of_below T583.below) hf581
 have hf586 := spUp (Chg.of_below T583.below) hf582
 refine ⟨.inl (Chg.of_below T583.below), ?_⟩
 refine qd0 (i := 6) (v := .agg #[.slice none 0 0, v583_0, .slice none 0 0, .slice none 0 0, .bool m.empty]) rfl (by decide +kernel) rfl rfl (y_build (pv := [(1, v583_0), (4, .bool m.empty)]) rfl (zby pl27 ty27 rfl (cs := [.slice none 0 0, v583_0, .slice none 0 0, .slice none 0 0, .bool m.empty]) (zc9 (vc := [v583_0]) rfl (za9 S584 (j := 7) rfl) rfl rfl (zc9 (vc := [.bool m.empty]) rfl rfl rfl rfl (fill_end rfl))))) (zav rfl) <| zbj (i := 8) (by decide +kernel) ?_
 intro wd587 gd587
 have S588 := S584.keep gd587
 have hf589 := spUp gd587 hf585
 have hf590 := spUp gd587 hf586
 have oc592 := za5 S588 (j := 7) rfl
 obtain ⟨w591, r591, g591, T591⟩ := zbf (P := Try.prog) (off := 0) (v := .agg #[.slice none 0 0, v583_0, .slice none 0 0, .slice none 0 0, .bool m.empty]) (vs := [.slice none 0 0, v583_0, .slice none 0 0, .slice none 0 0, .bool m.empty]) S588 ty27 rfl rfl (j := 6) rfl (by first | decide | exact Nat.le_of_ble_eq_true rfl) (zai rfl (zai oc592 (zai rfl (zai rfl (zai rfl zbt)))))
 have S593 := T591.fx 6 (box b575 27 [.slice none 0 0, v583_0, .slice none 0 0, .slice none 0 0, .bool m.empty]) rfl
 dsimp only [lAa, lAn, lA0, lAs] at S593
 have hf594 : (CFs ⟨b1, 1, none⟩ [.slice A0_1 m.first.length c0_1]).1 w591 := (CF.box (m := 1) (S593.box_at (j := 0) rfl) rfl)
 have hf595 : (CFs ⟨b1, 4, none⟩ [.bool m.empty]).1 w591 := (CF.box (m := 1) (S593.box_at (j := 0) rfl) rfl)
 refine d_s rfl rfl (za7 rfl rfl r591) (.inr (zau (by decide +kernel) (zau (by decide +kernel) trivial))) <| zcv (by decide +kernel) ?_
 intro wd596 gd596
 have S597 := S593.keep gd596
 exact jn79 _ _ ⟨k583, b575, v583_0, lk583, S597.sub [0, 1, 3, 5, 7, 6] (by decide) rfl _ rfl, r34_1, r34_2, r34_4, rfl, rfl⟩
end Go.Proofs.Ythpdebieagaghaa
namespace Gx
open Go Go.RowKit
set_option linter.unusedSimpArgs false
set_option linter.unusedSectionVars false
set_option linter.unusedVariables false
def zap : Mach := ⟨[⟨zb6 [97], 0⟩, ⟨zb6 [98], 0⟩, ⟨zb6 [99], 0⟩], [0], [[1, 2], [], []], [false, true, false], true⟩
end Gx
namespace Go.Proofs.Ythpdebieagaghaa
open Go Go.RowKit Gx
set_option maxHeartbeats 1000000
set_option linter.unusedVariables false
set_option linter.unusedSimpArgs false
attribute [local irreducible] listOf count first has zb6 wbits Lib.ctz zcu zbq rowOk tab markP intoP intoTo zcy zcd zct runTo endsIn endTo runM posTo zco greatTo anyTo allTo zc6 numsL numsIn zb3 kept lefts zc0 lastTp zcg za2 errM zdd zao lfp seekN seekB fullS zdb useN trues
theorem same10_calls (w : World) (a : Mach) (A0_0 : Option Addr) (c0_0 : Nat) (b0_0 : a.spots.length ≤ c0_0 ∧ c0_0 ≤ maxLen) (l0_0 : zbb za8 (hp w) A0_0 a.spots) (A0_1 : Option Addr) (c0_1 : Nat) (b0_1 : a.first.length ≤ c0_1 ∧ c0_1 ≤ maxLen) (l0_1 : zbb (Kd.int .i64) (hp w) A0_1 a.first) (A0_2 : Option Addr) (c0_2 : Nat) (b0_2 : a.follow.length ≤ c0_2 ∧ c0_2 ≤ maxLen) (l0_2 : zbb (Kd.int .i64).slice (hp w) A0_2 a.follow) (A0_3 : Option Addr) (c0_3 : Nat) (b0_3 : a.last.length ≤ c0_3 ∧ c0_3 ≤ maxLen) (l0_3 : zbb Kd.bool (hp w) A0_3 a.last) (b : Mach) (A1_0 : Option Addr) (c1_0 : Nat) (b1_0 : b.spots.length ≤ c1_0 ∧ c1_0 ≤ maxLen) (l1_0 : zbb za8 (hp w) A1_0 b.spots) (A1_1 : Option Addr) (c1_1 : Nat) (b1_1 : b.first.length ≤ c1_1 ∧ c1_1 ≤ maxLen) (l1_1 : zbb (Kd.int .i64) (hp w) A1_1 b.first) (A1_2 : Option Addr) (c1_2 : Nat) (b1_2 : b.follow.length ≤ c1_2 ∧ c1_2 ≤ maxLen) (l1_2 : zbb (Kd.int .i64).slice (hp w) A1_2 b.follow) (A1_3 : Option Addr) (c1_3 : Nat) (b1_3 : b.last.length ≤ c1_3 ∧ c1_3 ≤ maxLen) (l1_3 : zbb Kd.bool (hp w) A1_3 b.last) :
    Calls Try.prog 9 #[.agg #[.slice A0_0 a.spots.length c0_0, .slice A0_1 a.first.length c0_1, .slice A0_2 a.follow.length c0_2, .slice A0_3 a.last.length c0_3, .bool a.empty], .agg #[.slice A1_0 b.spots.length c1_0, .slice A1_1 b.first.length c1_1, .slice A1_2 b.follow.length c1_2, .slice A1_3 b.last.length c1_3, .bool b.empty]] w fun e w' => ∃ v, e = .returned v ∧ ∃ (hn : Ghost), St w.heap.size w hn w' [] ∧ v = .bool (decide (a = b)) := by
 refine zax Try.func9 rfl Try.ntmps9 rfl ?_
 have S0 := St.init w
 have bb0_0 := b0_0.1; have bc0_0 := b0_0.2; simp only [maxLen] at bc0_0
 have bb0_1 := b0_1.1; have bc0_1 := b0_1.2; simp only [maxLen] at bc0_1
 have bb0_2 := b0_2.1; have bc0_2 := b0_2.2; simp only [maxLen] at bc0_2
 have bb0_3 := b0_3.1; have bc0_3 := b0_3.2; simp only [maxLen] at bc0_3
 have bb1_0 := b1_0.1; have bc1_0 := b1_0.2; simp only [maxLen] at bc1_0
 have bb1_1 := b1_1.1; have bc1_1 := b1_1.2; simp only [maxLen] at bc1_1
 have bb1_2 := b1_2.1; have bc1_2 := b1_2.2; simp only [maxLen] at bc1_2
 have bb1_3 := b1_3.1; have bc1_3 := b1_3.2; simp only [maxLen] at bc1_3
 refine zab <| zac (l := [0, 1, 2]) rfl ?_
 obtain ⟨b1, w1, r1, g1, T1⟩ := zc1 (P := Try.prog) S0 27 (v := .agg #[.slice A0_0 a.spots.length c0_0, .slice A0_1 a.first.length c0_1, .slice A0_2 a.follow.length c0_2, .slice A0_3 a.last.length c0_3, .bool a.empty]) [.slice A0_0 a.spots.length c0_0, .slice A0_1 a.first.length c0_1, .slice A0_2 a.follow.length c0_2, .slice A0_3 a.last.length c0_3, .bool a.empty] rfl
 have S2 := T1
 dsimp only [lAa, lAn, lA0, lAs] at S2
 refine p_v (v := .pointer (some ⟨b1, 0, none⟩)) rfl rfl rfl (x_box rfl r1) ?_
 obtain ⟨b3, w3, r3, g3, T3⟩ := zc1 (P := Try.prog) S2 27 (v := .agg #[.slice A1_0 b.spots.length c1_0, .slice A1_1 b.first.length c1_1, .slice A1_2 b.follow.length c1_2, .slice A1_3 b.last.length c1_3, .bool b.empty]) [.slice A1_0 b.spots.length c1_0, .slice A1_1 b.first.length c1_1, .slice A1_2 b.follow.length c1_2, .slice A1_3 b.last.length c1_3, .bool b.empty] rfl
 have S4 := T3
 dsimp only [lAa, lAn, lA0, lAs] at S4
 refine p_v (v := .pointer (some ⟨b3, 0, none⟩)) rfl rfl rfl (x_box rfl r3) <| p_v (v := .bool false) rfl rfl rfl (zad rfl) <| zaa <| zab <| zab <| zac (l := [0, 1, 2, 3, 4, 5, 6, 7, 8, 9, 10, 11, 12, 13, 14, 15, 16, 17, 18, 19, 20, 21, 22, 23, 24, 25, 26, 27, 28, 29, 30, 31, 32, 33, 34, 35, 36, 37, 38, 39]) rfl <| p_v (v := .pointer (some ⟨b1, 0, none⟩)) rfl rfl rfl (zaf zcp ty22 rfl rfl) <| p_v (v := .slice A0_0 a.spots.length c0_0) rfl rfl rfl (zag (seg := [.slice A0_0 a.spots.length c0_0]) ty22 rfl (by simp) rfl (CF.box (m := 1) (S4.box_at (j := 0) rfl) rfl)) <| p_v (v := .int .i64 (a.spots.length : Int)) rfl rfl rfl (zaq u22 rfl) <| p_v (v := .pointer (some ⟨b3, 0, none⟩)) rfl rfl rfl (zaf zcp ty22 rfl rfl) <| p_v (v := .slice A1_0 b.spots.length c1_0) rfl rfl rfl (zag (seg := [.slice A1_0 b.spots.length c1_0]) ty22 rfl (by simp) rfl (CF.box (m := 1) (S4.box_at (j := 1) rfl) rfl)) <| p_v (v := .int .i64 (b.spots.length : Int)) rfl rfl rfl (zaq u22 rfl) ?_
 refine p_v (v := .bool (decide ((a.spots.length : Int) ≠ (b.spots.length : Int)))) rfl rfl rfl (x_neq rfl rfl) <| p_v (v := .bool (decide ((a.spots.length : Int) ≠ (b.spots.length : Int)))) rfl rfl rfl (zae rfl) ?_
 by_cases hc5 : (a.spots.length : Int) ≠ (b.spots.length : Int)
 ·skip
  refine zat rfl (wo 7 15 rfl rfl (bT hc5) rfl) rfl <| zat rfl (wo 7 15 rfl rfl (bT hc5) rfl) rfl <| zat rfl (wo 7 15 rfl rfl (bT hc5) rfl) rfl <| zat rfl (wo 7 15 rfl rfl (bT hc5) rfl) rfl <| zat rfl (wo 7 15 rfl rfl (bT hc5) rfl) rfl <| zat rfl (wo 7 15 rfl rfl (bT hc5) rfl) rfl <| zat rfl (wo 7 15 rfl rfl (bT hc5) rfl) rfl <| p_v (v := .bool true) rfl rfl rfl (zbc (bT hc5) rfl) <| p_v (v := .bool true) rfl rfl rfl (zae rfl) <| zat rfl rfl rfl <| zat rfl rfl rfl <| zat rfl rfl rfl ?_
  refine zat rfl rfl rfl <| zat rfl rfl rfl <| zat rfl rfl rfl <| zat rfl rfl rfl <| p_v (v := .bool true) rfl rfl rfl (zbc rfl rfl) <| p_v (v := .bool true) rfl rfl rfl (zae rfl) <| zat rfl rfl rfl <| zat rfl rfl rfl <| zat rfl rfl rfl <| zat rfl rfl rfl <| zat rfl rfl rfl <| p_v (v := .bool true) rfl rfl rfl (zbc rfl rfl) ?_
  refine p_v (v := .bool true) rfl rfl rfl (zae rfl) <| zat rfl rfl rfl <| zat rfl rfl rfl <| zat rfl rfl rfl <| zat rfl rfl rfl <| zat rfl rfl rfl <| zat rfl rfl rfl <| p_v (v := .bool true) rfl rfl rfl (zbc rfl rfl) <| zaa <| zcn (b := true) rfl ?_
  simp only [if_true, if_false, Bool.false_eq_true]
  refine zab <| zac (l := [0]) rfl <| p_v (v := .bool false) rfl rfl rfl (zad rfl) <| zaa <| za0 Try.func9 (res1 rfl (za3 (v := .bool false) rfl)) ?_
  have q0 : (decide (a = b) : Bool) = false := by
   first | exact decide_eq_false (fun e => (by assumption : (a.spots.length : Int) ≠ (b.spots.length : Int)) (by rw [e])) | exact decide_eq_false (fun e => (by assumption : (a.follow.length : Int) ≠ (b.follow.length : Int)) (by rw [e])) | exact decide_eq_false (fun e => (by assumption : (a.last.length : Int) ≠ (b.last.length : Int)) (by rw [e])) | exact decide_eq_false (fun e => (by assumption : a.empty ≠ b.empty) (by rw [e])) | exact decide_eq_false (fun e => of_decide_eq_false (by assumption : decide (a.first = b.first) = false) (by rw [e])) | exact decide_eq_false (fun e => (by assumption : at_ a.spots i ≠ at_ b.spots i) (by rw [e])) | exact decide_eq_false (fun e => (by assumption : at_ a.last i2 ≠ at_ b.last i2) (by rw [e])) | exact decide_eq_false (fun e => of_decide_eq_false (by assumption : decide (at_ a.follow i3 = at_ b.follow i3) = false) (by rw [e])) | (rw [mach_eq, zcj (t := i) (by omega) (by omega) hI_.2.2, (by assumption : decide (a.first = b.first) = true), zcj (t := i3) (by omega) (by omega) hI_.2.2, zcj (t := i2) (by omega) (by omega) hI_.2.2, decide_eq_true (Decidable.not_not.1 (by assumption : ¬ a.empty ≠ b.empty))]; rfl)
  refine ⟨_, rfl, (fun _ => none), ?_, ?_⟩
  · exact S4.sub [] (by decide) rfl _ rfl
  · first | rfl | (simp only [q0]; rfl) | (simp only [q0])
 refine p_v (v := .pointer (some ⟨b1, 2, none⟩)) rfl (wo 7 15 rfl rfl (bF hc5) rfl) rfl (zaf zcr ty24 rfl rfl) <| p_v (v := .slice A0_2 a.follow.length c0_2) rfl (wo 7 15 rfl rfl (bF hc5) rfl) rfl (zag (seg := [.slice A0_2 a.follow.length c0_2]) ty24 rfl (by simp) rfl (CF.box (m := 1) (S4.box_at (j := 0) rfl) rfl)) <| p_v (v := .int .i64 (a.follow.length : Int)) rfl (wo 7 15 rfl rfl (bF hc5) rfl) rfl (zaq u24 rfl) <| p_v (v := .pointer (some ⟨b3, 2, none⟩)) rfl (wo 7 15 rfl rfl (bF hc5) rfl) rfl (zaf zcr ty24 rfl rfl) <| p_v (v := .slice A1_2 b.follow.length c1_2) rfl (wo 7 15 rfl rfl (bF hc5) rfl) rfl (zag (seg := [.slice A1_2 b.follow.length c1_2]) ty24 rfl (by simp) rfl (CF.box (m := 1) (S4.box_at (j := 1) rfl) rfl)) <| p_v (v := .int .i64 (b.follow.length : Int)) rfl (wo 7 15 rfl rfl (bF hc5) rfl) rfl (zaq u24 rfl) <| p_v (v := .bool (decide ((a.follow.length : Int) ≠ (b.follow.length : Int)))) rfl (wo 7 15 rfl rfl (bF hc5) rfl) rfl (x_neq rfl rfl) <| p_v (v := .bool (decide ((a.follow.length : Int) ≠ (b.follow.length : Int)))) rfl rfl rfl (zcl (bF hc5) rfl) <| p_v (v := .bool (decide ((a.follow.length : Int) ≠ (b.follow.length : Int)))) rfl rfl rfl (zae rfl) ?_
 by_cases hc6 : (a.follow.length : Int) ≠ (b.follow.length : Int)
 ·skip
  refine zat rfl (wo 16 24 rfl rfl (bT hc6) rfl) rfl <| zat rfl (wo 16 24 rfl rfl (bT hc6) rfl) rfl <| zat rfl (wo 16 24 rfl rfl (bT hc6) rfl) rfl <| zat rfl (wo 16 24 rfl rfl (bT hc6) rfl) rfl <| zat rfl (wo 16 24 rfl rfl (bT hc6) rfl) rfl <| zat rfl (wo 16 24 rfl rfl (bT hc6) rfl) rfl <| zat rfl (wo 16 24 rfl rfl (bT hc6) rfl) rfl <| p_v (v := .bool true) rfl rfl rfl (zbc (bT hc6) rfl) <| p_v (v := .bool true) rfl rfl rfl (zae rfl) <| zat rfl rfl rfl <| zat rfl rfl rfl <| zat rfl rfl rfl ?_
  refine zat rfl rfl rfl <| zat rfl rfl rfl <| p_v (v := .bool true) rfl rfl rfl (zbc rfl rfl) <| p_v (v := .bool true) rfl rfl rfl (zae rfl) <| zat rfl rfl rfl <| zat rfl rfl rfl <| zat rfl rfl rfl <| zat rfl rfl rfl <| zat rfl rfl rfl <| zat rfl rfl rfl <| p_v (v := .bool true) rfl rfl rfl (zbc rfl rfl) <| zaa ?_
  refine zcn (b := true) rfl ?_
  simp only [if_true, if_false, Bool.false_eq_true]
  refine zab <| zac (l := [0]) rfl <| p_v (v := .bool false) rfl rfl rfl (zad rfl) <| zaa <| za0 Try.func9 (res1 rfl (za3 (v := .bool false) rfl)) ?_
  have q0 : (decide (a = b) : Bool) = false := by
   first | exact decide_eq_false (fun e => (by assumption : (a.spots.length : Int) ≠ (b.spots.length : Int)) (by rw [e])) | exact decide_eq_false (fun e => (by assumption : (a.follow.length : Int) ≠ (b.follow.length : Int)) (by rw [e])) | exact decide_eq_false (fun e => (by assumption : (a.last.length : Int) ≠ (b.last.length : Int)) (by rw [e])) | exact decide_eq_false (fun e => (by assumption : a.empty ≠ b.empty) (by rw [e])) | exact decide_eq_false (fun e => of_decide_eq_false (by assumption : decide (a.first = b.first) = false) (by rw [e])) | exact decide_eq_false (fun e => (by assumption : at_ a.spots i ≠ at_ b.spots i) (by rw [e])) | exact decide_eq_false (fun e => (by assumption : at_ a.last i2 ≠ at_ b.last i2) (by rw [e])) | exact decide_eq_false (fun e => of_decide_eq_false (by assumption : decide (at_ a.follow i3 = at_ b.follow i3) = false) (by rw [e])) | (rw [mach_eq, zcj (t := i) (by omega) (by omega) hI_.2.2, (by assumption : decide (a.first = b.first) = true), zcj (t := i3) (by omega) (by omega) hI_.2.2, zcj (t := i2) (by omega) (by omega) hI_.2.2, decide_eq_true (Decidable.not_not.1 (by assumption : ¬ a.empty ≠ b.empty))]; rfl)
  refine ⟨_, rfl, (fun _ => none), ?_, ?_⟩
  · exact S4.sub [] (by decide) rfl _ rfl
  · first | rfl | (simp only [q0]; rfl) | (simp only [q0])
 refine p_v (v := .pointer (some ⟨b1, 3, none⟩)) rfl (wo 16 24 rfl rfl (bF hc6) rfl) rfl (zaf zc8 ty25 rfl rfl) <| p_v (v := .slice A0_3 a.last.length c0_3) rfl (wo 16 24 rfl rfl (bF hc6) rfl) rfl (zag (seg := [.slice A0_3 a.last.length c0_3]) ty25 rfl (by simp) rfl (CF.box (m := 1) (S4.box_at (j := 0) rfl) rfl)) <| p_v (v := .int .i64 (a.last.length : Int)) rfl (wo 16 24 rfl rfl (bF hc6) rfl) rfl (zaq u25 rfl) <| p_v (v := .pointer (some ⟨b3, 3, none⟩)) rfl (wo 16 24 rfl rfl (bF hc6) rfl) rfl (zaf zc8 ty25 rfl rfl) <| p_v (v := .slice A1_3 b.last.length c1_3) rfl (wo 16 24 rfl rfl (bF hc6) rfl) rfl (zag (seg := [.slice A1_3 b.last.length c1_3]) ty25 rfl (by simp) rfl (CF.box (m := 1) (S4.box_at (j := 1) rfl) rfl)) <| p_v (v := .int .i64 (b.last.length : Int)) rfl (wo 16 24 rfl rfl (bF hc6) rfl) rfl (zaq u25 rfl) <| p_v (v := .bool (decide ((a.last.length : Int) ≠ (b.last.length : Int)))) rfl (wo 16 24 rfl rfl (bF hc6) rfl) rfl (x_neq rfl rfl) <| p_v (v := .bool (decide ((a.last.length : Int) ≠ (b.last.length : Int)))) rfl rfl rfl (zcl (bF hc6) rfl) <| p_v (v := .bool (decide ((a.last.length : Int) ≠ (b.last.length : Int)))) rfl rfl rfl (zae rfl) ?_
 by_cases hc7 : (a.last.length : Int) ≠ (b.last.length : Int)
 ·skip
  refine zat rfl (wo 25 33 rfl rfl (bT hc7) rfl) rfl <| zat rfl (wo 25 33 rfl rfl (bT hc7) rfl) rfl <| zat rfl (wo 25 33 rfl rfl (bT hc7) rfl) rfl <| zat rfl (wo 25 33 rfl rfl (bT hc7) rfl) rfl <| zat rfl (wo 25 33 rfl rfl (bT hc7) rfl) rfl <| p_v (v := .bool true) rfl rfl rfl (zbc (bT hc7) rfl) <| p_v (v := .bool true) rfl rfl rfl (zae rfl) <| zat rfl rfl rfl <| zat rfl rfl rfl <| zat rfl rfl rfl <| zat rfl rfl rfl <| zat rfl rfl rfl ?_
  refine zat rfl rfl rfl <| p_v (v := .bool true) rfl rfl rfl (zbc rfl rfl) <| zaa <| zcn (b := true) rfl ?_
  simp only [if_true, if_false, Bool.false_eq_true]
  refine zab <| zac (l := [0]) rfl <| p_v (v := .bool false) rfl rfl rfl (zad rfl) <| zaa <| za0 Try.func9 (res1 rfl (za3 (v := .bool false) rfl)) ?_
  have q0 : (decide (a = b) : Bool) = false := by
   first | exact decide_eq_false (fun e => (by assumption : (a.spots.length : Int) ≠ (b.spots.length : Int)) (by rw [e])) | exact decide_eq_false (fun e => (by assumption : (a.follow.length : Int) ≠ (b.follow.length : Int)) (by rw [e])) | exact decide_eq_false (fun e => (by assumption : (a.last.length : Int) ≠ (b.last.length : Int)) (by rw [e])) | exact decide_eq_false (fun e => (by assumption : a.empty ≠ b.empty) (by rw [e])) | exact decide_eq_false (fun e => of_decide_eq_false (by assumption : decide (a.first = b.first) = false) (by rw [e])) | exact decide_eq_false (fun e => (by assumption : at_ a.spots i ≠ at_ b.spots i) (by rw [e])) | exact decide_eq_false (fun e => (by assumption : at_ a.last i2 ≠ at_ b.last i2) (by rw [e])) | exact decide_eq_false (fun e => of_decide_eq_false (by assumption : decide (at_ a.follow i3 = at_ b.follow i3) = false) (by rw [e])) | (rw [mach_eq, zcj (t := i) (by omega) (by omega) hI_.2.2, (by assumption : decide (a.first = b.first) = true), zcj (t := i3) (by omega) (by omega) hI_.2.2, zcj (t := i2) (by omega) (by omega) hI_.2.2, decide_eq_true (Decidable.not_not.1 (by assumption : ¬ a.empty ≠ b.empty))]; rfl)
  refine ⟨_, rfl, (fun _ => none), ?_, ?_⟩
  · exact S4.sub [] (by decide) rfl _ rfl
  · first | rfl | (simp only [q0]; rfl) | (simp only [q0])
 refine p_v (v := .pointer (some ⟨b1, 4, none⟩)) rfl (wo 25 33 rfl rfl (bF hc7) rfl) rfl (zaf fd27_4 ty4 rfl rfl) <| p_v (v := .bool a.empty) rfl (wo 25 33 rfl rfl (bF hc7) rfl) rfl (zag (seg := [.bool a.empty]) ty4 rfl (by simp) rfl (CF.box (m := 1) (S4.box_at (j := 0) rfl) rfl)) <| p_v (v := .pointer (some ⟨b3, 4, none⟩)) rfl (wo 25 33 rfl rfl (bF hc7) rfl) rfl (zaf fd27_4 ty4 rfl rfl) <| p_v (v := .bool b.empty) rfl (wo 25 33 rfl rfl (bF hc7) rfl) rfl (zag (seg := [.bool b.empty]) ty4 rfl (by simp) rfl (CF.box (m := 1) (S4.box_at (j := 1) rfl) rfl)) <| p_v (v := .bool (decide (a.empty ≠ b.empty))) rfl (wo 25 33 rfl rfl (bF hc7) rfl) rfl (x_neq_bool u4 rfl rfl) <| p_v (v := .bool (decide (a.empty ≠ b.empty))) rfl rfl rfl (zcl (bF hc7) rfl) <| p_v (v := .bool (decide (a.empty ≠ b.empty))) rfl rfl rfl (zae rfl) ?_
 by_cases hc8 : a.empty ≠ b.empty
 ·skip
  refine zat rfl (wo 32 40 rfl rfl (bT hc8) rfl) rfl <| zat rfl (wo 32 40 rfl rfl (bT hc8) rfl) rfl <| zat rfl (wo 32 40 rfl rfl (bT hc8) rfl) rfl <| zat rfl (wo 32 40 rfl rfl (bT hc8) rfl) rfl <| zat rfl (wo 32 40 rfl rfl (bT hc8) rfl) rfl <| zat rfl (wo 32 40 rfl rfl (bT hc8) rfl) rfl <| p_v (v := .bool true) rfl rfl rfl (zbc (bT hc8) rfl) <| zaa <| zcn (b := true) rfl ?_
  simp only [if_true, if_false, Bool.false_eq_true]
  refine zab <| zac (l := [0]) rfl <| p_v (v := .bool false) rfl rfl rfl (zad rfl) <| zaa <| za0 Try.func9 (res1 rfl (za3 (v := .bool false) rfl)) ?_
  have q0 : (decide (a = b) : Bool) = false := by
   first | exact decide_eq_false (fun e => (by assumption : (a.spots.length : Int) ≠ (b.spots.length : Int)) (by rw [e])) | exact decide_eq_false (fun e => (by assumption : (a.follow.length : Int) ≠ (b.follow.length : Int)) (by rw [e])) | exact decide_eq_false (fun e => (by assumption : (a.last.length : Int) ≠ (b.last.length : Int)) (by rw [e])) | exact decide_eq_false (fun e => (by assumption : a.empty ≠ b.empty) (by rw [e])) | exact decide_eq_false (fun e => of_decide_eq_false (by assumption : decide (a.first = b.first) = false) (by rw [e])) | exact decide_eq_false (fun e => (by assumption : at_ a.spots i ≠ at_ b.spots i) (by rw [e])) | exact decide_eq_false (fun e => (by assumption : at_ a.last i2 ≠ at_ b.last i2) (by rw [e])) | exact decide_eq_false (fun e => of_decide_eq_false (by assumption : decide (at_ a.follow i3 = at_ b.follow i3) = false) (by rw [e])) | (rw [mach_eq, zcj (t := i) (by omega) (by omega) hI_.2.2, (by assumption : decide (a.first = b.first) = true), zcj (t := i3) (by omega) (by omega) hI_.2.2, zcj (t := i2) (by omega) (by omega) hI_.2.2, decide_eq_true (Decidable.not_not.1 (by assumption : ¬ a.empty ≠ b.empty))]; rfl)
  refine ⟨_, rfl, (fun _ => none), ?_, ?_⟩
  · exact S4.sub [] (by decide) rfl _ rfl
  · first | rfl | (simp only [q0]; rfl) | (simp only [q0])
 refine p_v (v := .pointer (some ⟨b1, 1, none⟩)) rfl (wo 32 40 rfl rfl (bF hc8) rfl) rfl (zaf fd27_1 ty23 rfl rfl) <| p_v (v := .slice A0_1 a.first.length c0_1) rfl (wo 32 40 rfl rfl (bF hc8) rfl) rfl (zag (seg := [.slice A0_1 a.first.length c0_1]) ty23 rfl (by simp) rfl (CF.box (m := 1) (S4.box_at (j := 0) rfl) rfl)) <| p_v (v := .pointer (some ⟨b3, 1, none⟩)) rfl (wo 32 40 rfl rfl (bF hc8) rfl) rfl (zaf fd27_1 ty23 rfl rfl) <| p_v (v := .slice A1_1 b.first.length c1_1) rfl (wo 32 40 rfl rfl (bF hc8) rfl) rfl (zag (seg := [.slice A1_1 b.first.length c1_1]) ty23 rfl (by simp) rfl (CF.box (m := 1) (S4.box_at (j := 1) rfl) rfl)) <| p_c rfl (wo 32 40 rfl rfl (bF hc8) rfl) rfl (zbp (args := [.slice A0_1 a.first.length c0_1, .slice A1_1 b.first.length c1_1]) ca20 rfl rfl) (alike_calls w3 a.first A0_1 c0_1 b0_1 (l0_1.mono (St.le0 S4)) b.first A1_1 c1_1 b1_1 (l1_1.mono (St.le0 S4))) ?_
 rintro _ w9 ⟨h9, T9, rfl⟩
 have S10 := S4.keep (Chg.of_below T9.below)
 refine p_v (v := .bool (!(decide (a.first = b.first)))) rfl (wo 32 40 rfl rfl (bF hc8) rfl) rfl (x_not rfl) <| p_v (v := .bool (!(decide (a.first = b.first)))) rfl rfl rfl (zcl (bF hc8) rfl) <| zaa ?_
 refine zb0 (b := decide (a.first = b.first)) rfl (fun hc11 => ?_) (fun hc11 => ?_)
 ·skip
  refine zab <| zac (l := [0]) rfl <| p_v (v := .bool false) rfl rfl rfl (zad rfl) <| zaa <| za0 Try.func9 (res1 rfl (za3 (v := .bool false) rfl)) ?_
  have q0 : (decide (a = b) : Bool) = false := by
   first | exact decide_eq_false (fun e => (by assumption : (a.spots.length : Int) ≠ (b.spots.length : Int)) (by rw [e])) | exact decide_eq_false (fun e => (by assumption : (a.follow.length : Int) ≠ (b.follow.length : Int)) (by rw [e])) | exact decide_eq_false (fun e => (by assumption : (a.last.length : Int) ≠ (b.last.length : Int)) (by rw [e])) | exact decide_eq_false (fun e => (by assumption : a.empty ≠ b.empty) (by rw [e])) | exact decide_eq_false (fun e => of_decide_eq_false (by assumption : decide (a.first = b.first) = false) (by rw [e])) | exact decide_eq_false (fun e => (by assumption : at_ a.spots i ≠ at_ b.spots i) (by rw [e])) | exact decide_eq_false (fun e => (by assumption : at_ a.last i2 ≠ at_ b.last i2) (by rw [e])) | exact decide_eq_false (fun e => of_decide_eq_false (by assumption : decide (at_ a.follow i3 = at_ b.follow i3) = false) (by rw [e])) | (rw [mach_eq, zcj (t := i) (by omega) (by omega) hI_.2.2, (by assumption : decide (a.first = b.first) = true), zcj (t := i3) (by omega) (by omega) hI_.2.2, zcj (t := i2) (by omega) (by omega) hI_.2.2, decide_eq_true (Decidable.not_not.1 (by assumption : ¬ a.empty ≠ b.empty))]; rfl)
  refine ⟨_, rfl, (fun _ => none), ?_, ?_⟩
  · exact S10.sub [] (by decide) rfl _ rfl
  · first | rfl | (simp only [q0]; rfl) | (simp only [q0])
 refine zas <| zab <| zab <| zac (l := [0]) rfl <| p_v (v := .int .i64 0) rfl rfl rfl (zad rfl) <| zaa <| zal <| zbm (S := Int) (fun (q_ : Int) ρ w' => match q_ with | i => ∃ (h : Ghost), Le (fun _ => none) h ∧ St w.heap.size w h w' [box b1 27 [.slice A0_0 a.spots.length c0_0, .slice A0_1 a.first.length c0_1, .slice A0_2 a.follow.length c0_2, .slice A0_3 a.last.length c0_3, .bool a.empty], box b3 27 [.slice A1_0 b.spots.length c1_0, .slice A1_1 b.first.length c1_1, .slice A1_2 b.follow.length c1_2, .slice A1_3 b.last.length c1_3, .bool b.empty]] ∧ ρ 2 = .pointer (some ⟨b1, 0, none⟩) ∧ ρ 3 = .pointer (some ⟨b3, 0, none⟩) ∧ ρ 5 = .int .i64 i ∧ inK .i64 i ∧ (0 ≤ i ∧ i ≤ (a.spots.length : Int) ∧ a.spots.take i.toNat = b.spots.take i.toNat)) (fun q_ => match q_ with | i => (a.spots.length - i).toNat) (0) ⟨(fun _ => none), Le.refl _, S10.sub [0, 1] (by decide) rfl _ rfl, rfl, rfl, rfl, (zah (by first|omega|(simp;omega)|assumption) (by first|omega|(simp;omega)|assumption)), (by exact ⟨by omega, by omega, rfl⟩)⟩ ?_
 rintro i ih12 ρ12 w12 ⟨h12, le12, S12, r12_2, r12_3, r12_5, f12_0, hI12⟩
 have lf12_0 := zbk f12_0; have hf12_0 := zbl f12_0
 refine zab <| zab <| zac (l := [0, 1, 2, 3, 4]) rfl <| p_v (v := .int .i64 i) rfl rfl rfl (zae r12_5) <| p_v (v := .pointer (some ⟨b1, 0, none⟩)) rfl rfl rfl (zaf zcp ty22 rfl r12_2) <| p_v (v := .slice A0_0 a.spots.length c0_0) rfl rfl rfl (zag (seg := [.slice A0_0 a.spots.length c0_0]) ty22 rfl (by simp) rfl (CF.box (m := 1) (S12.box_at (j := 0) rfl) rfl)) <| p_v (v := .int .i64 (a.spots.length : Int)) rfl rfl rfl (zaq u22 rfl) <| p_v (v := .bool (decide (i < (a.spots.length : Int)))) rfl rfl rfl (x_lss rfl rfl) <| zaa ?_
 refine zak (p := i < (a.spots.length : Int)) rfl (fun hc13 => ?_) (fun hc13 => ?_)
 ·skip
  refine zas <| zab <| zal <| zab ?_
  obtain ⟨ad14, seg14, a14, rp14, ce14⟩ := zaz (q := i) (m := 5) l0_0 rfl (by first|omega|(simp;omega)|assumption) (by first|omega|(simp;omega)|assumption)
  obtain ⟨rfl, ok14⟩ := rp14
  have slook14 := u8_lo ok14; have shiok14 := u8_hi ok14
  obtain ⟨ad15, seg15, a15, rp15, ce15⟩ := zaz (q := i) (m := 5) l1_0 rfl (by first|omega|(simp;omega)|assumption) (by first|omega|(simp;omega)|assumption)
  obtain ⟨rfl, ok15⟩ := rp15
  have slook15 := u8_lo ok15; have shiok15 := u8_hi ok15
  have hf16 : (CFs ⟨b1, 0, none⟩ [.slice A0_0 a.spots.length c0_0]).1 w12 := (CF.box (m := 1) (S12.box_at (j := 0) rfl) rfl)
  have hf17 : (CFs ad14 (zaj (at_ a.spots i))).1 w12 := (CF.ghost ce14 (St.le0 S12))
  have hf18 : (CFs ⟨b3, 0, none⟩ [.slice A1_0 b.spots.length c1_0]).1 w12 := (CF.box (m := 1) (S12.box_at (j := 1) rfl) rfl)
  have hf19 : (CFs ad15 (zaj (at_ b.spots i))).1 w12 := (CF.ghost ce15 (St.le0 S12))
  refine daS (hkC 1 hf16 (hkC 4 hf17 (hkC 6 hf18 (hkC 9 hf19 (hkN (w := w12)))))) 11 rfl mixed ?_
  intro wd20 gd20 hd20
  have S21 := S12.keep gd20
  have hf22 := spUp gd20 hf16
  have hf23 := spUp gd20 hf17
  have hf24 := spUp gd20 hf18
  have hf25 := spUp gd20 hf19
  refine qd0 (i := 0) (v := .pointer (some ⟨b1, 0, none⟩)) rfl (by decide +kernel) rfl rfl (zaf zcp ty22 rfl r12_2) (zav rfl) <| qd1 0 (i := 1) (v := .slice A0_0 a.spots.length c0_0) rfl rfl (by decide +kernel) rfl rfl (fun wq hq => (zag (seg := [.slice A0_0 a.spots.length c0_0]) ty22 rfl (by simp) rfl hq)) (zcf hf22 (zav rfl)) <| qd0 (i := 2) (v := .int .i64 i) rfl (by decide +kernel) rfl rfl (zae r12_5) (zav rfl) <| qd0 (i := 3) (v := .pointer (some ad14)) rfl (by decide +kernel) rfl rfl (zay u22 ty38 rfl rfl a14 (by first|omega|(simp;omega)|assumption) (by first|omega|(simp;omega)|assumption)) (zav rfl) <| qd1 1 (i := 4) (v := .agg (zaj (at_ a.spots i)).toArray) rfl rfl (by decide +kernel) rfl rfl (fun wq hq => (zag (seg := (zaj (at_ a.spots i))) ty38 rfl (by simp) rfl hq)) (zbw rfl (zcf hf23 (zav rfl))) <| qd0 (i := 5) (v := .pointer (some ⟨b3, 0, none⟩)) rfl (by decide +kernel) rfl rfl (zaf zcp ty22 rfl r12_3) (zav rfl) <| qd1 2 (i := 6) (v := .slice A1_0 b.spots.length c1_0) rfl rfl (by decide +kernel) rfl rfl (fun wq hq => (zag (seg := [.slice A1_0 b.spots.length c1_0]) ty22 rfl (by simp) rfl hq)) (zbw rfl (zbw rfl (zcf hf24 (zav rfl)))) <| qd0 (i := 7) (v := .int .i64 i) rfl (by decide +kernel) rfl rfl (zae r12_5) (zav rfl) <| qd0 (i := 8) (v := .pointer (some ad15)) rfl (by decide +kernel) rfl rfl (zay u22 ty38 rfl rfl a15 (by first|omega|(simp;omega)|assumption) (by first|omega|(simp;omega)|assumption)) (zav rfl) <| qd1 3 (i := 9) (v := .agg (zaj (at_ b.spots i)).toArray) rfl rfl (by decide +kernel) rfl rfl (fun wq hq => (zag (seg := (zaj (at_ b.spots i))) ty38 rfl (by simp) rfl hq)) (zbw rfl (zbw rfl (zbw rfl (zcf hf25 (zav rfl))))) <| qd0 (i := 10) (v := .bool (decide ((at_ a.spots i) ≠ (at_ b.spots i)))) rfl (by decide +kernel) rfl rfl (x_neq_agg eqk38 ok14 ok15 q38 rfl rfl) (zav rfl) <| zcv (by decide +kernel) ?_
  intro wd26 gd26
  have S27 := S21.keep gd26
  refine zak (p := (at_ a.spots i) ≠ (at_ b.spots i)) rfl (fun hc28 => ?_) (fun hc28 => ?_)
  ·skip
   refine zab <| zac (l := [0]) rfl <| p_v (v := .bool false) rfl rfl rfl (zad rfl) <| zaa <| za0 Try.func9 (res1 rfl (za3 (v := .bool false) rfl)) ?_
   have q0 : (decide (a = b) : Bool) = false := by
    first | exact decide_eq_false (fun e => (by assumption : (a.spots.length : Int) ≠ (b.spots.length : Int)) (by rw [e])) | exact decide_eq_false (fun e => (by assumption : (a.follow.length : Int) ≠ (b.follow.length : Int)) (by rw [e])) | exact decide_eq_false (fun e => (by assumption : (a.last.length : Int) ≠ (b.last.length : Int)) (by rw [e])) | exact decide_eq_false (fun e => (by assumption : a.empty ≠ b.empty) (by rw [e])) | exact decide_eq_false (fun e => of_decide_eq_false (by assumption : decide (a.first = b.first) = false) (by rw [e])) | exact decide_eq_false (fun e => (by assumption : at_ a.spots i ≠ at_ b.spots i) (by rw [e])) | exact decide_eq_false (fun e => (by assumption : at_ a.last i2 ≠ at_ b.last i2) (by rw [e])) | exact decide_eq_false (fun e => of_decide_eq_false (by assumption : decide (at_ a.follow i3 = at_ b.follow i3) = false) (by rw [e])) | (rw [mach_eq, zcj (t := i) (by omega) (by omega) hI12.2.2, (by assumption : decide (a.first = b.first) = true), zcj (t := i3) (by omega) (by omega) hI_.2.2, zcj (t := i2) (by omega) (by omega) hI_.2.2, decide_eq_true (Decidable.not_not.1 (by assumption : ¬ a.empty ≠ b.empty))]; rfl)
   refine ⟨_, rfl, h12, ?_, ?_⟩
   · exact S27.sub [] (by decide) rfl _ rfl
   · first | rfl | (simp only [q0]; rfl) | (simp only [q0])
  refine zas <| zar <| zac (l := [0, 1, 2]) rfl <| p_v (v := .int .i64 i) rfl rfl rfl (zae r12_5) <| p_v (v := .int .i64 (i + 1)) rfl rfl rfl (zb9 rfl rfl (zah (by first|omega|(simp;omega)|assumption) (by first|omega|(simp;omega)|assumption))) <| p_v (v := .int .i64 (i + 1)) rfl rfl rfl (zad rfl) <| zaa ?_
  refine ih12 (i + 1) _ _ (by dsimp only; omega) ⟨h12, le12, S27.sub [0, 1] (by decide) rfl _ rfl, r12_2, r12_3, rfl, (zah (by first|omega|(simp;omega)|assumption) (by first|omega|(simp;omega)|assumption)), (by exact ⟨by omega, by omega, eq_step hI12.1 (by omega) (by omega) hI12.2.2 (Decidable.not_not.1 (by assumption))⟩)⟩
 refine zbd rfl <| zab <| zab <| zac (l := [0]) rfl <| p_v (v := .int .i64 0) rfl rfl rfl (zad rfl) <| zaa <| zal <| zbm (S := Int) (fun (q_ : Int) ρ w' => match q_ with | i2 => ∃ (h : Ghost), Le h12 h ∧ St w.heap.size w h w' [box b1 27 [.slice A0_0 a.spots.length c0_0, .slice A0_1 a.first.length c0_1, .slice A0_2 a.follow.length c0_2, .slice A0_3 a.last.length c0_3, .bool a.empty], box b3 27 [.slice A1_0 b.spots.length c1_0, .slice A1_1 b.first.length c1_1, .slice A1_2 b.follow.length c1_2, .slice A1_3 b.last.length c1_3, .bool b.empty]] ∧ ρ 2 = .pointer (some ⟨b1, 0, none⟩) ∧ ρ 3 = .pointer (some ⟨b3, 0, none⟩) ∧ ρ 6 = .int .i64 i2 ∧ inK .i64 i2 ∧ (0 ≤ i2 ∧ i2 ≤ (a.last.length : Int) ∧ a.last.take i2.toNat = b.last.take i2.toNat)) (fun q_ => match q_ with | i2 => (a.last.length - i2).toNat) (0) ⟨h12, Le.refl _, S12.sub [0, 1] (by decide) rfl _ rfl, r12_2, r12_3, rfl, (zah (by first|omega|(simp;omega)|assumption) (by first|omega|(simp;omega)|assumption)), (by exact ⟨by omega, by omega, rfl⟩)⟩ ?_
 rintro i2 ih29 ρ29 w29 ⟨h29, le29, S29, r29_2, r29_3, r29_6, f29_0, hI29⟩
 have lf29_0 := zbk f29_0; have hf29_0 := zbl f29_0
 refine zab <| zab <| zac (l := [0, 1, 2, 3, 4]) rfl <| p_v (v := .int .i64 i2) rfl rfl rfl (zae r29_6) <| p_v (v := .pointer (some ⟨b1, 3, none⟩)) rfl rfl rfl (zaf zc8 ty25 rfl r29_2) <| p_v (v := .slice A0_3 a.last.length c0_3) rfl rfl rfl (zag (seg := [.slice A0_3 a.last.length c0_3]) ty25 rfl (by simp) rfl (CF.box (m := 1) (S29.box_at (j := 0) rfl) rfl)) <| p_v (v := .int .i64 (a.last.length : Int)) rfl rfl rfl (zaq u25 rfl) <| p_v (v := .bool (decide (i2 < (a.last.length : Int)))) rfl rfl rfl (x_lss rfl rfl) <| zaa ?_
 refine zak (p := i2 < (a.last.length : Int)) rfl (fun hc30 => ?_) (fun hc30 => ?_)
 ·skip
  refine zas <| zab <| zal <| zab ?_
  obtain ⟨ad31, seg31, a31, rp31, ce31⟩ := zaz (q := i2) (m := 1) l0_3 rfl (by first|omega|(simp;omega)|assumption) (by first|omega|(simp;omega)|assumption)
  obtain ⟨rfl, _⟩ := rp31
  obtain ⟨ad32, seg32, a32, rp32, ce32⟩ := zaz (q := i2) (m := 1) l1_3 rfl (by first|omega|(simp;omega)|assumption) (by first|omega|(simp;omega)|assumption)
  obtain ⟨rfl, _⟩ := rp32
  have hf33 : (CFs ⟨b1, 3, none⟩ [.slice A0_3 a.last.length c0_3]).1 w29 := (CF.box (m := 1) (S29.box_at (j := 0) rfl) rfl)
  have hf34 : (CFs ad31 [.bool (at_ a.last i2)]).1 w29 := (CF.ghost ce31 (St.le0 S29))
  have hf35 : (CFs ⟨b3, 3, none⟩ [.slice A1_3 b.last.length c1_3]).1 w29 := (CF.box (m := 1) (S29.box_at (j := 1) rfl) rfl)
  have hf36 : (CFs ad32 [.bool (at_ b.last i2)]).1 w29 := (CF.ghost ce32 (St.le0 S29))
  refine daS (hkC 1 hf33 (hkC 4 hf34 (hkC 6 hf35 (hkC 9 hf36 (hkN (w := w29)))))) 11 rfl mixed ?_
  intro wd37 gd37 hd37
  have S38 := S29.keep gd37
  have hf39 := spUp gd37 hf33
  have hf40 := spUp gd37 hf34
  have hf41 := spUp gd37 hf35
  have hf42 := spUp gd37 hf36
  refine qd0 (i := 0) (v := .pointer (some ⟨b1, 3, none⟩)) rfl (by decide +kernel) rfl rfl (zaf zc8 ty25 rfl r29_2) (zav rfl) <| qd1 0 (i := 1) (v := .slice A0_3 a.last.length c0_3) rfl rfl (by decide +kernel) rfl rfl (fun wq hq => (zag (seg := [.slice A0_3 a.last.length c0_3]) ty25 rfl (by simp) rfl hq)) (zcf hf39 (zav rfl)) <| qd0 (i := 2) (v := .int .i64 i2) rfl (by decide +kernel) rfl rfl (zae r29_6) (zav rfl) <| qd0 (i := 3) (v := .pointer (some ad31)) rfl (by decide +kernel) rfl rfl (zay u25 ty4 rfl rfl a31 (by first|omega|(simp;omega)|assumption) (by first|omega|(simp;omega)|assumption)) (zav rfl) <| qd1 1 (i := 4) (v := .bool (at_ a.last i2)) rfl rfl (by decide +kernel) rfl rfl (fun wq hq => (zag (seg := [.bool (at_ a.last i2)]) ty4 rfl (by simp) rfl hq)) (zbw rfl (zcf hf40 (zav rfl))) <| qd0 (i := 5) (v := .pointer (some ⟨b3, 3, none⟩)) rfl (by decide +kernel) rfl rfl (zaf zc8 ty25 rfl r29_3) (zav rfl) <| qd1 2 (i := 6) (v := .slice A1_3 b.last.length c1_3) rfl rfl (by decide +kernel) rfl rfl (fun wq hq => (zag (seg := [.slice A1_3 b.last.length c1_3]) ty25 rfl (by simp) rfl hq)) (zbw rfl (zbw rfl (zcf hf41 (zav rfl)))) <| qd0 (i := 7) (v := .int .i64 i2) rfl (by decide +kernel) rfl rfl (zae r29_6) (zav rfl) <| qd0 (i := 8) (v := .pointer (some ad32)) rfl (by decide +kernel) rfl rfl (zay u25 ty4 rfl rfl a32 (by first|omega|(simp;omega)|assumption) (by first|omega|(simp;omega)|assumption)) (zav rfl) <| qd1 3 (i := 9) (v := .bool (at_ b.last i2)) rfl rfl (by decide +kernel) rfl rfl (fun wq hq => (zag (seg := [.bool (at_ b.last i2)]) ty4 rfl (by simp) rfl hq)) (zbw rfl (zbw rfl (zbw rfl (zcf hf42 (zav rfl))))) <| qd0 (i := 10) (v := .bool (decide ((at_ a.last i2) ≠ (at_ b.last i2)))) rfl (by decide +kernel) rfl rfl (x_neq_bool u4 rfl rfl) (zav rfl) <| zcv (by decide +kernel) ?_
  intro wd43 gd43
  have S44 := S38.keep gd43
  refine zak (p := (at_ a.last i2) ≠ (at_ b.last i2)) rfl (fun hc45 => ?_) (fun hc45 => ?_)
  ·skip
   refine zab <| zac (l := [0]) rfl <| p_v (v := .bool false) rfl rfl rfl (zad rfl) <| zaa <| za0 Try.func9 (res1 rfl (za3 (v := .bool false) rfl)) ?_
   have q0 : (decide (a = b) : Bool) = false := by
    first | exact decide_eq_false (fun e => (by assumption : (a.spots.length : Int) ≠ (b.spots.length : Int)) (by rw [e])) | exact decide_eq_false (fun e => (by assumption : (a.follow.length : Int) ≠ (b.follow.length : Int)) (by rw [e])) | exact decide_eq_false (fun e => (by assumption : (a.last.length : Int) ≠ (b.last.length : Int)) (by rw [e])) | exact decide_eq_false (fun e => (by assumption : a.empty ≠ b.empty) (by rw [e])) | exact decide_eq_false (fun e => of_decide_eq_false (by assumption : decide (a.first = b.first) = false) (by rw [e])) | exact decide_eq_false (fun e => (by assumption : at_ a.spots i ≠ at_ b.spots i) (by rw [e])) | exact decide_eq_false (fun e => (by assumption : at_ a.last i2 ≠ at_ b.last i2) (by rw [e])) | exact decide_eq_false (fun e => of_decide_eq_false (by assumption : decide (at_ a.follow i3 = at_ b.follow i3) = false) (by rw [e])) | (rw [mach_eq, zcj (t := i) (by omega) (by omega) hI12.2.2, (by assumption : decide (a.first = b.first) = true), zcj (t := i3) (by omega) (by omega) hI_.2.2, zcj (t := i2) (by omega) (by omega) hI29.2.2, decide_eq_true (Decidable.not_not.1 (by assumption : ¬ a.empty ≠ b.empty))]; rfl)
   refine ⟨_, rfl, h29, ?_, ?_⟩
   · exact S44.sub [] (by decide) rfl _ rfl
   · first | rfl | (simp only [q0]; rfl) | (simp only [q0])
  refine zas <| zar <| zac (l := [0, 1, 2]) rfl <| p_v (v := .int .i64 i2) rfl rfl rfl (zae r29_6) <| p_v (v := .int .i64 (i2 + 1)) rfl rfl rfl (zb9 rfl rfl (zah (by first|omega|(simp;omega)|assumption) (by first|omega|(simp;omega)|assumption))) <| p_v (v := .int .i64 (i2 + 1)) rfl rfl rfl (zad rfl) <| zaa ?_
  refine ih29 (i2 + 1) _ _ (by dsimp only; omega) ⟨h29, le29, S44.sub [0, 1] (by decide) rfl _ rfl, r29_2, r29_3, rfl, (zah (by first|omega|(simp;omega)|assumption) (by first|omega|(simp;omega)|assumption)), (by exact ⟨by omega, by omega, eq_step hI29.1 (by omega) (by omega) hI29.2.2 (Decidable.not_not.1 (by assumption))⟩)⟩
 refine zbd rfl <| zab <| zab <| zac (l := [0]) rfl <| p_v (v := .int .i64 0) rfl rfl rfl (zad rfl) <| zaa <| zal <| zbm (S := Int) (fun (q_ : Int) ρ w' => match q_ with | i3 => ∃ (h : Ghost), Le h29 h ∧ St w.heap.size w h w' [box b1 27 [.slice A0_0 a.spots.length c0_0, .slice A0_1 a.first.length c0_1, .slice A0_2 a.follow.length c0_2, .slice A0_3 a.last.length c0_3, .bool a.empty], box b3 27 [.slice A1_0 b.spots.length c1_0, .slice A1_1 b.first.length c1_1, .slice A1_2 b.follow.length c1_2, .slice A1_3 b.last.length c1_3, .bool b.empty]] ∧ ρ 2 = .pointer (some ⟨b1, 0, none⟩) ∧ ρ 3 = .pointer (some ⟨b3, 0, none⟩) ∧ ρ 7 = .int .i64 i3 ∧ inK .i64 i3 ∧ (0 ≤ i3 ∧ i3 ≤ (a.follow.length : Int) ∧ a.follow.take i3.toNat = b.follow.take i3.toNat)) (fun q_ => match q_ with | i3 => (a.follow.length - i3).toNat) (0) ⟨h29, Le.refl _, S29.sub [0, 1] (by decide) rfl _ rfl, r29_2, r29_3, rfl, (zah (by first|omega|(simp;omega)|assumption) (by first|omega|(simp;omega)|assumption)), (by exact ⟨by omega, by omega, rfl⟩)⟩ ?_
 rintro i3 ih46 ρ46 w46 ⟨h46, le46, S46, r46_2, r46_3, r46_7, f46_0, hI46⟩
 have lf46_0 := zbk f46_0; have hf46_0 := zbl f46_0
 refine zab <| zab <| zac (l := [0, 1, 2, 3, 4]) rfl <| p_v (v := .int .i64 i3) rfl rfl rfl (zae r46_7) <| p_v (v := .pointer (some ⟨b1, 2, none⟩)) rfl rfl rfl (zaf zcr ty24 rfl r46_2) <| p_v (v := .slice A0_2 a.follow.length c0_2) rfl rfl rfl (zag (seg := [.slice A0_2 a.follow.length c0_2]) ty24 rfl (by simp) rfl (CF.box (m := 1) (S46.box_at (j := 0) rfl) rfl)) <| p_v (v := .int .i64 (a.follow.length : Int)) rfl rfl rfl (zaq u24 rfl) <| p_v (v := .bool (decide (i3 < (a.follow.length : Int)))) rfl rfl rfl (x_lss rfl rfl) <| zaa ?_
 refine zak (p := i3 < (a.follow.length : Int)) rfl (fun hc47 => ?_) (fun hc47 => ?_)
 ·skip
  refine zas <| zab <| zal <| zab ?_
  obtain ⟨ad48, seg48, a48, rp48, ce48⟩ := zaz (q := i3) (m := 1) l0_2 rfl (by first|omega|(simp;omega)|assumption) (by first|omega|(simp;omega)|assumption)
  obtain ⟨A48, c48, rfl, lc48, cm48, ld48⟩ := rp48
  have cn48 := cm48; simp only [maxLen] at cn48
  obtain ⟨ad49, seg49, a49, rp49, ce49⟩ := zaz (q := i3) (m := 1) l1_2 rfl (by first|omega|(simp;omega)|assumption) (by first|omega|(simp;omega)|assumption)
  obtain ⟨A49, c49, rfl, lc49, cm49, ld49⟩ := rp49
  have cn49 := cm49; simp only [maxLen] at cn49
  have hf51 : (CFs ⟨b1, 2, none⟩ [.slice A0_2 a.follow.length c0_2]).1 w46 := (CF.box (m := 1) (S46.box_at (j := 0) rfl) rfl)
  have hf52 : (CFs ad48 [.slice A48 (at_ a.follow i3).length c48]).1 w46 := (CF.ghost ce48 (St.le0 S46))
  have hf53 : (CFs ⟨b3, 2, none⟩ [.slice A1_2 b.follow.length c1_2]).1 w46 := (CF.box (m := 1) (S46.box_at (j := 1) rfl) rfl)
  have hf54 : (CFs ad49 [.slice A49 (at_ b.follow i3).length c49]).1 w46 := (CF.ghost ce49 (St.le0 S46))
  have hf55 : (LeadsS (Kd.int .i64) A48 (at_ a.follow i3)).1 w46 := (ld48.mono (St.le0 S46))
  have hf56 : (LeadsS (Kd.int .i64) A49 (at_ b.follow i3)).1 w46 := (ld49.mono (St.le0 S46))
  refine daS (hkC 1 hf51 (hkC 4 hf52 (hkC 6 hf53 (hkC 9 hf54 (hkC 10 hf55 (hkC 10 hf56 (hkN (w := w46)))))))) 12 rfl mixed ?_
  intro wd57 gd57 hd57
  have S58 := S46.keep gd57
  have hf59 := spUp gd57 hf51
  have hf60 := spUp gd57 hf52
  have hf61 := spUp gd57 hf53
  have hf62 := spUp gd57 hf54
  have hf63 := spUp gd57 hf55
  have hf64 := spUp gd57 hf56
  refine qd0 (i := 0) (v := .pointer (some ⟨b1, 2, none⟩)) rfl (by decide +kernel) rfl rfl (zaf zcr ty24 rfl r46_2) (zav rfl) <| qd1 0 (i := 1) (v := .slice A0_2 a.follow.length c0_2) rfl rfl (by decide +kernel) rfl rfl (fun wq hq => (zag (seg := [.slice A0_2 a.follow.length c0_2]) ty24 rfl (by simp) rfl hq)) (zcf hf59 (zav rfl)) <| qd0 (i := 2) (v := .int .i64 i3) rfl (by decide +kernel) rfl rfl (zae r46_7) (zav rfl) <| qd0 (i := 3) (v := .pointer (some ad48)) rfl (by decide +kernel) rfl rfl (zay u24 ty23 rfl rfl a48 (by first|omega|(simp;omega)|assumption) (by first|omega|(simp;omega)|assumption)) (zav rfl) <| qd1 1 (i := 4) (v := .slice A48 (at_ a.follow i3).length c48) rfl rfl (by decide +kernel) rfl rfl (fun wq hq => (zag (seg := [.slice A48 (at_ a.follow i3).length c48]) ty23 rfl (by simp) rfl hq)) (zbw rfl (zcf hf60 (zav rfl))) <| qd0 (i := 5) (v := .pointer (some ⟨b3, 2, none⟩)) rfl (by decide +kernel) rfl rfl (zaf zcr ty24 rfl r46_3) (zav rfl) <| qd1 2 (i := 6) (v := .slice A1_2 b.follow.length c1_2) rfl rfl (by decide +kernel) rfl rfl (fun wq hq => (zag (seg := [.slice A1_2 b.follow.length c1_2]) ty24 rfl (by simp) rfl hq)) (zbw rfl (zbw rfl (zcf hf61 (zav rfl)))) <| qd0 (i := 7) (v := .int .i64 i3) rfl (by decide +kernel) rfl rfl (zae r46_7) (zav rfl) <| qd0 (i := 8) (v := .pointer (some ad49)) rfl (by decide +kernel) rfl rfl (zay u24 ty23 rfl rfl a49 (by first|omega|(simp;omega)|assumption) (by first|omega|(simp;omega)|assumption)) (zav rfl) <| qd1 3 (i := 9) (v := .slice A49 (at_ b.follow i3).length c49) rfl rfl (by decide +kernel) rfl rfl (fun wq hq => (zag (seg := [.slice A49 (at_ b.follow i3).length c49]) ty23 rfl (by simp) rfl hq)) (zbw rfl (zbw rfl (zbw rfl (zcf hf62 (zav rfl))))) <| d_m (i := 10) (v := .bool (decide ((at_ a.follow i3) = (at_ b.follow i3)))) (fun wf => zbb (Kd.int .i64) (hp wf) A48 (at_ a.follow i3) ∧ zbb (Kd.int .i64) (hp wf) A49 (at_ b.follow i3)) (fun _ ho => ⟨ho _ (List.mem_of_getElem? (i := 4) rfl) rfl, ho _ (List.mem_of_getElem? (i := 5) rfl) rfl⟩) rfl (by decide +kernel) (by decide +kernel) (by decide +kernel) rfl rfl (fun wq => (zbp (args := [.slice A48 (at_ a.follow i3).length c48, .slice A49 (at_ b.follow i3).length c49]) ca20 rfl rfl)) (fun wq hq => (alike_calls wq (at_ a.follow i3) A48 c48 (And.intro lc48 cm48) hq.1 (at_ b.follow i3) A49 c49 (And.intro lc49 cm49) hq.2).mono fun e w2 he => by obtain ⟨_, rfl, _, T, rfl⟩ := he; exact ⟨rfl, Chg.of_below T.below⟩) (zbw rfl (zbw rfl (zbw rfl (zbw rfl (zcf hf63 (zcf hf64 (zav rfl))))))) <| qd0 (i := 11) (v := .bool (!(decide ((at_ a.follow i3) = (at_ b.follow i3))))) rfl (by decide +kernel) rfl rfl (x_not rfl) (zav rfl) ?_
  refine zcv (by decide +kernel) ?_
  intro wd65 gd65
  have S66 := S58.keep gd65
  refine zb0 (b := decide ((at_ a.follow i3) = (at_ b.follow i3))) rfl (fun hc67 => ?_) (fun hc67 => ?_)
  ·skip
   refine zab <| zac (l := [0]) rfl <| p_v (v := .bool false) rfl rfl rfl (zad rfl) <| zaa <| za0 Try.func9 (res1 rfl (za3 (v := .bool false) rfl)) ?_
   have q0 : (decide (a = b) : Bool) = false := by
    first | exact decide_eq_false (fun e => (by assumption : (a.spots.length : Int) ≠ (b.spots.length : Int)) (by rw [e])) | exact decide_eq_false (fun e => (by assumption : (a.follow.length : Int) ≠ (b.follow.length : Int)) (by rw [e])) | exact decide_eq_false (fun e => (by assumption : (a.last.length : Int) ≠ (b.last.length : Int)) (by rw [e])) | exact decide_eq_false (fun e => (by assumption : a.empty ≠ b.empty) (by rw [e])) | exact decide_eq_false (fun e => of_decide_eq_false (by assumption : decide (a.first = b.first) = false) (by rw [e])) | exact decide_eq_false (fun e => (by assumption : at_ a.spots i ≠ at_ b.spots i) (by rw [e])) | exact decide_eq_false (fun e => (by assumption : at_ a.last i2 ≠ at_ b.last i2) (by rw [e])) | exact decide_eq_false (fun e => of_decide_eq_false (by assumption : decide (at_ a.follow i3 = at_ b.follow i3) = false) (by rw [e])) | (rw [mach_eq, zcj (t := i) (by omega) (by omega) hI12.2.2, (by assumption : decide (a.first = b.first) = true), zcj (t := i3) (by omega) (by omega) hI46.2.2, zcj (t := i2) (by omega) (by omega) hI29.2.2, decide_eq_true (Decidable.not_not.1 (by assumption : ¬ a.empty ≠ b.empty))]; rfl)
   refine ⟨_, rfl, h46, ?_, ?_⟩
   · exact S66.sub [] (by decide) rfl _ rfl
   · first | rfl | (simp only [q0]; rfl) | (simp only [q0])
  refine zas <| zar <| zac (l := [0, 1, 2]) rfl <| p_v (v := .int .i64 i3) rfl rfl rfl (zae r46_7) <| p_v (v := .int .i64 (i3 + 1)) rfl rfl rfl (zb9 rfl rfl (zah (by first|omega|(simp;omega)|assumption) (by first|omega|(simp;omega)|assumption))) <| p_v (v := .int .i64 (i3 + 1)) rfl rfl rfl (zad rfl) <| zaa ?_
  refine ih46 (i3 + 1) _ _ (by dsimp only; omega) ⟨h46, le46, S66.sub [0, 1] (by decide) rfl _ rfl, r46_2, r46_3, rfl, (zah (by first|omega|(simp;omega)|assumption) (by first|omega|(simp;omega)|assumption)), (by exact ⟨by omega, by omega, eq_step hI46.1 (by omega) (by omega) hI46.2.2 (of_decide_eq_true (by assumption))⟩)⟩
 refine zbd rfl <| zab <| zac (l := [0]) rfl <| p_v (v := .bool true) rfl rfl rfl (zad rfl) <| zaa <| za0 Try.func9 (res1 rfl (za3 (v := .bool true) rfl)) ?_
 have q0 : (decide (a = b) : Bool) = true := by
  first | exact decide_eq_false (fun e => (by assumption : (a.spots.length : Int) ≠ (b.spots.length : Int)) (by rw [e])) | exact decide_eq_false (fun e => (by assumption : (a.follow.length : Int) ≠ (b.follow.length : Int)) (by rw [e])) | exact decide_eq_false (fun e => (by assumption : (a.last.length : Int) ≠ (b.last.length : Int)) (by rw [e])) | exact decide_eq_false (fun e => (by assumption : a.empty ≠ b.empty) (by rw [e])) | exact decide_eq_false (fun e => of_decide_eq_false (by assumption : decide (a.first = b.first) = false) (by rw [e])) | exact decide_eq_false (fun e => (by assumption : at_ a.spots i ≠ at_ b.spots i) (by rw [e])) | exact decide_eq_false (fun e => (by assumption : at_ a.last i2 ≠ at_ b.last i2) (by rw [e])) | exact decide_eq_false (fun e => of_decide_eq_false (by assumption : decide (at_ a.follow i3 = at_ b.follow i3) = false) (by rw [e])) | (rw [mach_eq, zcj (t := i) (by omega) (by omega) hI12.2.2, (by assumption : decide (a.first = b.first) = true), zcj (t := i3) (by omega) (by omega) hI46.2.2, zcj (t := i2) (by omega) (by omega) hI29.2.2, decide_eq_true (Decidable.not_not.1 (by assumption : ¬ a.empty ≠ b.empty))]; rfl)
 refine ⟨_, rfl, h46, ?_, ?_⟩
 · exact S46.sub [] (by decide) rfl _ rfl
 · first | rfl | (simp only [q0]; rfl) | (simp only [q0])
theorem some10_calls (w : World) :
    Calls Try.prog 10 #[] w fun e w' => ∃ v, e = .returned v ∧ ∃ (hn : Ghost) (r0 : Value) (r1 : Value) (r2 : Value) (r3 : Value), St w.heap.size w hn w' [row 38 za8 r0 zap.spots, row 3 (Kd.int .i64) r1 zap.first, row 23 (Kd.int .i64).slice r2 zap.follow, row 4 Kd.bool r3 zap.last] ∧ v = .agg #[r0, r1, r2, r3, .bool zap.empty] := by
 refine zax Try.func10 rfl Try.ntmps10 rfl ?_
 have S0 := St.init w
 refine zab <| zac (l := [0]) rfl ?_
 obtain ⟨b1, w1, r1, g1, T1⟩ := zc1 (P := Try.prog) S0 27 (v := (.agg #[.slice none 0 0, .slice none 0 0, .slice none 0 0, .slice none 0 0, .bool false])) [.slice none 0 0, .slice none 0 0, .slice none 0 0, .slice none 0 0, .bool false] rfl
 have S2 := T1
 dsimp only [lAa, lAn, lA0, lAs] at S2
 refine p_v (v := .pointer (some ⟨b1, 0, none⟩)) rfl rfl rfl (zck ty27 r1) <| zaa <| zab <| zac (l := [0, 1, 2, 3, 4, 5, 6, 7, 8, 9, 10, 11, 12, 13, 14, 15, 16, 17]) rfl ?_
 obtain ⟨v3, w3, r3, g3, T3⟩ := zba (kd := (Kd.int .u8)) (xs := ([97] : List Int)) (len := 1) [.int .u8 97] S2 u56 ty5 rfl rfl rfl rfl rfl (zbz rfl zb8) [.int .u8 97] (zbx.single (k := (Kd.int .u8)) (h := (fun _ => none)) (x := 97) (cs := [.int .u8 97]) ⟨rfl, (in_u8 (by first|omega|(simp;omega)|assumption) (by first|omega|(simp;omega)|assumption))⟩) rfl
 have S4 := T3
 dsimp only [lAa, lAn, lA0, lAs] at S4
 refine p_v (v := v3) rfl rfl rfl (zaw (pv := [(0, .int .u8 97)]) rfl r3) ?_
 obtain ⟨A5, c5, ev5, lc5, cm5⟩ := S4.row_val (j := 1) rfl
 refine p_c rfl rfl rfl (zbp (args := [.slice A5 ([97] : List Int).length c5]) ca14 rfl (zcw ev5 rfl)) (of_calls w3 ([97] : List Int) A5 c5 (And.intro lc5 cm5) (zbi S4 (j := 1) rfl ev5)) ?_
 rintro _ w6 ⟨h6, T6, rfl⟩
 have S7 := S4.keep (Chg.of_below T6.below)
 refine p_v (v := .agg (zaj (⟨zb6 ([97] : List Int), 0⟩ : Spot)).toArray) rfl rfl rfl (y_build (pv := [(0, .agg (zch (zb6 ([97] : List Int))).toArray)]) rfl (zby pl38 ty38 rfl (cs := (zaj (⟨zb6 ([97] : List Int), 0⟩ : Spot))) rfl)) ?_
 obtain ⟨v8, w8, r8, g8, T8⟩ := zba (kd := (Kd.int .u8)) (xs := ([98] : List Int)) (len := 1) [.int .u8 98] S7 u56 ty5 rfl rfl rfl rfl rfl (zbz rfl zb8) [.int .u8 98] (zbx.single (k := (Kd.int .u8)) (h := (fun _ => none)) (x := 98) (cs := [.int .u8 98]) ⟨rfl, (in_u8 (by first|omega|(simp;omega)|assumption) (by first|omega|(simp;omega)|assumption))⟩) rfl
 have S9 := T8
 dsimp only [lAa, lAn, lA0, lAs] at S9
 refine p_v (v := v8) rfl rfl rfl (zaw (pv := [(0, .int .u8 98)]) rfl r8) ?_
 obtain ⟨A10, c10, ev10, lc10, cm10⟩ := S9.row_val (j := 2) rfl
 refine p_c rfl rfl rfl (zbp (args := [.slice A10 ([98] : List Int).length c10]) ca14 rfl (zcw ev10 rfl)) (of_calls w8 ([98] : List Int) A10 c10 (And.intro lc10 cm10) (zbi S9 (j := 2) rfl ev10)) ?_
 rintro _ w11 ⟨h11, T11, rfl⟩
 have S12 := S9.keep (Chg.of_below T11.below)
 refine p_v (v := .agg (zaj (⟨zb6 ([98] : List Int), 0⟩ : Spot)).toArray) rfl rfl rfl (y_build (pv := [(0, .agg (zch (zb6 ([98] : List Int))).toArray)]) rfl (zby pl38 ty38 rfl (cs := (zaj (⟨zb6 ([98] : List Int), 0⟩ : Spot))) rfl)) ?_
 obtain ⟨v13, w13, r13, g13, T13⟩ := zba (kd := (Kd.int .u8)) (xs := ([99] : List Int)) (len := 1) [.int .u8 99] S12 u56 ty5 rfl rfl rfl rfl rfl (zbz rfl zb8) [.int .u8 99] (zbx.single (k := (Kd.int .u8)) (h := (fun _ => none)) (x := 99) (cs := [.int .u8 99]) ⟨rfl, (in_u8 (by first|omega|(simp;omega)|assumption) (by first|omega|(simp;omega)|assumption))⟩) rfl
 have S14 := T13
 dsimp only [lAa, lAn, lA0, lAs] at S14
 refine p_v (v := v13) rfl rfl rfl (zaw (pv := [(0, .int .u8 99)]) rfl r13) ?_
 obtain ⟨A15, c15, ev15, lc15, cm15⟩ := S14.row_val (j := 3) rfl
 refine p_c rfl rfl rfl (zbp (args := [.slice A15 ([99] : List Int).length c15]) ca14 rfl (zcw ev15 rfl)) (of_calls w13 ([99] : List Int) A15 c15 (And.intro lc15 cm15) (zbi S14 (j := 3) rfl ev15)) ?_
 rintro _ w16 ⟨h16, T16, rfl⟩
 have S17 := S14.keep (Chg.of_below T16.below)
 refine p_v (v := .agg (zaj (⟨zb6 ([99] : List Int), 0⟩ : Spot)).toArray) rfl rfl rfl (y_build (pv := [(0, .agg (zch (zb6 ([99] : List Int))).toArray)]) rfl (zby pl38 ty38 rfl (cs := (zaj (⟨zb6 ([99] : List Int), 0⟩ : Spot))) rfl)) ?_
 obtain ⟨v18, w18, r18, g18, T18⟩ := zdf (kd := za8) (xs := ([(⟨zb6 ([97] : List Int), 0⟩ : Spot), (⟨zb6 ([98] : List Int), 0⟩ : Spot), (⟨zb6 ([99] : List Int), 0⟩ : Spot)] : List Spot)) (len := 3) (m := 5) [(.agg (zaj (⟨zb6 ([97] : List Int), 0⟩ : Spot)).toArray, (zaj (⟨zb6 ([97] : List Int), 0⟩ : Spot))), (.agg (zaj (⟨zb6 ([98] : List Int), 0⟩ : Spot)).toArray, (zaj (⟨zb6 ([98] : List Int), 0⟩ : Spot))), (.agg (zaj (⟨zb6 ([99] : List Int), 0⟩ : Spot)).toArray, (zaj (⟨zb6 ([99] : List Int), 0⟩ : Spot)))] S17 u22 ty38 rfl rfl rfl rfl (segs_cons rfl rfl (segs_cons rfl rfl (segs_cons rfl rfl segs_nil))) (cs := ((zaj (⟨zb6 ([97] : List Int), 0⟩ : Spot)) ++ ((zaj (⟨zb6 ([98] : List Int), 0⟩ : Spot)) ++ ((zaj (⟨zb6 ([99] : List Int), 0⟩ : Spot)))))) (zbx.cons (k := za8) (h := (fun _ => none)) (x := (⟨zb6 ([97] : List Int), 0⟩ : Spot)) (cs := (zaj (⟨zb6 ([97] : List Int), 0⟩ : Spot))) ⟨rfl, (by first | assumption | (show inK .u8 _; constructor <;> decide) | (constructor <;> simp [IntKind.min, IntKind.max] <;> omega))⟩ (zbx.cons (k := za8) (h := (fun _ => none)) (x := (⟨zb6 ([98] : List Int), 0⟩ : Spot)) (cs := (zaj (⟨zb6 ([98] : List Int), 0⟩ : Spot))) ⟨rfl, (by first | assumption | (show inK .u8 _; constructor <;> decide) | (constructor <;> simp [IntKind.min, IntKind.max] <;> omega))⟩ (zbx.single (k := za8) (h := (fun _ => none)) (x := (⟨zb6 ([99] : List Int), 0⟩ : Spot)) (cs := (zaj (⟨zb6 ([99] : List Int), 0⟩ : Spot))) ⟨rfl, (by first | assumption | (show inK .u8 _; constructor <;> decide) | (constructor <;> simp [IntKind.min, IntKind.max] <;> omega))⟩))) (by simp)
 have S19 := T18
 dsimp only [lAa, lAn, lA0, lAs] at S19
 refine p_v (v := v18) rfl rfl rfl (zaw (pv := [(0, .agg (zaj (⟨zb6 ([97] : List Int), 0⟩ : Spot)).toArray), (1, .agg (zaj (⟨zb6 ([98] : List Int), 0⟩ : Spot)).toArray), (2, .agg (zaj (⟨zb6 ([99] : List Int), 0⟩ : Spot)).toArray)]) rfl r18) ?_
 obtain ⟨v20, w20, r20, g20, T20⟩ := zba (kd := (Kd.int .i64)) (xs := ([0] : List Int)) (len := 1) [.int .i64 0] S19 u23 ty3 rfl rfl rfl rfl rfl (zbz rfl zb8) [.int .i64 0] (zbx.single (k := (Kd.int .i64)) (h := (fun _ => none)) (x := 0) (cs := [.int .i64 0]) ⟨rfl, (zah (by first|omega|(simp;omega)|assumption) (by first|omega|(simp;omega)|assumption))⟩) rfl
 have S21 := T20
 dsimp only [lAa, lAn, lA0, lAs] at S21
 refine p_v (v := v20) rfl rfl rfl (zaw (pv := [(0, .int .i64 0)]) rfl r20) ?_
 obtain ⟨v22, w22, r22, g22, T22⟩ := zba (kd := (Kd.int .i64)) (xs := ([1, 2] : List Int)) (len := 2) [.int .i64 1, .int .i64 2] S21 u23 ty3 rfl rfl rfl rfl rfl (zbz rfl (zbz rfl zb8)) ([.int .i64 1] ++ ([.int .i64 2])) (zbx.cons (k := (Kd.int .i64)) (h := (fun _ => none)) (x := 1) (cs := [.int .i64 1]) ⟨rfl, (zah (by first|omega|(simp;omega)|assumption) (by first|omega|(simp;omega)|assumption))⟩ (zbx.single (k := (Kd.int .i64)) (h := (fun _ => none)) (x := 2) (cs := [.int .i64 2]) ⟨rfl, (zah (by first|omega|(simp;omega)|assumption) (by first|omega|(simp;omega)|assumption))⟩)) rfl
 have S23 := T22
 dsimp only [lAa, lAn, lA0, lAs] at S23
 refine p_v (v := v22) rfl rfl rfl (zaw (pv := [(0, .int .i64 1), (1, .int .i64 2)]) rfl r22) ?_
 obtain ⟨v24, w24, r24, g24, T24⟩ := zba (kd := (Kd.int .i64)) (xs := ([] : List Int)) (len := 0) [] S23 u23 ty3 rfl rfl rfl rfl rfl zb8 [] (zbx.nil _ _) rfl
 have S25 := T24
 dsimp only [lAa, lAn, lA0, lAs] at S25
 refine p_v (v := v24) rfl rfl rfl (zaw (pv := []) rfl r24) ?_
 obtain ⟨v26, w26, r26, g26, T26⟩ := zba (kd := (Kd.int .i64)) (xs := ([] : List Int)) (len := 0) [] S25 u23 ty3 rfl rfl rfl rfl rfl zb8 [] (zbx.nil _ _) rfl
 have S27 := T26
 dsimp only [lAa, lAn, lA0, lAs] at S27
 refine p_v (v := v26) rfl rfl rfl (zaw (pv := []) rfl r26) ?_
 obtain ⟨h29, le29, T29, rp29⟩ := S27.freeze (i := 6) rfl
 have S30 := T29.fx 6 (emp) rfl
 dsimp only [lAa, lAn, lA0, lAs] at S30
 obtain ⟨A29, c29, e29, lc29, cm29, ld29⟩ := rp29
 injection e29 with e29 _; subst e29
 have cn29 := cm29; simp only [maxLen] at cn29
 obtain ⟨h31, le31, T31, rp31⟩ := S30.freeze (i := 7) rfl
 have lf31_0 := (le29).trans le31
 have S32 := T31.fx 7 (emp) rfl
 dsimp only [lAa, lAn, lA0, lAs] at S32
 obtain ⟨A31, c31, e31, lc31, cm31, ld31⟩ := rp31
 injection e31 with e31 _; subst e31
 have cn31 := cm31; simp only [maxLen] at cn31
 obtain ⟨h33, le33, T33, rp33⟩ := S32.freeze (i := 8) rfl
 have lf33_0 := (lf31_0).trans le33
 have lf33_1 := (le31).trans le33
 have S34 := T33.fx 8 (emp) rfl
 dsimp only [lAa, lAn, lA0, lAs] at S34
 obtain ⟨A33, c33, e33, lc33, cm33, ld33⟩ := rp33
 injection e33 with e33 _; subst e33
 have cn33 := cm33; simp only [maxLen] at cn33
 obtain ⟨v28, w28, r28, g28, T28⟩ := zba (kd := (Kd.int .i64).slice) (xs := ([([1, 2] : List Int), ([] : List Int), ([] : List Int)] : List (List Int))) (len := 3) [.slice A29 ([1, 2] : List Int).length c29, .slice A31 ([] : List Int).length c31, .slice A33 ([] : List Int).length c33] S34 u24 ty23 rfl rfl rfl rfl rfl (zbz rfl (zbz rfl (zbz rfl zb8))) ([.slice A29 ([1, 2] : List Int).length c29] ++ ([.slice A31 ([] : List Int).length c31] ++ ([.slice A33 ([] : List Int).length c33]))) (zbx.cons (k := (Kd.int .i64).slice) (h := h33) (x := ([1, 2] : List Int)) (cs := [.slice A29 ([1, 2] : List Int).length c29]) ⟨_, _, rfl, (And.intro lc29 cm29).1, (And.intro lc29 cm29).2, ld29.mono lf33_1⟩ (zbx.cons (k := (Kd.int .i64).slice) (h := h33) (x := ([] : List Int)) (cs := [.slice A31 ([] : List Int).length c31]) ⟨_, _, rfl, (And.intro lc31 cm31).1, (And.intro lc31 cm31).2, ld31.mono le33⟩ (zbx.single (k := (Kd.int .i64).slice) (h := h33) (x := ([] : List Int)) (cs := [.slice A33 ([] : List Int).length c33]) ⟨_, _, rfl, (And.intro lc33 cm33).1, (And.intro lc33 cm33).2, ld33.mono (Le.refl _)⟩))) rfl
 have S35 := T28
 dsimp only [lAa, lAn, lA0, lAs] at S35
 refine p_v (v := v28) rfl rfl rfl (zaw (pv := [(0, .slice A29 ([1, 2] : List Int).length c29), (1, .slice A31 ([] : List Int).length c31), (2, .slice A33 ([] : List Int).length c33)]) rfl r28) ?_
 obtain ⟨v36, w36, r36, g36, T36⟩ := zba (kd := Kd.bool) (xs := ([false, true, false] : List Bool)) (len := 3) [.bool false, .bool true, .bool false] S35 u25 ty4 rfl rfl rfl rfl rfl (zbz rfl (zbz rfl (zbz rfl zb8))) ([.bool false] ++ ([.bool true] ++ ([.bool false]))) (zbx.cons (k := Kd.bool) (h := h33) (x := false) (cs := [.bool false]) ⟨rfl, trivial⟩ (zbx.cons (k := Kd.bool) (h := h33) (x := true) (cs := [.bool true]) ⟨rfl, trivial⟩ (zbx.single (k := Kd.bool) (h := h33) (x := false) (cs := [.bool false]) ⟨rfl, trivial⟩))) rfl
 have S37 := T36
 dsimp only [lAa, lAn, lA0, lAs] at S37
 refine p_v (v := v36) rfl rfl rfl (zaw (pv := [(0, .bool false), (1, .bool true), (2, .bool false)]) rfl r36) <| p_v (v := .agg #[v18, v20, v28, v36, .bool true]) rfl rfl rfl (y_build (pv := [(0, v18), (1, v20), (2, v28), (3, v36), (4, .bool true)]) rfl (zby pl27 ty27 rfl (cs := [v18, v20, v28, v36, .bool true]) (zc9 (vc := [v18]) rfl (za9 S37 (j := 4) rfl) rfl rfl (zc9 (vc := [v20]) rfl (za9 S37 (j := 5) rfl) rfl rfl (zc9 (vc := [v28]) rfl (za9 S37 (j := 9) rfl) rfl rfl (zc9 (vc := [v36]) rfl (za9 S37 (j := 10) rfl) rfl rfl (zc9 (vc := [.bool true]) rfl rfl rfl rfl (fill_end rfl)))))))) ?_
 have oc39 := za5 S37 (j := 4) rfl
 have oc40 := za5 S37 (j := 5) rfl
 have oc41 := za5 S37 (j := 9) rfl
 have oc42 := za5 S37 (j := 10) rfl
 obtain ⟨w38, r38, g38, T38⟩ := zbf (P := Try.prog) (off := 0) (v := .agg #[v18, v20, v28, v36, .bool true]) (vs := [v18, v20, v28, v36, .bool true]) S37 ty27 rfl rfl (j := 0) rfl (by first | decide | exact Nat.le_of_ble_eq_true rfl) (zai oc39 (zai oc40 (zai oc41 (zai oc42 (zai rfl zbt)))))
 have S43 := T38.fx 0 (box b1 27 [v18, v20, v28, v36, .bool true]) rfl
 dsimp only [lAa, lAn, lA0, lAs] at S43
 refine p_s rfl rfl (za7 rfl rfl r38) <| zaa <| za0 Try.func10 (res1 rfl (res_cell S43 ty27 rfl (j := 0) rfl rfl (by simp) rfl)) ?_
 have q0 : (zap.spots : List Spot) = ([(⟨zb6 ([97] : List Int), 0⟩ : Spot), (⟨zb6 ([98] : List Int), 0⟩ : Spot), (⟨zb6 ([99] : List Int), 0⟩ : Spot)] : List Spot) := by
  rfl
 have q1 : (zap.first : List Int) = ([0] : List Int) := by
  rfl
 have q2 : (zap.follow : List (List Int)) = ([([1, 2] : List Int), ([] : List Int), ([] : List Int)] : List (List Int)) := by
  rfl
 have q3 : (zap.last : List Bool) = ([false, true, false] : List Bool) := by
  rfl
 have q4 : (zap.empty : Bool) = true := by
  rfl
 refine ⟨_, rfl, h33, v18, v20, v28, v36, ?_, ?_⟩
 · rw [q0]; rw [q1]; rw [q2]; rw [q3]; exact S43.sub [4, 5, 9, 10] (by decide) rfl _ rfl
 · first | rfl | (simp only [q0, q1, q2, q3, q4]; rfl) | (simp only [q0, q1, q2, q3, q4])
end Go.Proofs.Ythpdebieagaghaa
namespace Go.Proofs.Ythpdebieagaghaa
open Go Go.RowKit Gx
set_option maxHeartbeats 1000000
set_option linter.unusedVariables false
set_option linter.unusedSimpArgs false
attribute [local irreducible] listOf count first has zb6 wbits Lib.ctz zcu zbq rowOk tab markP intoP intoTo zcy zcd zct runTo endsIn endTo runM posTo zco greatTo anyTo allTo zc6 numsL numsIn zb3 kept lefts zc0 lastTp zcg za2 errM zdd zao lfp seekN seekB fullS zdb useN trues
theorem awake10_calls (w : World) :
    Calls Try.prog 6 #[] w fun e w' => ∃ v, e = .returned v ∧ ∃ (hn : Ghost), St w.heap.size w hn w' [] ∧ v = .bool true := by
 refine zax Try.func6 rfl Try.ntmps6 rfl ?_
 have S0 := St.init w
 refine zab <| zac (l := [0]) rfl <| p_v (v := .bool false) rfl rfl rfl (zad rfl) <| zaa <| zab <| zac (l := [0, 1, 2]) rfl <| p_c rfl rfl rfl (zbp (args := []) ca10 rfl rfl) (some10_calls w ) ?_
 rintro _ w1 ⟨h1, v1_0, v1_1, v1_2, v1_3, T1, rfl⟩
 obtain ⟨k1, lk1, ll1, U1⟩ := zbg S0 T1
 have S2 := U1
 dsimp only [lAa, lAn, lA0, lAs] at S2
 obtain ⟨h3, le3, T3, rp3⟩ := S2.freeze (i := 0) rfl
 have lf3_0 := (lk1).trans le3
 have S4 := T3.fx 0 (emp) rfl
 dsimp only [lAa, lAn, lA0, lAs] at S4
 obtain ⟨A3, c3, e3, lc3, cm3, ld3⟩ := rp3
 injection e3 with e3 _; subst e3
 have cn3 := cm3; simp only [maxLen] at cn3
 obtain ⟨h5, le5, T5, rp5⟩ := S4.freeze (i := 1) rfl
 have lf5_0 := (lf3_0).trans le5
 have lf5_1 := (le3).trans le5
 have S6 := T5.fx 1 (emp) rfl
 dsimp only [lAa, lAn, lA0, lAs] at S6
 obtain ⟨A5, c5, e5, lc5, cm5, ld5⟩ := rp5
 injection e5 with e5 _; subst e5
 have cn5 := cm5; simp only [maxLen] at cn5
 obtain ⟨h7, le7, T7, rp7⟩ := S6.freeze (i := 2) rfl
 have lf7_0 := (lf5_0).trans le7
 have lf7_1 := (lf5_1).trans le7
 have lf7_2 := (le5).trans le7
 have S8 := T7.fx 2 (emp) rfl
 dsimp only [lAa, lAn, lA0, lAs] at S8
 obtain ⟨A7, c7, e7, lc7, cm7, ld7⟩ := rp7
 injection e7 with e7 _; subst e7
 have cn7 := cm7; simp only [maxLen] at cn7
 obtain ⟨h9, le9, T9, rp9⟩ := S8.freeze (i := 3) rfl
 have lf9_0 := (lf7_0).trans le9
 have lf9_1 := (lf7_1).trans le9
 have lf9_2 := (lf7_2).trans le9
 have lf9_3 := (le7).trans le9
 have S10 := T9.fx 3 (emp) rfl
 dsimp only [lAa, lAn, lA0, lAs] at S10
 obtain ⟨A9, c9, e9, lc9, cm9, ld9⟩ := rp9
 injection e9 with e9 _; subst e9
 have cn9 := cm9; simp only [maxLen] at cn9
 obtain ⟨b11, w11, r11, g11, T11⟩ := zc1 (P := Try.prog) S10 27 (v := (.agg #[.slice none 0 0, .slice none 0 0, .slice none 0 0, .slice none 0 0, .bool false])) [.slice none 0 0, .slice none 0 0, .slice none 0 0, .slice none 0 0, .bool false] rfl
 have S12 := T11
 dsimp only [lAa, lAn, lA0, lAs] at S12
 refine p_v (v := .pointer (some ⟨b11, 0, none⟩)) rfl rfl rfl (zck ty27 r11) ?_
 obtain ⟨w13, r13, g13, T13⟩ := zbf (P := Try.prog) (off := 0) (v := .agg #[.slice A3 zap.spots.length c3, .slice A5 zap.first.length c5, .slice A7 zap.follow.length c7, .slice A9 zap.last.length c9, .bool zap.empty]) (vs := [.slice A3 zap.spots.length c3, .slice A5 zap.first.length c5, .slice A7 zap.follow.length c7, .slice A9 zap.last.length c9, .bool zap.empty]) S12 ty27 rfl rfl (j := 4) rfl (by first | decide | exact Nat.le_of_ble_eq_true rfl) (by simp [Value.oneCell'])
 have S14 := T13.fx 4 (box b11 27 [.slice A3 zap.spots.length c3, .slice A5 zap.first.length c5, .slice A7 zap.follow.length c7, .slice A9 zap.last.length c9, .bool zap.empty]) rfl
 dsimp only [lAa, lAn, lA0, lAs] at S14
 refine p_s rfl rfl (za7 rfl rfl r13) <| zaa <| zab <| zac (l := [0, 1, 2, 3, 4, 5, 6, 7]) rfl <| p_v (v := .agg #[.slice A3 zap.spots.length c3, .slice A5 zap.first.length c5, .slice A7 zap.follow.length c7, .slice A9 zap.last.length c9, .bool zap.empty]) rfl rfl rfl (zag (seg := [.slice A3 zap.spots.length c3, .slice A5 zap.first.length c5, .slice A7 zap.follow.length c7, .slice A9 zap.last.length c9, .bool zap.empty]) ty27 rfl (by simp) rfl (CF.box (m := 5) (S14.box_at (j := 4) rfl) rfl)) <| p_c rfl rfl rfl (zbp (args := [.agg #[.slice A3 zap.spots.length c3, .slice A5 zap.first.length c5, .slice A7 zap.follow.length c7, .slice A9 zap.last.length c9, .bool zap.empty]]) ca8 rfl rfl) (trimN_calls w13 zap A3 c3 (And.intro lc3 cm3) (ld3.mono (lf9_2.trans S14.ghost)) A5 c5 (And.intro lc5 cm5) (ld5.mono (lf9_3.trans S14.ghost)) A7 c7 (And.intro lc7 cm7) (ld7.mono (le9.trans S14.ghost)) A9 c9 (And.intro lc9 cm9) (ld9.mono ((Le.refl _).trans S14.ghost))) ?_
 rintro _ w15 ⟨h15, v15_0, v15_1, v15_2, v15_3, T15, rfl, in15_0⟩
 obtain ⟨k15, lk15, ll15, U15⟩ := zbg S14 T15
 have lc15_0 := (lf9_0).trans lk15
 have lc15_1 := (lf9_1).trans lk15
 have lc15_2 := (lf9_2).trans lk15
 have lc15_3 := (lf9_3).trans lk15
 have lc15_4 := (le9).trans lk15
 have S16 := U15
 dsimp only [lAa, lAn, lA0, lAs] at S16
 have lo_in15_0 := zbk in15_0; have hi_in15_0 := zbl in15_0
 obtain ⟨h17, le17, T17, rp17⟩ := S16.freeze (i := 5) rfl
 have lf17_0 := (lc15_0).trans le17
 have lf17_1 := (lc15_1).trans le17
 have lf17_2 := (lc15_2).trans le17
 have lf17_3 := (lc15_3).trans le17
 have lf17_4 := (lc15_4).trans le17
 have lf17_5 := (lk15).trans le17
 have S18 := T17.fx 5 (emp) rfl
 dsimp only [lAa, lAn, lA0, lAs] at S18
 obtain ⟨A17, c17, e17, lc17, cm17, ld17⟩ := rp17
 injection e17 with e17 _; subst e17
 have cn17 := cm17; simp only [maxLen] at cn17
 obtain ⟨h19, le19, T19, rp19⟩ := S18.freeze (i := 6) rfl
 have lf19_0 := (lf17_0).trans le19
 have lf19_1 := (lf17_1).trans le19
 have lf19_2 := (lf17_2).trans le19
 have lf19_3 := (lf17_3).trans le19
 have lf19_4 := (lf17_4).trans le19
 have lf19_5 := (lf17_5).trans le19
 have lf19_6 := (le17).trans le19
 have S20 := T19.fx 6 (emp) rfl
 dsimp only [lAa, lAn, lA0, lAs] at S20
 obtain ⟨A19, c19, e19, lc19, cm19, ld19⟩ := rp19
 injection e19 with e19 _; subst e19
 have cn19 := cm19; simp only [maxLen] at cn19
 obtain ⟨h21, le21, T21, rp21⟩ := S20.freeze (i := 7) rfl
 have lf21_0 := (lf19_0).trans le21
 have lf21_1 := (lf19_1).trans le21
 have lf21_2 := (lf19_2).trans le21
 have lf21_3 := (lf19_3).trans le21
 have lf21_4 := (lf19_4).trans le21
 have lf21_5 := (lf19_5).trans le21
 have lf21_6 := (lf19_6).trans le21
 have lf21_7 := (le19).trans le21
 have S22 := T21.fx 7 (emp) rfl
 dsimp only [lAa, lAn, lA0, lAs] at S22
 obtain ⟨A21, c21, e21, lc21, cm21, ld21⟩ := rp21
 injection e21 with e21 _; subst e21
 have cn21 := cm21; simp only [maxLen] at cn21
 obtain ⟨h23, le23, T23, rp23⟩ := S22.freeze (i := 8) rfl
 have lf23_0 := (lf21_0).trans le23
 have lf23_1 := (lf21_1).trans le23
 have lf23_2 := (lf21_2).trans le23
 have lf23_3 := (lf21_3).trans le23
 have lf23_4 := (lf21_4).trans le23
 have lf23_5 := (lf21_5).trans le23
 have lf23_6 := (lf21_6).trans le23
 have lf23_7 := (lf21_7).trans le23
 have lf23_8 := (le21).trans le23
 have S24 := T23.fx 8 (emp) rfl
 dsimp only [lAa, lAn, lA0, lAs] at S24
 obtain ⟨A23, c23, e23, lc23, cm23, ld23⟩ := rp23
 injection e23 with e23 _; subst e23
 have cn23 := cm23; simp only [maxLen] at cn23
 refine p_v (v := .tuple #[.agg #[.slice A17 ((za2 zap).spots).length c17, .slice A19 ((za2 zap).first).length c19, .slice A21 ((za2 zap).follow).length c21, .slice A23 ((za2 zap).last).length c23, .bool ((za2 zap).empty)], .int .i64 (errM zap)]) rfl rfl rfl (zae rfl) <| p_v (v := .agg #[.slice A17 ((za2 zap).spots).length c17, .slice A19 ((za2 zap).first).length c19, .slice A21 ((za2 zap).follow).length c21, .slice A23 ((za2 zap).last).length c23, .bool ((za2 zap).empty)]) rfl rfl rfl (x_extract (vs := [.agg #[.slice A17 ((za2 zap).spots).length c17, .slice A19 ((za2 zap).first).length c19, .slice A21 ((za2 zap).follow).length c21, .slice A23 ((za2 zap).last).length c23, .bool ((za2 zap).empty)], .int .i64 (errM zap)]) rfl rfl) <| p_v (v := .int .i64 (errM zap)) rfl rfl rfl (x_extract (vs := [.agg #[.slice A17 ((za2 zap).spots).length c17, .slice A19 ((za2 zap).first).length c19, .slice A21 ((za2 zap).follow).length c21, .slice A23 ((za2 zap).last).length c23, .bool ((za2 zap).empty)], .int .i64 (errM zap)]) rfl rfl) ?_
 obtain ⟨b25, w25, r25, g25, T25⟩ := zc1 (P := Try.prog) S24 27 (v := (.agg #[.slice none 0 0, .slice none 0 0, .slice none 0 0, .slice none 0 0, .bool false])) [.slice none 0 0, .slice none 0 0, .slice none 0 0, .slice none 0 0, .bool false] rfl
 have S26 := T25
 dsimp only [lAa, lAn, lA0, lAs] at S26
 refine p_v (v := .pointer (some ⟨b25, 0, none⟩)) rfl rfl rfl (zck ty27 r25) ?_
 obtain ⟨w27, r27, g27, T27⟩ := zbf (P := Try.prog) (off := 0) (v := .agg #[.slice A17 ((za2 zap).spots).length c17, .slice A19 ((za2 zap).first).length c19, .slice A21 ((za2 zap).follow).length c21, .slice A23 ((za2 zap).last).length c23, .bool ((za2 zap).empty)]) (vs := [.slice A17 ((za2 zap).spots).length c17, .slice A19 ((za2 zap).first).length c19, .slice A21 ((za2 zap).follow).length c21, .slice A23 ((za2 zap).last).length c23, .bool ((za2 zap).empty)]) S26 ty27 rfl rfl (j := 9) rfl (by first | decide | exact Nat.le_of_ble_eq_true rfl) (by simp [Value.oneCell'])
 have S28 := T27.fx 9 (box b25 27 [.slice A17 ((za2 zap).spots).length c17, .slice A19 ((za2 zap).first).length c19, .slice A21 ((za2 zap).follow).length c21, .slice A23 ((za2 zap).last).length c23, .bool ((za2 zap).empty)]) rfl
 dsimp only [lAa, lAn, lA0, lAs] at S28
 refine p_s rfl rfl (za7 rfl rfl r27) <| p_v (v := .int .i64 (errM zap)) rfl rfl rfl (zad rfl) <| zaa <| zab <| zac (l := [0, 1, 2, 3, 4, 5, 6, 7, 8, 9, 10, 11, 12, 13, 14, 15, 16, 17, 18, 19, 20, 21, 22, 23, 24, 25]) rfl <| p_v (v := .agg #[.slice A3 zap.spots.length c3, .slice A5 zap.first.length c5, .slice A7 zap.follow.length c7, .slice A9 zap.last.length c9, .bool zap.empty]) rfl rfl rfl (zag (seg := [.slice A3 zap.spots.length c3, .slice A5 zap.first.length c5, .slice A7 zap.follow.length c7, .slice A9 zap.last.length c9, .bool zap.empty]) ty27 rfl (by simp) rfl (CF.box (m := 5) (S28.box_at (j := 4) rfl) rfl)) <| p_c rfl rfl rfl (zbp (args := [.agg #[.slice A3 zap.spots.length c3, .slice A5 zap.first.length c5, .slice A7 zap.follow.length c7, .slice A9 zap.last.length c9, .bool zap.empty]]) ca12 rfl rfl) (rightN_calls w27 zap A3 c3 (And.intro lc3 cm3) (ld3.mono (lf23_2.trans S28.ghost)) A5 c5 (And.intro lc5 cm5) (ld5.mono (lf23_3.trans S28.ghost)) A7 c7 (And.intro lc7 cm7) (ld7.mono (lf23_4.trans S28.ghost)) A9 c9 (And.intro lc9 cm9) (ld9.mono (lf23_5.trans S28.ghost))) ?_
 rintro _ w29 ⟨h29, T29, rfl⟩
 have S30 := S28.keep (Chg.of_below T29.below)
 refine p_v (v := .bool (zbq zap)) rfl rfl rfl (zae rfl) ?_
 have hc31 : (zbq zap) = true := by
  decide +kernel
 refine p_v (v := .agg #[.slice A3 zap.spots.length c3, .slice A5 zap.first.length c5, .slice A7 zap.follow.length c7, .slice A9 zap.last.length c9, .bool zap.empty]) rfl (wo 2 12 rfl rfl (congrArg Value.bool hc31) rfl) rfl (zag (seg := [.slice A3 zap.spots.length c3, .slice A5 zap.first.length c5, .slice A7 zap.follow.length c7, .slice A9 zap.last.length c9, .bool zap.empty]) ty27 rfl (by simp) rfl (CF.box (m := 5) (S30.box_at (j := 4) rfl) rfl)) <| p_c rfl (wo 2 12 rfl rfl (congrArg Value.bool hc31) rfl) rfl (zbp (args := [.agg #[.slice A3 zap.spots.length c3, .slice A5 zap.first.length c5, .slice A7 zap.follow.length c7, .slice A9 zap.last.length c9, .bool zap.empty], .string (⟨#[]⟩ : ByteArray)]) ca11 rfl rfl) (runN_calls w29 zap A3 c3 (And.intro lc3 cm3) (ld3.mono (lf23_2.trans S30.ghost)) A5 c5 (And.intro lc5 cm5) (ld5.mono (lf23_3.trans S30.ghost)) A7 c7 (And.intro lc7 cm7) (ld7.mono (lf23_4.trans S30.ghost)) A9 c9 (And.intro lc9 cm9) (ld9.mono (lf23_5.trans S30.ghost)) (⟨#[]⟩ : ByteArray) (by decide)) ?_
 rintro _ w32 ⟨h32, T32, rfl⟩
 have S33 := S30.keep (Chg.of_below T32.below)
 refine p_v (v := .bool (runM zap (⟨#[]⟩ : ByteArray))) rfl rfl rfl (zbc (congrArg Value.bool hc31) rfl) <| p_v (v := .bool (runM zap (⟨#[]⟩ : ByteArray))) rfl rfl rfl (zae rfl) ?_
 have hc34 : (runM zap (⟨#[]⟩ : ByteArray)) = true := by
  decide +kernel
 refine p_v (v := .agg #[.slice A3 zap.spots.length c3, .slice A5 zap.first.length c5, .slice A7 zap.follow.length c7, .slice A9 zap.last.length c9, .bool zap.empty]) rfl (wo 6 16 rfl rfl (congrArg Value.bool hc34) rfl) rfl (zag (seg := [.slice A3 zap.spots.length c3, .slice A5 zap.first.length c5, .slice A7 zap.follow.length c7, .slice A9 zap.last.length c9, .bool zap.empty]) ty27 rfl (by simp) rfl (CF.box (m := 5) (S33.box_at (j := 4) rfl) rfl)) <| p_c rfl (wo 6 16 rfl rfl (congrArg Value.bool hc34) rfl) rfl (zbp (args := [.agg #[.slice A3 zap.spots.length c3, .slice A5 zap.first.length c5, .slice A7 zap.follow.length c7, .slice A9 zap.last.length c9, .bool zap.empty], .string (⟨#[97, 98]⟩ : ByteArray)]) ca11 rfl rfl) (runN_calls w32 zap A3 c3 (And.intro lc3 cm3) (ld3.mono (lf23_2.trans S33.ghost)) A5 c5 (And.intro lc5 cm5) (ld5.mono (lf23_3.trans S33.ghost)) A7 c7 (And.intro lc7 cm7) (ld7.mono (lf23_4.trans S33.ghost)) A9 c9 (And.intro lc9 cm9) (ld9.mono (lf23_5.trans S33.ghost)) (⟨#[97, 98]⟩ : ByteArray) (by decide)) ?_
 rintro _ w35 ⟨h35, T35, rfl⟩
 have S36 := S33.keep (Chg.of_below T35.below)
 refine p_v (v := .bool (runM zap (⟨#[97, 98]⟩ : ByteArray))) rfl rfl rfl (zbc (congrArg Value.bool hc34) rfl) <| p_v (v := .bool (runM zap (⟨#[97, 98]⟩ : ByteArray))) rfl rfl rfl (zae rfl) ?_
 have hc37 : (runM zap (⟨#[97, 98]⟩ : ByteArray)) = true := by
  decide +kernel
 refine p_v (v := .agg #[.slice A3 zap.spots.length c3, .slice A5 zap.first.length c5, .slice A7 zap.follow.length c7, .slice A9 zap.last.length c9, .bool zap.empty]) rfl (wo 10 20 rfl rfl (congrArg Value.bool hc37) rfl) rfl (zag (seg := [.slice A3 zap.spots.length c3, .slice A5 zap.first.length c5, .slice A7 zap.follow.length c7, .slice A9 zap.last.length c9, .bool zap.empty]) ty27 rfl (by simp) rfl (CF.box (m := 5) (S36.box_at (j := 4) rfl) rfl)) <| p_c rfl (wo 10 20 rfl rfl (congrArg Value.bool hc37) rfl) rfl (zbp (args := [.agg #[.slice A3 zap.spots.length c3, .slice A5 zap.first.length c5, .slice A7 zap.follow.length c7, .slice A9 zap.last.length c9, .bool zap.empty], .string (⟨#[97, 99]⟩ : ByteArray)]) ca11 rfl rfl) (runN_calls w35 zap A3 c3 (And.intro lc3 cm3) (ld3.mono (lf23_2.trans S36.ghost)) A5 c5 (And.intro lc5 cm5) (ld5.mono (lf23_3.trans S36.ghost)) A7 c7 (And.intro lc7 cm7) (ld7.mono (lf23_4.trans S36.ghost)) A9 c9 (And.intro lc9 cm9) (ld9.mono (lf23_5.trans S36.ghost)) (⟨#[97, 99]⟩ : ByteArray) (by decide)) ?_
 rintro _ w38 ⟨h38, T38, rfl⟩
 have S39 := S36.keep (Chg.of_below T38.below)
 refine p_v (v := .bool (!(runM zap (⟨#[97, 99]⟩ : ByteArray)))) rfl (wo 10 20 rfl rfl (congrArg Value.bool hc37) rfl) rfl (x_not rfl) <| p_v (v := .bool (!(runM zap (⟨#[97, 99]⟩ : ByteArray)))) rfl rfl rfl (zbc (congrArg Value.bool hc37) rfl) <| p_v (v := .bool (!(runM zap (⟨#[97, 99]⟩ : ByteArray)))) rfl rfl rfl (zae rfl) ?_
 have hc40 : (runM zap (⟨#[97, 99]⟩ : ByteArray)) = false := by
  decide +kernel
 refine p_v (v := .int .i64 (errM zap)) rfl (wo 15 25 rfl rfl (congrArg (fun z => Value.bool (!z)) hc40) rfl) rfl (zae rfl) <| p_v (v := .bool (decide ((errM zap) = 0))) rfl (wo 15 25 rfl rfl (congrArg (fun z => Value.bool (!z)) hc40) rfl) rfl (x_eql rfl rfl) <| p_v (v := .bool (decide ((errM zap) = 0))) rfl rfl rfl (zbc (congrArg (fun z => Value.bool (!z)) hc40) rfl) <| p_v (v := .bool (decide ((errM zap) = 0))) rfl rfl rfl (zae rfl) ?_
 have hc41 : ((errM zap) = 0) := by
  decide +kernel
 refine p_v (v := .pointer (some ⟨b25, 0, none⟩)) rfl (wo 19 29 rfl rfl (bT hc41) rfl) rfl (zaf zcp ty22 rfl rfl) <| p_v (v := .slice A17 ((za2 zap).spots).length c17) rfl (wo 19 29 rfl rfl (bT hc41) rfl) rfl (zag (seg := [.slice A17 ((za2 zap).spots).length c17]) ty22 rfl (by simp) rfl (CF.box (m := 1) (S39.box_at (j := 9) rfl) rfl)) <| p_v (v := .int .i64 (((za2 zap).spots).length : Int)) rfl (wo 19 29 rfl rfl (bT hc41) rfl) rfl (zaq u22 rfl) <| p_v (v := .bool (decide ((((za2 zap).spots).length : Int) = 2))) rfl (wo 19 29 rfl rfl (bT hc41) rfl) rfl (x_eql rfl rfl) <| p_v (v := .bool (decide ((((za2 zap).spots).length : Int) = 2))) rfl rfl rfl (zbc (bT hc41) rfl) <| p_v (v := .bool (decide ((((za2 zap).spots).length : Int) = 2))) rfl rfl rfl (zad rfl) <| zaa ?_
 have hc42 : ((((za2 zap).spots).length : Int) = 2) := by
  decide +kernel
 refine za0 Try.func6 (res1 rfl (za3 (v := .bool true) (bT hc42))) ?_
 have q0 : (true : Bool) = true := rfl
 refine ⟨_, rfl, h23, ?_, ?_⟩
 · exact S39.sub [] (by decide) rfl _ rfl
 · rfl
end Go.Proofs.Ythpdebieagaghaa
namespace Gx
open Go Go.RowKit
set_option linter.unusedSimpArgs false
set_option linter.unusedVariables false
set_option linter.unusedSectionVars false
def kRaw : Kd Value where
  sz := 1
  pos := by omega
  rep := fun _ x cs => cs = [x] ∧ x.oneCell' = true
  mono := fun _ h => h
  len := fun h => by rw [h.1]; rfl
  one := fun h u hu => by rw [h.1] at hu; simp at hu; subst hu; exact h.2
def rows {α : Type} (T : TypeId) (k : Kd α) (us : List Value) (xss : List (List α)) (p : Nat → Bool) : Asrt where
  holds := fun h w F => us.length = xss.length ∧ ∃ G : Nat → Nat → Prop, (∀ i, i < xss.length → p i = true → (row T k (us.getD i default) (xss.getD i default)).holds h w (G i) ∧ ∀ b, G i b → F b) ∧
    ∀ i j, i < xss.length → j < xss.length → p i = true → p j = true → i ≠ j → ∀ b, G i b → ¬ G j b
  mono := fun hl ⟨hn, G, h1, h2⟩ => ⟨hn, G, fun i hi hp => ⟨(row T k _ _).mono hl (h1 i hi hp).1, (h1 i hi hp).2⟩, h2⟩
  far := fun hf ⟨hn, G, h1, h2⟩ => ⟨hn, G, fun i hi hp => ⟨(row T k _ _).far (fun b hb => hf b ((h1 i hi hp).2 b hb)) (h1 i hi hp).1, (h1 i hi hp).2⟩, h2⟩
def grid {α : Type} (T : TypeId) (k : Kd α) (us : List Value) (xss : List (List α)) : Asrt := rows T k us xss fun _ => true
def gridB {α : Type} (T : TypeId) (k : Kd α) (us : List Value) (xss : List (List α)) (q : Int) : Asrt := rows T k us xss fun i => !decide (i = q.toNat)
section
variable {base : Nat} {w0 w : World} {h : Ghost} {L : List Asrt}
theorem St.split (S : St base w0 h w L) {j : Nat} {A A1 A2 : Asrt} (hj : L[j]? = some A)
    (hm : ∀ F, A.holds h w F → ∃ F1 F2, A1.holds h w F1 ∧ A2.holds h w F2 ∧ (∀ b, F1 b → F b) ∧ (∀ b, F2 b → F b) ∧ ∀ b, F1 b → ¬ F2 b) : St base w0 h w (L.set j A1 ++ [A2]) := by
  obtain ⟨Fs, hF, hD⟩ := S.sep
  obtain ⟨hA, hU⟩ := hF j A hj
  obtain ⟨F1, F2, h1, h2, s1, s2, hd⟩ := hm _ hA
  have hl : j < L.length := (List.getElem?_eq_some_iff.1 hj).1
  refine ⟨S.below, S.bsz, S.ghost, S.dom, fun i => if i = L.length then F2 else if i = j then F1 else Fs i, fun i B hi => ?_, fun i m hi hm' him b hb1 hb2 => ?_⟩
  · by_cases hil : i = L.length
    · subst hil
      rw [List.getElem?_append_right (by simp)] at hi
      simp at hi
      subst hi
      simp only [if_true]
      exact ⟨h2, fun b hb => hU b (s2 b hb)⟩
    · simp only [if_neg hil]
      have hlt : i < L.length := by
        have := (List.getElem?_eq_some_iff.1 hi).1
        simp at this; omega
      rw [List.getElem?_append_left (by simpa using hlt)] at hi
      by_cases hij : i = j
      · subst hij
        rw [List.getElem?_set_self hl] at hi
        injection hi with hi
        subst hi
        simp only [if_true]
        exact ⟨h1, fun b hb => hU b (s1 b hb)⟩
      · rw [List.getElem?_set_ne (fun e => hij e.symm)] at hi
        simp only [if_neg hij]
        exact hF i B hi
  · simp only [List.length_append, List.length_set, List.length_cons, List.length_nil] at hi hm'
    have old : ∀ i, i < L.length → i ≠ j → ∀ b, Fs j b → ¬ Fs i b := fun i hi hij b hb hb' => hD j i hl hi (fun e => hij e.symm) b hb hb'
    by_cases e1 : i = L.length <;> by_cases e2 : m = L.length
    · omega
    · simp only [if_pos e1] at hb1; simp only [if_neg e2] at hb2
      by_cases e3 : m = j
      · simp only [if_pos e3] at hb2; exact hd b hb2 hb1
      · simp only [if_neg e3] at hb2; exact old m (by omega) e3 b (s2 b hb1) hb2
    · simp only [if_neg e1] at hb1; simp only [if_pos e2] at hb2
      by_cases e3 : i = j
      · simp only [if_pos e3] at hb1; exact hd b hb1 hb2
      · simp only [if_neg e3] at hb1; exact old i (by omega) e3 b (s2 b hb2) hb1
    · simp only [if_neg e1] at hb1; simp only [if_neg e2] at hb2
      by_cases e3 : i = j
      · simp only [if_pos e3] at hb1
        have e4 : m ≠ j := fun e => him (by rw [e3, e])
        simp only [if_neg e4] at hb2
        exact old m (by omega) e4 b (s1 b hb1) hb2
      · simp only [if_neg e3] at hb1
        by_cases e4 : m = j
        · simp only [if_pos e4] at hb2; exact old i (by omega) e3 b (s1 b hb2) hb1
        · simp only [if_neg e4] at hb2; exact hD i m (by omega) (by omega) him b hb1 hb2
theorem St.merge (S : St base w0 h w L) {i j : Nat} {A A1 A2 : Asrt} (hi : L[i]? = some A1) (hj : L[j]? = some A2) (hij : i ≠ j)
    (hm : ∀ F1 F2, A1.holds h w F1 → A2.holds h w F2 → (∀ b, F1 b → ¬ F2 b) → A.holds h w fun b => F1 b ∨ F2 b) : St base w0 h w ((L.set i A).set j emp) := by
  obtain ⟨Fs, hF, hD⟩ := S.sep
  obtain ⟨hA, hU⟩ := hF i A1 hi
  obtain ⟨hB, hV⟩ := hF j A2 hj
  have hli : i < L.length := (List.getElem?_eq_some_iff.1 hi).1
  have hlj : j < L.length := (List.getElem?_eq_some_iff.1 hj).1
  have hA' := hm _ _ hA hB (hD i j hli hlj hij)
  refine ⟨S.below, S.bsz, S.ghost, S.dom, fun m => if m = j then fun _ => False else if m = i then fun b => Fs i b ∨ Fs j b else Fs m, fun m B hB' => ?_, fun m n hm' hn hmn b hb1 hb2 => ?_⟩
  · by_cases e1 : m = j
    · subst e1
      rw [List.getElem?_set_self (by simpa using hlj)] at hB'
      injection hB' with hB'
      subst hB'
      simp only [if_true]
      exact ⟨trivial, fun b hb => hb.elim⟩
    · simp only [if_neg e1]
      rw [List.getElem?_set_ne (fun e => e1 e.symm)] at hB'
      by_cases e2 : m = i
      · subst e2
        rw [List.getElem?_set_self hli] at hB'
        injection hB' with hB'
        subst hB'
        simp only [if_true]
        exact ⟨hA', fun b hb => hb.elim (hU b) (hV b)⟩
      · rw [List.getElem?_set_ne (fun e => e2 e.symm)] at hB'
        simp only [if_neg e2]
        exact hF m B hB'
  · simp only [List.length_set] at hm' hn
    by_cases e1 : m = j
    · simp only [if_pos e1] at hb1
    · by_cases e2 : n = j
      · simp only [if_pos e2] at hb2
      · simp only [if_neg e1] at hb1; simp only [if_neg e2] at hb2
        by_cases e3 : m = i
        · have e4 : n ≠ i := fun e => hmn (by rw [e3, e])
          simp only [if_pos e3] at hb1; simp only [if_neg e4] at hb2
          rcases hb1 with hb1 | hb1
          · exact hD i n hli hn (fun e => e4 e.symm) b hb1 hb2
          · exact hD j n hlj hn (fun e => e2 e.symm) b hb1 hb2
        · simp only [if_neg e3] at hb1
          by_cases e4 : n = i
          · simp only [if_pos e4] at hb2
            rcases hb2 with hb2 | hb2
            · exact hD m i hm' hli e3 b hb1 hb2
            · exact hD m j hm' hlj e1 b hb1 hb2
          · simp only [if_neg e4] at hb2; exact hD m n hm' hn hmn b hb1 hb2
theorem St.plus (S : St base w0 h w L) {A : Asrt} (hA : A.holds h w fun _ => False) : St base w0 h w (L ++ [A]) := by
  obtain ⟨Fs, hF, hD⟩ := S.sep
  refine ⟨S.below, S.bsz, S.ghost, S.dom, fun i => if i = L.length then fun _ => False else Fs i, fun i B hi => ?_, fun i m hi hm him b hb1 hb2 => ?_⟩
  · by_cases e : i = L.length
    · subst e
      rw [List.getElem?_append_right (Nat.le_refl _)] at hi
      simp at hi
      subst hi
      simp only [if_true]
      exact ⟨hA, fun b hb => hb.elim⟩
    · simp only [if_neg e]
      have hlt : i < L.length := by
        have := (List.getElem?_eq_some_iff.1 hi).1
        simp at this; omega
      rw [List.getElem?_append_left hlt] at hi
      exact hF i B hi
  · simp only [List.length_append, List.length_cons, List.length_nil] at hi hm
    by_cases e1 : i = L.length
    · simp only [if_pos e1] at hb1
    · by_cases e2 : m = L.length
      · simp only [if_pos e2] at hb2
      · simp only [if_neg e1] at hb1; simp only [if_neg e2] at hb2
        exact hD i m (by omega) (by omega) him b hb1 hb2
end
section
variable {base : Nat} {w0 w : World} {h : Ghost} {L : List Asrt} {α : Type} {k : Kd α} {T : TypeId} {us us2 : List Value} {xss xss2 : List (List α)} {ys : List α} {v : Value} {i j : Nat} {q : Int}
theorem St.rows_len {p : Nat → Bool} (S : St base w0 h w L) (hj : L[j]? = some (rows T k us xss p)) : us.length = xss.length := by
  obtain ⟨Fs, hF, _⟩ := S.sep
  exact (hF j _ hj).1.1
theorem zbn (S : St base w0 h w L) (hj : L[j]? = some (grid T k us xss)) : us.length = xss.length := S.rows_len hj
theorem e_focus (S : St base w0 h w L) (hj : L[j]? = some (grid T k us xss)) (h0 : 0 ≤ q) (h1 : q < (xss.length : Int)) : St base w0 h w (L.set j (gridB T k us xss q) ++ [row T k (at_ us q) (at_ xss q)]) := by
  refine S.split hj fun F hA => ?_
  obtain ⟨hn, G, g1, g2⟩ := hA
  refine ⟨fun b => ∃ i, i < xss.length ∧ i ≠ q.toNat ∧ G i b, G q.toNat, ⟨hn, G, fun i hi hp => ?_, fun i j hi hj _ _ => g2 i j hi hj rfl rfl⟩, (g1 q.toNat (by omega) rfl).1, ?_, (g1 q.toNat (by omega) rfl).2, ?_⟩
  · have hne : i ≠ q.toNat := by simpa using hp
    exact ⟨(g1 i hi rfl).1, fun b hb => ⟨i, hi, hne, hb⟩⟩
  · rintro b ⟨i, hi, _, hb⟩; exact (g1 i hi rfl).2 b hb
  · rintro b ⟨i, hi, hne, hb⟩ hb2; exact g2 i q.toNat hi (by omega) rfl rfl hne b hb hb2
theorem e_close2 (S : St base w0 h w L) (hj : L[j]? = some (gridB T k us xss q)) (hi : L[i]? = some (row T k v ys)) (hij : j ≠ i) (h0 : 0 ≤ q) (h1 : q < (xss.length : Int)) :
    St base w0 h w ((L.set j (grid T k (us.set q.toNat v) (xss.set q.toNat ys))).set i emp) := by
  refine S.merge hj hi hij fun F1 F2 hA hB hd => ?_
  obtain ⟨hn, G, g1, g2⟩ := hA
  refine ⟨by simp [hn], fun m => if m = q.toNat then F2 else G m, fun m hm _ => ?_, fun m n hm hn' _ _ hmn b hb1 hb2 => ?_⟩
  · rw [List.length_set] at hm
    by_cases e : m = q.toNat
    · subst e
      simp only [if_true]
      refine ⟨?_, fun b hb => .inr hb⟩
      have e1 : (us.set q.toNat v).getD q.toNat default = v := by simp [List.getD_eq_getElem?_getD, List.getElem?_set_self (show q.toNat < us.length by omega)]
      have e2 : (xss.set q.toNat ys).getD q.toNat default = ys := by simp [List.getD_eq_getElem?_getD, List.getElem?_set_self (show q.toNat < xss.length by omega)]
      rw [e1, e2]; exact hB
    · simp only [if_neg e]
      have h3 := g1 m hm (by simpa using e)
      refine ⟨?_, fun b hb => .inl (h3.2 b hb)⟩
      have e1 : (us.set q.toNat v).getD m default = us.getD m default := by simp [List.getD_eq_getElem?_getD, List.getElem?_set_ne (fun e' => e e'.symm)]
      have e2 : (xss.set q.toNat ys).getD m default = xss.getD m default := by simp [List.getD_eq_getElem?_getD, List.getElem?_set_ne (fun e' => e e'.symm)]
      rw [e1, e2]; exact h3.1
  · rw [List.length_set] at hm hn'
    by_cases e1 : m = q.toNat <;> by_cases e2 : n = q.toNat
    · omega
    · simp only [if_pos e1] at hb1; simp only [if_neg e2] at hb2
      exact hd b ((g1 n hn' (by simpa using e2)).2 b hb2) hb1
    · simp only [if_neg e1] at hb1; simp only [if_pos e2] at hb2
      exact hd b ((g1 m hm (by simpa using e1)).2 b hb1) hb2
    · simp only [if_neg e1] at hb1; simp only [if_neg e2] at hb2
      exact g2 m n hm hn' (by simpa using e1) (by simpa using e2) hmn b hb1 hb2
theorem set_at_self {β : Type} [Inhabited β] (l : List β) (q : Int) : l.set q.toNat (at_ l q) = l := by
  apply List.ext_getElem?
  intro m
  rw [List.getElem?_set]
  split
  · rename_i e
    subst e
    split
    · rename_i hl
      simp [at_, List.getD_eq_getElem?_getD, List.getElem?_eq_getElem hl]
    · rename_i hl
      rw [List.getElem?_eq_none (by omega)]
  · rfl
theorem e_close (S : St base w0 h w L) (hj : L[j]? = some (gridB T k us xss q)) (hi : L[i]? = some (row T k (at_ us q) ys)) (hij : j ≠ i) (h0 : 0 ≤ q) (h1 : q < (xss.length : Int)) :
    St base w0 h w ((L.set j (grid T k us (xss.set q.toNat ys))).set i emp) := by
  have := e_close2 S hj hi hij h0 h1
  rwa [set_at_self] at this
theorem e_close0 (S : St base w0 h w L) (hj : L[j]? = some (gridB T k us xss q)) (hi : L[i]? = some (row T k (at_ us q) (at_ xss q))) (hij : j ≠ i) (h0 : 0 ≤ q) (h1 : q < (xss.length : Int)) :
    St base w0 h w ((L.set j (grid T k us xss)).set i emp) := by
  have := e_close S hj hi hij h0 h1
  rwa [set_at_self] at this
theorem grid_none (S : St base w0 h w L) (T : TypeId) (k : Kd α) (n : Nat) : St base w0 h w (L ++ [grid T k (List.replicate n (.slice none 0 0)) (List.replicate n [])]) := by
  refine S.plus ⟨by simp, fun _ _ => False, fun i hi _ => ⟨?_, fun b hb => hb⟩, fun i j _ _ _ _ _ b hb => hb.elim⟩
  have hi' : i < n := by simpa using hi
  have e1 : (List.replicate n (Value.slice none 0 0)).getD i default = .slice none 0 0 := by simp [List.getD_eq_getElem?_getD, List.getElem?_replicate, hi']
  have e2 : (List.replicate n ([] : List α)).getD i default = [] := by simp [List.getD_eq_getElem?_getD, List.getElem?_replicate, hi']
  rw [e1, e2]
  exact ⟨[], World.ownsRow_nil _ _ _ _, zbx.nil _ _, fun g e => by cases e⟩
theorem grid_one (S : St base w0 h w L) (hi : L[i]? = some (row T k v ys)) : St base w0 h w (L.set i (grid T k [v] [ys])) := by
  refine S.upd hi fun F hA _ => ⟨⟨rfl, rfl, rfl, Nat.le_refl _, fun _ _ _ => rfl⟩, F, ⟨rfl, fun _ => F, fun m hm _ => ?_, fun m n hm hn _ _ hmn => ?_⟩, fun b hb => .inl hb⟩
  · have : m = 0 := by simpa using hm
    subst this
    exact ⟨hA, fun b hb => hb⟩
  · have : m = 0 := by simpa using hm
    have : n = 0 := by simpa using hn
    omega
theorem grid_cat (S : St base w0 h w L) (hj : L[j]? = some (grid T k us xss)) (hi : L[i]? = some (grid T k us2 xss2)) (hij : j ≠ i) : St base w0 h w ((L.set j (grid T k (us ++ us2) (xss ++ xss2))).set i emp) := by
  refine S.merge hj hi hij fun F1 F2 hA hB hd => ?_
  obtain ⟨hn, G, g1, g2⟩ := hA
  obtain ⟨hn2, G2, g3, g4⟩ := hB
  refine ⟨by simp [hn, hn2], fun m => if m < xss.length then G m else G2 (m - xss.length), fun m hm _ => ?_, fun m n hm hn' _ _ hmn b hb1 hb2 => ?_⟩
  · rw [List.length_append] at hm
    by_cases e : m < xss.length
    · simp only [if_pos e]
      refine ⟨?_, fun b hb => .inl ((g1 m e rfl).2 b hb)⟩
      have e1 : (us ++ us2).getD m default = us.getD m default := by simp [List.getD_eq_getElem?_getD, List.getElem?_append_left (show m < us.length by omega)]
      have e2 : (xss ++ xss2).getD m default = xss.getD m default := by simp [List.getD_eq_getElem?_getD, List.getElem?_append_left e]
      rw [e1, e2]; exact (g1 m e rfl).1
    · simp only [if_neg e]
      refine ⟨?_, fun b hb => .inr ((g3 _ (by omega) rfl).2 b hb)⟩
      have e1 : (us ++ us2).getD m default = us2.getD (m - xss.length) default := by simp [List.getD_eq_getElem?_getD, List.getElem?_append_right (show us.length ≤ m by omega), hn]
      have e2 : (xss ++ xss2).getD m default = xss2.getD (m - xss.length) default := by simp [List.getD_eq_getElem?_getD, List.getElem?_append_right (show xss.length ≤ m by omega)]
      rw [e1, e2]; exact (g3 _ (by omega) rfl).1
  · rw [List.length_append] at hm hn'
    by_cases e1 : m < xss.length <;> by_cases e2 : n < xss.length
    · simp only [if_pos e1] at hb1; simp only [if_pos e2] at hb2
      exact g2 m n e1 e2 rfl rfl hmn b hb1 hb2
    · simp only [if_pos e1] at hb1; simp only [if_neg e2] at hb2
      exact hd b ((g1 m e1 rfl).2 b hb1) ((g3 _ (by omega) rfl).2 b hb2)
    · simp only [if_neg e1] at hb1; simp only [if_pos e2] at hb2
      exact hd b ((g1 n e2 rfl).2 b hb2) ((g3 _ (by omega) rfl).2 b hb1)
    · simp only [if_neg e1] at hb1; simp only [if_neg e2] at hb2
      exact g4 _ _ (by omega) (by omega) rfl rfl (by omega) b hb1 hb2
theorem rows_focus {p : Nat → Bool} (S : St base w0 h w L) (hj : L[j]? = some (rows T k us xss p)) {q : Nat} (hp : p q = true) (h1 : q < xss.length) : St base w0 h w (L.set j (rows T k us xss fun i => p i && !decide (i = q)) ++ [row T k (us.getD q default) (xss.getD q default)]) := by
  refine S.split hj fun F hA => ?_
  obtain ⟨hn, G, g1, g2⟩ := hA
  refine ⟨fun b => ∃ i, i < xss.length ∧ p i = true ∧ i ≠ q ∧ G i b, G q, ⟨hn, G, fun i hi hp' => ?_, fun i j hi hj a b => g2 i j hi hj (by simp at a; exact a.1) (by simp at b; exact b.1)⟩, (g1 q h1 hp).1, ?_, (g1 q h1 hp).2, ?_⟩
  · simp at hp'
    exact ⟨(g1 i hi hp'.1).1, fun b hb => ⟨i, hi, hp'.1, hp'.2, hb⟩⟩
  · rintro b ⟨i, hi, hpi, _, hb⟩; exact (g1 i hi hpi).2 b hb
  · rintro b ⟨i, hi, hpi, hne, hb⟩ hb2; exact g2 i q hi h1 hpi hp hne b hb hb2
theorem St.drop_last {A : Asrt} (S : St base w0 h w (L ++ [A])) : St base w0 h w L := by
  obtain ⟨Fs, hF, hD⟩ := S.sep
  refine ⟨S.below, S.bsz, S.ghost, S.dom, Fs, fun i B hi => ?_, fun i m hi hm => hD i m (by simp; omega) (by simp; omega)⟩
  have hlt := (List.getElem?_eq_some_iff.1 hi).1
  exact hF i B (by rw [List.getElem?_append_left hlt]; exact hi)
theorem grid_still (S : St base w0 h w L) (hj : L[j]? = some (grid T k us xss)) : ∀ n, n ≤ xss.length →
    ∃ h', Le h h' ∧ St base w0 h' w (L.set j (rows T k us xss fun m => decide (n ≤ m))) ∧ ∀ m, m < n → k.slice.rep h' (xss.getD m default) [us.getD m default]
  | 0, _ => ⟨h, Le.refl h, by
      have e : (rows T k us xss fun m => decide (0 ≤ m)) = grid T k us xss := by unfold grid; congr 1
      rw [e]
      have e2 : L.set j (grid T k us xss) = L := by
        have hl := (List.getElem?_eq_some_iff.1 hj).1
        have := (List.getElem?_eq_some_iff.1 hj).2
        rw [← this]; simp
      rw [e2]; exact S, fun m hm => by omega⟩
  | n + 1, hn => by
    obtain ⟨h', hl, S', hr⟩ := grid_still S hj n (by omega)
    have hlt : j < L.length := (List.getElem?_eq_some_iff.1 hj).1
    have S2 := rows_focus S' (j := j) (q := n) (List.getElem?_set_self hlt) (by simp) (by omega)
    have hlen : ((L.set j (rows T k us xss fun m => decide (n ≤ m))).set j (rows T k us xss fun i => decide (n ≤ i) && !decide (i = n))).length = L.length := by simp
    obtain ⟨h2, hl2, S3, rp⟩ := S2.freeze (i := L.length) (T := T) (k := k) (v := us.getD n default) (xs := xss.getD n default) (by rw [List.getElem?_append_right (by rw [hlen]; exact Nat.le_refl _), hlen]; simp)
    refine ⟨h2, hl.trans hl2, ?_, fun m hm => ?_⟩
    · have e : (rows T k us xss fun i => decide (n ≤ i) && !decide (i = n)) = rows T k us xss fun m => decide (n + 1 ≤ m) := by
        congr 1; funext m
        by_cases e1 : m = n
        · subst e1; simp
        · by_cases e2 : n ≤ m
          · have : n + 1 ≤ m := by omega
            simp [e1, e2, this]
          · have : ¬ n + 1 ≤ m := by omega
            simp [e1, e2, this]
      rw [e] at S3
      have e3 : ((L.set j (rows T k us xss fun m => decide (n ≤ m))).set j (rows T k us xss fun m => decide (n + 1 ≤ m)) ++ [row T k (us.getD n default) (xss.getD n default)]).set L.length emp = L.set j (rows T k us xss fun m => decide (n + 1 ≤ m)) ++ [emp] := by
        rw [List.set_set, List.set_append_right _ _ (by simp)]; simp
      rw [e3] at S3
      exact S3.drop_last
    · by_cases e : m = n
      · subst e; exact rp
      · exact k.slice.mono hl2 (hr m (by omega))
theorem grid_freeze {T2 : TypeId} (S : St base w0 h w L) (hi : L[i]? = some (row T2 kRaw v us)) (hj : L[j]? = some (grid T k us xss)) (hij : i ≠ j) :
    ∃ h', Le h h' ∧ St base w0 h' w ((L.set j emp).set i (row T2 k.slice v xss)) := by
  have hn := zbn S hj
  have hlt : j < L.length := (List.getElem?_eq_some_iff.1 hj).1
  obtain ⟨h', hl, S', hr⟩ := grid_still S hj xss.length (Nat.le_refl _)
  have S2 := S'.upd (i := j) (A' := emp) (List.getElem?_set_self hlt) fun F _ _ => ⟨⟨rfl, rfl, rfl, Nat.le_refl _, fun _ _ _ => rfl⟩, fun _ => False, trivial, fun b hb => hb.elim⟩
  rw [List.set_set] at S2
  have hi2 : (L.set j emp)[i]? = some (row T2 kRaw v us) := by rw [List.getElem?_set_ne (fun e => hij e.symm)]; exact hi
  refine ⟨h', hl, S2.upd hi2 fun F hA _ => ⟨⟨rfl, rfl, rfl, Nat.le_refl _, fun _ _ _ => rfl⟩, F, ?_, fun b hb => .inl hb⟩⟩
  obtain ⟨cs, h1, h2, h3⟩ := hA
  refine ⟨cs, by rw [← hn]; exact h1, ⟨by rw [← hn]; exact h2.1, fun m x hx => ?_⟩, h3⟩
  have hm : m < xss.length := (List.getElem?_eq_some_iff.1 hx).1
  have hm2 : m < us.length := by omega
  have h4 := (h2.2 m us[m] (List.getElem?_eq_getElem hm2)).1
  have h5 := hr m hm
  have e1 : us.getD m default = us[m] := by simp [List.getD_eq_getElem?_getD, List.getElem?_eq_getElem hm2]
  have e2 : xss.getD m default = x := by simp [List.getD_eq_getElem?_getD, hx]
  rw [e1, e2] at h5
  show k.slice.rep h' x ((cs.drop (m * 1)).take 1)
  have h4' : (cs.drop (m * 1)).take 1 = [us[m]] := h4
  rw [h4']; exact h5
theorem grid_val {T2 : TypeId} (S : St base w0 h w L) (hi : L[i]? = some (row T2 kRaw v us)) (hj : L[j]? = some (grid T k us xss)) : ∃ A c, v = .slice A xss.length c ∧ xss.length ≤ c ∧ c ≤ maxLen := by
  rw [← zbn S hj]; exact S.row_val hi
theorem grid_leads {T2 : TypeId} {A : Option Addr} {c : Nat} (S : St base w0 h w L) (hi : L[i]? = some (row T2 kRaw v us)) (hj : L[j]? = some (grid T k us xss)) (hij : i ≠ j) (hv : v = .slice A xss.length c) : zbb k.slice (hp w) A xss := by
  obtain ⟨h', hl, S'⟩ := grid_freeze S hi hj hij
  have hlt : i < L.length := (List.getElem?_eq_some_iff.1 hi).1
  exact zbi S' (j := i) (List.getElem?_set_self (by simpa using hlt)) hv
end
end Gx
