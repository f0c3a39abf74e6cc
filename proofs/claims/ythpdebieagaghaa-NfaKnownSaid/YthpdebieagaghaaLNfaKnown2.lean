/- My own library for walks through the translated code, and the walks of the functions that the law NfaKnown comes to, part 3; no conditions but those that each contract tells. -/
import Derived.Laws.BytesArg
import Derived.Lib.Bytealg
import Derived.ProofKit
import Derived.OpenShut
import Derived.ShutString
import Derived.ChangeOld
import Derived.Below
import Derived.DataElems
import Derived.Test.YthpdebieagaghaaLNfaKnown1
namespace Go.Proofs.Ythpdebieagaghaa
open Go Go.RowKit Gx
set_option maxHeartbeats 1000000
set_option linter.unusedVariables false
set_option linter.unusedSimpArgs false
attribute [local irreducible] listOf count first has zbb wbits Lib.ctz zcz zbh rowOk tab markP intoP intoTo zcr zcg zcs runTo endsIn endTo runM posTo anyTo allTo numAt numsL numsIn zcl kept lefts zcx lastTp zck zaj errM zdb zbc lfp seekN seekB fullS zcj useN trues
theorem useful1_calls (w : World) (n : Int) (i0 : inK .i64 n) (p1 : List Bool) (A1 : Option Addr) (c1 : Nat) (b1 : p1.length ≤ c1 ∧ c1 ≤ maxLen) (l1 : zbs Kd.bool (hp w) A1 p1) (a1 : Addr) (pc1 : ∀ j v, [.slice A1 p1.length c1][j]? = some v → gcell (hp w) (a1.add j) = some v) (pre0 : 0 ≤ n ∧ n < (p1.length : Int)) :
    Calls Try.prog 29 #[.int .i64 n, .pointer (some a1)] w fun e w' => ∃ v, e = .returned v ∧ ∃ (hn : Ghost), St w.heap.size w hn w' [] ∧ v = .bool (at_ p1 n) := by
 refine za1 Try.func29 rfl Try.ntmps29 rfl ?_
 have S0 := St.init w
 have lo0 := zb1 i0; have hi0 := zb2 i0
 have bb1 := b1.1; have bc1 := b1.2; simp only [maxLen] at bc1
 have hp0_ := pre0.1; have hp1_ := pre0.2
 refine zad <| zaf (l := [0]) rfl <| p_v (v := .bool false) rfl rfl rfl (zai rfl) <| zab <| zad <| zaf (l := [0, 1, 2, 3, 4]) rfl <| p_v (v := .slice A1 p1.length c1) rfl rfl rfl (zan (seg := [.slice A1 p1.length c1]) ty25 rfl (by simp) rfl (CF.ghost pc1 (St.le0 S0))) <| p_v (v := .int .i64 n) rfl rfl rfl (zah rfl) ?_
 obtain ⟨ad1, seg1, a1, rp1, ce1⟩ := za5 (q := n) (m := 1) l1 rfl (by first|omega|(simp;omega)|assumption) (by first|omega|(simp;omega)|assumption)
 refine p_v (v := .pointer (some ad1)) rfl rfl rfl (za4 u25 ty4 rfl rfl a1 (by first|omega|(simp;omega)|assumption) (by first|omega|(simp;omega)|assumption)) ?_
 obtain ⟨rfl, _⟩ := rp1
 refine p_v (v := .bool (at_ p1 n)) rfl rfl rfl (zan (seg := [.bool (at_ p1 n)]) ty4 rfl (by simp) rfl (CF.ghost ce1 (St.le0 S0))) <| p_v (v := .bool (at_ p1 n)) rfl rfl rfl (zai rfl) <| zab <| zbi Try.func29 (res1 rfl (zbk (v := .bool (at_ p1 n)) rfl)) ?_
 have q0 : (at_ p1 n : Bool) = at_ p1 n := rfl
 refine ⟨_, rfl, (fun _ => none), ?_, ?_⟩
 · exact S0.sub [] (by decide) rfl _ rfl
 · rfl
theorem indexI_calls (w : World) (s : List Int) (A0 : Option Addr) (c0 : Nat) (b0 : s.length ≤ c0 ∧ c0 ≤ maxLen) (l0 : zbs (Kd.int .i64) (hp w) A0 s) (f : List Bool) (A1 : Option Addr) (c1 : Nat) (b1 : f.length ≤ c1 ∧ c1 ≤ maxLen) (l1 : zbs Kd.bool (hp w) A1 f) (a1 : Addr) (pc1 : ∀ j v, [.slice A1 f.length c1][j]? = some v → gcell (hp w) (a1.add j) = some v) (pre0 : ∀ x ∈ s, 0 ≤ x ∧ x < (f.length : Int)) :
    Calls Try.prog 33 #[.slice A0 s.length c0, .func (.func 29) #[] #[.pointer (some a1)]] w fun e w' => ∃ v, e = .returned v ∧ ∃ (hn : Ghost), St w.heap.size w hn w' [] ∧ v = .int .i64 (zcj (fun x => at_ f x) s 0) ∧ inK .i64 (zcj (fun x => at_ f x) s 0) := by
 refine za1 Try.func33 rfl Try.ntmps33 rfl ?_
 have S0 := St.init w
 have bb0 := b0.1; have bc0 := b0.2; simp only [maxLen] at bc0
 have bb1 := b1.1; have bc1 := b1.2; simp only [maxLen] at bc1
 refine zad <| zaf (l := [0]) rfl <| p_v (v := .int .i64 0) rfl rfl rfl (zai rfl) <| zab <| zad <| zad <| zaf (l := [0, 1, 2]) rfl <| p_v (v := .slice A0 s.length c0) rfl rfl rfl (zah rfl) <| p_v (v := .int .i64 (s.length : Int)) rfl rfl rfl (za6 u23 rfl) <| p_v (v := .int .i64 0) rfl rfl rfl (zah rfl) <| zab <| zaz ?_
 refine zcc (S := Int) (fun (q_ : Int) ρ w' => match q_ with | t8 => ∃ (h : Ghost), Le (fun _ => none) h ∧ St w.heap.size w h w' [] ∧ ρ 0 = .slice A0 s.length c0 ∧ ρ 1 = .func (.func 29) #[] #[.pointer (some a1)] ∧ ρ 7 = .int .i64 (s.length : Int) ∧ ρ 8 = .int .i64 t8 ∧ inK .i64 t8 ∧ (0 ≤ t8 ∧ t8 ≤ (s.length : Int) ∧ zcj (fun x => at_ f x) s 0 = zcj (fun x => at_ f x) (s.drop t8.toNat) t8)) (fun q_ => match q_ with | t8 => (s.length - t8).toNat) (0) ⟨(fun _ => none), Le.refl _, S0.sub [] (by decide) rfl _ rfl, rfl, rfl, rfl, rfl, (zat (by first|omega|(simp;omega)|assumption) (by first|omega|(simp;omega)|assumption)), (by exact ⟨by omega, by omega, rfl⟩)⟩ ?_
 rintro t8 ih1 ρ1 w1 ⟨h1, le1, S1, r1_0, r1_1, r1_7, r1_8, f1_0, hI1⟩
 have lf1_0 := zb1 f1_0; have hf1_0 := zb2 f1_0
 refine zad <| zaf (l := [0]) rfl <| p_v (v := .bool (decide (t8 < (s.length : Int)))) rfl rfl rfl (x_lss r1_8 r1_7) <| zab <| zad ?_
 refine za3 (p := t8 < (s.length : Int)) rfl (fun hc2 => ?_) (fun hc2 => ?_)
 ·skip
  refine za9 <| zad <| zaz <| zad <| zaf (l := [0, 1]) rfl <| p_v (v := .int .i64 t8) rfl rfl rfl (zah r1_8) <| p_v (v := .int .i64 t8) rfl rfl rfl (zai rfl) <| zab <| zad <| zaf (l := [0, 1, 2, 3, 4, 5]) rfl <| p_v (v := .func (.func 29) #[] #[.pointer (some a1)]) rfl rfl rfl (zah r1_1) <| p_v (v := .slice A0 s.length c0) rfl rfl rfl (zah r1_0) ?_
  refine p_v (v := .int .i64 t8) rfl rfl rfl (zah rfl) ?_
  obtain ⟨ad3, seg3, a3, rp3, ce3⟩ := za5 (q := t8) (m := 1) l0 rfl (by first|omega|(simp;omega)|assumption) (by first|omega|(simp;omega)|assumption)
  refine p_v (v := .pointer (some ad3)) rfl rfl rfl (za4 u23 ty3 rfl rfl a3 (by first|omega|(simp;omega)|assumption) (by first|omega|(simp;omega)|assumption)) ?_
  obtain ⟨rfl, in3⟩ := rp3
  have lo3 := zb1 in3; have hi3 := zb2 in3
  refine p_v (v := .int .i64 (at_ s t8)) rfl rfl rfl (zan (seg := [.int .i64 (at_ s t8)]) ty3 rfl (by simp) rfl (CF.ghost ce3 (St.le0 S1))) <| p_c rfl rfl rfl (zbg (args := [.int .i64 (at_ s t8), .pointer (some a1)]) ca29 rfl rfl) (useful1_calls w1 (at_ s t8) (zat (by first|omega|(simp;omega)|assumption) (by first|omega|(simp;omega)|assumption)) f A1 c1 b1 (l1.mono (St.le0 S1)) a1 (fun j v h => gcell_mono (St.le0 S1) (pc1 j v h)) (by first | assumption | omega | exact pre0 _ (at_mem (by omega) (by omega)))) ?_
  rintro _ w4 ⟨h4, T4, rfl⟩
  have S5 := S1.keep (Chg.of_below T4.below)
  refine zab ?_
  refine zb3 (b := at_ f (at_ s t8)) rfl (fun hc6 => ?_) (fun hc6 => ?_)
  ·skip
   refine zad <| zaf (l := [0, 1]) rfl <| p_v (v := .int .i64 t8) rfl rfl rfl (zah rfl) <| p_v (v := .int .i64 t8) rfl rfl rfl (zai rfl) <| zab <| zbi Try.func33 (res1 rfl (zbk (v := .int .i64 t8) rfl)) ?_
   have q0 : (zcj (fun x => at_ f x) s 0 : Int) = t8 := by
    rw [hI1.2.2, placeF_drop _ _ hI1.1 (by omega), if_pos (by assumption)]
   refine ⟨_, rfl, h1, ?_, ?_, ?_⟩
   · exact S5.sub [] (by decide) rfl _ rfl
   · first | rfl | (simp only [q0]; rfl) | (simp only [q0])
   · rw [q0]; exact f1_0
  refine za9 <| za2 <| zaf (l := [0, 1]) rfl <| p_v (v := .int .i64 (t8 + 1)) rfl rfl rfl (zcv r1_8 rfl (zat (by first|omega|(simp;omega)|assumption) (by first|omega|(simp;omega)|assumption))) <| p_v (v := .int .i64 (t8 + 1)) rfl rfl rfl (zah rfl) <| zab ?_
  refine ih1 (t8 + 1) _ _ (by dsimp only; omega) ⟨h1, le1, S5.sub [] (by decide) rfl _ rfl, r1_0, r1_1, r1_7, rfl, (zat (by first|omega|(simp;omega)|assumption) (by first|omega|(simp;omega)|assumption)), (by exact ⟨by omega, by omega, by rw [hI1.2.2, placeF_drop _ _ hI1.1 (by omega), if_neg (by simp [*])]⟩)⟩
 refine zby rfl <| zad <| zaf (l := [0]) rfl <| p_v (v := .int .i64 (-1)) rfl rfl rfl (zai rfl) <| zab <| zbi Try.func33 (res1 rfl (zbk (v := .int .i64 (-1)) rfl)) ?_
 have q0 : (zcj (fun x => at_ f x) s 0 : Int) = (-1) := by
  rw [hI1.2.2, List.drop_of_length_le (by omega)]; exact placeF_nil _ _
 refine ⟨_, rfl, h1, ?_, ?_, ?_⟩
 · exact S1.sub [] (by decide) rfl _ rfl
 · first | rfl | (simp only [q0]; rfl) | (simp only [q0])
 · rw [q0]; exact (zat (by first|omega|(simp;omega)|assumption) (by first|omega|(simp;omega)|assumption))
theorem containsI_calls (w : World) (s : List Int) (A0 : Option Addr) (c0 : Nat) (b0 : s.length ≤ c0 ∧ c0 ≤ maxLen) (l0 : zbs (Kd.int .i64) (hp w) A0 s) (f : List Bool) (A1 : Option Addr) (c1 : Nat) (b1 : f.length ≤ c1 ∧ c1 ≤ maxLen) (l1 : zbs Kd.bool (hp w) A1 f) (a1 : Addr) (pc1 : ∀ j v, [.slice A1 f.length c1][j]? = some v → gcell (hp w) (a1.add j) = some v) (pre0 : ∀ x ∈ s, 0 ≤ x ∧ x < (f.length : Int)) :
    Calls Try.prog 28 #[.slice A0 s.length c0, .func (.func 29) #[] #[.pointer (some a1)]] w fun e w' => ∃ v, e = .returned v ∧ ∃ (hn : Ghost), St w.heap.size w hn w' [] ∧ v = .bool (s.any fun x => at_ f x) := by
 refine za1 Try.func28 rfl Try.ntmps28 rfl ?_
 have S0 := St.init w
 have bb0 := b0.1; have bc0 := b0.2; simp only [maxLen] at bc0
 have bb1 := b1.1; have bc1 := b1.2; simp only [maxLen] at bc1
 refine zad <| zaf (l := [0]) rfl <| p_v (v := .bool false) rfl rfl rfl (zai rfl) <| zab <| zad <| zaf (l := [0, 1, 2, 3, 4]) rfl <| p_v (v := .slice A0 s.length c0) rfl rfl rfl (zah rfl) <| p_v (v := .func (.func 29) #[] #[.pointer (some a1)]) rfl rfl rfl (zah rfl) <| p_c rfl rfl rfl (zbg (args := [.slice A0 s.length c0, .func (.func 29) #[] #[.pointer (some a1)]]) ca33 rfl rfl) (indexI_calls w s A0 c0 b0 (l0.mono (St.le0 S0)) f A1 c1 b1 (l1.mono (St.le0 S0)) a1 (fun j v h => gcell_mono (St.le0 S0) (pc1 j v h)) (by first | assumption | (intro x hx; have := hR_.rows (by assumption) (by omega) x hx; omega))) ?_
 rintro _ w1 ⟨h1, T1, rfl, in1_0⟩
 have S2 := S0.keep (Chg.of_below T1.below)
 have lo_in1_0 := zb1 in1_0; have hi_in1_0 := zb2 in1_0
 refine p_v (v := .bool (decide (0 ≤ (zcj (fun x => at_ f x) s 0)))) rfl rfl rfl (x_geq rfl rfl) <| p_v (v := .bool (decide (0 ≤ (zcj (fun x => at_ f x) s 0)))) rfl rfl rfl (zai rfl) <| zab <| zbi Try.func28 (res1 rfl (zbk (v := .bool (decide (0 ≤ (zcj (fun x => at_ f x) s 0)))) rfl)) ?_
 have q0 : (s.any fun x => at_ f x : Bool) = decide (0 ≤ (zcj (fun x => at_ f x) s 0)) := by
  exact (placeF_any _ _ _ (by omega)).symm
 refine ⟨_, rfl, (fun _ => none), ?_, ?_⟩
 · exact S2.sub [] (by decide) rfl _ rfl
 · first | rfl | (simp only [q0]; rfl) | (simp only [q0])
theorem useful_calls (w : World) (m : Mach) (A0_0 : Option Addr) (c0_0 : Nat) (b0_0 : m.spots.length ≤ c0_0 ∧ c0_0 ≤ maxLen) (l0_0 : zbs zax (hp w) A0_0 m.spots) (A0_1 : Option Addr) (c0_1 : Nat) (b0_1 : m.first.length ≤ c0_1 ∧ c0_1 ≤ maxLen) (l0_1 : zbs (Kd.int .i64) (hp w) A0_1 m.first) (A0_2 : Option Addr) (c0_2 : Nat) (b0_2 : m.follow.length ≤ c0_2 ∧ c0_2 ≤ maxLen) (l0_2 : zbs (Kd.int .i64).slice (hp w) A0_2 m.follow) (A0_3 : Option Addr) (c0_3 : Nat) (b0_3 : m.last.length ≤ c0_3 ∧ c0_3 ≤ maxLen) (l0_3 : zbs Kd.bool (hp w) A0_3 m.last) (pre0 : Right m) :
    Calls Try.prog 18 #[.agg #[.slice A0_0 m.spots.length c0_0, .slice A0_1 m.first.length c0_1, .slice A0_2 m.follow.length c0_2, .slice A0_3 m.last.length c0_3, .bool m.empty]] w fun e w' => ∃ v, e = .returned v ∧ ∃ (hn : Ghost) (r0 : Value), St w.heap.size w hn w' [row 4 Kd.bool r0 (zbc m)] ∧ v = r0 := by
 refine za1 Try.func18 rfl Try.ntmps18 rfl ?_
 have S0 := St.init w
 have bb0_0 := b0_0.1; have bc0_0 := b0_0.2; simp only [maxLen] at bc0_0
 have bb0_1 := b0_1.1; have bc0_1 := b0_1.2; simp only [maxLen] at bc0_1
 have bb0_2 := b0_2.1; have bc0_2 := b0_2.2; simp only [maxLen] at bc0_2
 have bb0_3 := b0_3.1; have bc0_3 := b0_3.2; simp only [maxLen] at bc0_3
 have hsm_ := pre0.small; have hfo_ := pre0.follow; have hla_ := pre0.last; have hss_ := pre0.small'; have hfi_ := hss_.first; have hcl_ := comeM_len m; have hR_ := pre0
 refine zad <| zaf (l := [0, 1]) rfl ?_
 obtain ⟨b1, w1, r1, g1, T1⟩ := zcb (P := Try.prog) S0 27 (v := .agg #[.slice A0_0 m.spots.length c0_0, .slice A0_1 m.first.length c0_1, .slice A0_2 m.follow.length c0_2, .slice A0_3 m.last.length c0_3, .bool m.empty]) [.slice A0_0 m.spots.length c0_0, .slice A0_1 m.first.length c0_1, .slice A0_2 m.follow.length c0_2, .slice A0_3 m.last.length c0_3, .bool m.empty] rfl
 have S2 := T1
 dsimp only [lAa, lAn, lA0, lAs] at S2
 refine p_v (v := .pointer (some ⟨b1, 0, none⟩)) rfl rfl rfl (x_box rfl r1) <| p_v (v := .slice none 0 0) rfl rfl rfl (zai rfl) <| zab <| zad <| zaf (l := [0, 1, 2]) rfl <| p_v (v := .agg #[.slice A0_0 m.spots.length c0_0, .slice A0_1 m.first.length c0_1, .slice A0_2 m.follow.length c0_2, .slice A0_3 m.last.length c0_3, .bool m.empty]) rfl rfl rfl (zan (seg := [.slice A0_0 m.spots.length c0_0, .slice A0_1 m.first.length c0_1, .slice A0_2 m.follow.length c0_2, .slice A0_3 m.last.length c0_3, .bool m.empty]) ty27 rfl (by simp) rfl (CF.box (m := 5) (S2.box_at (j := 0) rfl) rfl)) <| p_c rfl rfl rfl (zbg (args := [.agg #[.slice A0_0 m.spots.length c0_0, .slice A0_1 m.first.length c0_1, .slice A0_2 m.follow.length c0_2, .slice A0_3 m.last.length c0_3, .bool m.empty]]) ca27 rfl rfl) (reached_calls w1 m A0_0 c0_0 b0_0 (l0_0.mono (St.le0 S2)) A0_1 c0_1 b0_1 (l0_1.mono (St.le0 S2)) A0_2 c0_2 b0_2 (l0_2.mono (St.le0 S2)) A0_3 c0_3 b0_3 (l0_3.mono (St.le0 S2)) (by assumption)) ?_
 rintro v3_0 w3 ⟨h3, _, T3, rfl⟩
 obtain ⟨k3, lk3, ll3, U3⟩ := zbp S2 T3
 have S4 := U3
 dsimp only [lAa, lAn, lA0, lAs] at S4
 refine p_v (v := v3_0) rfl rfl rfl (zai rfl) <| zab <| zad <| zaf (l := [0, 1, 2, 3, 4, 5]) rfl <| p_v (v := .pointer (some ⟨b1, 0, none⟩)) rfl rfl rfl (zas fd27_0 ty22 rfl rfl) <| p_v (v := .slice A0_0 m.spots.length c0_0) rfl rfl rfl (zan (seg := [.slice A0_0 m.spots.length c0_0]) ty22 rfl (by simp) rfl (CF.box (m := 1) (S4.box_at (j := 0) rfl) rfl)) <| p_v (v := .int .i64 (m.spots.length : Int)) rfl rfl rfl (za6 u22 rfl) ?_
 obtain ⟨v5, w5, r5, g5, T5⟩ := zaq (kk := .i64) (kk' := .i64) (kd := Kd.bool) (q := (m.spots.length : Int)) (z := false) (zc := [.bool false]) S4 u25 ty4 rfl rfl ⟨rfl, trivial⟩ (by first|omega|(simp;omega)|assumption) (by first|omega|(simp;omega)|assumption) (by first|omega|(simp;omega)|assumption)
 have S6 := T5
 dsimp only [lAa, lAn, lA0, lAs] at S6
 refine p_v (v := v5) rfl rfl rfl (zap rfl rfl r5) ?_
 obtain ⟨b7, w7, r7, g7, T7⟩ := zcb (P := Try.prog) S6 25 (v := (.slice none 0 0)) [.slice none 0 0] rfl
 have S8 := T7
 dsimp only [lAa, lAn, lA0, lAs] at S8
 refine p_v (v := .pointer (some ⟨b7, 0, none⟩)) rfl rfl rfl (zbn ty25 r7) ?_
 have oc10 := zba S8 (j := 2) rfl
 obtain ⟨w9, r9, g9, T9⟩ := zbq (P := Try.prog) (off := 0) (v := v5) (vs := [v5]) S8 ty25 (zac S8 (j := 2) rfl) rfl (j := 3) rfl (by first | decide | exact Nat.le_of_ble_eq_true rfl) (zao oc10 zb9)
 have S11 := T9.fx 3 (box b7 25 [v5]) rfl
 dsimp only [lAa, lAn, lA0, lAs] at S11
 refine p_s rfl rfl (zbd rfl rfl r9) <| zab <| zad <| zad <| zaf (l := [0]) rfl <| p_v (v := .bool true) rfl rfl rfl (zai rfl) <| zab <| zaz <| zcc (S := (List Bool) × Bool) (fun (q_ : (List Bool) × Bool) ρ w' => match q_ with | (out, more) => ∃ (h : Ghost) (v_out : Value), Le k3 h ∧ St w.heap.size w h w' [box b1 27 [.slice A0_0 m.spots.length c0_0, .slice A0_1 m.first.length c0_1, .slice A0_2 m.follow.length c0_2, .slice A0_3 m.last.length c0_3, .bool m.empty], row 4 Kd.bool v3_0 (zdb m), row 4 Kd.bool v_out out, box b7 25 [v_out]] ∧ ρ 1 = .pointer (some ⟨b1, 0, none⟩) ∧ ρ 3 = v3_0 ∧ ρ 4 = .pointer (some ⟨b7, 0, none⟩) ∧ ρ 5 = .bool more ∧ (UseI m out more)) (fun q_ => match q_ with | (out, more) => useN m out more) (List.replicate ((m.spots.length : Int)).toNat false, true) ⟨k3, v5, Le.refl _, S11.sub [0, 1, 2, 3] (by decide) rfl _ rfl, rfl, rfl, rfl, rfl, (by exact use_0 m)⟩ ?_
 rintro ⟨out, more⟩ ih12 ρ12 w12 ⟨h12, v_out, le12, S12, r12_1, r12_3, r12_4, r12_5, hI12⟩
 have rl12_1 := S12.row_le (j := 1) rfl; simp only [maxLen] at rl12_1
 have rl12_2 := S12.row_le (j := 2) rfl; simp only [maxLen] at rl12_2
 have hol_ := hI12.len
 refine zad <| zad <| zaf (l := [0]) rfl <| p_v (v := .bool more) rfl rfl rfl (zah r12_5) <| zab ?_
 refine zb3 (b := more) rfl (fun hc13 => ?_) (fun hc13 => ?_)
 ·skip
  refine za9 <| zaz <| zad <| zaf (l := [0]) rfl <| p_v (v := .bool false) rfl rfl rfl (zai rfl) <| zab <| zad <| zaf (l := [0, 1, 2]) rfl <| p_v (v := v_out) rfl rfl rfl (zan (seg := [v_out]) ty25 rfl (by simp) r12_4 (CF.box (m := 1) (S12.box_at (j := 3) rfl) rfl)) ?_
  have lb14 := S12.row_le (j := 2) rfl; simp only [maxLen] at lb14
  refine p_v (v := .int .i64 (out.length : Int)) rfl rfl rfl (x_len_own u25 rfl (e_len_own S12 (j := 2) rfl)) <| p_v (v := .int .i64 0) rfl rfl rfl (zah rfl) <| zab <| zaz <| zcc (S := (List Bool) × Bool × Int) (fun (q_ : (List Bool) × Bool × Int) ρ w' => match q_ with | (out2, more2, t16) => ∃ (h : Ghost) (v_out2 : Value), Le h12 h ∧ St w.heap.size w h w' [box b1 27 [.slice A0_0 m.spots.length c0_0, .slice A0_1 m.first.length c0_1, .slice A0_2 m.follow.length c0_2, .slice A0_3 m.last.length c0_3, .bool m.empty], row 4 Kd.bool v3_0 (zdb m), row 4 Kd.bool v_out2 out2, box b7 25 [v_out2]] ∧ ρ 1 = .pointer (some ⟨b1, 0, none⟩) ∧ ρ 3 = v3_0 ∧ ρ 4 = .pointer (some ⟨b7, 0, none⟩) ∧ ρ 5 = .bool more2 ∧ ρ 15 = .int .i64 (out.length : Int) ∧ ρ 16 = .int .i64 t16 ∧ inK .i64 t16 ∧ (0 ≤ t16 ∧ t16 ≤ (m.spots.length : Int) ∧ UseJ m out out2 more2 t16)) (fun q_ => match q_ with | (out2, more2, t16) => (m.spots.length - t16).toNat) (out, false, 0) ⟨h12, v_out, Le.refl _, S12.sub [0, 1, 2, 3] (by decide) rfl _ rfl, r12_1, r12_3, r12_4, rfl, rfl, rfl, (zat (by first|omega|(simp;omega)|assumption) (by first|omega|(simp;omega)|assumption)), (by exact ⟨by omega, by omega, use_j0 hI12⟩)⟩ ?_
  rintro ⟨out2, more2, t16⟩ ih15 ρ15 w15 ⟨h15, v_out2, le15, S15, r15_1, r15_3, r15_4, r15_5, r15_15, r15_16, f15_0, hI15⟩
  have lf15_0 := zb1 f15_0; have hf15_0 := zb2 f15_0
  have rl15_1 := S15.row_le (j := 1) rfl; simp only [maxLen] at rl15_1
  have rl15_2 := S15.row_le (j := 2) rfl; simp only [maxLen] at rl15_2
  have hol2_ := hI15.2.2.len; have hi0_ : 0 ≤ t16 := hI15.1
  refine zad <| zaf (l := [0]) rfl <| p_v (v := .bool (decide (t16 < (out.length : Int)))) rfl rfl rfl (x_lss r15_16 r15_15) <| zab <| zad ?_
  refine za3 (p := t16 < (out.length : Int)) rfl (fun hc16 => ?_) (fun hc16 => ?_)
  ·skip
   refine za9 <| zad <| zaz <| zad <| zaf (l := [0, 1]) rfl <| p_v (v := .int .i64 t16) rfl rfl rfl (zah r15_16) <| p_v (v := .int .i64 t16) rfl rfl rfl (zai rfl) <| zab <| zad <| zad <| zaf (l := [0, 1, 2, 3, 4, 5, 6, 7, 8, 9, 10]) rfl <| p_v (v := v_out2) rfl rfl rfl (zan (seg := [v_out2]) ty25 rfl (by simp) r15_4 (CF.box (m := 1) (S15.box_at (j := 3) rfl) rfl)) ?_
   refine p_v (v := .int .i64 t16) rfl rfl rfl (zah rfl) ?_
   obtain ⟨ad17, a17, at17⟩ := zbo (q := t16) (m := 1) S15 (j := 2) rfl rfl (by first|omega|(simp;omega)|assumption) (by first|omega|(simp;omega)|assumption)
   refine p_v (v := .pointer (some ad17)) rfl rfl rfl (zbm u25 ty4 rfl rfl a17 (by first|omega|(simp;omega)|assumption) (by first|omega|(simp;omega)|assumption)) ?_
   obtain ⟨seg18, rp18, cf18⟩ := zc2 (q := t16) S15 (j := 2) rfl rfl at17 (by first|omega|(simp;omega)|assumption) (by first|omega|(simp;omega)|assumption)
   obtain ⟨rfl, _⟩ := rp18
   refine p_v (v := .bool (at_ out2 t16)) rfl rfl rfl (zan (seg := [.bool (at_ out2 t16)]) ty4 rfl (by simp) rfl cf18) <| p_v (v := .bool (at_ out2 t16)) rfl rfl rfl (zah rfl) ?_
   rcases Bool.eq_false_or_eq_true (at_ out2 t16) with hc19 | hc19
   ·skip
    refine zbt rfl (wo 4 23 rfl rfl (congrArg Value.bool hc19) rfl) rfl <| zbt rfl (wo 4 23 rfl rfl (congrArg Value.bool hc19) rfl) rfl <| zbt rfl (wo 4 23 rfl rfl (congrArg Value.bool hc19) rfl) rfl <| zbt rfl (wo 4 23 rfl rfl (congrArg Value.bool hc19) rfl) rfl <| zbt rfl (wo 4 23 rfl rfl (congrArg Value.bool hc19) rfl) rfl <| p_v (v := .bool true) rfl rfl rfl (zbz (congrArg Value.bool hc19) rfl) <| zab <| zc6 (b := true) rfl ?_
    simp only [if_true, if_false, Bool.false_eq_true]
    refine zby rfl <| zaf (l := [0, 1]) rfl <| p_v (v := .int .i64 (t16 + 1)) rfl rfl rfl (zcv r15_16 rfl (zat (by first|omega|(simp;omega)|assumption) (by first|omega|(simp;omega)|assumption))) <| p_v (v := .int .i64 (t16 + 1)) rfl rfl rfl (zah rfl) <| zab ?_
    refine ih15 (out2, more2, t16 + 1) _ _ (by dsimp only; omega) ⟨h15, v_out2, le15, S15.sub [0, 1, 2, 3] (by decide) rfl _ rfl, r15_1, r15_3, r15_4, r15_5, r15_15, rfl, (zat (by first|omega|(simp;omega)|assumption) (by first|omega|(simp;omega)|assumption)), (by first | exact ⟨by omega, by omega, use_old hI15.2.2 hI15.1 (.inl (by assumption))⟩ | exact ⟨by omega, by omega, use_old hI15.2.2 hI15.1 (.inr (by assumption))⟩ | exact ⟨by omega, by omega, use_no hI15.2.2 hI15.1 (by assumption) (by assumption)⟩ | exact ⟨by omega, by omega, use_new hR_ hI15.2.2 hI15.1 (by omega) (by assumption) (by assumption) (.inl (by assumption))⟩ | exact ⟨by omega, by omega, use_new hR_ hI15.2.2 hI15.1 (by omega) (by assumption) (by assumption) (.inr (by assumption))⟩)⟩
   refine p_v (v := v3_0) rfl (wo 4 23 rfl rfl (congrArg Value.bool hc19) rfl) rfl (zah r15_3) <| p_v (v := .int .i64 t16) rfl (wo 4 23 rfl rfl (congrArg Value.bool hc19) rfl) rfl (zah rfl) ?_
   obtain ⟨ad20, a20, at20⟩ := zbo (q := t16) (m := 1) S15 (j := 1) rfl rfl (by first|omega|(simp;omega)|assumption) (by first|omega|(simp;omega)|assumption)
   refine p_v (v := .pointer (some ad20)) rfl (wo 4 23 rfl rfl (congrArg Value.bool hc19) rfl) rfl (zbm u25 ty4 rfl rfl a20 (by first|omega|(simp;omega)|assumption) (by first|omega|(simp;omega)|assumption)) ?_
   obtain ⟨seg21, rp21, cf21⟩ := zc2 (q := t16) S15 (j := 1) rfl rfl at20 (by first|omega|(simp;omega)|assumption) (by first|omega|(simp;omega)|assumption)
   obtain ⟨rfl, _⟩ := rp21
   refine p_v (v := .bool (at_ (zdb m) t16)) rfl (wo 4 23 rfl rfl (congrArg Value.bool hc19) rfl) rfl (zan (seg := [.bool (at_ (zdb m) t16)]) ty4 rfl (by simp) rfl cf21) <| p_v (v := .bool (!(at_ (zdb m) t16))) rfl (wo 4 23 rfl rfl (congrArg Value.bool hc19) rfl) rfl (x_not rfl) <| p_v (v := .bool (!(at_ (zdb m) t16))) rfl rfl rfl (zb6 (congrArg Value.bool hc19) rfl) <| zab ?_
   refine zb8 (b := at_ (zdb m) t16) rfl (fun hc22 => ?_) (fun hc22 => ?_)
   ·skip
    refine zby rfl <| zaf (l := [0, 1]) rfl <| p_v (v := .int .i64 (t16 + 1)) rfl rfl rfl (zcv r15_16 rfl (zat (by first|omega|(simp;omega)|assumption) (by first|omega|(simp;omega)|assumption))) <| p_v (v := .int .i64 (t16 + 1)) rfl rfl rfl (zah rfl) <| zab ?_
    refine ih15 (out2, more2, t16 + 1) _ _ (by dsimp only; omega) ⟨h15, v_out2, le15, S15.sub [0, 1, 2, 3] (by decide) rfl _ rfl, r15_1, r15_3, r15_4, r15_5, r15_15, rfl, (zat (by first|omega|(simp;omega)|assumption) (by first|omega|(simp;omega)|assumption)), (by first | exact ⟨by omega, by omega, use_old hI15.2.2 hI15.1 (.inl (by assumption))⟩ | exact ⟨by omega, by omega, use_old hI15.2.2 hI15.1 (.inr (by assumption))⟩ | exact ⟨by omega, by omega, use_no hI15.2.2 hI15.1 (by assumption) (by assumption)⟩ | exact ⟨by omega, by omega, use_new hR_ hI15.2.2 hI15.1 (by omega) (by assumption) (by assumption) (.inl (by assumption))⟩ | exact ⟨by omega, by omega, use_new hR_ hI15.2.2 hI15.1 (by omega) (by assumption) (by assumption) (.inr (by assumption))⟩)⟩
   refine za9 <| zad <| zaf (l := [0, 1, 2, 3, 4, 5, 6, 7, 8, 9, 10, 11, 12, 13]) rfl <| p_v (v := .pointer (some ⟨b1, 3, none⟩)) rfl rfl rfl (zas fd27_3 ty25 rfl r15_1) <| p_v (v := .slice A0_3 m.last.length c0_3) rfl rfl rfl (zan (seg := [.slice A0_3 m.last.length c0_3]) ty25 rfl (by simp) rfl (CF.box (m := 1) (S15.box_at (j := 0) rfl) rfl)) <| p_v (v := .int .i64 t16) rfl rfl rfl (zah rfl) ?_
   obtain ⟨ad23, seg23, a23, rp23, ce23⟩ := za5 (q := t16) (m := 1) l0_3 rfl (by first|omega|(simp;omega)|assumption) (by first|omega|(simp;omega)|assumption)
   refine p_v (v := .pointer (some ad23)) rfl rfl rfl (za4 u25 ty4 rfl rfl a23 (by first|omega|(simp;omega)|assumption) (by first|omega|(simp;omega)|assumption)) ?_
   obtain ⟨rfl, _⟩ := rp23
   refine p_v (v := .bool (at_ m.last t16)) rfl rfl rfl (zan (seg := [.bool (at_ m.last t16)]) ty4 rfl (by simp) rfl (CF.ghost ce23 (St.le0 S15))) <| p_v (v := .bool (at_ m.last t16)) rfl rfl rfl (zah rfl) ?_
   rcases Bool.eq_false_or_eq_true (at_ m.last t16) with hc24 | hc24
   ·skip
    refine zbt rfl (wo 5 35 rfl rfl (congrArg Value.bool hc24) rfl) rfl <| zbt rfl (wo 5 35 rfl rfl (congrArg Value.bool hc24) rfl) rfl <| zbt rfl (wo 5 35 rfl rfl (congrArg Value.bool hc24) rfl) rfl <| zbt rfl (wo 5 35 rfl rfl (congrArg Value.bool hc24) rfl) rfl <| zbt rfl (wo 5 35 rfl rfl (congrArg Value.bool hc24) rfl) rfl <| zbt rfl (wo 5 35 rfl rfl (congrArg Value.bool hc24) rfl) rfl <| zbt rfl (wo 5 35 rfl rfl (congrArg Value.bool hc24) rfl) rfl <| p_v (v := .bool true) rfl rfl rfl (zbz (congrArg Value.bool hc24) rfl) <| zab <| zc6 (b := true) rfl ?_
    simp only [if_true, if_false, Bool.false_eq_true]
    refine zaf (l := [0, 1, 2, 3, 4]) rfl <| p_v (v := v_out2) rfl rfl rfl (zan (seg := [v_out2]) ty25 rfl (by simp) r15_4 (CF.box (m := 1) (S15.box_at (j := 3) rfl) rfl)) <| p_v (v := .int .i64 t16) rfl rfl rfl (zah rfl) ?_
    obtain ⟨ad25, a25, at25⟩ := zbo (q := t16) (m := 1) S15 (j := 2) rfl rfl (by first|omega|(simp;omega)|assumption) (by first|omega|(simp;omega)|assumption)
    refine p_v (v := .pointer (some ad25)) rfl rfl rfl (zbm u25 ty4 rfl rfl a25 (by first|omega|(simp;omega)|assumption) (by first|omega|(simp;omega)|assumption)) ?_
    obtain ⟨w26, r26, g26, T26⟩ := zcq (u := .bool true) (q := t16) true (vs := [.bool true]) S15 ty4 rfl (j := 2) rfl rfl ⟨rfl, trivial⟩ at25 (by first|omega|(simp;omega)|assumption) (by first|omega|(simp;omega)|assumption)
    have S27 := T26.fx 2 (row 4 Kd.bool v_out2 (out2.set (t16).toNat true)) rfl
    dsimp only [lAa, lAn, lA0, lAs] at S27
    refine p_s rfl rfl (zbd rfl rfl r26) <| p_v (v := .bool true) rfl rfl rfl (zai rfl) <| zab <| za2 <| zaf (l := [0, 1]) rfl <| p_v (v := .int .i64 (t16 + 1)) rfl rfl rfl (zcv r15_16 rfl (zat (by first|omega|(simp;omega)|assumption) (by first|omega|(simp;omega)|assumption))) <| p_v (v := .int .i64 (t16 + 1)) rfl rfl rfl (zah rfl) <| zab ?_
    refine ih15 (out2.set (t16).toNat true, true, t16 + 1) _ _ (by dsimp only; omega) ⟨h15, v_out2, le15, S27.sub [0, 1, 2, 3] (by decide) rfl _ rfl, r15_1, r15_3, r15_4, rfl, r15_15, rfl, (zat (by first|omega|(simp;omega)|assumption) (by first|omega|(simp;omega)|assumption)), (by first | exact ⟨by omega, by omega, use_old hI15.2.2 hI15.1 (.inl (by assumption))⟩ | exact ⟨by omega, by omega, use_old hI15.2.2 hI15.1 (.inr (by assumption))⟩ | exact ⟨by omega, by omega, use_no hI15.2.2 hI15.1 (by assumption) (by assumption)⟩ | exact ⟨by omega, by omega, use_new hR_ hI15.2.2 hI15.1 (by omega) (by assumption) (by assumption) (.inl (by assumption))⟩ | exact ⟨by omega, by omega, use_new hR_ hI15.2.2 hI15.1 (by omega) (by assumption) (by assumption) (.inr (by assumption))⟩)⟩
   refine p_v (v := .pointer (some ⟨b1, 2, none⟩)) rfl (wo 5 35 rfl rfl (congrArg Value.bool hc24) rfl) rfl (zas fd27_2 ty24 rfl r15_1) <| p_v (v := .slice A0_2 m.follow.length c0_2) rfl (wo 5 35 rfl rfl (congrArg Value.bool hc24) rfl) rfl (zan (seg := [.slice A0_2 m.follow.length c0_2]) ty24 rfl (by simp) rfl (CF.box (m := 1) (S15.box_at (j := 0) rfl) rfl)) <| p_v (v := .int .i64 t16) rfl (wo 5 35 rfl rfl (congrArg Value.bool hc24) rfl) rfl (zah rfl) ?_
   obtain ⟨ad28, seg28, a28, rp28, ce28⟩ := za5 (q := t16) (m := 1) l0_2 rfl (by first|omega|(simp;omega)|assumption) (by first|omega|(simp;omega)|assumption)
   refine p_v (v := .pointer (some ad28)) rfl (wo 5 35 rfl rfl (congrArg Value.bool hc24) rfl) rfl (za4 u24 ty23 rfl rfl a28 (by first|omega|(simp;omega)|assumption) (by first|omega|(simp;omega)|assumption)) ?_
   obtain ⟨A28, c28, rfl, lc28, cm28, ld28⟩ := rp28
   have cn28 := cm28; simp only [maxLen] at cn28
   refine p_v (v := .slice A28 (at_ m.follow t16).length c28) rfl (wo 5 35 rfl rfl (congrArg Value.bool hc24) rfl) rfl (zan (seg := [.slice A28 (at_ m.follow t16).length c28]) ty23 rfl (by simp) rfl (CF.ghost ce28 (St.le0 S15))) <| p_v (v := .func (.func 29) #[] #[.pointer (some ⟨b7, 0, none⟩)]) rfl (wo 5 35 rfl rfl (congrArg Value.bool hc24) rfl) rfl (y_makeFunc (fv := []) (cv := [.pointer (some ⟨b7, 0, none⟩)]) rfl (zbr r15_4 rfl)) ?_
   obtain ⟨A29, c29, ev29, lc29, cm29⟩ := S15.row_val (j := 2) rfl
   refine p_c rfl (wo 5 35 rfl rfl (congrArg Value.bool hc24) rfl) rfl (zbg (args := [.slice A28 (at_ m.follow t16).length c28, .func (.func 29) #[] #[.pointer (some ⟨b7, 0, none⟩)]]) ca28 rfl rfl) (containsI_calls w15 (at_ m.follow t16) A28 c28 (And.intro lc28 cm28) (ld28.mono (St.le0 S15)) out2 A29 c29 (And.intro lc29 cm29) (zay S15 (j := 2) rfl ev29) ⟨b7, 0, none⟩ (by rw [← ev29]; exact (box_gcell (S15.box_at (j := 3) rfl))) (by first | assumption | (intro x hx; have := hR_.rows (by assumption) (by omega) x hx; omega))) ?_
   rintro _ w30 ⟨h30, T30, rfl⟩
   have S31 := S15.keep (Chg.of_below T30.below)
   refine p_v (v := .bool ((at_ m.follow t16).any fun x => at_ out2 x)) rfl rfl rfl (zb6 (congrArg Value.bool hc24) rfl) <| zab ?_
   refine zb3 (b := (at_ m.follow t16).any fun x => at_ out2 x) rfl (fun hc32 => ?_) (fun hc32 => ?_)
   ·skip
    refine zaf (l := [0, 1, 2, 3, 4]) rfl <| p_v (v := v_out2) rfl rfl rfl (zan (seg := [v_out2]) ty25 rfl (by simp) r15_4 (CF.box (m := 1) (S31.box_at (j := 3) rfl) rfl)) <| p_v (v := .int .i64 t16) rfl rfl rfl (zah rfl) ?_
    obtain ⟨ad33, a33, at33⟩ := zbo (q := t16) (m := 1) S31 (j := 2) rfl rfl (by first|omega|(simp;omega)|assumption) (by first|omega|(simp;omega)|assumption)
    refine p_v (v := .pointer (some ad33)) rfl rfl rfl (zbm u25 ty4 rfl rfl a33 (by first|omega|(simp;omega)|assumption) (by first|omega|(simp;omega)|assumption)) ?_
    obtain ⟨w34, r34, g34, T34⟩ := zcq (u := .bool true) (q := t16) true (vs := [.bool true]) S31 ty4 rfl (j := 2) rfl rfl ⟨rfl, trivial⟩ at33 (by first|omega|(simp;omega)|assumption) (by first|omega|(simp;omega)|assumption)
    have S35 := T34.fx 2 (row 4 Kd.bool v_out2 (out2.set (t16).toNat true)) rfl
    dsimp only [lAa, lAn, lA0, lAs] at S35
    refine p_s rfl rfl (zbd rfl rfl r34) <| p_v (v := .bool true) rfl rfl rfl (zai rfl) <| zab <| za2 <| zaf (l := [0, 1]) rfl <| p_v (v := .int .i64 (t16 + 1)) rfl rfl rfl (zcv r15_16 rfl (zat (by first|omega|(simp;omega)|assumption) (by first|omega|(simp;omega)|assumption))) <| p_v (v := .int .i64 (t16 + 1)) rfl rfl rfl (zah rfl) <| zab ?_
    refine ih15 (out2.set (t16).toNat true, true, t16 + 1) _ _ (by dsimp only; omega) ⟨h15, v_out2, le15, S35.sub [0, 1, 2, 3] (by decide) rfl _ rfl, r15_1, r15_3, r15_4, rfl, r15_15, rfl, (zat (by first|omega|(simp;omega)|assumption) (by first|omega|(simp;omega)|assumption)), (by first | exact ⟨by omega, by omega, use_old hI15.2.2 hI15.1 (.inl (by assumption))⟩ | exact ⟨by omega, by omega, use_old hI15.2.2 hI15.1 (.inr (by assumption))⟩ | exact ⟨by omega, by omega, use_no hI15.2.2 hI15.1 (by assumption) (by assumption)⟩ | exact ⟨by omega, by omega, use_new hR_ hI15.2.2 hI15.1 (by omega) (by assumption) (by assumption) (.inl (by assumption))⟩ | exact ⟨by omega, by omega, use_new hR_ hI15.2.2 hI15.1 (by omega) (by assumption) (by assumption) (.inr (by assumption))⟩)⟩
   refine za9 <| za2 <| zaf (l := [0, 1]) rfl <| p_v (v := .int .i64 (t16 + 1)) rfl rfl rfl (zcv r15_16 rfl (zat (by first|omega|(simp;omega)|assumption) (by first|omega|(simp;omega)|assumption))) <| p_v (v := .int .i64 (t16 + 1)) rfl rfl rfl (zah rfl) <| zab ?_
   refine ih15 (out2, more2, t16 + 1) _ _ (by dsimp only; omega) ⟨h15, v_out2, le15, S31.sub [0, 1, 2, 3] (by decide) rfl _ rfl, r15_1, r15_3, r15_4, r15_5, r15_15, rfl, (zat (by first|omega|(simp;omega)|assumption) (by first|omega|(simp;omega)|assumption)), (by first | exact ⟨by omega, by omega, use_old hI15.2.2 hI15.1 (.inl (by assumption))⟩ | exact ⟨by omega, by omega, use_old hI15.2.2 hI15.1 (.inr (by assumption))⟩ | exact ⟨by omega, by omega, use_no hI15.2.2 hI15.1 (by assumption) (by assumption)⟩ | exact ⟨by omega, by omega, use_new hR_ hI15.2.2 hI15.1 (by omega) (by assumption) (by assumption) (.inl (by assumption))⟩ | exact ⟨by omega, by omega, use_new hR_ hI15.2.2 hI15.1 (by omega) (by assumption) (by assumption) (.inr (by assumption))⟩)⟩
  refine zby rfl <| za2 ?_
  refine ih12 (out2, more2) _ _ (by exact use_dec hI15.2.2 (by assumption)) ⟨h15, v_out2, ((le12).trans le15), S15.sub [0, 1, 2, 3] (by decide) rfl _ rfl, r15_1, r15_3, r15_4, r15_5, (by exact use_i hI15.2.2 (by omega))⟩
 refine zby rfl <| zad <| zaf (l := [0, 1]) rfl <| p_v (v := v_out) rfl rfl rfl (zan (seg := [v_out]) ty25 rfl (by simp) r12_4 (CF.box (m := 1) (S12.box_at (j := 3) rfl) rfl)) <| p_v (v := v_out) rfl rfl rfl (zai rfl) <| zab <| zbi Try.func18 (res1 rfl (zbk (v := v_out) rfl)) ?_
 have q0 : (zbc m : List Bool) = out := by
  exact use_end pre0 hI12 (by assumption)
 refine ⟨_, rfl, h12, v_out, ?_, ?_⟩
 · rw [q0]; exact S12.sub [2] (by decide) rfl _ rfl
 · first | rfl | (simp only [q0]; rfl) | (simp only [q0])
theorem left_calls (w : World) (l : List Int) (A0 : Option Addr) (c0 : Nat) (b0 : l.length ≤ c0 ∧ c0 ≤ maxLen) (l0 : zbs (Kd.int .i64) (hp w) A0 l) (keep : List Bool) (A1 : Option Addr) (c1 : Nat) (b1 : keep.length ≤ c1 ∧ c1 ≤ maxLen) (l1 : zbs Kd.bool (hp w) A1 keep) (a1 : Addr) (pc1 : ∀ j v, [.slice A1 keep.length c1][j]? = some v → gcell (hp w) (a1.add j) = some v) (number : List Int) (A2 : Option Addr) (c2 : Nat) (b2 : number.length ≤ c2 ∧ c2 ≤ maxLen) (l2 : zbs (Kd.int .i64) (hp w) A2 number) (a2 : Addr) (pc2 : ∀ j v, [.slice A2 number.length c2][j]? = some v → gcell (hp w) (a2.add j) = some v) (pre0 : (l.length : Int) ≤ 250 ∧ ∀ x ∈ l, 0 ≤ x ∧ x < (keep.length : Int) ∧ x < (number.length : Int)) :
    Calls Try.prog 19 #[.slice A0 l.length c0, .pointer (some a1), .pointer (some a2)] w fun e w' => ∃ v, e = .returned v ∧ ∃ (hn : Ghost) (r0 : Value), St w.heap.size w hn w' [row 3 (Kd.int .i64) r0 (zcl keep number l)] ∧ v = r0 := by
 refine za1 Try.func19 rfl Try.ntmps19 rfl ?_
 have S0 := St.init w
 have bb0 := b0.1; have bc0 := b0.2; simp only [maxLen] at bc0
 have bb1 := b1.1; have bc1 := b1.2; simp only [maxLen] at bc1
 have bb2 := b2.1; have bc2 := b2.2; simp only [maxLen] at bc2
 have hp0_ := pre0.1
 refine zad <| zaf (l := [0]) rfl <| p_v (v := .slice none 0 0) rfl rfl rfl (zai rfl) <| zab <| zad <| zaf (l := [0]) rfl <| p_v (v := .slice none 0 0) rfl rfl rfl (zai rfl) <| zab <| zad <| zad <| zaf (l := [0, 1, 2]) rfl <| p_v (v := .slice A0 l.length c0) rfl rfl rfl (zah rfl) ?_
 refine p_v (v := .int .i64 (l.length : Int)) rfl rfl rfl (za6 u23 rfl) <| p_v (v := .int .i64 0) rfl rfl rfl (zah rfl) <| zab <| zaz ?_
 have T1 := S0.row_nil 3 (Kd.int .i64)
 obtain ⟨vn1, ev1, T1⟩ : ∃ v, v = (.slice none 0 0 : Value) ∧ St w.heap.size w (fun _ => none) w ([] ++ [row 3 (Kd.int .i64) v []]) := ⟨_, rfl, T1⟩
 have S2 := T1
 dsimp only [lAa, lAn, lA0, lAs] at S2
 refine zcc (S := (List Int) × Int) (fun (q_ : (List Int) × Int) ρ w' => match q_ with | (out, t10) => ∃ (h : Ghost) (v_out : Value), Le (fun _ => none) h ∧ St w.heap.size w h w' [row 3 (Kd.int .i64) v_out out] ∧ ρ 1 = .pointer (some a1) ∧ ρ 2 = .pointer (some a2) ∧ ρ 5 = v_out ∧ ρ 8 = .slice A0 l.length c0 ∧ ρ 9 = .int .i64 (l.length : Int) ∧ ρ 10 = .int .i64 t10 ∧ inK .i64 t10 ∧ (0 ≤ t10 ∧ t10 ≤ (l.length : Int) ∧ out = zcl keep number (l.take t10.toNat))) (fun q_ => match q_ with | (out, t10) => (l.length - t10).toNat) (([] : List Int), 0) ⟨(fun _ => none), vn1, Le.refl _, S2.sub [0] (by decide) rfl _ rfl, rfl, rfl, (ev1.symm), rfl, rfl, rfl, (zat (by first|omega|(simp;omega)|assumption) (by first|omega|(simp;omega)|assumption)), (by exact ⟨by omega, by omega, left_0 _ _ _⟩)⟩ ?_
 rintro ⟨out, t10⟩ ih3 ρ3 w3 ⟨h3, v_out, le3, S3, r3_1, r3_2, r3_5, r3_8, r3_9, r3_10, f3_0, hI3⟩
 have lf3_0 := zb1 f3_0; have hf3_0 := zb2 f3_0
 have rl3_0 := S3.row_le (j := 0) rfl; simp only [maxLen] at rl3_0
 have hx_ : t10 < (l.length : Int) → 0 ≤ at_ l t10 ∧ at_ l t10 < (keep.length : Int) ∧ at_ l t10 < (number.length : Int) := fun h => pre0.2 _ (at_mem hI3.1 h)
 have hl_ : (out.length : Int) ≤ 250 := by rw [hI3.2.2]; have := left_take keep number l t10; omega
 refine zad <| zaf (l := [0]) rfl <| p_v (v := .bool (decide (t10 < (l.length : Int)))) rfl rfl rfl (x_lss r3_10 r3_9) <| zab <| zad ?_
 refine za3 (p := t10 < (l.length : Int)) rfl (fun hc4 => ?_) (fun hc4 => ?_)
 ·skip
  refine za9 <| zad <| zaz <| zad <| zaf (l := [0, 1, 2]) rfl ?_
  obtain ⟨ad5, seg5, a5, rp5, ce5⟩ := za5 (q := t10) (m := 1) l0 rfl (by first|omega|(simp;omega)|assumption) (by first|omega|(simp;omega)|assumption)
  refine p_v (v := .pointer (some ad5)) rfl rfl rfl (za4 u23 ty3 r3_8 r3_10 a5 (by first|omega|(simp;omega)|assumption) (by first|omega|(simp;omega)|assumption)) ?_
  obtain ⟨rfl, in5⟩ := rp5
  have lo5 := zb1 in5; have hi5 := zb2 in5
  refine p_v (v := .int .i64 (at_ l t10)) rfl rfl rfl (zan (seg := [.int .i64 (at_ l t10)]) ty3 rfl (by simp) rfl (CF.ghost ce5 (St.le0 S3))) <| p_v (v := .int .i64 (at_ l t10)) rfl rfl rfl (zai rfl) <| zab <| zad <| zaf (l := [0, 1, 2, 3]) rfl <| p_v (v := .slice A1 keep.length c1) rfl rfl rfl (zan (seg := [.slice A1 keep.length c1]) ty25 rfl (by simp) r3_1 (CF.ghost pc1 (St.le0 S3))) <| p_v (v := .int .i64 (at_ l t10)) rfl rfl rfl (zah rfl) ?_
  obtain ⟨ad6, seg6, a6, rp6, ce6⟩ := za5 (q := at_ l t10) (m := 1) l1 rfl (by first|omega|(simp;omega)|assumption) (by first|omega|(simp;omega)|assumption)
  refine p_v (v := .pointer (some ad6)) rfl rfl rfl (za4 u25 ty4 rfl rfl a6 (by first|omega|(simp;omega)|assumption) (by first|omega|(simp;omega)|assumption)) ?_
  obtain ⟨rfl, _⟩ := rp6
  refine p_v (v := .bool (at_ keep (at_ l t10))) rfl rfl rfl (zan (seg := [.bool (at_ keep (at_ l t10))]) ty4 rfl (by simp) rfl (CF.ghost ce6 (St.le0 S3))) <| zab ?_
  refine zb3 (b := at_ keep (at_ l t10)) rfl (fun hc7 => ?_) (fun hc7 => ?_)
  ·skip
   refine zaf (l := [0, 1, 2, 3, 4, 5, 6, 7]) rfl <| p_v (v := v_out) rfl rfl rfl (zah r3_5) <| p_v (v := .slice A2 number.length c2) rfl rfl rfl (zan (seg := [.slice A2 number.length c2]) ty23 rfl (by simp) r3_2 (CF.ghost pc2 (St.le0 S3))) <| p_v (v := .int .i64 (at_ l t10)) rfl rfl rfl (zah rfl) ?_
   obtain ⟨ad8, seg8, a8, rp8, ce8⟩ := za5 (q := at_ l t10) (m := 1) l2 rfl (by first|omega|(simp;omega)|assumption) (by first|omega|(simp;omega)|assumption)
   refine p_v (v := .pointer (some ad8)) rfl rfl rfl (za4 u23 ty3 rfl rfl a8 (by first|omega|(simp;omega)|assumption) (by first|omega|(simp;omega)|assumption)) ?_
   obtain ⟨rfl, in8⟩ := rp8
   have lo8 := zb1 in8; have hi8 := zb2 in8
   refine p_v (v := .int .i64 (at_ number (at_ l t10))) rfl rfl rfl (zan (seg := [.int .i64 (at_ number (at_ l t10))]) ty3 rfl (by simp) rfl (CF.ghost ce8 (St.le0 S3))) ?_
   obtain ⟨v9, w9, r9, g9, T9⟩ := za7 (kd := (Kd.int .i64)) (xs := ([at_ number (at_ l t10)] : List Int)) (len := 1) [.int .i64 (at_ number (at_ l t10))] S3 u23 ty3 rfl rfl rfl rfl rfl (zbj rfl zb4) [.int .i64 (at_ number (at_ l t10))] (zbl.single (k := (Kd.int .i64)) (h := h3) (x := at_ number (at_ l t10)) (cs := [.int .i64 (at_ number (at_ l t10))]) ⟨rfl, (zat (by first|omega|(simp;omega)|assumption) (by first|omega|(simp;omega)|assumption))⟩) rfl
   have S10 := T9
   dsimp only [lAa, lAn, lA0, lAs] at S10
   refine p_v (v := v9) rfl rfl rfl (zaw (pv := [(0, .int .i64 (at_ number (at_ l t10)))]) rfl r9) ?_
   obtain ⟨A12, c12, ev12, lc12, cm12⟩ := S10.row_val (j := 1) rfl
   obtain ⟨v13, w13, r13, g13, T13⟩ := e_append (kd := (Kd.int .i64)) (A := A12) (c := c12) (ys := ([at_ number (at_ l t10)] : List Int)) (len := ([at_ number (at_ l t10)] : List Int).length) 23 S10 u23 ty3 rfl rfl (j := 0) rfl rfl (news_own S10 (j := 1) rfl ev12) (by first|omega|(simp;omega)|assumption) (by first|omega|(simp;omega)|assumption)
   have S14 := T13.fx 0 (row 3 (Kd.int .i64) v13 (out ++ ([at_ number (at_ l t10)] : List Int))) rfl
   dsimp only [lAa, lAn, lA0, lAs] at S14
   refine p_v (v := v13) rfl rfl rfl (x_append rfl ev12 r13) <| p_v (v := v13) rfl rfl rfl (zai rfl) <| zab <| za2 <| zaf (l := [0, 1]) rfl <| p_v (v := .int .i64 (t10 + 1)) rfl rfl rfl (zcv r3_10 rfl (zat (by first|omega|(simp;omega)|assumption) (by first|omega|(simp;omega)|assumption))) <| p_v (v := .int .i64 (t10 + 1)) rfl rfl rfl (zah rfl) <| zab ?_
   refine ih3 (out ++ ([at_ number (at_ l t10)] : List Int), t10 + 1) _ _ (by dsimp only; omega) ⟨h3, v13, le3, S14.sub [0] (by decide) rfl _ rfl, r3_1, r3_2, rfl, r3_8, r3_9, rfl, (zat (by first|omega|(simp;omega)|assumption) (by first|omega|(simp;omega)|assumption)), (by first | exact ⟨by omega, by omega, by rw [hI3.2.2]; exact left_yes _ _ _ hI3.1 (by omega) (by assumption)⟩ | exact ⟨by omega, by omega, by rw [hI3.2.2]; exact left_no _ _ _ hI3.1 (by omega) (by assumption)⟩)⟩
  refine za9 <| za2 <| zaf (l := [0, 1]) rfl <| p_v (v := .int .i64 (t10 + 1)) rfl rfl rfl (zcv r3_10 rfl (zat (by first|omega|(simp;omega)|assumption) (by first|omega|(simp;omega)|assumption))) <| p_v (v := .int .i64 (t10 + 1)) rfl rfl rfl (zah rfl) <| zab ?_
  refine ih3 (out, t10 + 1) _ _ (by dsimp only; omega) ⟨h3, v_out, le3, S3.sub [0] (by decide) rfl _ rfl, r3_1, r3_2, r3_5, r3_8, r3_9, rfl, (zat (by first|omega|(simp;omega)|assumption) (by first|omega|(simp;omega)|assumption)), (by first | exact ⟨by omega, by omega, by rw [hI3.2.2]; exact left_yes _ _ _ hI3.1 (by omega) (by assumption)⟩ | exact ⟨by omega, by omega, by rw [hI3.2.2]; exact left_no _ _ _ hI3.1 (by omega) (by assumption)⟩)⟩
 refine zby rfl <| zad <| zaf (l := [0, 1]) rfl <| p_v (v := v_out) rfl rfl rfl (zah r3_5) <| p_v (v := v_out) rfl rfl rfl (zai rfl) <| zab <| zbi Try.func19 (res1 rfl (zbk (v := v_out) rfl)) ?_
 have q0 : (zcl keep number l : List Int) = out := by
  rw [hI3.2.2]; exact left_end _ _ _ (by omega)
 refine ⟨_, rfl, h3, v_out, ?_, ?_⟩
 · rw [q0]; exact S3.sub [0] (by decide) rfl _ rfl
 · first | rfl | (simp only [q0]; rfl) | (simp only [q0])
theorem trimN_calls (w : World) (m : Mach) (A0_0 : Option Addr) (c0_0 : Nat) (b0_0 : m.spots.length ≤ c0_0 ∧ c0_0 ≤ maxLen) (l0_0 : zbs zax (hp w) A0_0 m.spots) (A0_1 : Option Addr) (c0_1 : Nat) (b0_1 : m.first.length ≤ c0_1 ∧ c0_1 ≤ maxLen) (l0_1 : zbs (Kd.int .i64) (hp w) A0_1 m.first) (A0_2 : Option Addr) (c0_2 : Nat) (b0_2 : m.follow.length ≤ c0_2 ∧ c0_2 ≤ maxLen) (l0_2 : zbs (Kd.int .i64).slice (hp w) A0_2 m.follow) (A0_3 : Option Addr) (c0_3 : Nat) (b0_3 : m.last.length ≤ c0_3 ∧ c0_3 ≤ maxLen) (l0_3 : zbs Kd.bool (hp w) A0_3 m.last) :
    Calls Try.prog 8 #[.agg #[.slice A0_0 m.spots.length c0_0, .slice A0_1 m.first.length c0_1, .slice A0_2 m.follow.length c0_2, .slice A0_3 m.last.length c0_3, .bool m.empty]] w fun e w' => ∃ v, e = .returned v ∧ ∃ (hn : Ghost) (r0 : Value) (r1 : Value) (r2 : Value) (r3 : Value), St w.heap.size w hn w' [row 38 zax r0 ((zaj m).spots), row 3 (Kd.int .i64) r1 ((zaj m).first), row 23 (Kd.int .i64).slice r2 ((zaj m).follow), row 4 Kd.bool r3 ((zaj m).last)] ∧ v = .tuple #[.agg #[r0, r1, r2, r3, .bool ((zaj m).empty)], .int .i64 (errM m)] ∧ inK .i64 (errM m) := by
 refine za1 Try.func8 rfl Try.ntmps8 rfl ?_
 have S0 := St.init w
 have bb0_0 := b0_0.1; have bc0_0 := b0_0.2; simp only [maxLen] at bc0_0
 have bb0_1 := b0_1.1; have bc0_1 := b0_1.2; simp only [maxLen] at bc0_1
 have bb0_2 := b0_2.1; have bc0_2 := b0_2.2; simp only [maxLen] at bc0_2
 have bb0_3 := b0_3.1; have bc0_3 := b0_3.2; simp only [maxLen] at bc0_3
 refine zad <| zaf (l := [0, 1, 2]) rfl ?_
 obtain ⟨b1, w1, r1, g1, T1⟩ := zcb (P := Try.prog) S0 27 (v := .agg #[.slice A0_0 m.spots.length c0_0, .slice A0_1 m.first.length c0_1, .slice A0_2 m.follow.length c0_2, .slice A0_3 m.last.length c0_3, .bool m.empty]) [.slice A0_0 m.spots.length c0_0, .slice A0_1 m.first.length c0_1, .slice A0_2 m.follow.length c0_2, .slice A0_3 m.last.length c0_3, .bool m.empty] rfl
 have S2 := T1
 dsimp only [lAa, lAn, lA0, lAs] at S2
 refine p_v (v := .pointer (some ⟨b1, 0, none⟩)) rfl rfl rfl (x_box rfl r1) ?_
 obtain ⟨b3, w3, r3, g3, T3⟩ := zcb (P := Try.prog) S2 27 (v := (.agg #[.slice none 0 0, .slice none 0 0, .slice none 0 0, .slice none 0 0, .bool false])) [.slice none 0 0, .slice none 0 0, .slice none 0 0, .slice none 0 0, .bool false] rfl
 have S4 := T3
 dsimp only [lAa, lAn, lA0, lAs] at S4
 refine p_v (v := .pointer (some ⟨b3, 0, none⟩)) rfl rfl rfl (zbn ty27 r3) <| p_v (v := .int .i64 0) rfl rfl rfl (zai rfl) <| zab <| zad <| zad <| zaf (l := [0, 1, 2]) rfl <| p_v (v := .agg #[.slice A0_0 m.spots.length c0_0, .slice A0_1 m.first.length c0_1, .slice A0_2 m.follow.length c0_2, .slice A0_3 m.last.length c0_3, .bool m.empty]) rfl rfl rfl (zan (seg := [.slice A0_0 m.spots.length c0_0, .slice A0_1 m.first.length c0_1, .slice A0_2 m.follow.length c0_2, .slice A0_3 m.last.length c0_3, .bool m.empty]) ty27 rfl (by simp) rfl (CF.box (m := 5) (S4.box_at (j := 0) rfl) rfl)) <| p_c rfl rfl rfl (zbg (args := [.agg #[.slice A0_0 m.spots.length c0_0, .slice A0_1 m.first.length c0_1, .slice A0_2 m.follow.length c0_2, .slice A0_3 m.last.length c0_3, .bool m.empty]]) ca12 rfl rfl) (zc7 w3 m A0_0 c0_0 b0_0 (l0_0.mono (St.le0 S4)) A0_1 c0_1 b0_1 (l0_1.mono (St.le0 S4)) A0_2 c0_2 b0_2 (l0_2.mono (St.le0 S4)) A0_3 c0_3 b0_3 (l0_3.mono (St.le0 S4))) ?_
 rintro _ w5 ⟨h5, T5, rfl⟩
 have S6 := S4.keep (Chg.of_below T5.below)
 refine p_v (v := .bool (!(zbh m))) rfl rfl rfl (x_not rfl) <| zab ?_
 refine zb8 (b := zbh m) rfl (fun hc7 => ?_) (fun hc7 => ?_)
 ·skip
  refine zad <| zaf (l := [0, 1, 2]) rfl <| p_v (v := .agg #[.slice none 0 0, .slice none 0 0, .slice none 0 0, .slice none 0 0, .bool false]) rfl rfl rfl (zav (pv := []) rfl (zae pl27 ty27 rfl (cs := [.slice none 0 0, .slice none 0 0, .slice none 0 0, .slice none 0 0, .bool false]) rfl)) ?_
  obtain ⟨w8, r8, g8, T8⟩ := zbq (P := Try.prog) (off := 0) (v := .agg #[.slice none 0 0, .slice none 0 0, .slice none 0 0, .slice none 0 0, .bool false]) (vs := [.slice none 0 0, .slice none 0 0, .slice none 0 0, .slice none 0 0, .bool false]) S6 ty27 rfl rfl (j := 1) rfl (by first | decide | exact Nat.le_of_ble_eq_true rfl) (by simp [Value.oneCell'])
  have S9 : St w.heap.size w (fun _ => none) w8 [box b1 27 [.slice A0_0 m.spots.length c0_0, .slice A0_1 m.first.length c0_1, .slice A0_2 m.follow.length c0_2, .slice A0_3 m.last.length c0_3, .bool m.empty], box b3 27 [.slice none 0 0, .slice none 0 0, .slice none 0 0, .slice none 0 0, .bool false]] := T8
  refine p_s rfl rfl (zbd rfl rfl r8) <| p_v (v := .int .i64 1) rfl rfl rfl (zai rfl) <| zab ?_
  have T10 := S9.row_nil 38 zax
  have S11 := T10
  dsimp only [lAa, lAn, lA0, lAs] at S11
  have T12 := S11.row_nil 3 (Kd.int .i64)
  have S13 := T12
  dsimp only [lAa, lAn, lA0, lAs] at S13
  have T14 := S13.row_nil 23 (Kd.int .i64).slice
  have S15 := T14
  dsimp only [lAa, lAn, lA0, lAs] at S15
  have T16 := S15.row_nil 4 Kd.bool
  have S17 := T16
  dsimp only [lAa, lAn, lA0, lAs] at S17
  refine zbi Try.func8 (res2 rfl (res_cell S9 ty27 rfl (j := 1) rfl rfl (by simp) rfl) (zbk (v := .int .i64 1) rfl)) ?_
  have q0 : ((zaj m).spots : List Spot) = ([] : List Spot) := by
   first | (rw [zbe (by assumption)]; done) | (rw [zbe (by assumption)]) | exact zco (by assumption) | exact zcu (by assumption) | (rw [zbf (by assumption)]; done) | (rw [zbf (by assumption)]; first | rfl | (rw [hI_.2.2.1, show t47 = (m.spots.length : Int) by omega]; done) | (rw [hI_.2.2.2.1, show t47 = (m.spots.length : Int) by omega]; done) | (rw [hI_.2.2.2.2, show t47 = (m.spots.length : Int) by omega]; done) | (rw [hnum_, zcw]))
  have q1 : ((zaj m).first : List Int) = ([] : List Int) := by
   first | (rw [zbe (by assumption)]; done) | (rw [zbe (by assumption)]) | exact zco (by assumption) | exact zcu (by assumption) | (rw [zbf (by assumption)]; done) | (rw [zbf (by assumption)]; first | rfl | (rw [hI_.2.2.1, show t47 = (m.spots.length : Int) by omega]; done) | (rw [hI_.2.2.2.1, show t47 = (m.spots.length : Int) by omega]; done) | (rw [hI_.2.2.2.2, show t47 = (m.spots.length : Int) by omega]; done) | (rw [hnum_, zcw]))
  have q2 : ((zaj m).follow : List (List Int)) = ([] : List (List Int)) := by
   first | (rw [zbe (by assumption)]; done) | (rw [zbe (by assumption)]) | exact zco (by assumption) | exact zcu (by assumption) | (rw [zbf (by assumption)]; done) | (rw [zbf (by assumption)]; first | rfl | (rw [hI_.2.2.1, show t47 = (m.spots.length : Int) by omega]; done) | (rw [hI_.2.2.2.1, show t47 = (m.spots.length : Int) by omega]; done) | (rw [hI_.2.2.2.2, show t47 = (m.spots.length : Int) by omega]; done) | (rw [hnum_, zcw]))
  have q3 : ((zaj m).last : List Bool) = ([] : List Bool) := by
   first | (rw [zbe (by assumption)]; done) | (rw [zbe (by assumption)]) | exact zco (by assumption) | exact zcu (by assumption) | (rw [zbf (by assumption)]; done) | (rw [zbf (by assumption)]; first | rfl | (rw [hI_.2.2.1, show t47 = (m.spots.length : Int) by omega]; done) | (rw [hI_.2.2.2.1, show t47 = (m.spots.length : Int) by omega]; done) | (rw [hI_.2.2.2.2, show t47 = (m.spots.length : Int) by omega]; done) | (rw [hnum_, zcw]))
  have q4 : ((zaj m).empty : Bool) = false := by
   first | (rw [zbe (by assumption)]; done) | (rw [zbe (by assumption)]) | exact zco (by assumption) | exact zcu (by assumption) | (rw [zbf (by assumption)]; done) | (rw [zbf (by assumption)]; first | rfl | (rw [hI_.2.2.1, show t47 = (m.spots.length : Int) by omega]; done) | (rw [hI_.2.2.2.1, show t47 = (m.spots.length : Int) by omega]; done) | (rw [hI_.2.2.2.2, show t47 = (m.spots.length : Int) by omega]; done) | (rw [hnum_, zcw]))
  have q5 : (errM m : Int) = 1 := by
   first | (rw [zbe (by assumption)]; done) | (rw [zbe (by assumption)]) | exact zco (by assumption) | exact zcu (by assumption) | (rw [zbf (by assumption)]; done) | (rw [zbf (by assumption)]; first | rfl | (rw [hI_.2.2.1, show t47 = (m.spots.length : Int) by omega]; done) | (rw [hI_.2.2.2.1, show t47 = (m.spots.length : Int) by omega]; done) | (rw [hI_.2.2.2.2, show t47 = (m.spots.length : Int) by omega]; done) | (rw [hnum_, zcw]))
  refine ⟨_, rfl, (fun _ => none), (.slice none 0 0), (.slice none 0 0), (.slice none 0 0), (.slice none 0 0), ?_, ?_, ?_⟩
  · rw [q0]; rw [q1]; rw [q2]; rw [q3]; exact S17.sub [2, 3, 4, 5] (by decide) rfl _ rfl
  · first | rfl | (simp only [q0, q1, q2, q3, q4, q5]; rfl) | (simp only [q0, q1, q2, q3, q4, q5])
  · rw [q5]; exact (zat (by first|omega|(simp;omega)|assumption) (by first|omega|(simp;omega)|assumption))
 have hR_ := right_iff.1 hc7
 have hsm_ := hR_.small; have hfo_ := hR_.follow; have hla_ := hR_.last; have hkl_ := keepM_len m; have hss_ := hR_.small'; have hfi_ := hss_.first
 refine za9 <| zad <| zaf (l := [0, 1, 2, 3]) rfl <| p_v (v := .agg #[.slice A0_0 m.spots.length c0_0, .slice A0_1 m.first.length c0_1, .slice A0_2 m.follow.length c0_2, .slice A0_3 m.last.length c0_3, .bool m.empty]) rfl rfl rfl (zan (seg := [.slice A0_0 m.spots.length c0_0, .slice A0_1 m.first.length c0_1, .slice A0_2 m.follow.length c0_2, .slice A0_3 m.last.length c0_3, .bool m.empty]) ty27 rfl (by simp) rfl (CF.box (m := 5) (S6.box_at (j := 0) rfl) rfl)) <| p_c rfl rfl rfl (zbg (args := [.agg #[.slice A0_0 m.spots.length c0_0, .slice A0_1 m.first.length c0_1, .slice A0_2 m.follow.length c0_2, .slice A0_3 m.last.length c0_3, .bool m.empty]]) ca18 rfl rfl) (useful_calls w5 m A0_0 c0_0 b0_0 (l0_0.mono (St.le0 S6)) A0_1 c0_1 b0_1 (l0_1.mono (St.le0 S6)) A0_2 c0_2 b0_2 (l0_2.mono (St.le0 S6)) A0_3 c0_3 b0_3 (l0_3.mono (St.le0 S6)) (by assumption)) ?_
 rintro v18_0 w18 ⟨h18, _, T18, rfl⟩
 obtain ⟨k18, lk18, ll18, U18⟩ := zbp S6 T18
 have S19 := U18
 dsimp only [lAa, lAn, lA0, lAs] at S19
 obtain ⟨b20, w20, r20, g20, T20⟩ := zcb (P := Try.prog) S19 25 (v := (.slice none 0 0)) [.slice none 0 0] rfl
 have S21 := T20
 dsimp only [lAa, lAn, lA0, lAs] at S21
 refine p_v (v := .pointer (some ⟨b20, 0, none⟩)) rfl rfl rfl (zbn ty25 r20) ?_
 have oc23 := zba S21 (j := 2) rfl
 obtain ⟨w22, r22, g22, T22⟩ := zbq (P := Try.prog) (off := 0) (v := v18_0) (vs := [v18_0]) S21 ty25 (zac S21 (j := 2) rfl) rfl (j := 3) rfl (by first | decide | exact Nat.le_of_ble_eq_true rfl) (zao oc23 zb9)
 have S24 := T22.fx 3 (box b20 25 [v18_0]) rfl
 dsimp only [lAa, lAn, lA0, lAs] at S24
 refine p_s rfl rfl (zbd rfl rfl r22) <| zab <| zad <| zaf (l := [0, 1, 2, 3, 4]) rfl <| p_v (v := v18_0) rfl rfl rfl (zan (seg := [v18_0]) ty25 rfl (by simp) rfl (CF.box (m := 1) (S24.box_at (j := 3) rfl) rfl)) ?_
 have lb25 := S24.row_le (j := 2) rfl; simp only [maxLen] at lb25
 refine p_v (v := .int .i64 ((zbc m).length : Int)) rfl rfl rfl (x_len_own u25 rfl (e_len_own S24 (j := 2) rfl)) ?_
 obtain ⟨v26, w26, r26, g26, T26⟩ := zaq (kk := .i64) (kk' := .i64) (kd := (Kd.int .i64)) (q := ((zbc m).length : Int)) (z := (0 : Int)) (zc := [.int .i64 0]) S24 u23 ty3 rfl rfl ⟨rfl, by constructor <;> decide⟩ (by first|omega|(simp;omega)|assumption) (by first|omega|(simp;omega)|assumption) (by first|omega|(simp;omega)|assumption)
 have S27 := T26
 dsimp only [lAa, lAn, lA0, lAs] at S27
 refine p_v (v := v26) rfl rfl rfl (zap rfl rfl r26) ?_
 obtain ⟨b28, w28, r28, g28, T28⟩ := zcb (P := Try.prog) S27 23 (v := (.slice none 0 0)) [.slice none 0 0] rfl
 have S29 := T28
 dsimp only [lAa, lAn, lA0, lAs] at S29
 refine p_v (v := .pointer (some ⟨b28, 0, none⟩)) rfl rfl rfl (zbn ty23 r28) ?_
 have oc31 := zba S29 (j := 4) rfl
 obtain ⟨w30, r30, g30, T30⟩ := zbq (P := Try.prog) (off := 0) (v := v26) (vs := [v26]) S29 ty23 (zac S29 (j := 4) rfl) rfl (j := 5) rfl (by first | decide | exact Nat.le_of_ble_eq_true rfl) (zao oc31 zb9)
 have S32 := T30.fx 5 (box b28 23 [v26]) rfl
 dsimp only [lAa, lAn, lA0, lAs] at S32
 refine p_s rfl rfl (zbd rfl rfl r30) <| zab <| zad <| zaf (l := [0]) rfl <| p_v (v := .int .i64 0) rfl rfl rfl (zai rfl) <| zab <| zad <| zad <| zaf (l := [0, 1, 2]) rfl <| p_v (v := v18_0) rfl rfl rfl (zan (seg := [v18_0]) ty25 rfl (by simp) rfl (CF.box (m := 1) (S32.box_at (j := 3) rfl) rfl)) ?_
 have lb33 := S32.row_le (j := 2) rfl; simp only [maxLen] at lb33
 refine p_v (v := .int .i64 ((zbc m).length : Int)) rfl rfl rfl (x_len_own u25 rfl (e_len_own S32 (j := 2) rfl)) <| p_v (v := .int .i64 0) rfl rfl rfl (zah rfl) <| zab <| zaz <| zcc (S := (List Int) × Int × Int) (fun (q_ : (List Int) × Int × Int) ρ w' => match q_ with | (number, n, t24) => ∃ (h : Ghost) (v_number : Value), Le k18 h ∧ St w.heap.size w h w' [box b1 27 [.slice A0_0 m.spots.length c0_0, .slice A0_1 m.first.length c0_1, .slice A0_2 m.follow.length c0_2, .slice A0_3 m.last.length c0_3, .bool m.empty], box b3 27 [.slice none 0 0, .slice none 0 0, .slice none 0 0, .slice none 0 0, .bool false], row 4 Kd.bool v18_0 (zbc m), box b20 25 [v18_0], row 3 (Kd.int .i64) v_number number, box b28 23 [v_number]] ∧ ρ 1 = .pointer (some ⟨b1, 0, none⟩) ∧ ρ 2 = .pointer (some ⟨b3, 0, none⟩) ∧ ρ 4 = .pointer (some ⟨b20, 0, none⟩) ∧ ρ 5 = .pointer (some ⟨b28, 0, none⟩) ∧ ρ 6 = .int .i64 n ∧ ρ 22 = v18_0 ∧ ρ 23 = .int .i64 ((zbc m).length : Int) ∧ ρ 24 = .int .i64 t24 ∧ inK .i64 n ∧ inK .i64 t24 ∧ (0 ≤ t24 ∧ t24 ≤ (m.spots.length : Int) ∧ n = numAt (zbc m) t24 ∧ number = numsIn (zbc m) m.spots.length t24)) (fun q_ => match q_ with | (number, n, t24) => (m.spots.length - t24).toNat) (List.replicate (((zbc m).length : Int)).toNat (0 : Int), 0, 0) ⟨k18, v26, Le.refl _, S32.sub [0, 1, 2, 3, 4, 5] (by decide) rfl _ rfl, rfl, rfl, rfl, rfl, rfl, rfl, rfl, rfl, (zat (by first|omega|(simp;omega)|assumption) (by first|omega|(simp;omega)|assumption)), (zat (by first|omega|(simp;omega)|assumption) (by first|omega|(simp;omega)|assumption)), (by exact ⟨by omega, by omega, (num_at0 _).symm, by rw [hkl_]; exact numsIn_0 _ _⟩)⟩ ?_
 rintro ⟨number, n, t24⟩ ih34 ρ34 w34 ⟨h34, v_number, le34, S34, r34_1, r34_2, r34_4, r34_5, r34_6, r34_22, r34_23, r34_24, f34_0, f34_1, hI34⟩
 have lf34_0 := zb1 f34_0; have hf34_0 := zb2 f34_0
 have lf34_1 := zb1 f34_1; have hf34_1 := zb2 f34_1
 have rl34_2 := S34.row_le (j := 2) rfl; simp only [maxLen] at rl34_2
 have rl34_4 := S34.row_le (j := 4) rfl; simp only [maxLen] at rl34_4
 have hn_ := num_at_le (zbc m) hI34.1; rw [← hI34.2.2.1] at hn_
 have hnl_ : (number.length : Int) = m.spots.length := by rw [hI34.2.2.2, numsIn_len]
 refine zad <| zaf (l := [0]) rfl <| p_v (v := .bool (decide (t24 < ((zbc m).length : Int)))) rfl rfl rfl (x_lss r34_24 r34_23) <| zab <| zad ?_
 refine za3 (p := t24 < ((zbc m).length : Int)) rfl (fun hc35 => ?_) (fun hc35 => ?_)
 ·skip
  refine za9 <| zad <| zaz <| zad <| zaf (l := [0, 1, 2, 3, 4]) rfl <| p_v (v := .int .i64 t24) rfl rfl rfl (zah r34_24) ?_
  obtain ⟨ad36, a36, at36⟩ := zbo (q := t24) (m := 1) S34 (j := 2) rfl rfl (by first|omega|(simp;omega)|assumption) (by first|omega|(simp;omega)|assumption)
  refine p_v (v := .pointer (some ad36)) rfl rfl rfl (zbm u25 ty4 r34_22 r34_24 a36 (by first|omega|(simp;omega)|assumption) (by first|omega|(simp;omega)|assumption)) ?_
  obtain ⟨seg37, rp37, cf37⟩ := zc2 (q := t24) S34 (j := 2) rfl rfl at36 (by first|omega|(simp;omega)|assumption) (by first|omega|(simp;omega)|assumption)
  obtain ⟨rfl, _⟩ := rp37
  refine p_v (v := .bool (at_ (zbc m) t24)) rfl rfl rfl (zan (seg := [.bool (at_ (zbc m) t24)]) ty4 rfl (by simp) rfl cf37) <| p_v (v := .int .i64 t24) rfl rfl rfl (zai rfl) <| p_v (v := .bool (at_ (zbc m) t24)) rfl rfl rfl (zai rfl) <| zab <| zad <| zaf (l := [0, 1, 2, 3, 4]) rfl <| p_v (v := v_number) rfl rfl rfl (zan (seg := [v_number]) ty23 rfl (by simp) r34_5 (CF.box (m := 1) (S34.box_at (j := 5) rfl) rfl)) <| p_v (v := .int .i64 t24) rfl rfl rfl (zah rfl) <| p_v (v := .int .i64 n) rfl rfl rfl (zah r34_6) ?_
  obtain ⟨ad38, a38, at38⟩ := zbo (q := t24) (m := 1) S34 (j := 4) rfl rfl (by first|omega|(simp;omega)|assumption) (by first|omega|(simp;omega)|assumption)
  refine p_v (v := .pointer (some ad38)) rfl rfl rfl (zbm u23 ty3 rfl rfl a38 (by first|omega|(simp;omega)|assumption) (by first|omega|(simp;omega)|assumption)) ?_
  obtain ⟨w39, r39, g39, T39⟩ := zcq (u := .int .i64 n) (q := t24) n (vs := [.int .i64 n]) S34 ty3 rfl (j := 4) rfl rfl ⟨rfl, f34_0⟩ at38 (by first|omega|(simp;omega)|assumption) (by first|omega|(simp;omega)|assumption)
  have S40 := T39.fx 4 (row 3 (Kd.int .i64) v_number (number.set (t24).toNat n)) rfl
  dsimp only [lAa, lAn, lA0, lAs] at S40
  refine p_s rfl rfl (zbd rfl rfl r39) <| zab <| zad <| zaf (l := [0]) rfl <| p_v (v := .bool (at_ (zbc m) t24)) rfl rfl rfl (zah rfl) <| zab ?_
  refine zb3 (b := at_ (zbc m) t24) rfl (fun hc41 => ?_) (fun hc41 => ?_)
  ·skip
   refine zaf (l := [0, 1, 2]) rfl <| p_v (v := .int .i64 n) rfl rfl rfl (zah r34_6) <| p_v (v := .int .i64 (n + 1)) rfl rfl rfl (zcv rfl rfl (zat (by first|omega|(simp;omega)|assumption) (by first|omega|(simp;omega)|assumption))) <| p_v (v := .int .i64 (n + 1)) rfl rfl rfl (zai rfl) <| zab <| za2 <| zaf (l := [0, 1]) rfl <| p_v (v := .int .i64 (t24 + 1)) rfl rfl rfl (zcv r34_24 rfl (zat (by first|omega|(simp;omega)|assumption) (by first|omega|(simp;omega)|assumption))) <| p_v (v := .int .i64 (t24 + 1)) rfl rfl rfl (zah rfl) <| zab ?_
   refine ih34 (number.set (t24).toNat n, n + 1, t24 + 1) _ _ (by dsimp only; omega) ⟨h34, v_number, le34, S40.sub [0, 1, 2, 3, 4, 5] (by decide) rfl _ rfl, r34_1, r34_2, r34_4, r34_5, rfl, r34_22, r34_23, rfl, (zat (by first|omega|(simp;omega)|assumption) (by first|omega|(simp;omega)|assumption)), (zat (by first|omega|(simp;omega)|assumption) (by first|omega|(simp;omega)|assumption)), (by first | exact ⟨by omega, by omega, by rw [hI34.2.2.1, num_at1 _ hI34.1 (by assumption)], by rw [hI34.2.2.1, hI34.2.2.2]; exact numsIn_step _ _ hI34.1 (by omega)⟩ | exact ⟨by omega, by omega, by rw [hI34.2.2.1, num_at2 _ hI34.1 (by assumption)], by rw [hI34.2.2.1, hI34.2.2.2]; exact numsIn_step _ _ hI34.1 (by omega)⟩)⟩
  refine za9 <| za2 <| zaf (l := [0, 1]) rfl <| p_v (v := .int .i64 (t24 + 1)) rfl rfl rfl (zcv r34_24 rfl (zat (by first|omega|(simp;omega)|assumption) (by first|omega|(simp;omega)|assumption))) <| p_v (v := .int .i64 (t24 + 1)) rfl rfl rfl (zah rfl) <| zab ?_
  refine ih34 (number.set (t24).toNat n, n, t24 + 1) _ _ (by dsimp only; omega) ⟨h34, v_number, le34, S40.sub [0, 1, 2, 3, 4, 5] (by decide) rfl _ rfl, r34_1, r34_2, r34_4, r34_5, r34_6, r34_22, r34_23, rfl, f34_0, (zat (by first|omega|(simp;omega)|assumption) (by first|omega|(simp;omega)|assumption)), (by first | exact ⟨by omega, by omega, by rw [hI34.2.2.1, num_at1 _ hI34.1 (by assumption)], by rw [hI34.2.2.1, hI34.2.2.2]; exact numsIn_step _ _ hI34.1 (by omega)⟩ | exact ⟨by omega, by omega, by rw [hI34.2.2.1, num_at2 _ hI34.1 (by assumption)], by rw [hI34.2.2.1, hI34.2.2.2]; exact numsIn_step _ _ hI34.1 (by omega)⟩)⟩
 have hnl2_ : (number.length : Int) = m.spots.length := hnl_
 have leftPre_ : ∀ l : List Int, ((l.length : Int) ≤ 250 ∧ ∀ x ∈ l, 0 ≤ x ∧ x < (m.spots.length : Int)) → ((l.length : Int) ≤ 250 ∧ ∀ x ∈ l, 0 ≤ x ∧ x < ((zbc m).length : Int) ∧ x < (number.length : Int)) := fun l h => ⟨h.1, fun x hx => by have := h.2 x hx; omega⟩
 have hnum_ : number = numsL (zbc m) m.spots.length := by rw [hI34.2.2.2]; exact numsIn_end _ (by omega)
 refine zby rfl <| zad <| zaf (l := [0, 1]) rfl ?_
 obtain ⟨h42, le42, T42, rp42⟩ := S34.freeze (i := 2) rfl
 have S43 := T42.fx 2 (emp) rfl
 dsimp only [lAa, lAn, lA0, lAs] at S43
 obtain ⟨A42, c42, e42, lc42, cm42, ld42⟩ := rp42
 injection e42 with e42 _; subst e42
 have cn42 := cm42; simp only [maxLen] at cn42
 obtain ⟨h44, le44, T44, rp44⟩ := S43.freeze (i := 4) rfl
 have S45 : St w.heap.size w h44 w34 [box b1 27 [.slice A0_0 m.spots.length c0_0, .slice A0_1 m.first.length c0_1, .slice A0_2 m.follow.length c0_2, .slice A0_3 m.last.length c0_3, .bool m.empty], box b3 27 [.slice none 0 0, .slice none 0 0, .slice none 0 0, .slice none 0 0, .bool false], emp, box b20 25 [.slice A42 (zbc m).length c42], emp, box b28 23 [v_number]] := T44
 obtain ⟨A44, c44, e44, lc44, cm44, ld44⟩ := rp44
 injection e44 with e44 _; subst e44
 have cn44 := cm44; simp only [maxLen] at cn44
 refine p_v (v := .func (.func 19) #[] #[.pointer (some ⟨b20, 0, none⟩), .pointer (some ⟨b28, 0, none⟩)]) rfl rfl rfl (y_makeFunc (fv := []) (cv := [.pointer (some ⟨b20, 0, none⟩), .pointer (some ⟨b28, 0, none⟩)]) rfl (zbr r34_4 (zbr r34_5 rfl))) <| p_v (v := .func (.func 19) #[] #[.pointer (some ⟨b20, 0, none⟩), .pointer (some ⟨b28, 0, none⟩)]) rfl rfl rfl (zai rfl) <| zab <| zad ?_
 have hf46 : (CFs ⟨b1, 1, none⟩ [.slice A0_1 m.first.length c0_1]).1 w34 := (CF.box (m := 1) (S45.box_at (j := 0) rfl) rfl)
 have hf47 : (CFs ⟨b1, 4, none⟩ [.bool m.empty]).1 w34 := (CF.box (m := 1) (S45.box_at (j := 0) rfl) rfl)
 refine daS (hkC 2 hf46 (hkC 5 hf47 (hkN (w := w34)))) 9 rfl mixed ?_
 intro wd48 gd48 hd48
 have S49 := S45.keep gd48
 have hf50 := spUp gd48 hf46
 have hf51 := spUp gd48 hf47
 refine qd0 (i := 0) (v := .func (.func 19) #[] #[.pointer (some ⟨b20, 0, none⟩), .pointer (some ⟨b28, 0, none⟩)]) rfl (by decide +kernel) rfl rfl (zah rfl) (zau rfl) <| qd0 (i := 1) (v := .pointer (some ⟨b1, 1, none⟩)) rfl (by decide +kernel) rfl rfl (zas fd27_1 ty23 rfl r34_1) (zau rfl) <| qd1 0 (i := 2) (v := .slice A0_1 m.first.length c0_1) rfl rfl (by decide +kernel) rfl rfl (fun wq hq => (zan (seg := [.slice A0_1 m.first.length c0_1]) ty23 rfl (by simp) rfl hq)) (of_eq hf50 (zau rfl)) <| qd0 (i := 4) (v := .pointer (some ⟨b1, 4, none⟩)) rfl (by decide +kernel) rfl rfl (zas fd27_4 ty4 rfl r34_1) (zau rfl) <| qd1 1 (i := 5) (v := .bool m.empty) rfl rfl (by decide +kernel) rfl rfl (fun wq hq => (zan (seg := [.bool m.empty]) ty4 rfl (by simp) rfl hq)) (zc1 rfl (of_eq hf51 (zau rfl))) ?_
 refine ra_join (fun ρ w' => ∃ (h : Ghost) (j79_b64 : Nat) (j79_v56_0 : Value), Le h44 h ∧ St w.heap.size w h w' [box b1 27 [.slice A0_0 m.spots.length c0_0, .slice A0_1 m.first.length c0_1, .slice A0_2 m.follow.length c0_2, .slice A0_3 m.last.length c0_3, .bool m.empty], box b3 27 [.slice none 0 0, .slice none 0 0, .slice none 0 0, .slice none 0 0, .bool false], box b20 25 [.slice A42 (zbc m).length c42], box b28 23 [.slice A44 number.length c44], row 3 (Kd.int .i64) j79_v56_0 (zcl (zbc m) number m.first), box j79_b64 27 [.slice none 0 0, j79_v56_0, .slice none 0 0, .slice none 0 0, .bool m.empty]] ∧ ρ 1 = .pointer (some ⟨b1, 0, none⟩) ∧ ρ 2 = .pointer (some ⟨b3, 0, none⟩) ∧ ρ 4 = .pointer (some ⟨b20, 0, none⟩) ∧ ρ 9 = .func (.func 19) #[] #[.pointer (some ⟨b20, 0, none⟩), .pointer (some ⟨b28, 0, none⟩)] ∧ ρ 10 = .pointer (some ⟨j79_b64, 0, none⟩)) ?_ (fun jn79 => ?_)
 ·skip
  rintro ρj79 wj79 ⟨hj79, j79_b64, j79_v56_0, lej79, Sj79, rj79_1, rj79_2, rj79_4, rj79_9, rj79_10⟩
  have jr79_4 := Sj79.row_le (j := 4) rfl; simp only [maxLen] at jr79_4
  refine zad <| zad <| zaf (l := [0, 1, 2]) rfl <| p_v (v := .slice A42 (zbc m).length c42) rfl rfl rfl (zan (seg := [.slice A42 (zbc m).length c42]) ty25 rfl (by simp) rj79_4 (CF.box (m := 1) (Sj79.box_at (j := 2) rfl) rfl)) <| p_v (v := .int .i64 ((zbc m).length : Int)) rfl rfl rfl (za6 u25 rfl) <| p_v (v := .int .i64 0) rfl rfl rfl (zah rfl) <| zab <| zaz ?_
  have T80 := Sj79.row_nil 38 zax
  obtain ⟨vn80, ev80, T80⟩ : ∃ v, v = (.slice none 0 0 : Value) ∧ St w.heap.size w hj79 wj79 [box b1 27 [.slice A0_0 m.spots.length c0_0, .slice A0_1 m.first.length c0_1, .slice A0_2 m.follow.length c0_2, .slice A0_3 m.last.length c0_3, .bool m.empty], box b3 27 [.slice none 0 0, .slice none 0 0, .slice none 0 0, .slice none 0 0, .bool false], box b20 25 [.slice A42 (zbc m).length c42], box b28 23 [.slice A44 number.length c44], row 3 (Kd.int .i64) j79_v56_0 (zcl (zbc m) number m.first), box j79_b64 27 [v, j79_v56_0, .slice none 0 0, .slice none 0 0, .bool m.empty], row 38 zax v ([] : List Spot)] := ⟨_, rfl, T80⟩
  have S81 : St w.heap.size w hj79 wj79 [box b1 27 [.slice A0_0 m.spots.length c0_0, .slice A0_1 m.first.length c0_1, .slice A0_2 m.follow.length c0_2, .slice A0_3 m.last.length c0_3, .bool m.empty], box b3 27 [.slice none 0 0, .slice none 0 0, .slice none 0 0, .slice none 0 0, .bool false], box b20 25 [.slice A42 (zbc m).length c42], box b28 23 [.slice A44 number.length c44], row 3 (Kd.int .i64) j79_v56_0 (zcl (zbc m) number m.first), box j79_b64 27 [vn80, j79_v56_0, .slice none 0 0, .slice none 0 0, .bool m.empty], row 38 zax vn80 ([] : List Spot)] := T80
  have T82 := S81.row_nil 23 (Kd.int .i64).slice
  obtain ⟨vn82, ev82, T82⟩ : ∃ v, v = (.slice none 0 0 : Value) ∧ St w.heap.size w hj79 wj79 [box b1 27 [.slice A0_0 m.spots.length c0_0, .slice A0_1 m.first.length c0_1, .slice A0_2 m.follow.length c0_2, .slice A0_3 m.last.length c0_3, .bool m.empty], box b3 27 [.slice none 0 0, .slice none 0 0, .slice none 0 0, .slice none 0 0, .bool false], box b20 25 [.slice A42 (zbc m).length c42], box b28 23 [.slice A44 number.length c44], row 3 (Kd.int .i64) j79_v56_0 (zcl (zbc m) number m.first), box j79_b64 27 [vn80, j79_v56_0, v, .slice none 0 0, .bool m.empty], row 38 zax vn80 ([] : List Spot), row 23 (Kd.int .i64).slice v ([] : List (List Int))] := ⟨_, rfl, T82⟩
  have S83 : St w.heap.size w hj79 wj79 [box b1 27 [.slice A0_0 m.spots.length c0_0, .slice A0_1 m.first.length c0_1, .slice A0_2 m.follow.length c0_2, .slice A0_3 m.last.length c0_3, .bool m.empty], box b3 27 [.slice none 0 0, .slice none 0 0, .slice none 0 0, .slice none 0 0, .bool false], box b20 25 [.slice A42 (zbc m).length c42], box b28 23 [.slice A44 number.length c44], row 3 (Kd.int .i64) j79_v56_0 (zcl (zbc m) number m.first), box j79_b64 27 [vn80, j79_v56_0, vn82, .slice none 0 0, .bool m.empty], row 38 zax vn80 ([] : List Spot), row 23 (Kd.int .i64).slice vn82 ([] : List (List Int))] := T82
  have T84 := S83.row_nil 4 Kd.bool
  obtain ⟨vn84, ev84, T84⟩ : ∃ v, v = (.slice none 0 0 : Value) ∧ St w.heap.size w hj79 wj79 [box b1 27 [.slice A0_0 m.spots.length c0_0, .slice A0_1 m.first.length c0_1, .slice A0_2 m.follow.length c0_2, .slice A0_3 m.last.length c0_3, .bool m.empty], box b3 27 [.slice none 0 0, .slice none 0 0, .slice none 0 0, .slice none 0 0, .bool false], box b20 25 [.slice A42 (zbc m).length c42], box b28 23 [.slice A44 number.length c44], row 3 (Kd.int .i64) j79_v56_0 (zcl (zbc m) number m.first), box j79_b64 27 [vn80, j79_v56_0, vn82, v, .bool m.empty], row 38 zax vn80 ([] : List Spot), row 23 (Kd.int .i64).slice vn82 ([] : List (List Int)), row 4 Kd.bool v ([] : List Bool)] := ⟨_, rfl, T84⟩
  have S85 : St w.heap.size w hj79 wj79 [box b1 27 [.slice A0_0 m.spots.length c0_0, .slice A0_1 m.first.length c0_1, .slice A0_2 m.follow.length c0_2, .slice A0_3 m.last.length c0_3, .bool m.empty], box b3 27 [.slice none 0 0, .slice none 0 0, .slice none 0 0, .slice none 0 0, .bool false], box b20 25 [.slice A42 (zbc m).length c42], box b28 23 [.slice A44 number.length c44], row 3 (Kd.int .i64) j79_v56_0 (zcl (zbc m) number m.first), box j79_b64 27 [vn80, j79_v56_0, vn82, vn84, .bool m.empty], row 38 zax vn80 ([] : List Spot), row 23 (Kd.int .i64).slice vn82 ([] : List (List Int)), row 4 Kd.bool vn84 ([] : List Bool)] := T84
  refine zcc (S := (List Spot) × (List (List Int)) × (List Bool) × Int) (fun (q_ : (List Spot) × (List (List Int)) × (List Bool) × Int) ρ w' => match q_ with | (t_0, t_2, t_3, t47) => ∃ (h : Ghost) (v_t_0 : Value) (v_t_2 : Value) (v_t_3 : Value), Le hj79 h ∧ St w.heap.size w h w' [box b1 27 [.slice A0_0 m.spots.length c0_0, .slice A0_1 m.first.length c0_1, .slice A0_2 m.follow.length c0_2, .slice A0_3 m.last.length c0_3, .bool m.empty], box b3 27 [.slice none 0 0, .slice none 0 0, .slice none 0 0, .slice none 0 0, .bool false], box b20 25 [.slice A42 (zbc m).length c42], box b28 23 [.slice A44 number.length c44], row 3 (Kd.int .i64) j79_v56_0 (zcl (zbc m) number m.first), box j79_b64 27 [v_t_0, j79_v56_0, v_t_2, v_t_3, .bool m.empty], row 38 zax v_t_0 t_0, row 23 (Kd.int .i64).slice v_t_2 t_2, row 4 Kd.bool v_t_3 t_3] ∧ ρ 1 = .pointer (some ⟨b1, 0, none⟩) ∧ ρ 2 = .pointer (some ⟨b3, 0, none⟩) ∧ ρ 9 = .func (.func 19) #[] #[.pointer (some ⟨b20, 0, none⟩), .pointer (some ⟨b28, 0, none⟩)] ∧ ρ 10 = .pointer (some ⟨j79_b64, 0, none⟩) ∧ ρ 45 = .slice A42 (zbc m).length c42 ∧ ρ 46 = .int .i64 ((zbc m).length : Int) ∧ ρ 47 = .int .i64 t47 ∧ inK .i64 t47 ∧ (0 ≤ t47 ∧ t47 ≤ (m.spots.length : Int) ∧ t_0 = zcx m t47 ∧ t_2 = zck m t47 ∧ t_3 = lastTp m t47)) (fun q_ => match q_ with | (t_0, t_2, t_3, t47) => (m.spots.length - t47).toNat) (([] : List Spot), ([] : List (List Int)), ([] : List Bool), 0) ⟨hj79, vn80, vn82, vn84, Le.refl _, S85.sub [0, 1, 2, 3, 4, 5, 6, 7, 8] (by decide) rfl _ rfl, rj79_1, rj79_2, rj79_9, rj79_10, rfl, rfl, rfl, (zat (by first|omega|(simp;omega)|assumption) (by first|omega|(simp;omega)|assumption)), (by exact ⟨by omega, by omega, spotsTo_0 m, followTo_0 m, lastTo_0 m⟩)⟩ ?_
  rintro ⟨t_0, t_2, t_3, t47⟩ ih86 ρ86 w86 ⟨h86, v_t_0, v_t_2, v_t_3, le86, S86, r86_1, r86_2, r86_9, r86_10, r86_45, r86_46, r86_47, f86_0, hI86⟩
  have lf86_0 := zb1 f86_0; have hf86_0 := zb2 f86_0
  have rl86_4 := S86.row_le (j := 4) rfl; simp only [maxLen] at rl86_4
  have rl86_6 := S86.row_le (j := 6) rfl; simp only [maxLen] at rl86_6
  have rl86_7 := S86.row_le (j := 7) rfl; simp only [maxLen] at rl86_7
  have rl86_8 := S86.row_le (j := 8) rfl; simp only [maxLen] at rl86_8
  have hq0_ : (t_0.length : Int) ≤ t47 := by rw [hI86.2.2.1]; exact spotsTo_len m hI86.1
  have hq2_ : (t_2.length : Int) ≤ t47 := by rw [hI86.2.2.2.1]; exact followTo_len m hI86.1
  have hq3_ : (t_3.length : Int) ≤ t47 := by rw [hI86.2.2.2.2]; exact lastTo_len m hI86.1
  have hi47_ := hI86.1
  refine zad <| zaf (l := [0]) rfl <| p_v (v := .bool (decide (t47 < ((zbc m).length : Int)))) rfl rfl rfl (x_lss r86_47 r86_46) <| zab <| zad ?_
  refine za3 (p := t47 < ((zbc m).length : Int)) rfl (fun hc87 => ?_) (fun hc87 => ?_)
  ·skip
   refine za9 <| zad <| zaz <| zad <| zaf (l := [0, 1, 2, 3, 4]) rfl <| p_v (v := .int .i64 t47) rfl rfl rfl (zah r86_47) ?_
   obtain ⟨ad88, seg88, a88, rp88, ce88⟩ := za5 (q := t47) (m := 1) ld42 rfl (by first|omega|(simp;omega)|assumption) (by first|omega|(simp;omega)|assumption)
   refine p_v (v := .pointer (some ad88)) rfl rfl rfl (za4 u25 ty4 r86_45 r86_47 a88 (by first|omega|(simp;omega)|assumption) (by first|omega|(simp;omega)|assumption)) ?_
   obtain ⟨rfl, _⟩ := rp88
   refine p_v (v := .bool (at_ (zbc m) t47)) rfl rfl rfl (zan (seg := [.bool (at_ (zbc m) t47)]) ty4 rfl (by simp) rfl (CF.ghost ce88 (((((le44).trans lej79)).trans le86).trans S86.ghost))) <| p_v (v := .int .i64 t47) rfl rfl rfl (zai rfl) <| p_v (v := .bool (at_ (zbc m) t47)) rfl rfl rfl (zai rfl) <| zab <| zad <| zaf (l := [0]) rfl <| p_v (v := .bool (at_ (zbc m) t47)) rfl rfl rfl (zah rfl) <| zab ?_
   refine zb3 (b := at_ (zbc m) t47) rfl (fun hc89 => ?_) (fun hc89 => ?_)
   ·skip
    refine zad ?_
    obtain ⟨ad90, seg90, a90, rp90, ce90⟩ := za5 (q := t47) (m := 5) l0_0 rfl (by first|omega|(simp;omega)|assumption) (by first|omega|(simp;omega)|assumption)
    obtain ⟨rfl, ok90⟩ := rp90
    have slook90 := u8_lo ok90; have shiok90 := u8_hi ok90
    obtain ⟨ad91, seg91, a91, rp91, ce91⟩ := za5 (q := t47) (m := 1) l0_3 rfl (by first|omega|(simp;omega)|assumption) (by first|omega|(simp;omega)|assumption)
    obtain ⟨rfl, _⟩ := rp91
    have hf92 : (CFs ⟨j79_b64, 0, none⟩ [v_t_0]).1 w86 := (CF.box (m := 1) (S86.box_at (j := 5) rfl) rfl)
    have hf93 : (CFs ⟨b1, 0, none⟩ [.slice A0_0 m.spots.length c0_0]).1 w86 := (CF.box (m := 1) (S86.box_at (j := 0) rfl) rfl)
    have hf94 : (CFs ad90 (zak (at_ m.spots t47))).1 w86 := (CF.ghost ce90 (St.le0 S86))
    have hf95 : (CFs ⟨j79_b64, 3, none⟩ [v_t_3]).1 w86 := (CF.box (m := 1) (S86.box_at (j := 5) rfl) rfl)
    have hf96 : (CFs ⟨b1, 3, none⟩ [.slice A0_3 m.last.length c0_3]).1 w86 := (CF.box (m := 1) (S86.box_at (j := 0) rfl) rfl)
    have hf97 : (CFs ad91 [.bool (at_ m.last t47)]).1 w86 := (CF.ghost ce91 (St.le0 S86))
    refine daS (hkC 1 hf92 (hkC 3 hf93 (hkC 6 hf94 (hkC 10 hf95 (hkC 12 hf96 (hkC 15 hf97 (hkN (w := w86)))))))) 22 rfl mixed ?_
    intro wd98 gd98 hd98
    have S99 := S86.keep gd98
    have hf100 := spUp gd98 hf92
    have hf101 := spUp gd98 hf93
    have hf102 := spUp gd98 hf94
    have hf103 := spUp gd98 hf95
    have hf104 := spUp gd98 hf96
    have hf105 := spUp gd98 hf97
    refine qd0 (i := 0) (v := .pointer (some ⟨j79_b64, 0, none⟩)) rfl (by decide +kernel) rfl rfl (zas fd27_0 ty22 rfl r86_10) (zau rfl) <| qd1 0 (i := 1) (v := v_t_0) rfl rfl (by decide +kernel) rfl rfl (fun wq hq => (zan (seg := [v_t_0]) ty22 rfl (by simp) rfl hq)) (of_eq hf100 (zau rfl)) <| qd0 (i := 2) (v := .pointer (some ⟨b1, 0, none⟩)) rfl (by decide +kernel) rfl rfl (zas fd27_0 ty22 rfl r86_1) (zau rfl) <| qd1 1 (i := 3) (v := .slice A0_0 m.spots.length c0_0) rfl rfl (by decide +kernel) rfl rfl (fun wq hq => (zan (seg := [.slice A0_0 m.spots.length c0_0]) ty22 rfl (by simp) rfl hq)) (zc1 rfl (of_eq hf101 (zau rfl))) <| qd0 (i := 4) (v := .int .i64 t47) rfl (by decide +kernel) rfl rfl (zah rfl) (zau rfl) <| qd0 (i := 5) (v := .pointer (some ad90)) rfl (by decide +kernel) rfl rfl (za4 u22 ty38 rfl rfl a90 (by first|omega|(simp;omega)|assumption) (by first|omega|(simp;omega)|assumption)) (zau rfl) <| qd1 2 (i := 6) (v := .agg (zak (at_ m.spots t47)).toArray) rfl rfl (by decide +kernel) rfl rfl (fun wq hq => (zan (seg := (zak (at_ m.spots t47))) ty38 rfl (by simp) rfl hq)) (zc1 rfl (zc1 rfl (of_eq hf102 (zau rfl)))) <| qd0 (i := 9) (v := .pointer (some ⟨j79_b64, 3, none⟩)) rfl (by decide +kernel) rfl rfl (zas fd27_3 ty25 rfl r86_10) (zau rfl) <| qd1 3 (i := 10) (v := v_t_3) rfl rfl (by decide +kernel) rfl rfl (fun wq hq => (zan (seg := [v_t_3]) ty25 rfl (by simp) rfl hq)) (zc1 rfl (zc1 rfl (zc1 rfl (of_eq hf103 (zau rfl))))) <| qd0 (i := 11) (v := .pointer (some ⟨b1, 3, none⟩)) rfl (by decide +kernel) rfl rfl (zas fd27_3 ty25 rfl r86_1) (zau rfl) <| qd1 4 (i := 12) (v := .slice A0_3 m.last.length c0_3) rfl rfl (by decide +kernel) rfl rfl (fun wq hq => (zan (seg := [.slice A0_3 m.last.length c0_3]) ty25 rfl (by simp) rfl hq)) (zc1 rfl (zc1 rfl (zc1 rfl (zc1 rfl (of_eq hf104 (zau rfl)))))) <| qd0 (i := 13) (v := .int .i64 t47) rfl (by decide +kernel) rfl rfl (zah rfl) (zau rfl) ?_
    refine qd0 (i := 14) (v := .pointer (some ad91)) rfl (by decide +kernel) rfl rfl (za4 u25 ty4 rfl rfl a91 (by first|omega|(simp;omega)|assumption) (by first|omega|(simp;omega)|assumption)) (zau rfl) <| qd1 5 (i := 15) (v := .bool (at_ m.last t47)) rfl rfl (by decide +kernel) rfl rfl (fun wq hq => (zan (seg := [.bool (at_ m.last t47)]) ty4 rfl (by simp) rfl hq)) (zc1 rfl (zc1 rfl (zc1 rfl (zc1 rfl (zc1 rfl (of_eq hf105 (zau rfl))))))) ?_
    refine ra_join (fun ρ w' => ∃ (h : Ghost) (j204_v132 : Value) (j204_v166 : Value), Le h86 h ∧ St w.heap.size w h w' [box b1 27 [.slice A0_0 m.spots.length c0_0, .slice A0_1 m.first.length c0_1, .slice A0_2 m.follow.length c0_2, .slice A0_3 m.last.length c0_3, .bool m.empty], box b3 27 [.slice none 0 0, .slice none 0 0, .slice none 0 0, .slice none 0 0, .bool false], box b20 25 [.slice A42 (zbc m).length c42], box b28 23 [.slice A44 number.length c44], row 3 (Kd.int .i64) j79_v56_0 (zcl (zbc m) number m.first), box j79_b64 27 [j204_v132, j79_v56_0, v_t_2, j204_v166, .bool m.empty], row 38 zax j204_v132 (t_0 ++ ([at_ m.spots t47] : List Spot)), row 23 (Kd.int .i64).slice v_t_2 t_2, row 4 Kd.bool j204_v166 (t_3 ++ ([at_ m.last t47] : List Bool))] ∧ ρ 1 = .pointer (some ⟨b1, 0, none⟩) ∧ ρ 2 = .pointer (some ⟨b3, 0, none⟩) ∧ ρ 9 = .func (.func 19) #[] #[.pointer (some ⟨b20, 0, none⟩), .pointer (some ⟨b28, 0, none⟩)] ∧ ρ 10 = .pointer (some ⟨j79_b64, 0, none⟩) ∧ ρ 11 = .int .i64 t47 ∧ ρ 45 = .slice A42 (zbc m).length c42 ∧ ρ 46 = .int .i64 ((zbc m).length : Int) ∧ ρ 47 = .int .i64 t47) ?_ (fun jn204 => ?_)
    ·skip
     rintro ρj204 wj204 ⟨hj204, j204_v132, j204_v166, lej204, Sj204, rj204_1, rj204_2, rj204_9, rj204_10, rj204_11, rj204_45, rj204_46, rj204_47⟩
     have jr204_4 := Sj204.row_le (j := 4) rfl; simp only [maxLen] at jr204_4
     have jr204_6 := Sj204.row_le (j := 6) rfl; simp only [maxLen] at jr204_6
     have jr204_7 := Sj204.row_le (j := 7) rfl; simp only [maxLen] at jr204_7
     have jr204_8 := Sj204.row_le (j := 8) rfl; simp only [maxLen] at jr204_8
     obtain ⟨ad205, seg205, a205, rp205, ce205⟩ := za5 (q := t47) (m := 1) l0_2 rfl (by first|omega|(simp;omega)|assumption) (by first|omega|(simp;omega)|assumption)
     obtain ⟨A205, c205, rfl, lc205, cm205, ld205⟩ := rp205
     have cn205 := cm205; simp only [maxLen] at cn205
     have hf206 : (CFs ⟨j79_b64, 2, none⟩ [v_t_2]).1 wj204 := (CF.box (m := 1) (Sj204.box_at (j := 5) rfl) rfl)
     have hf207 : (CFs ⟨b1, 2, none⟩ [.slice A0_2 m.follow.length c0_2]).1 wj204 := (CF.box (m := 1) (Sj204.box_at (j := 0) rfl) rfl)
     have hf208 : (CFs ad205 [.slice A205 (at_ m.follow t47).length c205]).1 wj204 := (CF.ghost ce205 (St.le0 Sj204))
     refine daS (hkC 1 hf206 (hkC 4 hf207 (hkC 7 hf208 (hkN (w := wj204))))) 13 rfl mixed ?_
     intro wd209 gd209 hd209
     have S210 := Sj204.keep gd209
     have hf211 := spUp gd209 hf206
     have hf212 := spUp gd209 hf207
     have hf213 := spUp gd209 hf208
     refine qd0 (i := 0) (v := .pointer (some ⟨j79_b64, 2, none⟩)) rfl (by decide +kernel) rfl rfl (zas fd27_2 ty24 rfl rj204_10) (zau rfl) <| qd1 0 (i := 1) (v := v_t_2) rfl rfl (by decide +kernel) rfl rfl (fun wq hq => (zan (seg := [v_t_2]) ty24 rfl (by simp) rfl hq)) (of_eq hf211 (zau rfl)) <| qd0 (i := 2) (v := .func (.func 19) #[] #[.pointer (some ⟨b20, 0, none⟩), .pointer (some ⟨b28, 0, none⟩)]) rfl (by decide +kernel) rfl rfl (zah rj204_9) (zau rfl) <| qd0 (i := 3) (v := .pointer (some ⟨b1, 2, none⟩)) rfl (by decide +kernel) rfl rfl (zas fd27_2 ty24 rfl rj204_1) (zau rfl) <| qd1 1 (i := 4) (v := .slice A0_2 m.follow.length c0_2) rfl rfl (by decide +kernel) rfl rfl (fun wq hq => (zan (seg := [.slice A0_2 m.follow.length c0_2]) ty24 rfl (by simp) rfl hq)) (zc1 rfl (of_eq hf212 (zau rfl))) <| qd0 (i := 5) (v := .int .i64 t47) rfl (by decide +kernel) rfl rfl (zah rj204_11) (zau rfl) <| qd0 (i := 6) (v := .pointer (some ad205)) rfl (by decide +kernel) rfl rfl (za4 u24 ty23 rfl rfl a205 (by first|omega|(simp;omega)|assumption) (by first|omega|(simp;omega)|assumption)) (zau rfl) <| qd1 2 (i := 7) (v := .slice A205 (at_ m.follow t47).length c205) rfl rfl (by decide +kernel) rfl rfl (fun wq hq => (zan (seg := [.slice A205 (at_ m.follow t47).length c205]) ty23 rfl (by simp) rfl hq)) (zc1 rfl (zc1 rfl (of_eq hf213 (zau rfl)))) <| za0 (i := 8) (by decide +kernel) ?_
     intro wd214 gd214
     have S215 := S210.keep gd214
     have hf216 := spUp gd214 hf211
     have hf217 := spUp gd214 hf212
     have hf218 := spUp gd214 hf213
     refine d_c rfl rfl rfl (zbg (args := [.slice A205 (at_ m.follow t47).length c205, .pointer (some ⟨b20, 0, none⟩), .pointer (some ⟨b28, 0, none⟩)]) ca19 rfl rfl) (left_calls wd214 (at_ m.follow t47) A205 c205 (And.intro lc205 cm205) (ld205.mono (St.le0 S215)) (zbc m) A42 c42 (And.intro lc42 cm42) (ld42.mono (((((((le44).trans lej79)).trans le86)).trans lej204).trans S215.ghost)) ⟨b20, 0, none⟩ (box_gcell (S215.box_at (j := 2) rfl)) number A44 c44 (And.intro lc44 cm44) (ld44.mono (((((lej79).trans le86)).trans lej204).trans S215.ghost)) ⟨b28, 0, none⟩ (box_gcell (S215.box_at (j := 3) rfl)) (by first | assumption | exact leftPre_ _ ⟨by omega, hR_.firsts⟩ | exact leftPre_ _ ⟨hss_.row _ (by assumption) (by omega), hR_.rows (by assumption) (by omega)⟩)) ?_
     rintro v219_0 w219 ⟨h219, _, T219, rfl⟩
     obtain ⟨k219, lk219, ll219, U219⟩ := zbp S215 T219
     have lc219_0 := (((((((((((lk18).trans le34).trans le42).trans le44)).trans lej79)).trans le86)).trans lej204).trans lk219)
     have lc219_1 := (((((((((le34.trans le42).trans le44)).trans lej79)).trans le86)).trans lej204).trans lk219)
     have lc219_2 := ((((((((le42.trans le44)).trans lej79)).trans le86)).trans lej204).trans lk219)
     have S220 := U219
     dsimp only [lAa, lAn, lA0, lAs] at S220
     have hf221 := spUp (Chg.of_below T219.below) hf216
     have hf222 := spUp (Chg.of_below T219.below) hf217
     have hf223 := spUp (Chg.of_below T219.below) hf218
     refine ⟨.inl (Chg.of_below T219.below), ?_⟩
     refine za0 (i := 9) (by decide +kernel) ?_
     intro wd224 gd224
     have S225 := S220.keep gd224
     have hf226 := spUp gd224 hf221
     have hf227 := spUp gd224 hf222
     have hf228 := spUp gd224 hf223
     obtain ⟨h230, le230, T230, rp230⟩ := S225.freeze (i := 9) rfl
     have lf230_3 := ((((((((le44).trans lej79)).trans le86)).trans lej204).trans lk219).trans le230)
     have S231 := T230.fx 9 (emp) rfl
     dsimp only [lAa, lAn, lA0, lAs] at S231
     obtain ⟨A230, c230, e230, lc230, cm230, ld230⟩ := rp230
     injection e230 with e230 _; subst e230
     have cn230 := cm230; simp only [maxLen] at cn230
     obtain ⟨v229, w229, r229, g229, T229⟩ := za7 (kd := (Kd.int .i64).slice) (xs := ([zcl (zbc m) number (at_ m.follow t47)] : List (List Int))) (len := 1) [.slice A230 (zcl (zbc m) number (at_ m.follow t47)).length c230] S231 u24 ty23 rfl rfl rfl rfl rfl (zbj rfl zb4) [.slice A230 (zcl (zbc m) number (at_ m.follow t47)).length c230] (zbl.single (k := (Kd.int .i64).slice) (h := h230) (x := zcl (zbc m) number (at_ m.follow t47)) (cs := [.slice A230 (zcl (zbc m) number (at_ m.follow t47)).length c230]) ⟨_, _, rfl, (And.intro lc230 cm230).1, (And.intro lc230 cm230).2, ld230.mono (Le.refl _)⟩) rfl
     have S232 := T229
     dsimp only [lAa, lAn, lA0, lAs] at S232
     have hf233 := spUp g229 hf226
     have hf234 := spUp g229 hf227
     have hf235 := spUp g229 hf228
     refine d_v (v := v229) rfl rfl rfl (zaw (pv := [(0, .slice A230 (zcl (zbc m) number (at_ m.follow t47)).length c230)]) rfl r229) (.inl g229) <| za0 (i := 10) (by decide +kernel) ?_
     intro wd236 gd236
     have S237 := S232.keep gd236
     have hf238 := spUp gd236 hf233
     have hf239 := spUp gd236 hf234
     have hf240 := spUp gd236 hf235
     obtain ⟨A242, c242, ev242, lc242, cm242⟩ := S237.row_val (j := 10) rfl
     obtain ⟨v243, w243, r243, g243, T243⟩ := e_append (kd := (Kd.int .i64).slice) (A := A242) (c := c242) (ys := ([zcl (zbc m) number (at_ m.follow t47)] : List (List Int))) (len := ([zcl (zbc m) number (at_ m.follow t47)] : List (List Int)).length) 24 S237 u24 ty23 rfl rfl (j := 7) rfl rfl (news_own S237 (j := 10) rfl ev242) (by first|omega|(simp;omega)|assumption) (by first|omega|(simp;omega)|assumption)
     have S244 := T243.fx 7 (row 23 (Kd.int .i64).slice v243 (t_2 ++ ([zcl (zbc m) number (at_ m.follow t47)] : List (List Int)))) rfl
     dsimp only [lAa, lAn, lA0, lAs] at S244
     have hf245 : (CFs ⟨j79_b64, 2, none⟩ [v_t_2]).1 w243 := (CF.box (m := 1) (S244.box_at (j := 5) rfl) rfl)
     have hf246 : (CFs ⟨b1, 2, none⟩ [.slice A0_2 m.follow.length c0_2]).1 w243 := (CF.box (m := 1) (S244.box_at (j := 0) rfl) rfl)
     have hf247 : (CFs ad205 [.slice A205 (at_ m.follow t47).length c205]).1 w243 := (CF.ghost ce205 (St.le0 S244))
     refine d_v (v := v243) rfl rfl rfl (x_append rfl ev242 r243) (.inr (zbw (by decide +kernel) (zb5 hf246 (zb5 hf247 trivial)))) <| qd0 (i := 11) (v := .pointer (some ⟨j79_b64, 2, none⟩)) rfl (by decide +kernel) rfl rfl (zas fd27_2 ty24 rfl rj204_10) (zau rfl) <| za0 (i := 12) (by decide +kernel) ?_
     intro wd248 gd248
     have S249 := S244.keep gd248
     have hf250 := spUp gd248 hf245
     have hf251 := spUp gd248 hf246
     have hf252 := spUp gd248 hf247
     have oc254 := zba S249 (j := 7) rfl
     obtain ⟨w253, r253, g253, T253⟩ := zbq (P := Try.prog) (off := 2) (v := v243) (vs := [v243]) S249 ty24 (zac S249 (j := 7) rfl) rfl (j := 5) rfl (by first | decide | exact Nat.le_of_ble_eq_true rfl) (zao oc254 zb9)
     have S255 := T253.fx 5 (box j79_b64 27 [j204_v132, j79_v56_0, v243, j204_v166, .bool m.empty]) rfl
     dsimp only [lAa, lAn, lA0, lAs] at S255
     have hf256 : (CFs ⟨b1, 2, none⟩ [.slice A0_2 m.follow.length c0_2]).1 w253 := (CF.box (m := 1) (S255.box_at (j := 0) rfl) rfl)
     have hf257 : (CFs ad205 [.slice A205 (at_ m.follow t47).length c205]).1 w253 := (CF.ghost ce205 (St.le0 S255))
     refine d_s rfl rfl (zbd rfl rfl r253) (.inr (zbw (by decide +kernel) (zbw (by decide +kernel) (zbw (by decide +kernel) trivial)))) <| ra_done (by decide +kernel) ?_
     intro wd258 gd258
     have S259 := S255.keep gd258
     refine za2 <| zaf (l := [0, 1]) rfl <| p_v (v := .int .i64 (t47 + 1)) rfl rfl rfl (zcv rj204_47 rfl (zat (by first|omega|(simp;omega)|assumption) (by first|omega|(simp;omega)|assumption))) <| p_v (v := .int .i64 (t47 + 1)) rfl rfl rfl (zah rfl) <| zab ?_
     refine ih86 (t_0 ++ ([at_ m.spots t47] : List Spot), t_2 ++ ([zcl (zbc m) number (at_ m.follow t47)] : List (List Int)), t_3 ++ ([at_ m.last t47] : List Bool), t47 + 1) _ _ (by dsimp only; omega) ⟨h230, j204_v132, v243, j204_v166, ((((le86).trans lej204).trans lk219).trans le230), S259.sub [0, 1, 2, 3, 4, 5, 6, 7, 8] (by decide) rfl _ rfl, rj204_1, rj204_2, rj204_9, rj204_10, rj204_45, rj204_46, rfl, (zat (by first|omega|(simp;omega)|assumption) (by first|omega|(simp;omega)|assumption)), (by first | exact ⟨by omega, by omega, by rw [hI86.2.2.1]; exact spotsTo_yes m hI86.1 (by assumption), by rw [hI86.2.2.2.1, hnum_, zcw]; exact followTo_yes m hI86.1 (by assumption), by rw [hI86.2.2.2.2]; exact lastTo_yes m hI86.1 (by assumption)⟩ | exact ⟨by omega, by omega, by rw [hI86.2.2.1]; exact spotsTo_no m hI86.1 (by assumption), by rw [hI86.2.2.2.1]; exact followTo_no m hI86.1 (by assumption), by rw [hI86.2.2.2.2]; exact lastTo_no m hI86.1 (by assumption)⟩)⟩
    refine zcn (i := 7) (i2 := 16) (by decide +kernel) ?_ ?_
    ·skip
     intro wd260 gd260
     have S261 := S99.keep gd260
     have hf262 := spUp gd260 hf100
     have hf263 := spUp gd260 hf101
     have hf264 := spUp gd260 hf102
     have hf265 := spUp gd260 hf103
     have hf266 := spUp gd260 hf104
     have hf267 := spUp gd260 hf105
     obtain ⟨v268, w268, r268, g268, T268⟩ := zc9 (kd := zax) (xs := ([at_ m.spots t47] : List Spot)) (len := 1) (m := 5) [(.agg (zak (at_ m.spots t47)).toArray, (zak (at_ m.spots t47)))] S261 u22 ty38 rfl rfl rfl rfl (zcf rfl rfl segs_nil) (cs := (zak (at_ m.spots t47))) (zbl.single (k := zax) (h := h86) (x := at_ m.spots t47) (cs := (zak (at_ m.spots t47))) ⟨rfl, ok90⟩) (by first | rfl | simp only [List.flatMap_cons, List.flatMap_nil, List.append_nil] | simp)
     have S269 := T268
     dsimp only [lAa, lAn, lA0, lAs] at S269
     have hf270 := spUp g268 hf262
     have hf271 := spUp g268 hf263
     have hf272 := spUp g268 hf264
     have hf273 := spUp g268 hf265
     have hf274 := spUp g268 hf266
     have hf275 := spUp g268 hf267
     refine d_v (v := v268) rfl rfl rfl (zaw (pv := [(0, .agg (zak (at_ m.spots t47)).toArray)]) rfl r268) (.inl g268) ?_
     refine zcn (i := 8) (i2 := 16) (by decide +kernel) ?_ ?_
     ·skip
      intro wd276 gd276
      have S277 := S269.keep gd276
      have hf278 := spUp gd276 hf270
      have hf279 := spUp gd276 hf271
      have hf280 := spUp gd276 hf272
      have hf281 := spUp gd276 hf273
      have hf282 := spUp gd276 hf274
      have hf283 := spUp gd276 hf275
      obtain ⟨A285, c285, ev285, lc285, cm285⟩ := S277.row_val (j := 9) rfl
      obtain ⟨v286, w286, r286, g286, T286⟩ := e_append (kd := zax) (A := A285) (c := c285) (ys := ([at_ m.spots t47] : List Spot)) (len := ([at_ m.spots t47] : List Spot).length) 22 S277 u22 ty38 rfl rfl (j := 6) rfl rfl (news_own S277 (j := 9) rfl ev285) (by first|omega|(simp;omega)|assumption) (by first|omega|(simp;omega)|assumption)
      have S287 := T286.fx 6 (row 38 zax v286 (t_0 ++ ([at_ m.spots t47] : List Spot))) rfl
      dsimp only [lAa, lAn, lA0, lAs] at S287
      have hf288 : (CFs ⟨j79_b64, 0, none⟩ [v_t_0]).1 w286 := (CF.box (m := 1) (S287.box_at (j := 5) rfl) rfl)
      have hf289 : (CFs ⟨b1, 0, none⟩ [.slice A0_0 m.spots.length c0_0]).1 w286 := (CF.box (m := 1) (S287.box_at (j := 0) rfl) rfl)
      have hf290 : (CFs ad90 (zak (at_ m.spots t47))).1 w286 := (CF.ghost ce90 (St.le0 S287))
      have hf291 : (CFs ⟨j79_b64, 3, none⟩ [v_t_3]).1 w286 := (CF.box (m := 1) (S287.box_at (j := 5) rfl) rfl)
      have hf292 : (CFs ⟨b1, 3, none⟩ [.slice A0_3 m.last.length c0_3]).1 w286 := (CF.box (m := 1) (S287.box_at (j := 0) rfl) rfl)
      have hf293 : (CFs ad91 [.bool (at_ m.last t47)]).1 w286 := (CF.ghost ce91 (St.le0 S287))
      refine d_v (v := v286) rfl rfl rfl (x_append rfl ev285 r286) (.inr (zbw (by decide +kernel) (zb5 hf289 (zb5 hf290 (zb5 hf291 (zb5 hf292 (zb5 hf293 trivial))))))) <| qd0 (i := 18) (v := .pointer (some ⟨j79_b64, 0, none⟩)) rfl (by decide +kernel) rfl rfl (zas fd27_0 ty22 rfl r86_10) (zau rfl) <| za0 (i := 16) (by decide +kernel) ?_
      intro wd294 gd294
      have S295 := S287.keep gd294
      have hf296 := spUp gd294 hf288
      have hf297 := spUp gd294 hf289
      have hf298 := spUp gd294 hf290
      have hf299 := spUp gd294 hf291
      have hf300 := spUp gd294 hf292
      have hf301 := spUp gd294 hf293
      obtain ⟨v302, w302, r302, g302, T302⟩ := za7 (kd := Kd.bool) (xs := ([at_ m.last t47] : List Bool)) (len := 1) [.bool (at_ m.last t47)] S295 u25 ty4 rfl rfl rfl rfl rfl (zbj rfl zb4) [.bool (at_ m.last t47)] (zbl.single (k := Kd.bool) (h := h86) (x := at_ m.last t47) (cs := [.bool (at_ m.last t47)]) ⟨rfl, trivial⟩) rfl
      have S303 := T302
      dsimp only [lAa, lAn, lA0, lAs] at S303
      have hf304 := spUp g302 hf296
      have hf305 := spUp g302 hf297
      have hf306 := spUp g302 hf298
      have hf307 := spUp g302 hf299
      have hf308 := spUp g302 hf300
      have hf309 := spUp g302 hf301
      refine d_v (v := v302) rfl rfl rfl (zaw (pv := [(0, .bool (at_ m.last t47))]) rfl r302) (.inl g302) <| za0 (i := 17) (by decide +kernel) ?_
      intro wd310 gd310
      have S311 := S303.keep gd310
      have hf312 := spUp gd310 hf304
      have hf313 := spUp gd310 hf305
      have hf314 := spUp gd310 hf306
      have hf315 := spUp gd310 hf307
      have hf316 := spUp gd310 hf308
      have hf317 := spUp gd310 hf309
      obtain ⟨A319, c319, ev319, lc319, cm319⟩ := S311.row_val (j := 10) rfl
      obtain ⟨v320, w320, r320, g320, T320⟩ := e_append (kd := Kd.bool) (A := A319) (c := c319) (ys := ([at_ m.last t47] : List Bool)) (len := ([at_ m.last t47] : List Bool).length) 25 S311 u25 ty4 rfl rfl (j := 8) rfl rfl (news_own S311 (j := 10) rfl ev319) (by first|omega|(simp;omega)|assumption) (by first|omega|(simp;omega)|assumption)
      have S321 := T320.fx 8 (row 4 Kd.bool v320 (t_3 ++ ([at_ m.last t47] : List Bool))) rfl
      dsimp only [lAa, lAn, lA0, lAs] at S321
      have hf322 : (CFs ⟨j79_b64, 0, none⟩ [v_t_0]).1 w320 := (CF.box (m := 1) (S321.box_at (j := 5) rfl) rfl)
      have hf323 : (CFs ⟨b1, 0, none⟩ [.slice A0_0 m.spots.length c0_0]).1 w320 := (CF.box (m := 1) (S321.box_at (j := 0) rfl) rfl)
      have hf324 : (CFs ad90 (zak (at_ m.spots t47))).1 w320 := (CF.ghost ce90 (St.le0 S321))
      have hf325 : (CFs ⟨j79_b64, 3, none⟩ [v_t_3]).1 w320 := (CF.box (m := 1) (S321.box_at (j := 5) rfl) rfl)
      have hf326 : (CFs ⟨b1, 3, none⟩ [.slice A0_3 m.last.length c0_3]).1 w320 := (CF.box (m := 1) (S321.box_at (j := 0) rfl) rfl)
      have hf327 : (CFs ad91 [.bool (at_ m.last t47)]).1 w320 := (CF.ghost ce91 (St.le0 S321))
      refine d_v (v := v320) rfl rfl rfl (x_append rfl ev319 r320) (.inr (zb5 hf322 (zb5 hf323 (zb5 hf324 (zbw (by decide +kernel) (zb5 hf326 (zb5 hf327 trivial))))))) <| za0 (i := 19) (by decide +kernel) ?_
      intro wd328 gd328
      have S329 := S321.keep gd328
      have hf330 := spUp gd328 hf322
      have hf331 := spUp gd328 hf323
      have hf332 := spUp gd328 hf324
      have hf333 := spUp gd328 hf325
      have hf334 := spUp gd328 hf326
      have hf335 := spUp gd328 hf327
      have oc337 := zba S329 (j := 6) rfl
      obtain ⟨w336, r336, g336, T336⟩ := zbq (P := Try.prog) (off := 0) (v := v286) (vs := [v286]) S329 ty22 (zac S329 (j := 6) rfl) rfl (j := 5) rfl (by first | decide | exact Nat.le_of_ble_eq_true rfl) (zao oc337 zb9)
      have S338 := T336.fx 5 (box j79_b64 27 [v286, j79_v56_0, v_t_2, v_t_3, .bool m.empty]) rfl
      dsimp only [lAa, lAn, lA0, lAs] at S338
      have hf339 : (CFs ⟨b1, 0, none⟩ [.slice A0_0 m.spots.length c0_0]).1 w336 := (CF.box (m := 1) (S338.box_at (j := 0) rfl) rfl)
      have hf340 : (CFs ad90 (zak (at_ m.spots t47))).1 w336 := (CF.ghost ce90 (St.le0 S338))
      have hf341 : (CFs ⟨b1, 3, none⟩ [.slice A0_3 m.last.length c0_3]).1 w336 := (CF.box (m := 1) (S338.box_at (j := 0) rfl) rfl)
      have hf342 : (CFs ad91 [.bool (at_ m.last t47)]).1 w336 := (CF.ghost ce91 (St.le0 S338))
      refine d_s rfl rfl (zbd rfl rfl r336) (.inr (zbw (by decide +kernel) (zbw (by decide +kernel) (zbw (by decide +kernel) (zbw (by decide +kernel) (zb5 hf341 (zb5 hf342 trivial))))))) <| qd0 (i := 20) (v := .pointer (some ⟨j79_b64, 3, none⟩)) rfl (by decide +kernel) rfl rfl (zas fd27_3 ty25 rfl r86_10) (zau rfl) <| za0 (i := 21) (by decide +kernel) ?_
      intro wd343 gd343
      have S344 := S338.keep gd343
      have hf345 := spUp gd343 hf339
      have hf346 := spUp gd343 hf340
      have hf347 := spUp gd343 hf341
      have hf348 := spUp gd343 hf342
      have oc350 := zba S344 (j := 8) rfl
      obtain ⟨w349, r349, g349, T349⟩ := zbq (P := Try.prog) (off := 3) (v := v320) (vs := [v320]) S344 ty25 (zac S344 (j := 8) rfl) rfl (j := 5) rfl (by first | decide | exact Nat.le_of_ble_eq_true rfl) (zao oc350 zb9)
      have S351 := T349.fx 5 (box j79_b64 27 [v286, j79_v56_0, v_t_2, v320, .bool m.empty]) rfl
      dsimp only [lAa, lAn, lA0, lAs] at S351
      have hf352 : (CFs ⟨b1, 0, none⟩ [.slice A0_0 m.spots.length c0_0]).1 w349 := (CF.box (m := 1) (S351.box_at (j := 0) rfl) rfl)
      have hf353 : (CFs ad90 (zak (at_ m.spots t47))).1 w349 := (CF.ghost ce90 (St.le0 S351))
      have hf354 : (CFs ⟨b1, 3, none⟩ [.slice A0_3 m.last.length c0_3]).1 w349 := (CF.box (m := 1) (S351.box_at (j := 0) rfl) rfl)
      have hf355 : (CFs ad91 [.bool (at_ m.last t47)]).1 w349 := (CF.ghost ce91 (St.le0 S351))
      refine d_s rfl rfl (zbd rfl rfl r349) (.inr (zbw (by decide +kernel) (zbw (by decide +kernel) (zbw (by decide +kernel) (zbw (by decide +kernel) (zbw (by decide +kernel) (zbw (by decide +kernel) trivial))))))) <| ra_done (by decide +kernel) ?_
      intro wd356 gd356
      have S357 := S351.keep gd356
      exact jn204 _ _ ⟨h86, v286, v320, (Le.refl _), S357.sub [0, 1, 2, 3, 4, 5, 6, 7, 8] (by decide) rfl _ rfl, r86_1, r86_2, r86_9, r86_10, rfl, r86_45, r86_46, r86_47⟩
     intro wd358 gd358
     have S359 := S269.keep gd358
     have hf360 := spUp gd358 hf270
     have hf361 := spUp gd358 hf271
     have hf362 := spUp gd358 hf272
     have hf363 := spUp gd358 hf273
     have hf364 := spUp gd358 hf274
     have hf365 := spUp gd358 hf275
     obtain ⟨v366, w366, r366, g366, T366⟩ := za7 (kd := Kd.bool) (xs := ([at_ m.last t47] : List Bool)) (len := 1) [.bool (at_ m.last t47)] S359 u25 ty4 rfl rfl rfl rfl rfl (zbj rfl zb4) [.bool (at_ m.last t47)] (zbl.single (k := Kd.bool) (h := h86) (x := at_ m.last t47) (cs := [.bool (at_ m.last t47)]) ⟨rfl, trivial⟩) rfl
     have S367 := T366
     dsimp only [lAa, lAn, lA0, lAs] at S367
     have hf368 := spUp g366 hf360
     have hf369 := spUp g366 hf361
     have hf370 := spUp g366 hf362
     have hf371 := spUp g366 hf363
     have hf372 := spUp g366 hf364
     have hf373 := spUp g366 hf365
     refine d_v (v := v366) rfl rfl rfl (zaw (pv := [(0, .bool (at_ m.last t47))]) rfl r366) (.inl g366) <| za0 (i := 8) (by decide +kernel) ?_
     intro wd374 gd374
     have S375 := S367.keep gd374
     have hf376 := spUp gd374 hf368
     have hf377 := spUp gd374 hf369
     have hf378 := spUp gd374 hf370
     have hf379 := spUp gd374 hf371
     have hf380 := spUp gd374 hf372
     have hf381 := spUp gd374 hf373
     obtain ⟨A383, c383, ev383, lc383, cm383⟩ := S375.row_val (j := 9) rfl
     obtain ⟨v384, w384, r384, g384, T384⟩ := e_append (kd := zax) (A := A383) (c := c383) (ys := ([at_ m.spots t47] : List Spot)) (len := ([at_ m.spots t47] : List Spot).length) 22 S375 u22 ty38 rfl rfl (j := 6) rfl rfl (news_own S375 (j := 9) rfl ev383) (by first|omega|(simp;omega)|assumption) (by first|omega|(simp;omega)|assumption)
     have S385 := T384.fx 6 (row 38 zax v384 (t_0 ++ ([at_ m.spots t47] : List Spot))) rfl
     dsimp only [lAa, lAn, lA0, lAs] at S385
     have hf386 : (CFs ⟨j79_b64, 0, none⟩ [v_t_0]).1 w384 := (CF.box (m := 1) (S385.box_at (j := 5) rfl) rfl)
     have hf387 : (CFs ⟨b1, 0, none⟩ [.slice A0_0 m.spots.length c0_0]).1 w384 := (CF.box (m := 1) (S385.box_at (j := 0) rfl) rfl)
     have hf388 : (CFs ad90 (zak (at_ m.spots t47))).1 w384 := (CF.ghost ce90 (St.le0 S385))
     have hf389 : (CFs ⟨j79_b64, 3, none⟩ [v_t_3]).1 w384 := (CF.box (m := 1) (S385.box_at (j := 5) rfl) rfl)
     have hf390 : (CFs ⟨b1, 3, none⟩ [.slice A0_3 m.last.length c0_3]).1 w384 := (CF.box (m := 1) (S385.box_at (j := 0) rfl) rfl)
     have hf391 : (CFs ad91 [.bool (at_ m.last t47)]).1 w384 := (CF.ghost ce91 (St.le0 S385))
     refine d_v (v := v384) rfl rfl rfl (x_append rfl ev383 r384) (.inr (zbw (by decide +kernel) (zb5 hf387 (zb5 hf388 (zb5 hf389 (zb5 hf390 (zb5 hf391 trivial))))))) <| qd0 (i := 18) (v := .pointer (some ⟨j79_b64, 0, none⟩)) rfl (by decide +kernel) rfl rfl (zas fd27_0 ty22 rfl r86_10) (zau rfl) <| za0 (i := 17) (by decide +kernel) ?_
     intro wd392 gd392
     have S393 := S385.keep gd392
     have hf394 := spUp gd392 hf386
     have hf395 := spUp gd392 hf387
     have hf396 := spUp gd392 hf388
     have hf397 := spUp gd392 hf389
     have hf398 := spUp gd392 hf390
     have hf399 := spUp gd392 hf391
     obtain ⟨A401, c401, ev401, lc401, cm401⟩ := S393.row_val (j := 10) rfl
     obtain ⟨v402, w402, r402, g402, T402⟩ := e_append (kd := Kd.bool) (A := A401) (c := c401) (ys := ([at_ m.last t47] : List Bool)) (len := ([at_ m.last t47] : List Bool).length) 25 S393 u25 ty4 rfl rfl (j := 8) rfl rfl (news_own S393 (j := 10) rfl ev401) (by first|omega|(simp;omega)|assumption) (by first|omega|(simp;omega)|assumption)
     have S403 := T402.fx 8 (row 4 Kd.bool v402 (t_3 ++ ([at_ m.last t47] : List Bool))) rfl
     dsimp only [lAa, lAn, lA0, lAs] at S403
     have hf404 : (CFs ⟨j79_b64, 0, none⟩ [v_t_0]).1 w402 := (CF.box (m := 1) (S403.box_at (j := 5) rfl) rfl)
     have hf405 : (CFs ⟨b1, 0, none⟩ [.slice A0_0 m.spots.length c0_0]).1 w402 := (CF.box (m := 1) (S403.box_at (j := 0) rfl) rfl)
     have hf406 : (CFs ad90 (zak (at_ m.spots t47))).1 w402 := (CF.ghost ce90 (St.le0 S403))
     have hf407 : (CFs ⟨j79_b64, 3, none⟩ [v_t_3]).1 w402 := (CF.box (m := 1) (S403.box_at (j := 5) rfl) rfl)
     have hf408 : (CFs ⟨b1, 3, none⟩ [.slice A0_3 m.last.length c0_3]).1 w402 := (CF.box (m := 1) (S403.box_at (j := 0) rfl) rfl)
     have hf409 : (CFs ad91 [.bool (at_ m.last t47)]).1 w402 := (CF.ghost ce91 (St.le0 S403))
     refine d_v (v := v402) rfl rfl rfl (x_append rfl ev401 r402) (.inr (zb5 hf404 (zb5 hf405 (zb5 hf406 (zbw (by decide +kernel) (zb5 hf408 (zb5 hf409 trivial))))))) <| za0 (i := 19) (by decide +kernel) ?_
     intro wd410 gd410
     have S411 := S403.keep gd410
     have hf412 := spUp gd410 hf404
     have hf413 := spUp gd410 hf405
     have hf414 := spUp gd410 hf406
     have hf415 := spUp gd410 hf407
     have hf416 := spUp gd410 hf408
     have hf417 := spUp gd410 hf409
     have oc419 := zba S411 (j := 6) rfl
     obtain ⟨w418, r418, g418, T418⟩ := zbq (P := Try.prog) (off := 0) (v := v384) (vs := [v384]) S411 ty22 (zac S411 (j := 6) rfl) rfl (j := 5) rfl (by first | decide | exact Nat.le_of_ble_eq_true rfl) (zao oc419 zb9)
     have S420 := T418.fx 5 (box j79_b64 27 [v384, j79_v56_0, v_t_2, v_t_3, .bool m.empty]) rfl
     dsimp only [lAa, lAn, lA0, lAs] at S420
     have hf421 : (CFs ⟨b1, 0, none⟩ [.slice A0_0 m.spots.length c0_0]).1 w418 := (CF.box (m := 1) (S420.box_at (j := 0) rfl) rfl)
     have hf422 : (CFs ad90 (zak (at_ m.spots t47))).1 w418 := (CF.ghost ce90 (St.le0 S420))
     have hf423 : (CFs ⟨b1, 3, none⟩ [.slice A0_3 m.last.length c0_3]).1 w418 := (CF.box (m := 1) (S420.box_at (j := 0) rfl) rfl)
     have hf424 : (CFs ad91 [.bool (at_ m.last t47)]).1 w418 := (CF.ghost ce91 (St.le0 S420))
     refine d_s rfl rfl (zbd rfl rfl r418) (.inr (zbw (by decide +kernel) (zbw (by decide +kernel) (zbw (by decide +kernel) (zbw (by decide +kernel) (zb5 hf423 (zb5 hf424 trivial))))))) <| qd0 (i := 20) (v := .pointer (some ⟨j79_b64, 3, none⟩)) rfl (by decide +kernel) rfl rfl (zas fd27_3 ty25 rfl r86_10) (zau rfl) <| za0 (i := 21) (by decide +kernel) ?_
     intro wd425 gd425
     have S426 := S420.keep gd425
     have hf427 := spUp gd425 hf421
     have hf428 := spUp gd425 hf422
     have hf429 := spUp gd425 hf423
     have hf430 := spUp gd425 hf424
     have oc432 := zba S426 (j := 8) rfl
     obtain ⟨w431, r431, g431, T431⟩ := zbq (P := Try.prog) (off := 3) (v := v402) (vs := [v402]) S426 ty25 (zac S426 (j := 8) rfl) rfl (j := 5) rfl (by first | decide | exact Nat.le_of_ble_eq_true rfl) (zao oc432 zb9)
     have S433 := T431.fx 5 (box j79_b64 27 [v384, j79_v56_0, v_t_2, v402, .bool m.empty]) rfl
     dsimp only [lAa, lAn, lA0, lAs] at S433
     have hf434 : (CFs ⟨b1, 0, none⟩ [.slice A0_0 m.spots.length c0_0]).1 w431 := (CF.box (m := 1) (S433.box_at (j := 0) rfl) rfl)
     have hf435 : (CFs ad90 (zak (at_ m.spots t47))).1 w431 := (CF.ghost ce90 (St.le0 S433))
     have hf436 : (CFs ⟨b1, 3, none⟩ [.slice A0_3 m.last.length c0_3]).1 w431 := (CF.box (m := 1) (S433.box_at (j := 0) rfl) rfl)
     have hf437 : (CFs ad91 [.bool (at_ m.last t47)]).1 w431 := (CF.ghost ce91 (St.le0 S433))
     refine d_s rfl rfl (zbd rfl rfl r431) (.inr (zbw (by decide +kernel) (zbw (by decide +kernel) (zbw (by decide +kernel) (zbw (by decide +kernel) (zbw (by decide +kernel) (zbw (by decide +kernel) trivial))))))) <| ra_done (by decide +kernel) ?_
     intro wd438 gd438
     have S439 := S433.keep gd438
     exact jn204 _ _ ⟨h86, v384, v402, (Le.refl _), S439.sub [0, 1, 2, 3, 4, 5, 6, 7, 8] (by decide) rfl _ rfl, r86_1, r86_2, r86_9, r86_10, rfl, r86_45, r86_46, r86_47⟩
    intro wd440 gd440
    have S441 := S99.keep gd440
    have hf442 := spUp gd440 hf100
    have hf443 := spUp gd440 hf101
    have hf444 := spUp gd440 hf102
    have hf445 := spUp gd440 hf103
    have hf446 := spUp gd440 hf104
    have hf447 := spUp gd440 hf105
    obtain ⟨v448, w448, r448, g448, T448⟩ := za7 (kd := Kd.bool) (xs := ([at_ m.last t47] : List Bool)) (len := 1) [.bool (at_ m.last t47)] S441 u25 ty4 rfl rfl rfl rfl rfl (zbj rfl zb4) [.bool (at_ m.last t47)] (zbl.single (k := Kd.bool) (h := h86) (x := at_ m.last t47) (cs := [.bool (at_ m.last t47)]) ⟨rfl, trivial⟩) rfl
    have S449 := T448
    dsimp only [lAa, lAn, lA0, lAs] at S449
    have hf450 := spUp g448 hf442
    have hf451 := spUp g448 hf443
    have hf452 := spUp g448 hf444
    have hf453 := spUp g448 hf445
    have hf454 := spUp g448 hf446
    have hf455 := spUp g448 hf447
    refine d_v (v := v448) rfl rfl rfl (zaw (pv := [(0, .bool (at_ m.last t47))]) rfl r448) (.inl g448) <| za0 (i := 7) (by decide +kernel) ?_
    intro wd456 gd456
    have S457 := S449.keep gd456
    have hf458 := spUp gd456 hf450
    have hf459 := spUp gd456 hf451
    have hf460 := spUp gd456 hf452
    have hf461 := spUp gd456 hf453
    have hf462 := spUp gd456 hf454
    have hf463 := spUp gd456 hf455
    obtain ⟨v464, w464, r464, g464, T464⟩ := zc9 (kd := zax) (xs := ([at_ m.spots t47] : List Spot)) (len := 1) (m := 5) [(.agg (zak (at_ m.spots t47)).toArray, (zak (at_ m.spots t47)))] S457 u22 ty38 rfl rfl rfl rfl (zcf rfl rfl segs_nil) (cs := (zak (at_ m.spots t47))) (zbl.single (k := zax) (h := h86) (x := at_ m.spots t47) (cs := (zak (at_ m.spots t47))) ⟨rfl, ok90⟩) (by first | rfl | simp only [List.flatMap_cons, List.flatMap_nil, List.append_nil] | simp)
    have S465 := T464
    dsimp only [lAa, lAn, lA0, lAs] at S465
    have hf466 := spUp g464 hf458
    have hf467 := spUp g464 hf459
    have hf468 := spUp g464 hf460
    have hf469 := spUp g464 hf461
    have hf470 := spUp g464 hf462
    have hf471 := spUp g464 hf463
    refine d_v (v := v464) rfl rfl rfl (zaw (pv := [(0, .agg (zak (at_ m.spots t47)).toArray)]) rfl r464) (.inl g464) <| za0 (i := 8) (by decide +kernel) ?_
    intro wd472 gd472
    have S473 := S465.keep gd472
    have hf474 := spUp gd472 hf466
    have hf475 := spUp gd472 hf467
    have hf476 := spUp gd472 hf468
    have hf477 := spUp gd472 hf469
    have hf478 := spUp gd472 hf470
    have hf479 := spUp gd472 hf471
    obtain ⟨A481, c481, ev481, lc481, cm481⟩ := S473.row_val (j := 10) rfl
    obtain ⟨v482, w482, r482, g482, T482⟩ := e_append (kd := zax) (A := A481) (c := c481) (ys := ([at_ m.spots t47] : List Spot)) (len := ([at_ m.spots t47] : List Spot).length) 22 S473 u22 ty38 rfl rfl (j := 6) rfl rfl (news_own S473 (j := 10) rfl ev481) (by first|omega|(simp;omega)|assumption) (by first|omega|(simp;omega)|assumption)
    have S483 := T482.fx 6 (row 38 zax v482 (t_0 ++ ([at_ m.spots t47] : List Spot))) rfl
    dsimp only [lAa, lAn, lA0, lAs] at S483
    have hf484 : (CFs ⟨j79_b64, 0, none⟩ [v_t_0]).1 w482 := (CF.box (m := 1) (S483.box_at (j := 5) rfl) rfl)
    have hf485 : (CFs ⟨b1, 0, none⟩ [.slice A0_0 m.spots.length c0_0]).1 w482 := (CF.box (m := 1) (S483.box_at (j := 0) rfl) rfl)
    have hf486 : (CFs ad90 (zak (at_ m.spots t47))).1 w482 := (CF.ghost ce90 (St.le0 S483))
    have hf487 : (CFs ⟨j79_b64, 3, none⟩ [v_t_3]).1 w482 := (CF.box (m := 1) (S483.box_at (j := 5) rfl) rfl)
    have hf488 : (CFs ⟨b1, 3, none⟩ [.slice A0_3 m.last.length c0_3]).1 w482 := (CF.box (m := 1) (S483.box_at (j := 0) rfl) rfl)
    have hf489 : (CFs ad91 [.bool (at_ m.last t47)]).1 w482 := (CF.ghost ce91 (St.le0 S483))
    refine d_v (v := v482) rfl rfl rfl (x_append rfl ev481 r482) (.inr (zbw (by decide +kernel) (zb5 hf485 (zb5 hf486 (zb5 hf487 (zb5 hf488 (zb5 hf489 trivial))))))) <| qd0 (i := 18) (v := .pointer (some ⟨j79_b64, 0, none⟩)) rfl (by decide +kernel) rfl rfl (zas fd27_0 ty22 rfl r86_10) (zau rfl) <| za0 (i := 17) (by decide +kernel) ?_
    intro wd490 gd490
    have S491 := S483.keep gd490
    have hf492 := spUp gd490 hf484
    have hf493 := spUp gd490 hf485
    have hf494 := spUp gd490 hf486
    have hf495 := spUp gd490 hf487
    have hf496 := spUp gd490 hf488
    have hf497 := spUp gd490 hf489
    obtain ⟨A499, c499, ev499, lc499, cm499⟩ := S491.row_val (j := 9) rfl
    obtain ⟨v500, w500, r500, g500, T500⟩ := e_append (kd := Kd.bool) (A := A499) (c := c499) (ys := ([at_ m.last t47] : List Bool)) (len := ([at_ m.last t47] : List Bool).length) 25 S491 u25 ty4 rfl rfl (j := 8) rfl rfl (news_own S491 (j := 9) rfl ev499) (by first|omega|(simp;omega)|assumption) (by first|omega|(simp;omega)|assumption)
    have S501 := T500.fx 8 (row 4 Kd.bool v500 (t_3 ++ ([at_ m.last t47] : List Bool))) rfl
    dsimp only [lAa, lAn, lA0, lAs] at S501
    have hf502 : (CFs ⟨j79_b64, 0, none⟩ [v_t_0]).1 w500 := (CF.box (m := 1) (S501.box_at (j := 5) rfl) rfl)
    have hf503 : (CFs ⟨b1, 0, none⟩ [.slice A0_0 m.spots.length c0_0]).1 w500 := (CF.box (m := 1) (S501.box_at (j := 0) rfl) rfl)
    have hf504 : (CFs ad90 (zak (at_ m.spots t47))).1 w500 := (CF.ghost ce90 (St.le0 S501))
    have hf505 : (CFs ⟨j79_b64, 3, none⟩ [v_t_3]).1 w500 := (CF.box (m := 1) (S501.box_at (j := 5) rfl) rfl)
    have hf506 : (CFs ⟨b1, 3, none⟩ [.slice A0_3 m.last.length c0_3]).1 w500 := (CF.box (m := 1) (S501.box_at (j := 0) rfl) rfl)
    have hf507 : (CFs ad91 [.bool (at_ m.last t47)]).1 w500 := (CF.ghost ce91 (St.le0 S501))
    refine d_v (v := v500) rfl rfl rfl (x_append rfl ev499 r500) (.inr (zb5 hf502 (zb5 hf503 (zb5 hf504 (zbw (by decide +kernel) (zb5 hf506 (zb5 hf507 trivial))))))) <| za0 (i := 19) (by decide +kernel) ?_
    intro wd508 gd508
    have S509 := S501.keep gd508
    have hf510 := spUp gd508 hf502
    have hf511 := spUp gd508 hf503
    have hf512 := spUp gd508 hf504
    have hf513 := spUp gd508 hf505
    have hf514 := spUp gd508 hf506
    have hf515 := spUp gd508 hf507
    have oc517 := zba S509 (j := 6) rfl
    obtain ⟨w516, r516, g516, T516⟩ := zbq (P := Try.prog) (off := 0) (v := v482) (vs := [v482]) S509 ty22 (zac S509 (j := 6) rfl) rfl (j := 5) rfl (by first | decide | exact Nat.le_of_ble_eq_true rfl) (zao oc517 zb9)
    have S518 := T516.fx 5 (box j79_b64 27 [v482, j79_v56_0, v_t_2, v_t_3, .bool m.empty]) rfl
    dsimp only [lAa, lAn, lA0, lAs] at S518
    have hf519 : (CFs ⟨b1, 0, none⟩ [.slice A0_0 m.spots.length c0_0]).1 w516 := (CF.box (m := 1) (S518.box_at (j := 0) rfl) rfl)
    have hf520 : (CFs ad90 (zak (at_ m.spots t47))).1 w516 := (CF.ghost ce90 (St.le0 S518))
    have hf521 : (CFs ⟨b1, 3, none⟩ [.slice A0_3 m.last.length c0_3]).1 w516 := (CF.box (m := 1) (S518.box_at (j := 0) rfl) rfl)
    have hf522 : (CFs ad91 [.bool (at_ m.last t47)]).1 w516 := (CF.ghost ce91 (St.le0 S518))
    refine d_s rfl rfl (zbd rfl rfl r516) (.inr (zbw (by decide +kernel) (zbw (by decide +kernel) (zbw (by decide +kernel) (zbw (by decide +kernel) (zb5 hf521 (zb5 hf522 trivial))))))) <| qd0 (i := 20) (v := .pointer (some ⟨j79_b64, 3, none⟩)) rfl (by decide +kernel) rfl rfl (zas fd27_3 ty25 rfl r86_10) (zau rfl) <| za0 (i := 21) (by decide +kernel) ?_
    intro wd523 gd523
    have S524 := S518.keep gd523
    have hf525 := spUp gd523 hf519
    have hf526 := spUp gd523 hf520
    have hf527 := spUp gd523 hf521
    have hf528 := spUp gd523 hf522
    have oc530 := zba S524 (j := 8) rfl
    obtain ⟨w529, r529, g529, T529⟩ := zbq (P := Try.prog) (off := 3) (v := v500) (vs := [v500]) S524 ty25 (zac S524 (j := 8) rfl) rfl (j := 5) rfl (by first | decide | exact Nat.le_of_ble_eq_true rfl) (zao oc530 zb9)
    have S531 := T529.fx 5 (box j79_b64 27 [v482, j79_v56_0, v_t_2, v500, .bool m.empty]) rfl
    dsimp only [lAa, lAn, lA0, lAs] at S531
    have hf532 : (CFs ⟨b1, 0, none⟩ [.slice A0_0 m.spots.length c0_0]).1 w529 := (CF.box (m := 1) (S531.box_at (j := 0) rfl) rfl)
    have hf533 : (CFs ad90 (zak (at_ m.spots t47))).1 w529 := (CF.ghost ce90 (St.le0 S531))
    have hf534 : (CFs ⟨b1, 3, none⟩ [.slice A0_3 m.last.length c0_3]).1 w529 := (CF.box (m := 1) (S531.box_at (j := 0) rfl) rfl)
    have hf535 : (CFs ad91 [.bool (at_ m.last t47)]).1 w529 := (CF.ghost ce91 (St.le0 S531))
    refine d_s rfl rfl (zbd rfl rfl r529) (.inr (zbw (by decide +kernel) (zbw (by decide +kernel) (zbw (by decide +kernel) (zbw (by decide +kernel) (zbw (by decide +kernel) (zbw (by decide +kernel) trivial))))))) <| ra_done (by decide +kernel) ?_
    intro wd536 gd536
    have S537 := S531.keep gd536
    exact jn204 _ _ ⟨h86, v482, v500, (Le.refl _), S537.sub [0, 1, 2, 3, 4, 5, 6, 7, 8] (by decide) rfl _ rfl, r86_1, r86_2, r86_9, r86_10, rfl, r86_45, r86_46, r86_47⟩
   refine za9 <| za2 <| zaf (l := [0, 1]) rfl <| p_v (v := .int .i64 (t47 + 1)) rfl rfl rfl (zcv r86_47 rfl (zat (by first|omega|(simp;omega)|assumption) (by first|omega|(simp;omega)|assumption))) <| p_v (v := .int .i64 (t47 + 1)) rfl rfl rfl (zah rfl) <| zab ?_
   refine ih86 (t_0, t_2, t_3, t47 + 1) _ _ (by dsimp only; omega) ⟨h86, v_t_0, v_t_2, v_t_3, le86, S86.sub [0, 1, 2, 3, 4, 5, 6, 7, 8] (by decide) rfl _ rfl, r86_1, r86_2, r86_9, r86_10, r86_45, r86_46, rfl, (zat (by first|omega|(simp;omega)|assumption) (by first|omega|(simp;omega)|assumption)), (by first | exact ⟨by omega, by omega, by rw [hI86.2.2.1]; exact spotsTo_yes m hI86.1 (by assumption), by rw [hI86.2.2.2.1, hnum_, zcw]; exact followTo_yes m hI86.1 (by assumption), by rw [hI86.2.2.2.2]; exact lastTo_yes m hI86.1 (by assumption)⟩ | exact ⟨by omega, by omega, by rw [hI86.2.2.1]; exact spotsTo_no m hI86.1 (by assumption), by rw [hI86.2.2.2.1]; exact followTo_no m hI86.1 (by assumption), by rw [hI86.2.2.2.2]; exact lastTo_no m hI86.1 (by assumption)⟩)⟩
  refine zby rfl <| zad <| zaf (l := [0, 1, 2]) rfl <| p_v (v := .agg #[v_t_0, j79_v56_0, v_t_2, v_t_3, .bool m.empty]) rfl rfl rfl (zan (seg := [v_t_0, j79_v56_0, v_t_2, v_t_3, .bool m.empty]) ty27 rfl (by simp) r86_10 (CF.box (m := 5) (S86.box_at (j := 5) rfl) rfl)) ?_
  have oc539 := zba S86 (j := 6) rfl
  have oc540 := zba S86 (j := 4) rfl
  have oc541 := zba S86 (j := 7) rfl
  have oc542 := zba S86 (j := 8) rfl
  obtain ⟨w538, r538, g538, T538⟩ := zbq (P := Try.prog) (off := 0) (v := .agg #[v_t_0, j79_v56_0, v_t_2, v_t_3, .bool m.empty]) (vs := [v_t_0, j79_v56_0, v_t_2, v_t_3, .bool m.empty]) S86 ty27 rfl rfl (j := 1) rfl (by first | decide | exact Nat.le_of_ble_eq_true rfl) (zao oc539 (zao oc540 (zao oc541 (zao oc542 (zao rfl zb9)))))
  have S543 := T538.fx 1 (box b3 27 [v_t_0, j79_v56_0, v_t_2, v_t_3, .bool m.empty]) rfl
  dsimp only [lAa, lAn, lA0, lAs] at S543
  refine p_s rfl rfl (zbd r86_2 rfl r538) <| p_v (v := .int .i64 0) rfl rfl rfl (zai rfl) <| zab <| zbi Try.func8 (res2 rfl (res_cell S543 ty27 r86_2 (j := 1) rfl rfl (by simp) rfl) (zbk (v := .int .i64 0) rfl)) ?_
  have q0 : ((zaj m).spots : List Spot) = t_0 := by
   first | (rw [zbe (by assumption)]; done) | (rw [zbe (by assumption)]) | exact zco (by assumption) | exact zcu (by assumption) | (rw [zbf (by assumption)]; done) | (rw [zbf (by assumption)]; first | rfl | (rw [hI86.2.2.1, show t47 = (m.spots.length : Int) by omega]; done) | (rw [hI86.2.2.2.1, show t47 = (m.spots.length : Int) by omega]; done) | (rw [hI86.2.2.2.2, show t47 = (m.spots.length : Int) by omega]; done) | (rw [hnum_, zcw]))
  have q1 : ((zaj m).first : List Int) = zcl (zbc m) number m.first := by
   first | (rw [zbe (by assumption)]; done) | (rw [zbe (by assumption)]) | exact zco (by assumption) | exact zcu (by assumption) | (rw [zbf (by assumption)]; done) | (rw [zbf (by assumption)]; first | rfl | (rw [hI86.2.2.1, show t47 = (m.spots.length : Int) by omega]; done) | (rw [hI86.2.2.2.1, show t47 = (m.spots.length : Int) by omega]; done) | (rw [hI86.2.2.2.2, show t47 = (m.spots.length : Int) by omega]; done) | (rw [hnum_, zcw]))
  have q2 : ((zaj m).follow : List (List Int)) = t_2 := by
   first | (rw [zbe (by assumption)]; done) | (rw [zbe (by assumption)]) | exact zco (by assumption) | exact zcu (by assumption) | (rw [zbf (by assumption)]; done) | (rw [zbf (by assumption)]; first | rfl | (rw [hI86.2.2.1, show t47 = (m.spots.length : Int) by omega]; done) | (rw [hI86.2.2.2.1, show t47 = (m.spots.length : Int) by omega]; done) | (rw [hI86.2.2.2.2, show t47 = (m.spots.length : Int) by omega]; done) | (rw [hnum_, zcw]))
  have q3 : ((zaj m).last : List Bool) = t_3 := by
   first | (rw [zbe (by assumption)]; done) | (rw [zbe (by assumption)]) | exact zco (by assumption) | exact zcu (by assumption) | (rw [zbf (by assumption)]; done) | (rw [zbf (by assumption)]; first | rfl | (rw [hI86.2.2.1, show t47 = (m.spots.length : Int) by omega]; done) | (rw [hI86.2.2.2.1, show t47 = (m.spots.length : Int) by omega]; done) | (rw [hI86.2.2.2.2, show t47 = (m.spots.length : Int) by omega]; done) | (rw [hnum_, zcw]))
  have q4 : ((zaj m).empty : Bool) = m.empty := by
   first | (rw [zbe (by assumption)]; done) | (rw [zbe (by assumption)]) | exact zco (by assumption) | exact zcu (by assumption) | (rw [zbf (by assumption)]; done) | (rw [zbf (by assumption)]; first | rfl | (rw [hI86.2.2.1, show t47 = (m.spots.length : Int) by omega]; done) | (rw [hI86.2.2.2.1, show t47 = (m.spots.length : Int) by omega]; done) | (rw [hI86.2.2.2.2, show t47 = (m.spots.length : Int) by omega]; done) | (rw [hnum_, zcw]))
  have q5 : (errM m : Int) = 0 := by
   first | (rw [zbe (by assumption)]; done) | (rw [zbe (by assumption)]) | exact zco (by assumption) | exact zcu (by assumption) | (rw [zbf (by assumption)]; done) | (rw [zbf (by assumption)]; first | rfl | (rw [hI86.2.2.1, show t47 = (m.spots.length : Int) by omega]; done) | (rw [hI86.2.2.2.1, show t47 = (m.spots.length : Int) by omega]; done) | (rw [hI86.2.2.2.2, show t47 = (m.spots.length : Int) by omega]; done) | (rw [hnum_, zcw]))
  refine ⟨_, rfl, h86, v_t_0, j79_v56_0, v_t_2, v_t_3, ?_, ?_, ?_⟩
  · rw [q0]; rw [q1]; rw [q2]; rw [q3]; exact S543.sub [6, 4, 7, 8] (by decide) rfl _ rfl
  · first | rfl | (simp only [q0, q1, q2, q3, q4, q5]; rfl) | (simp only [q0, q1, q2, q3, q4, q5])
  · rw [q5]; exact (zat (by first|omega|(simp;omega)|assumption) (by first|omega|(simp;omega)|assumption))
 refine zcn (i := 3) (i2 := 7) (by decide +kernel) ?_ ?_
 ·skip
  intro wd544 gd544
  have S545 := S49.keep gd544
  have hf546 := spUp gd544 hf50
  have hf547 := spUp gd544 hf51
  refine d_c rfl rfl rfl (zbg (args := [.slice A0_1 m.first.length c0_1, .pointer (some ⟨b20, 0, none⟩), .pointer (some ⟨b28, 0, none⟩)]) ca19 rfl rfl) (left_calls wd544 m.first A0_1 c0_1 b0_1 (l0_1.mono (St.le0 S545)) (zbc m) A42 c42 (And.intro lc42 cm42) (ld42.mono (le44.trans S545.ghost)) ⟨b20, 0, none⟩ (box_gcell (S545.box_at (j := 3) rfl)) number A44 c44 (And.intro lc44 cm44) (ld44.mono ((Le.refl _).trans S545.ghost)) ⟨b28, 0, none⟩ (box_gcell (S545.box_at (j := 5) rfl)) (by first | assumption | exact leftPre_ _ ⟨by omega, hR_.firsts⟩ | exact leftPre_ _ ⟨hss_.row _ (by assumption) (by omega), hR_.rows (by assumption) (by omega)⟩)) ?_
  rintro v548_0 w548 ⟨h548, _, T548, rfl⟩
  obtain ⟨k548, lk548, ll548, U548⟩ := zbp S545 T548
  have S549 := U548
  dsimp only [lAa, lAn, lA0, lAs] at S549
  have hf550 := spUp (Chg.of_below T548.below) hf546
  have hf551 := spUp (Chg.of_below T548.below) hf547
  refine ⟨.inl (Chg.of_below T548.below), ?_⟩
  refine qd0 (i := 6) (v := .agg #[.slice none 0 0, v548_0, .slice none 0 0, .slice none 0 0, .bool m.empty]) rfl (by decide +kernel) rfl rfl (zav (pv := [(1, v548_0), (4, .bool m.empty)]) rfl (zae pl27 ty27 rfl (cs := [.slice none 0 0, v548_0, .slice none 0 0, .slice none 0 0, .bool m.empty]) (zag (vc := [v548_0]) rfl (zac S549 (j := 6) rfl) rfl rfl (zag (vc := [.bool m.empty]) rfl rfl rfl rfl (zar rfl))))) (zau rfl) <| za0 (i := 7) (by decide +kernel) ?_
  intro wd552 gd552
  have S553 := S549.keep gd552
  have hf554 := spUp gd552 hf550
  have hf555 := spUp gd552 hf551
  obtain ⟨b556, w556, r556, g556, T556⟩ := zcb (P := Try.prog) S553 27 (v := (.agg #[.slice none 0 0, .slice none 0 0, .slice none 0 0, .slice none 0 0, .bool false])) [.slice none 0 0, .slice none 0 0, .slice none 0 0, .slice none 0 0, .bool false] rfl
  have S557 := T556
  dsimp only [lAa, lAn, lA0, lAs] at S557
  have hf558 := spUp g556 hf554
  have hf559 := spUp g556 hf555
  refine d_v (v := .pointer (some ⟨b556, 0, none⟩)) rfl rfl rfl (zbn ty27 r556) (.inl g556) <| za0 (i := 8) (by decide +kernel) ?_
  intro wd560 gd560
  have S561 := S557.keep gd560
  have hf562 := spUp gd560 hf558
  have hf563 := spUp gd560 hf559
  have oc565 := zba S561 (j := 6) rfl
  obtain ⟨w564, r564, g564, T564⟩ := zbq (P := Try.prog) (off := 0) (v := .agg #[.slice none 0 0, v548_0, .slice none 0 0, .slice none 0 0, .bool m.empty]) (vs := [.slice none 0 0, v548_0, .slice none 0 0, .slice none 0 0, .bool m.empty]) S561 ty27 rfl rfl (j := 7) rfl (by first | decide | exact Nat.le_of_ble_eq_true rfl) (zao rfl (zao oc565 (zao rfl (zao rfl (zao rfl zb9)))))
  have S566 := T564.fx 7 (box b556 27 [.slice none 0 0, v548_0, .slice none 0 0, .slice none 0 0, .bool m.empty]) rfl
  dsimp only [lAa, lAn, lA0, lAs] at S566
  have hf567 : (CFs ⟨b1, 1, none⟩ [.slice A0_1 m.first.length c0_1]).1 w564 := (CF.box (m := 1) (S566.box_at (j := 0) rfl) rfl)
  have hf568 : (CFs ⟨b1, 4, none⟩ [.bool m.empty]).1 w564 := (CF.box (m := 1) (S566.box_at (j := 0) rfl) rfl)
  refine d_s rfl rfl (zbd rfl rfl r564) (.inr (zbw (by decide +kernel) (zbw (by decide +kernel) trivial))) <| ra_done (by decide +kernel) ?_
  intro wd569 gd569
  have S570 := S566.keep gd569
  exact jn79 _ _ ⟨k548, b556, v548_0, lk548, S570.sub [0, 1, 3, 5, 6, 7] (by decide) rfl _ rfl, r34_1, r34_2, r34_4, rfl, rfl⟩
 intro wd571 gd571
 have S572 := S49.keep gd571
 have hf573 := spUp gd571 hf50
 have hf574 := spUp gd571 hf51
 obtain ⟨b575, w575, r575, g575, T575⟩ := zcb (P := Try.prog) S572 27 (v := (.agg #[.slice none 0 0, .slice none 0 0, .slice none 0 0, .slice none 0 0, .bool false])) [.slice none 0 0, .slice none 0 0, .slice none 0 0, .slice none 0 0, .bool false] rfl
 have S576 := T575
 dsimp only [lAa, lAn, lA0, lAs] at S576
 have hf577 := spUp g575 hf573
 have hf578 := spUp g575 hf574
 refine d_v (v := .pointer (some ⟨b575, 0, none⟩)) rfl rfl rfl (zbn ty27 r575) (.inl g575) <| za0 (i := 3) (by decide +kernel) ?_
 intro wd579 gd579
 have S580 := S576.keep gd579
 have hf581 := spUp gd579 hf577
 have hf582 := spUp gd579 hf578
 refine d_c rfl rfl rfl (zbg (args := [.slice A0_1 m.first.length c0_1, .pointer (some ⟨b20, 0, none⟩), .pointer (some ⟨b28, 0, none⟩)]) ca19 rfl rfl) (left_calls wd579 m.first A0_1 c0_1 b0_1 (l0_1.mono (St.le0 S580)) (zbc m) A42 c42 (And.intro lc42 cm42) (ld42.mono (le44.trans S580.ghost)) ⟨b20, 0, none⟩ (box_gcell (S580.box_at (j := 3) rfl)) number A44 c44 (And.intro lc44 cm44) (ld44.mono ((Le.refl _).trans S580.ghost)) ⟨b28, 0, none⟩ (box_gcell (S580.box_at (j := 5) rfl)) (by first | assumption | exact leftPre_ _ ⟨by omega, hR_.firsts⟩ | exact leftPre_ _ ⟨hss_.row _ (by assumption) (by omega), hR_.rows (by assumption) (by omega)⟩)) ?_
 rintro v583_0 w583 ⟨h583, _, T583, rfl⟩
 obtain ⟨k583, lk583, ll583, U583⟩ := zbp S580 T583
 have S584 := U583
 dsimp only [lAa, lAn, lA0, lAs] at S584
 have hf585 := spUp (Chg.of_below T583.below) hf581
 have hf586 := spUp (Chg.of_below T583.below) hf582
 refine ⟨.inl (Chg.of_below T583.below), ?_⟩
 refine qd0 (i := 6) (v := .agg #[.slice none 0 0, v583_0, .slice none 0 0, .slice none 0 0, .bool m.empty]) rfl (by decide +kernel) rfl rfl (zav (pv := [(1, v583_0), (4, .bool m.empty)]) rfl (zae pl27 ty27 rfl (cs := [.slice none 0 0, v583_0, .slice none 0 0, .slice none 0 0, .bool m.empty]) (zag (vc := [v583_0]) rfl (zac S584 (j := 7) rfl) rfl rfl (zag (vc := [.bool m.empty]) rfl rfl rfl rfl (zar rfl))))) (zau rfl) <| za0 (i := 8) (by decide +kernel) ?_
 intro wd587 gd587
 have S588 := S584.keep gd587
 have hf589 := spUp gd587 hf585
 have hf590 := spUp gd587 hf586
 have oc592 := zba S588 (j := 7) rfl
 obtain ⟨w591, r591, g591, T591⟩ := zbq (P := Try.prog) (off := 0) (v := .agg #[.slice none 0 0, v583_0, .slice none 0 0, .slice none 0 0, .bool m.empty]) (vs := [.slice none 0 0, v583_0, .slice none 0 0, .slice none 0 0, .bool m.empty]) S588 ty27 rfl rfl (j := 6) rfl (by first | decide | exact Nat.le_of_ble_eq_true rfl) (zao rfl (zao oc592 (zao rfl (zao rfl (zao rfl zb9)))))
 have S593 := T591.fx 6 (box b575 27 [.slice none 0 0, v583_0, .slice none 0 0, .slice none 0 0, .bool m.empty]) rfl
 dsimp only [lAa, lAn, lA0, lAs] at S593
 have hf594 : (CFs ⟨b1, 1, none⟩ [.slice A0_1 m.first.length c0_1]).1 w591 := (CF.box (m := 1) (S593.box_at (j := 0) rfl) rfl)
 have hf595 : (CFs ⟨b1, 4, none⟩ [.bool m.empty]).1 w591 := (CF.box (m := 1) (S593.box_at (j := 0) rfl) rfl)
 refine d_s rfl rfl (zbd rfl rfl r591) (.inr (zbw (by decide +kernel) (zbw (by decide +kernel) trivial))) <| ra_done (by decide +kernel) ?_
 intro wd596 gd596
 have S597 := S593.keep gd596
 exact jn79 _ _ ⟨k583, b575, v583_0, lk583, S597.sub [0, 1, 3, 5, 7, 6] (by decide) rfl _ rfl, r34_1, r34_2, r34_4, rfl, rfl⟩
end Go.Proofs.Ythpdebieagaghaa
namespace Gx
open Go Go.RowKit
set_option linter.unusedSimpArgs false
set_option linter.unusedSectionVars false
set_option linter.unusedVariables false
def zaa : Mach := ⟨[⟨zbb [97], 0⟩, ⟨zbb [98], 0⟩, ⟨zbb [99], 0⟩], [0], [[1, 2], [], []], [false, true, false], true⟩
def addS (out : List BSet) (s : BSet) : List BSet := if out.any fun x => decide (s = x) then out else out ++ [s]
def zcm (m : Mach) (t : Int) : List BSet := ((m.spots.take t.toNat).map fun x => x.set).foldl addS []
def setsM (m : Mach) : List BSet := (m.spots.map fun x => x.set).foldl addS []
theorem sets_0 (m : Mach) : ([] : List BSet) = zcm m 0 := rfl
theorem sets_step (m : Mach) {t : Int} (h0 : 0 ≤ t) (h1 : t < (m.spots.length : Int)) : zcm m (t + 1) = addS (zcm m t) (at_ m.spots t).set := by
  unfold zcm
  rw [take_next _ h0 h1, List.map_append, List.foldl_append]; rfl
theorem sets_old (m : Mach) {t : Int} (h0 : 0 ≤ t) (h1 : t < (m.spots.length : Int)) {out : List BSet} (ho : out = zcm m t) (h : (out.any fun x => decide ((at_ m.spots t).set = x)) = true) : out = zcm m (t + 1) := by
  rw [sets_step m h0 h1, ← ho]
  unfold addS; rw [if_pos h]
theorem sets_new (m : Mach) {t : Int} (h0 : 0 ≤ t) (h1 : t < (m.spots.length : Int)) {out : List BSet} (ho : out = zcm m t) (h : (out.any fun x => decide ((at_ m.spots t).set = x)) = false) : out ++ [(at_ m.spots t).set] = zcm m (t + 1) := by
  rw [sets_step m h0 h1, ← ho]
  unfold addS; rw [if_neg (by rw [h]; simp)]
theorem sets_end (m : Mach) {t : Int} (h : (m.spots.length : Int) ≤ t) : setsM m = zcm m t := by
  unfold setsM zcm; rw [List.take_of_length_le (by omega)]
theorem fold_add_len : ∀ (l out : List BSet), (l.foldl addS out).length ≤ out.length + l.length
  | [], out => by simp
  | s :: l, out => by
    have := fold_add_len l (addS out s)
    have h2 : (addS out s).length ≤ out.length + 1 := by unfold addS; split <;> simp
    simp only [List.foldl_cons, List.length_cons]; omega
theorem setsTo_len' (m : Mach) {t : Int} (h0 : 0 ≤ t) : ((zcm m t).length : Int) ≤ t := by
  have := fold_add_len ((m.spots.take t.toNat).map fun x => x.set) []
  have h2 := List.length_take_le t.toNat m.spots
  simp only [List.length_map, List.length_nil, Nat.zero_add] at this
  unfold zcm; omega
end Gx
namespace Go.Proofs.Ythpdebieagaghaa
open Go Go.RowKit Gx
set_option maxHeartbeats 1000000
set_option linter.unusedVariables false
set_option linter.unusedSimpArgs false
attribute [local irreducible] listOf count first has zbb wbits Lib.ctz zcz zbh rowOk tab markP intoP intoTo zcr zcg zcs runTo endsIn endTo runM posTo anyTo allTo numAt numsL numsIn zcl kept lefts zcx lastTp zck zaj errM zdb zbc lfp seekN seekB fullS zcj useN trues addS zcm setsM
theorem indexS_calls (w : World) (s : List BSet) (A0 : Option Addr) (c0 : Nat) (b0 : s.length ≤ c0 ∧ c0 ≤ maxLen) (l0 : zbs kSet (hp w) A0 s) (x : BSet) :
    Calls Try.prog 31 #[.slice A0 s.length c0, .agg (za8 x).toArray] w fun e w' => ∃ v, e = .returned v ∧ ∃ (hn : Ghost), St w.heap.size w hn w' [] ∧ v = .int .i64 (zcj (fun z_ => decide (x = z_)) s 0) ∧ inK .i64 (zcj (fun z_ => decide (x = z_)) s 0) := by
 refine za1 Try.func31 rfl Try.ntmps31 rfl ?_
 have S0 := St.init w
 have bb0 := b0.1; have bc0 := b0.2; simp only [maxLen] at bc0
 refine zad <| zaf (l := [0, 1]) rfl ?_
 obtain ⟨b1, w1, r1, g1, T1⟩ := zcb (P := Try.prog) S0 36 (v := .agg (za8 x).toArray) (za8 x) rfl
 have S2 := T1
 dsimp only [lAa, lAn, lA0, lAs] at S2
 refine p_v (v := .pointer (some ⟨b1, 0, none⟩)) rfl rfl rfl (x_box rfl r1) <| p_v (v := .int .i64 0) rfl rfl rfl (zai rfl) <| zab <| zad <| zad <| zaf (l := [0, 1, 2]) rfl <| p_v (v := .slice A0 s.length c0) rfl rfl rfl (zah rfl) <| p_v (v := .int .i64 (s.length : Int)) rfl rfl rfl (za6 u43 rfl) <| p_v (v := .int .i64 0) rfl rfl rfl (zah rfl) <| zab <| zaz <| zcc (S := Int) (fun (q_ : Int) ρ w' => match q_ with | t8 => ∃ (h : Ghost), Le (fun _ => none) h ∧ St w.heap.size w h w' [box b1 36 (za8 x)] ∧ ρ 0 = .slice A0 s.length c0 ∧ ρ 3 = .pointer (some ⟨b1, 0, none⟩) ∧ ρ 7 = .int .i64 (s.length : Int) ∧ ρ 8 = .int .i64 t8 ∧ inK .i64 t8 ∧ (0 ≤ t8 ∧ t8 ≤ (s.length : Int) ∧ zcj (fun y => decide (x = y)) s 0 = zcj (fun y => decide (x = y)) (s.drop t8.toNat) t8)) (fun q_ => match q_ with | t8 => (s.length - t8).toNat) (0) ⟨(fun _ => none), Le.refl _, S2.sub [0] (by decide) rfl _ rfl, rfl, rfl, rfl, rfl, (zat (by first|omega|(simp;omega)|assumption) (by first|omega|(simp;omega)|assumption)), (by exact ⟨by omega, by omega, rfl⟩)⟩ ?_
 rintro t8 ih3 ρ3 w3 ⟨h3, le3, S3, r3_0, r3_3, r3_7, r3_8, f3_0, hI3⟩
 have lf3_0 := zb1 f3_0; have hf3_0 := zb2 f3_0
 refine zad <| zaf (l := [0]) rfl <| p_v (v := .bool (decide (t8 < (s.length : Int)))) rfl rfl rfl (x_lss r3_8 r3_7) <| zab <| zad ?_
 refine za3 (p := t8 < (s.length : Int)) rfl (fun hc4 => ?_) (fun hc4 => ?_)
 ·skip
  refine za9 <| zad <| zaz <| zad <| zaf (l := [0, 1]) rfl <| p_v (v := .int .i64 t8) rfl rfl rfl (zah r3_8) <| p_v (v := .int .i64 t8) rfl rfl rfl (zai rfl) <| zab <| zad ?_
  obtain ⟨ad5, seg5, a5, rp5, ce5⟩ := za5 (q := t8) (m := 4) l0 rfl (by first|omega|(simp;omega)|assumption) (by first|omega|(simp;omega)|assumption)
  obtain ⟨rfl, ok5⟩ := rp5
  have hf6 : (CFs ⟨b1, 0, none⟩ (za8 x)).1 w3 := (CF.box (m := 4) (S3.box_at (j := 0) rfl) rfl)
  have hf7 : (CFs ad5 (za8 (at_ s t8))).1 w3 := (CF.ghost ce5 (St.le0 S3))
  refine daS (hkC 0 hf6 (hkC 4 hf7 (hkN (w := w3)))) 6 rfl mixed ?_
  intro wd8 gd8 hd8
  have S9 := S3.keep gd8
  have hf10 := spUp gd8 hf6
  have hf11 := spUp gd8 hf7
  refine qd1 0 (i := 0) (v := .agg (za8 x).toArray) rfl rfl (by decide +kernel) rfl rfl (fun wq hq => (zan (seg := (za8 x)) ty36 rfl (by simp) r3_3 hq)) (of_eq hf10 (zau rfl)) <| qd0 (i := 1) (v := .slice A0 s.length c0) rfl (by decide +kernel) rfl rfl (zah r3_0) (zau rfl) <| qd0 (i := 2) (v := .int .i64 t8) rfl (by decide +kernel) rfl rfl (zah rfl) (zau rfl) <| qd0 (i := 3) (v := .pointer (some ad5)) rfl (by decide +kernel) rfl rfl (za4 u43 ty36 rfl rfl a5 (by first|omega|(simp;omega)|assumption) (by first|omega|(simp;omega)|assumption)) (zau rfl) <| qd1 1 (i := 4) (v := .agg (za8 (at_ s t8)).toArray) rfl rfl (by decide +kernel) rfl rfl (fun wq hq => (zan (seg := (za8 (at_ s t8))) ty36 rfl (by simp) rfl hq)) (zc1 rfl (of_eq hf11 (zau rfl))) <| qd0 (i := 5) (v := .bool (decide (x = (at_ s t8)))) rfl (by decide +kernel) rfl rfl (x_eql_set u36 u34 ty34 q36 rfl rfl) (zau rfl) <| ra_done (by decide +kernel) ?_
  intro wd12 gd12
  have S13 := S9.keep gd12
  refine za3 (p := x = (at_ s t8)) rfl (fun hc14 => ?_) (fun hc14 => ?_)
  ·skip
   refine zad <| zaf (l := [0, 1]) rfl <| p_v (v := .int .i64 t8) rfl rfl rfl (zah rfl) <| p_v (v := .int .i64 t8) rfl rfl rfl (zai rfl) <| zab <| zbi Try.func31 (res1 rfl (zbk (v := .int .i64 t8) rfl)) ?_
   have q0 : (zcj (fun z_ => decide (x = z_)) s 0 : Int) = t8 := by
    rw [hI3.2.2, placeF_drop _ _ hI3.1 (by omega), if_pos (decide_eq_true (by assumption))]
   refine ⟨_, rfl, h3, ?_, ?_, ?_⟩
   · exact S13.sub [] (by decide) rfl _ rfl
   · first | rfl | (simp only [q0]; rfl) | (simp only [q0])
   · rw [q0]; exact f3_0
  refine za9 <| za2 <| zaf (l := [0, 1]) rfl <| p_v (v := .int .i64 (t8 + 1)) rfl rfl rfl (zcv r3_8 rfl (zat (by first|omega|(simp;omega)|assumption) (by first|omega|(simp;omega)|assumption))) <| p_v (v := .int .i64 (t8 + 1)) rfl rfl rfl (zah rfl) <| zab ?_
  refine ih3 (t8 + 1) _ _ (by dsimp only; omega) ⟨h3, le3, S13.sub [0] (by decide) rfl _ rfl, r3_0, r3_3, r3_7, rfl, (zat (by first|omega|(simp;omega)|assumption) (by first|omega|(simp;omega)|assumption)), (by exact ⟨by omega, by omega, by rw [hI3.2.2, placeF_drop _ _ hI3.1 (by omega), if_neg (by simpa using (by assumption : ¬ x = at_ s t8))]⟩)⟩
 refine zby rfl <| zad <| zaf (l := [0]) rfl <| p_v (v := .int .i64 (-1)) rfl rfl rfl (zai rfl) <| zab <| zbi Try.func31 (res1 rfl (zbk (v := .int .i64 (-1)) rfl)) ?_
 have q0 : (zcj (fun z_ => decide (x = z_)) s 0 : Int) = (-1) := by
  rw [hI3.2.2, List.drop_of_length_le (by omega)]; exact placeF_nil _ _
 refine ⟨_, rfl, h3, ?_, ?_, ?_⟩
 · exact S3.sub [] (by decide) rfl _ rfl
 · first | rfl | (simp only [q0]; rfl) | (simp only [q0])
 · rw [q0]; exact (zat (by first|omega|(simp;omega)|assumption) (by first|omega|(simp;omega)|assumption))
theorem containsS_calls (w : World) (s : List BSet) (A0 : Option Addr) (c0 : Nat) (b0 : s.length ≤ c0 ∧ c0 ≤ maxLen) (l0 : zbs kSet (hp w) A0 s) (x : BSet) :
    Calls Try.prog 25 #[.slice A0 s.length c0, .agg (za8 x).toArray] w fun e w' => ∃ v, e = .returned v ∧ ∃ (hn : Ghost), St w.heap.size w hn w' [] ∧ v = .bool (s.any fun z_ => decide (x = z_)) := by
 refine za1 Try.func25 rfl Try.ntmps25 rfl ?_
 have S0 := St.init w
 have bb0 := b0.1; have bc0 := b0.2; simp only [maxLen] at bc0
 refine zad <| zaf (l := [0, 1]) rfl ?_
 obtain ⟨b1, w1, r1, g1, T1⟩ := zcb (P := Try.prog) S0 36 (v := .agg (za8 x).toArray) (za8 x) rfl
 have S2 := T1
 dsimp only [lAa, lAn, lA0, lAs] at S2
 refine p_v (v := .pointer (some ⟨b1, 0, none⟩)) rfl rfl rfl (x_box rfl r1) <| p_v (v := .bool false) rfl rfl rfl (zai rfl) <| zab <| zad <| zaf (l := [0, 1, 2, 3, 4]) rfl <| p_v (v := .slice A0 s.length c0) rfl rfl rfl (zah rfl) <| p_v (v := .agg (za8 x).toArray) rfl rfl rfl (zan (seg := (za8 x)) ty36 rfl (by simp) rfl (CF.box (m := 4) (S2.box_at (j := 0) rfl) rfl)) <| p_c rfl rfl rfl (zbg (args := [.slice A0 s.length c0, .agg (za8 x).toArray]) ca31 rfl rfl) (indexS_calls w1 s A0 c0 b0 (l0.mono (St.le0 S2)) x) ?_
 rintro _ w3 ⟨h3, T3, rfl, in3_0⟩
 have S4 := S2.keep (Chg.of_below T3.below)
 have lo_in3_0 := zb1 in3_0; have hi_in3_0 := zb2 in3_0
 refine p_v (v := .bool (decide (0 ≤ (zcj (fun z_ => decide (x = z_)) s 0)))) rfl rfl rfl (x_geq rfl rfl) <| p_v (v := .bool (decide (0 ≤ (zcj (fun z_ => decide (x = z_)) s 0)))) rfl rfl rfl (zai rfl) <| zab <| zbi Try.func25 (res1 rfl (zbk (v := .bool (decide (0 ≤ (zcj (fun z_ => decide (x = z_)) s 0)))) rfl)) ?_
 have q0 : (s.any fun z_ => decide (x = z_) : Bool) = decide (0 ≤ (zcj (fun z_ => decide (x = z_)) s 0)) := by
  exact (placeF_any _ _ _ (by omega)).symm
 refine ⟨_, rfl, (fun _ => none), ?_, ?_⟩
 · exact S4.sub [] (by decide) rfl _ rfl
 · first | rfl | (simp only [q0]; rfl) | (simp only [q0])
theorem setsN_calls (w : World) (m : Mach) (A0_0 : Option Addr) (c0_0 : Nat) (b0_0 : m.spots.length ≤ c0_0 ∧ c0_0 ≤ maxLen) (l0_0 : zbs zax (hp w) A0_0 m.spots) (A0_1 : Option Addr) (c0_1 : Nat) (b0_1 : m.first.length ≤ c0_1 ∧ c0_1 ≤ maxLen) (l0_1 : zbs (Kd.int .i64) (hp w) A0_1 m.first) (A0_2 : Option Addr) (c0_2 : Nat) (b0_2 : m.follow.length ≤ c0_2 ∧ c0_2 ≤ maxLen) (l0_2 : zbs (Kd.int .i64).slice (hp w) A0_2 m.follow) (A0_3 : Option Addr) (c0_3 : Nat) (b0_3 : m.last.length ≤ c0_3 ∧ c0_3 ≤ maxLen) (l0_3 : zbs Kd.bool (hp w) A0_3 m.last) (pre0 : (m.spots.length : Int) ≤ 1000) :
    Calls Try.prog 13 #[.agg #[.slice A0_0 m.spots.length c0_0, .slice A0_1 m.first.length c0_1, .slice A0_2 m.follow.length c0_2, .slice A0_3 m.last.length c0_3, .bool m.empty]] w fun e w' => ∃ v, e = .returned v ∧ ∃ (hn : Ghost) (r0 : Value), St w.heap.size w hn w' [row 36 kSet r0 (setsM m)] ∧ v = r0 := by
 refine za1 Try.func13 rfl Try.ntmps13 rfl ?_
 have S0 := St.init w
 have bb0_0 := b0_0.1; have bc0_0 := b0_0.2; simp only [maxLen] at bc0_0
 have bb0_1 := b0_1.1; have bc0_1 := b0_1.2; simp only [maxLen] at bc0_1
 have bb0_2 := b0_2.1; have bc0_2 := b0_2.2; simp only [maxLen] at bc0_2
 have bb0_3 := b0_3.1; have bc0_3 := b0_3.2; simp only [maxLen] at bc0_3
 refine zad <| zaf (l := [0, 1]) rfl ?_
 obtain ⟨b1, w1, r1, g1, T1⟩ := zcb (P := Try.prog) S0 27 (v := .agg #[.slice A0_0 m.spots.length c0_0, .slice A0_1 m.first.length c0_1, .slice A0_2 m.follow.length c0_2, .slice A0_3 m.last.length c0_3, .bool m.empty]) [.slice A0_0 m.spots.length c0_0, .slice A0_1 m.first.length c0_1, .slice A0_2 m.follow.length c0_2, .slice A0_3 m.last.length c0_3, .bool m.empty] rfl
 have S2 := T1
 dsimp only [lAa, lAn, lA0, lAs] at S2
 refine p_v (v := .pointer (some ⟨b1, 0, none⟩)) rfl rfl rfl (x_box rfl r1) <| p_v (v := .slice none 0 0) rfl rfl rfl (zai rfl) <| zab <| zad <| zaf (l := [0]) rfl <| p_v (v := .slice none 0 0) rfl rfl rfl (zai rfl) <| zab <| zad <| zad <| zaf (l := [0, 1, 2, 3]) rfl <| p_v (v := .pointer (some ⟨b1, 0, none⟩)) rfl rfl rfl (zas fd27_0 ty22 rfl rfl) <| p_v (v := .slice A0_0 m.spots.length c0_0) rfl rfl rfl (zan (seg := [.slice A0_0 m.spots.length c0_0]) ty22 rfl (by simp) rfl (CF.box (m := 1) (S2.box_at (j := 0) rfl) rfl)) ?_
 refine p_v (v := .int .i64 (m.spots.length : Int)) rfl rfl rfl (za6 u22 rfl) <| p_v (v := .int .i64 0) rfl rfl rfl (zah rfl) <| zab <| zaz ?_
 have T3 := S2.row_nil 36 kSet
 obtain ⟨vn3, ev3, T3⟩ : ∃ v, v = (.slice none 0 0 : Value) ∧ St w.heap.size w (fun _ => none) w1 ([box b1 27 [.slice A0_0 m.spots.length c0_0, .slice A0_1 m.first.length c0_1, .slice A0_2 m.follow.length c0_2, .slice A0_3 m.last.length c0_3, .bool m.empty]] ++ [row 36 kSet v []]) := ⟨_, rfl, T3⟩
 have S4 := T3
 dsimp only [lAa, lAn, lA0, lAs] at S4
 refine zcc (S := (List BSet) × Int) (fun (q_ : (List BSet) × Int) ρ w' => match q_ with | (out, t9) => ∃ (h : Ghost) (v_out : Value), Le (fun _ => none) h ∧ St w.heap.size w h w' [row 36 kSet v_out out] ∧ ρ 3 = v_out ∧ ρ 7 = .slice A0_0 m.spots.length c0_0 ∧ ρ 8 = .int .i64 (m.spots.length : Int) ∧ ρ 9 = .int .i64 t9 ∧ inK .i64 t9 ∧ (0 ≤ t9 ∧ t9 ≤ (m.spots.length : Int) ∧ out = zcm m t9)) (fun q_ => match q_ with | (out, t9) => (m.spots.length - t9).toNat) (([] : List BSet), 0) ⟨(fun _ => none), vn3, Le.refl _, S4.sub [1] (by decide) rfl _ rfl, (ev3.symm), rfl, rfl, rfl, (zat (by first|omega|(simp;omega)|assumption) (by first|omega|(simp;omega)|assumption)), (by exact ⟨by omega, by omega, sets_0 m⟩)⟩ ?_
 rintro ⟨out, t9⟩ ih5 ρ5 w5 ⟨h5, v_out, le5, S5, r5_3, r5_7, r5_8, r5_9, f5_0, hI5⟩
 have lf5_0 := zb1 f5_0; have hf5_0 := zb2 f5_0
 have rl5_0 := S5.row_le (j := 0) rfl; simp only [maxLen] at rl5_0
 have hl_ : (out.length : Int) ≤ t9 := by rw [hI5.2.2]; exact setsTo_len' m hI5.1
 refine zad <| zaf (l := [0]) rfl <| p_v (v := .bool (decide (t9 < (m.spots.length : Int)))) rfl rfl rfl (x_lss r5_9 r5_8) <| zab <| zad ?_
 refine za3 (p := t9 < (m.spots.length : Int)) rfl (fun hc6 => ?_) (fun hc6 => ?_)
 ·skip
  refine za9 <| zad <| zaz <| zad <| zaf (l := [0, 1, 2, 3]) rfl ?_
  obtain ⟨ad7, seg7, a7, rp7, ce7⟩ := za5 (q := t9) (m := 5) l0_0 rfl (by first|omega|(simp;omega)|assumption) (by first|omega|(simp;omega)|assumption)
  refine p_v (v := .pointer (some ad7)) rfl rfl rfl (za4 u22 ty38 r5_7 r5_9 a7 (by first|omega|(simp;omega)|assumption) (by first|omega|(simp;omega)|assumption)) ?_
  obtain ⟨rfl, ok7⟩ := rp7
  have slook7 := u8_lo ok7; have shiok7 := u8_hi ok7
  refine p_v (v := .agg (zak (at_ m.spots t9)).toArray) rfl rfl rfl (zan (seg := (zak (at_ m.spots t9))) ty38 rfl (by simp) rfl (CF.ghost ce7 (St.le0 S5))) ?_
  obtain ⟨b8, w8, r8, g8, T8⟩ := zcb (P := Try.prog) S5 38 (v := (.agg #[.int .u64 0, .int .u64 0, .int .u64 0, .int .u64 0, .int .u8 0])) (zak (⟨0, 0⟩ : Spot)) rfl
  have S9 := T8
  dsimp only [lAa, lAn, lA0, lAs] at S9
  refine p_v (v := .pointer (some ⟨b8, 0, none⟩)) rfl rfl rfl (zbn ty38 r8) ?_
  obtain ⟨w10, r10, g10, T10⟩ := zbq (P := Try.prog) (off := 0) (v := .agg (zak (at_ m.spots t9)).toArray) (vs := (zak (at_ m.spots t9))) S9 ty38 rfl rfl (j := 1) rfl (by first | decide | exact Nat.le_of_ble_eq_true rfl) (encSpot_one _)
  have S11 := T10.fx 1 (box b8 38 (zak (at_ m.spots t9))) rfl
  dsimp only [lAa, lAn, lA0, lAs] at S11
  refine p_s rfl rfl (zbd rfl rfl r10) <| zab <| zad <| zaf (l := [0, 1, 2, 3, 4]) rfl <| p_v (v := v_out) rfl rfl rfl (zah r5_3) <| p_v (v := .pointer (some ⟨b8, 0, none⟩)) rfl rfl rfl (zas fd38_0 ty36 rfl rfl) <| p_v (v := .agg (za8 ((at_ m.spots t9).set)).toArray) rfl rfl rfl (zan (seg := (za8 ((at_ m.spots t9).set))) ty36 rfl (by simp) rfl (CF.box (m := 4) (S11.box_at (j := 1) rfl) rfl)) ?_
  obtain ⟨A12, c12, ev12, lc12, cm12⟩ := S11.row_val (j := 0) rfl
  refine p_c rfl rfl rfl (zbg (args := [.slice A12 out.length c12, .agg (za8 ((at_ m.spots t9).set)).toArray]) ca25 rfl (zbr ev12 (zbr rfl rfl))) (containsS_calls w10 out A12 c12 (And.intro lc12 cm12) (zay S11 (j := 0) rfl ev12) ((at_ m.spots t9).set)) ?_
  rintro _ w13 ⟨h13, T13, rfl⟩
  have S14 := S11.keep (Chg.of_below T13.below)
  refine p_v (v := .bool (!(out.any fun z_ => decide (((at_ m.spots t9).set) = z_)))) rfl rfl rfl (x_not rfl) <| zab ?_
  refine zb8 (b := out.any fun z_ => decide (((at_ m.spots t9).set) = z_)) rfl (fun hc15 => ?_) (fun hc15 => ?_)
  ·skip
   refine zaf (l := [0, 1, 2, 3, 4, 5]) rfl <| p_v (v := v_out) rfl rfl rfl (zah r5_3) <| p_v (v := .pointer (some ⟨b8, 0, none⟩)) rfl rfl rfl (zas fd38_0 ty36 rfl rfl) <| p_v (v := .agg (za8 ((at_ m.spots t9).set)).toArray) rfl rfl rfl (zan (seg := (za8 ((at_ m.spots t9).set))) ty36 rfl (by simp) rfl (CF.box (m := 4) (S14.box_at (j := 1) rfl) rfl)) ?_
   obtain ⟨v16, w16, r16, g16, T16⟩ := zc9 (kd := kSet) (xs := ([(at_ m.spots t9).set] : List BSet)) (len := 1) (m := 4) [(.agg (za8 ((at_ m.spots t9).set)).toArray, (za8 ((at_ m.spots t9).set)))] S14 u43 ty36 rfl rfl rfl rfl (zcf rfl rfl segs_nil) (cs := (za8 ((at_ m.spots t9).set))) (zbl.single (k := kSet) (h := h5) (x := (at_ m.spots t9).set) (cs := (za8 ((at_ m.spots t9).set))) ⟨rfl, trivial⟩) (by first | rfl | simp only [List.flatMap_cons, List.flatMap_nil, List.append_nil] | simp)
   have S17 := T16
   dsimp only [lAa, lAn, lA0, lAs] at S17
   refine p_v (v := v16) rfl rfl rfl (zaw (pv := [(0, .agg (za8 ((at_ m.spots t9).set)).toArray)]) rfl r16) ?_
   obtain ⟨A19, c19, ev19, lc19, cm19⟩ := S17.row_val (j := 2) rfl
   obtain ⟨v20, w20, r20, g20, T20⟩ := e_append (kd := kSet) (A := A19) (c := c19) (ys := ([(at_ m.spots t9).set] : List BSet)) (len := ([(at_ m.spots t9).set] : List BSet).length) 43 S17 u43 ty36 rfl rfl (j := 0) rfl rfl (news_own S17 (j := 2) rfl ev19) (by first|omega|(simp;omega)|assumption) (by first|omega|(simp;omega)|assumption)
   have S21 := T20.fx 0 (row 36 kSet v20 (out ++ ([(at_ m.spots t9).set] : List BSet))) rfl
   dsimp only [lAa, lAn, lA0, lAs] at S21
   refine p_v (v := v20) rfl rfl rfl (x_append rfl ev19 r20) <| p_v (v := v20) rfl rfl rfl (zai rfl) <| zab <| za2 <| zaf (l := [0, 1]) rfl <| p_v (v := .int .i64 (t9 + 1)) rfl rfl rfl (zcv r5_9 rfl (zat (by first|omega|(simp;omega)|assumption) (by first|omega|(simp;omega)|assumption))) <| p_v (v := .int .i64 (t9 + 1)) rfl rfl rfl (zah rfl) <| zab ?_
   refine ih5 (out ++ ([(at_ m.spots t9).set] : List BSet), t9 + 1) _ _ (by dsimp only; omega) ⟨h5, v20, le5, S21.sub [0] (by decide) rfl _ rfl, rfl, r5_7, r5_8, rfl, (zat (by first|omega|(simp;omega)|assumption) (by first|omega|(simp;omega)|assumption)), (by first | exact ⟨by omega, by omega, sets_old m hI5.1 (by omega) hI5.2.2 (by assumption)⟩ | exact ⟨by omega, by omega, sets_new m hI5.1 (by omega) hI5.2.2 (by assumption)⟩)⟩
  refine za9 <| za2 <| zaf (l := [0, 1]) rfl <| p_v (v := .int .i64 (t9 + 1)) rfl rfl rfl (zcv r5_9 rfl (zat (by first|omega|(simp;omega)|assumption) (by first|omega|(simp;omega)|assumption))) <| p_v (v := .int .i64 (t9 + 1)) rfl rfl rfl (zah rfl) <| zab ?_
  refine ih5 (out, t9 + 1) _ _ (by dsimp only; omega) ⟨h5, v_out, le5, S14.sub [0] (by decide) rfl _ rfl, r5_3, r5_7, r5_8, rfl, (zat (by first|omega|(simp;omega)|assumption) (by first|omega|(simp;omega)|assumption)), (by first | exact ⟨by omega, by omega, sets_old m hI5.1 (by omega) hI5.2.2 (by assumption)⟩ | exact ⟨by omega, by omega, sets_new m hI5.1 (by omega) hI5.2.2 (by assumption)⟩)⟩
 refine zby rfl <| zad <| zaf (l := [0, 1]) rfl <| p_v (v := v_out) rfl rfl rfl (zah r5_3) <| p_v (v := v_out) rfl rfl rfl (zai rfl) <| zab <| zbi Try.func13 (res1 rfl (zbk (v := v_out) rfl)) ?_
 have q0 : (setsM m : List BSet) = out := by
  rw [hI5.2.2]; exact sets_end m (by omega)
 refine ⟨_, rfl, h5, v_out, ?_, ?_⟩
 · rw [q0]; exact S5.sub [0] (by decide) rfl _ rfl
 · first | rfl | (simp only [q0]; rfl) | (simp only [q0])
theorem zcy (w : World) :
    Calls Try.prog 10 #[] w fun e w' => ∃ v, e = .returned v ∧ ∃ (hn : Ghost) (r0 : Value) (r1 : Value) (r2 : Value) (r3 : Value), St w.heap.size w hn w' [row 38 zax r0 zaa.spots, row 3 (Kd.int .i64) r1 zaa.first, row 23 (Kd.int .i64).slice r2 zaa.follow, row 4 Kd.bool r3 zaa.last] ∧ v = .agg #[r0, r1, r2, r3, .bool zaa.empty] := by
 refine za1 Try.func10 rfl Try.ntmps10 rfl ?_
 have S0 := St.init w
 refine zad <| zaf (l := [0]) rfl ?_
 obtain ⟨b1, w1, r1, g1, T1⟩ := zcb (P := Try.prog) S0 27 (v := (.agg #[.slice none 0 0, .slice none 0 0, .slice none 0 0, .slice none 0 0, .bool false])) [.slice none 0 0, .slice none 0 0, .slice none 0 0, .slice none 0 0, .bool false] rfl
 have S2 := T1
 dsimp only [lAa, lAn, lA0, lAs] at S2
 refine p_v (v := .pointer (some ⟨b1, 0, none⟩)) rfl rfl rfl (zbn ty27 r1) <| zab <| zad <| zaf (l := [0, 1, 2, 3, 4, 5, 6, 7, 8, 9, 10, 11, 12, 13, 14, 15, 16, 17]) rfl ?_
 obtain ⟨v3, w3, r3, g3, T3⟩ := za7 (kd := (Kd.int .u8)) (xs := ([97] : List Int)) (len := 1) [.int .u8 97] S2 u56 ty5 rfl rfl rfl rfl rfl (zbj rfl zb4) [.int .u8 97] (zbl.single (k := (Kd.int .u8)) (h := (fun _ => none)) (x := 97) (cs := [.int .u8 97]) ⟨rfl, (in_u8 (by first|omega|(simp;omega)|assumption) (by first|omega|(simp;omega)|assumption))⟩) rfl
 have S4 := T3
 dsimp only [lAa, lAn, lA0, lAs] at S4
 refine p_v (v := v3) rfl rfl rfl (zaw (pv := [(0, .int .u8 97)]) rfl r3) ?_
 obtain ⟨A5, c5, ev5, lc5, cm5⟩ := S4.row_val (j := 1) rfl
 refine p_c rfl rfl rfl (zbg (args := [.slice A5 ([97] : List Int).length c5]) ca14 rfl (zbr ev5 rfl)) (of_calls w3 ([97] : List Int) A5 c5 (And.intro lc5 cm5) (zay S4 (j := 1) rfl ev5)) ?_
 rintro _ w6 ⟨h6, T6, rfl⟩
 have S7 := S4.keep (Chg.of_below T6.below)
 refine p_v (v := .agg (zak (⟨zbb ([97] : List Int), 0⟩ : Spot)).toArray) rfl rfl rfl (zav (pv := [(0, .agg (za8 (zbb ([97] : List Int))).toArray)]) rfl (zae pl38 ty38 rfl (cs := (zak (⟨zbb ([97] : List Int), 0⟩ : Spot))) rfl)) ?_
 obtain ⟨v8, w8, r8, g8, T8⟩ := za7 (kd := (Kd.int .u8)) (xs := ([98] : List Int)) (len := 1) [.int .u8 98] S7 u56 ty5 rfl rfl rfl rfl rfl (zbj rfl zb4) [.int .u8 98] (zbl.single (k := (Kd.int .u8)) (h := (fun _ => none)) (x := 98) (cs := [.int .u8 98]) ⟨rfl, (in_u8 (by first|omega|(simp;omega)|assumption) (by first|omega|(simp;omega)|assumption))⟩) rfl
 have S9 := T8
 dsimp only [lAa, lAn, lA0, lAs] at S9
 refine p_v (v := v8) rfl rfl rfl (zaw (pv := [(0, .int .u8 98)]) rfl r8) ?_
 obtain ⟨A10, c10, ev10, lc10, cm10⟩ := S9.row_val (j := 2) rfl
 refine p_c rfl rfl rfl (zbg (args := [.slice A10 ([98] : List Int).length c10]) ca14 rfl (zbr ev10 rfl)) (of_calls w8 ([98] : List Int) A10 c10 (And.intro lc10 cm10) (zay S9 (j := 2) rfl ev10)) ?_
 rintro _ w11 ⟨h11, T11, rfl⟩
 have S12 := S9.keep (Chg.of_below T11.below)
 refine p_v (v := .agg (zak (⟨zbb ([98] : List Int), 0⟩ : Spot)).toArray) rfl rfl rfl (zav (pv := [(0, .agg (za8 (zbb ([98] : List Int))).toArray)]) rfl (zae pl38 ty38 rfl (cs := (zak (⟨zbb ([98] : List Int), 0⟩ : Spot))) rfl)) ?_
 obtain ⟨v13, w13, r13, g13, T13⟩ := za7 (kd := (Kd.int .u8)) (xs := ([99] : List Int)) (len := 1) [.int .u8 99] S12 u56 ty5 rfl rfl rfl rfl rfl (zbj rfl zb4) [.int .u8 99] (zbl.single (k := (Kd.int .u8)) (h := (fun _ => none)) (x := 99) (cs := [.int .u8 99]) ⟨rfl, (in_u8 (by first|omega|(simp;omega)|assumption) (by first|omega|(simp;omega)|assumption))⟩) rfl
 have S14 := T13
 dsimp only [lAa, lAn, lA0, lAs] at S14
 refine p_v (v := v13) rfl rfl rfl (zaw (pv := [(0, .int .u8 99)]) rfl r13) ?_
 obtain ⟨A15, c15, ev15, lc15, cm15⟩ := S14.row_val (j := 3) rfl
 refine p_c rfl rfl rfl (zbg (args := [.slice A15 ([99] : List Int).length c15]) ca14 rfl (zbr ev15 rfl)) (of_calls w13 ([99] : List Int) A15 c15 (And.intro lc15 cm15) (zay S14 (j := 3) rfl ev15)) ?_
 rintro _ w16 ⟨h16, T16, rfl⟩
 have S17 := S14.keep (Chg.of_below T16.below)
 refine p_v (v := .agg (zak (⟨zbb ([99] : List Int), 0⟩ : Spot)).toArray) rfl rfl rfl (zav (pv := [(0, .agg (za8 (zbb ([99] : List Int))).toArray)]) rfl (zae pl38 ty38 rfl (cs := (zak (⟨zbb ([99] : List Int), 0⟩ : Spot))) rfl)) ?_
 obtain ⟨v18, w18, r18, g18, T18⟩ := zc9 (kd := zax) (xs := ([(⟨zbb ([97] : List Int), 0⟩ : Spot), (⟨zbb ([98] : List Int), 0⟩ : Spot), (⟨zbb ([99] : List Int), 0⟩ : Spot)] : List Spot)) (len := 3) (m := 5) [(.agg (zak (⟨zbb ([97] : List Int), 0⟩ : Spot)).toArray, (zak (⟨zbb ([97] : List Int), 0⟩ : Spot))), (.agg (zak (⟨zbb ([98] : List Int), 0⟩ : Spot)).toArray, (zak (⟨zbb ([98] : List Int), 0⟩ : Spot))), (.agg (zak (⟨zbb ([99] : List Int), 0⟩ : Spot)).toArray, (zak (⟨zbb ([99] : List Int), 0⟩ : Spot)))] S17 u22 ty38 rfl rfl rfl rfl (zcf rfl rfl (zcf rfl rfl (zcf rfl rfl segs_nil))) (cs := ((zak (⟨zbb ([97] : List Int), 0⟩ : Spot)) ++ ((zak (⟨zbb ([98] : List Int), 0⟩ : Spot)) ++ ((zak (⟨zbb ([99] : List Int), 0⟩ : Spot)))))) (zbl.cons (k := zax) (h := (fun _ => none)) (x := (⟨zbb ([97] : List Int), 0⟩ : Spot)) (cs := (zak (⟨zbb ([97] : List Int), 0⟩ : Spot))) ⟨rfl, (by first | assumption | (show inK .u8 _; constructor <;> decide) | (constructor <;> simp [IntKind.min, IntKind.max] <;> omega))⟩ (zbl.cons (k := zax) (h := (fun _ => none)) (x := (⟨zbb ([98] : List Int), 0⟩ : Spot)) (cs := (zak (⟨zbb ([98] : List Int), 0⟩ : Spot))) ⟨rfl, (by first | assumption | (show inK .u8 _; constructor <;> decide) | (constructor <;> simp [IntKind.min, IntKind.max] <;> omega))⟩ (zbl.single (k := zax) (h := (fun _ => none)) (x := (⟨zbb ([99] : List Int), 0⟩ : Spot)) (cs := (zak (⟨zbb ([99] : List Int), 0⟩ : Spot))) ⟨rfl, (by first | assumption | (show inK .u8 _; constructor <;> decide) | (constructor <;> simp [IntKind.min, IntKind.max] <;> omega))⟩))) (by first | rfl | simp only [List.flatMap_cons, List.flatMap_nil, List.append_nil] | simp)
 have S19 := T18
 dsimp only [lAa, lAn, lA0, lAs] at S19
 refine p_v (v := v18) rfl rfl rfl (zaw (pv := [(0, .agg (zak (⟨zbb ([97] : List Int), 0⟩ : Spot)).toArray), (1, .agg (zak (⟨zbb ([98] : List Int), 0⟩ : Spot)).toArray), (2, .agg (zak (⟨zbb ([99] : List Int), 0⟩ : Spot)).toArray)]) rfl r18) ?_
 obtain ⟨v20, w20, r20, g20, T20⟩ := za7 (kd := (Kd.int .i64)) (xs := ([0] : List Int)) (len := 1) [.int .i64 0] S19 u23 ty3 rfl rfl rfl rfl rfl (zbj rfl zb4) [.int .i64 0] (zbl.single (k := (Kd.int .i64)) (h := (fun _ => none)) (x := 0) (cs := [.int .i64 0]) ⟨rfl, (zat (by first|omega|(simp;omega)|assumption) (by first|omega|(simp;omega)|assumption))⟩) rfl
 have S21 := T20
 dsimp only [lAa, lAn, lA0, lAs] at S21
 refine p_v (v := v20) rfl rfl rfl (zaw (pv := [(0, .int .i64 0)]) rfl r20) ?_
 obtain ⟨v22, w22, r22, g22, T22⟩ := za7 (kd := (Kd.int .i64)) (xs := ([1, 2] : List Int)) (len := 2) [.int .i64 1, .int .i64 2] S21 u23 ty3 rfl rfl rfl rfl rfl (zbj rfl (zbj rfl zb4)) ([.int .i64 1] ++ ([.int .i64 2])) (zbl.cons (k := (Kd.int .i64)) (h := (fun _ => none)) (x := 1) (cs := [.int .i64 1]) ⟨rfl, (zat (by first|omega|(simp;omega)|assumption) (by first|omega|(simp;omega)|assumption))⟩ (zbl.single (k := (Kd.int .i64)) (h := (fun _ => none)) (x := 2) (cs := [.int .i64 2]) ⟨rfl, (zat (by first|omega|(simp;omega)|assumption) (by first|omega|(simp;omega)|assumption))⟩)) rfl
 have S23 := T22
 dsimp only [lAa, lAn, lA0, lAs] at S23
 refine p_v (v := v22) rfl rfl rfl (zaw (pv := [(0, .int .i64 1), (1, .int .i64 2)]) rfl r22) ?_
 obtain ⟨v24, w24, r24, g24, T24⟩ := za7 (kd := (Kd.int .i64)) (xs := ([] : List Int)) (len := 0) [] S23 u23 ty3 rfl rfl rfl rfl rfl zb4 [] (zbl.nil _ _) rfl
 have S25 := T24
 dsimp only [lAa, lAn, lA0, lAs] at S25
 refine p_v (v := v24) rfl rfl rfl (zaw (pv := []) rfl r24) ?_
 obtain ⟨v26, w26, r26, g26, T26⟩ := za7 (kd := (Kd.int .i64)) (xs := ([] : List Int)) (len := 0) [] S25 u23 ty3 rfl rfl rfl rfl rfl zb4 [] (zbl.nil _ _) rfl
 have S27 := T26
 dsimp only [lAa, lAn, lA0, lAs] at S27
 refine p_v (v := v26) rfl rfl rfl (zaw (pv := []) rfl r26) ?_
 obtain ⟨h29, le29, T29, rp29⟩ := S27.freeze (i := 6) rfl
 have S30 := T29.fx 6 (emp) rfl
 dsimp only [lAa, lAn, lA0, lAs] at S30
 obtain ⟨A29, c29, e29, lc29, cm29, ld29⟩ := rp29
 injection e29 with e29 _; subst e29
 have cn29 := cm29; simp only [maxLen] at cn29
 obtain ⟨h31, le31, T31, rp31⟩ := S30.freeze (i := 7) rfl
 have S32 := T31.fx 7 (emp) rfl
 dsimp only [lAa, lAn, lA0, lAs] at S32
 obtain ⟨A31, c31, e31, lc31, cm31, ld31⟩ := rp31
 injection e31 with e31 _; subst e31
 have cn31 := cm31; simp only [maxLen] at cn31
 obtain ⟨h33, le33, T33, rp33⟩ := S32.freeze (i := 8) rfl
 have S34 := T33.fx 8 (emp) rfl
 dsimp only [lAa, lAn, lA0, lAs] at S34
 obtain ⟨A33, c33, e33, lc33, cm33, ld33⟩ := rp33
 injection e33 with e33 _; subst e33
 have cn33 := cm33; simp only [maxLen] at cn33
 obtain ⟨v28, w28, r28, g28, T28⟩ := za7 (kd := (Kd.int .i64).slice) (xs := ([([1, 2] : List Int), ([] : List Int), ([] : List Int)] : List (List Int))) (len := 3) [.slice A29 ([1, 2] : List Int).length c29, .slice A31 ([] : List Int).length c31, .slice A33 ([] : List Int).length c33] S34 u24 ty23 rfl rfl rfl rfl rfl (zbj rfl (zbj rfl (zbj rfl zb4))) ([.slice A29 ([1, 2] : List Int).length c29] ++ ([.slice A31 ([] : List Int).length c31] ++ ([.slice A33 ([] : List Int).length c33]))) (zbl.cons (k := (Kd.int .i64).slice) (h := h33) (x := ([1, 2] : List Int)) (cs := [.slice A29 ([1, 2] : List Int).length c29]) ⟨_, _, rfl, (And.intro lc29 cm29).1, (And.intro lc29 cm29).2, ld29.mono (le31.trans le33)⟩ (zbl.cons (k := (Kd.int .i64).slice) (h := h33) (x := ([] : List Int)) (cs := [.slice A31 ([] : List Int).length c31]) ⟨_, _, rfl, (And.intro lc31 cm31).1, (And.intro lc31 cm31).2, ld31.mono le33⟩ (zbl.single (k := (Kd.int .i64).slice) (h := h33) (x := ([] : List Int)) (cs := [.slice A33 ([] : List Int).length c33]) ⟨_, _, rfl, (And.intro lc33 cm33).1, (And.intro lc33 cm33).2, ld33.mono (Le.refl _)⟩))) rfl
 have S35 := T28
 dsimp only [lAa, lAn, lA0, lAs] at S35
 refine p_v (v := v28) rfl rfl rfl (zaw (pv := [(0, .slice A29 ([1, 2] : List Int).length c29), (1, .slice A31 ([] : List Int).length c31), (2, .slice A33 ([] : List Int).length c33)]) rfl r28) ?_
 obtain ⟨v36, w36, r36, g36, T36⟩ := za7 (kd := Kd.bool) (xs := ([false, true, false] : List Bool)) (len := 3) [.bool false, .bool true, .bool false] S35 u25 ty4 rfl rfl rfl rfl rfl (zbj rfl (zbj rfl (zbj rfl zb4))) ([.bool false] ++ ([.bool true] ++ ([.bool false]))) (zbl.cons (k := Kd.bool) (h := h33) (x := false) (cs := [.bool false]) ⟨rfl, trivial⟩ (zbl.cons (k := Kd.bool) (h := h33) (x := true) (cs := [.bool true]) ⟨rfl, trivial⟩ (zbl.single (k := Kd.bool) (h := h33) (x := false) (cs := [.bool false]) ⟨rfl, trivial⟩))) rfl
 have S37 := T36
 dsimp only [lAa, lAn, lA0, lAs] at S37
 refine p_v (v := v36) rfl rfl rfl (zaw (pv := [(0, .bool false), (1, .bool true), (2, .bool false)]) rfl r36) <| p_v (v := .agg #[v18, v20, v28, v36, .bool true]) rfl rfl rfl (zav (pv := [(0, v18), (1, v20), (2, v28), (3, v36), (4, .bool true)]) rfl (zae pl27 ty27 rfl (cs := [v18, v20, v28, v36, .bool true]) (zag (vc := [v18]) rfl (zac S37 (j := 4) rfl) rfl rfl (zag (vc := [v20]) rfl (zac S37 (j := 5) rfl) rfl rfl (zag (vc := [v28]) rfl (zac S37 (j := 9) rfl) rfl rfl (zag (vc := [v36]) rfl (zac S37 (j := 10) rfl) rfl rfl (zag (vc := [.bool true]) rfl rfl rfl rfl (zar rfl)))))))) ?_
 have oc39 := zba S37 (j := 4) rfl
 have oc40 := zba S37 (j := 5) rfl
 have oc41 := zba S37 (j := 9) rfl
 have oc42 := zba S37 (j := 10) rfl
 obtain ⟨w38, r38, g38, T38⟩ := zbq (P := Try.prog) (off := 0) (v := .agg #[v18, v20, v28, v36, .bool true]) (vs := [v18, v20, v28, v36, .bool true]) S37 ty27 rfl rfl (j := 0) rfl (by first | decide | exact Nat.le_of_ble_eq_true rfl) (zao oc39 (zao oc40 (zao oc41 (zao oc42 (zao rfl zb9)))))
 have S43 := T38.fx 0 (box b1 27 [v18, v20, v28, v36, .bool true]) rfl
 dsimp only [lAa, lAn, lA0, lAs] at S43
 refine p_s rfl rfl (zbd rfl rfl r38) <| zab <| zbi Try.func10 (res1 rfl (res_cell S43 ty27 rfl (j := 0) rfl rfl (by simp) rfl)) ?_
 have q0 : (zaa.spots : List Spot) = ([(⟨zbb ([97] : List Int), 0⟩ : Spot), (⟨zbb ([98] : List Int), 0⟩ : Spot), (⟨zbb ([99] : List Int), 0⟩ : Spot)] : List Spot) := by
  rfl
 have q1 : (zaa.first : List Int) = ([0] : List Int) := by
  rfl
 have q2 : (zaa.follow : List (List Int)) = ([([1, 2] : List Int), ([] : List Int), ([] : List Int)] : List (List Int)) := by
  rfl
 have q3 : (zaa.last : List Bool) = ([false, true, false] : List Bool) := by
  rfl
 have q4 : (zaa.empty : Bool) = true := by
  rfl
 refine ⟨_, rfl, h33, v18, v20, v28, v36, ?_, ?_⟩
 · rw [q0]; rw [q1]; rw [q2]; rw [q3]; exact S43.sub [4, 5, 9, 10] (by decide) rfl _ rfl
 · first | rfl | (simp only [q0, q1, q2, q3, q4]; rfl) | (simp only [q0, q1, q2, q3, q4])
end Go.Proofs.Ythpdebieagaghaa
namespace Go.Proofs.Ythpdebieagaghaa
open Go Go.RowKit Gx
set_option maxHeartbeats 1000000
set_option linter.unusedVariables false
set_option linter.unusedSimpArgs false
attribute [local irreducible] listOf count first has zbb wbits Lib.ctz zcz zbh rowOk tab markP intoP intoTo zcr zcg zcs runTo endsIn endTo runM posTo anyTo allTo numAt numsL numsIn zcl kept lefts zcx lastTp zck zaj errM zdb zbc lfp seekN seekB fullS zcj useN trues addS zcm setsM
theorem awake10_calls (w : World) :
    Calls Try.prog 6 #[] w fun e w' => ∃ v, e = .returned v ∧ ∃ (hn : Ghost), St w.heap.size w hn w' [] ∧ v = .bool true := by
 refine za1 Try.func6 rfl Try.ntmps6 rfl ?_
 have S0 := St.init w
 refine zad <| zaf (l := [0]) rfl <| p_v (v := .bool false) rfl rfl rfl (zai rfl) <| zab <| zad <| zaf (l := [0, 1, 2]) rfl <| p_c rfl rfl rfl (zbg (args := []) ca10 rfl rfl) (zcy w ) ?_
 rintro _ w1 ⟨h1, v1_0, v1_1, v1_2, v1_3, T1, rfl⟩
 obtain ⟨k1, lk1, ll1, U1⟩ := zbp S0 T1
 have S2 := U1
 dsimp only [lAa, lAn, lA0, lAs] at S2
 obtain ⟨h3, le3, T3, rp3⟩ := S2.freeze (i := 0) rfl
 have S4 := T3.fx 0 (emp) rfl
 dsimp only [lAa, lAn, lA0, lAs] at S4
 obtain ⟨A3, c3, e3, lc3, cm3, ld3⟩ := rp3
 injection e3 with e3 _; subst e3
 have cn3 := cm3; simp only [maxLen] at cn3
 obtain ⟨h5, le5, T5, rp5⟩ := S4.freeze (i := 1) rfl
 have S6 := T5.fx 1 (emp) rfl
 dsimp only [lAa, lAn, lA0, lAs] at S6
 obtain ⟨A5, c5, e5, lc5, cm5, ld5⟩ := rp5
 injection e5 with e5 _; subst e5
 have cn5 := cm5; simp only [maxLen] at cn5
 obtain ⟨h7, le7, T7, rp7⟩ := S6.freeze (i := 2) rfl
 have S8 := T7.fx 2 (emp) rfl
 dsimp only [lAa, lAn, lA0, lAs] at S8
 obtain ⟨A7, c7, e7, lc7, cm7, ld7⟩ := rp7
 injection e7 with e7 _; subst e7
 have cn7 := cm7; simp only [maxLen] at cn7
 obtain ⟨h9, le9, T9, rp9⟩ := S8.freeze (i := 3) rfl
 have S10 := T9.fx 3 (emp) rfl
 dsimp only [lAa, lAn, lA0, lAs] at S10
 obtain ⟨A9, c9, e9, lc9, cm9, ld9⟩ := rp9
 injection e9 with e9 _; subst e9
 have cn9 := cm9; simp only [maxLen] at cn9
 obtain ⟨b11, w11, r11, g11, T11⟩ := zcb (P := Try.prog) S10 27 (v := (.agg #[.slice none 0 0, .slice none 0 0, .slice none 0 0, .slice none 0 0, .bool false])) [.slice none 0 0, .slice none 0 0, .slice none 0 0, .slice none 0 0, .bool false] rfl
 have S12 := T11
 dsimp only [lAa, lAn, lA0, lAs] at S12
 refine p_v (v := .pointer (some ⟨b11, 0, none⟩)) rfl rfl rfl (zbn ty27 r11) ?_
 obtain ⟨w13, r13, g13, T13⟩ := zbq (P := Try.prog) (off := 0) (v := .agg #[.slice A3 zaa.spots.length c3, .slice A5 zaa.first.length c5, .slice A7 zaa.follow.length c7, .slice A9 zaa.last.length c9, .bool zaa.empty]) (vs := [.slice A3 zaa.spots.length c3, .slice A5 zaa.first.length c5, .slice A7 zaa.follow.length c7, .slice A9 zaa.last.length c9, .bool zaa.empty]) S12 ty27 rfl rfl (j := 4) rfl (by first | decide | exact Nat.le_of_ble_eq_true rfl) (by simp [Value.oneCell'])
 have S14 := T13.fx 4 (box b11 27 [.slice A3 zaa.spots.length c3, .slice A5 zaa.first.length c5, .slice A7 zaa.follow.length c7, .slice A9 zaa.last.length c9, .bool zaa.empty]) rfl
 dsimp only [lAa, lAn, lA0, lAs] at S14
 refine p_s rfl rfl (zbd rfl rfl r13) <| zab <| zad <| zaf (l := [0, 1, 2, 3, 4, 5, 6, 7]) rfl <| p_v (v := .agg #[.slice A3 zaa.spots.length c3, .slice A5 zaa.first.length c5, .slice A7 zaa.follow.length c7, .slice A9 zaa.last.length c9, .bool zaa.empty]) rfl rfl rfl (zan (seg := [.slice A3 zaa.spots.length c3, .slice A5 zaa.first.length c5, .slice A7 zaa.follow.length c7, .slice A9 zaa.last.length c9, .bool zaa.empty]) ty27 rfl (by simp) rfl (CF.box (m := 5) (S14.box_at (j := 4) rfl) rfl)) <| p_c rfl rfl rfl (zbg (args := [.agg #[.slice A3 zaa.spots.length c3, .slice A5 zaa.first.length c5, .slice A7 zaa.follow.length c7, .slice A9 zaa.last.length c9, .bool zaa.empty]]) ca8 rfl rfl) (trimN_calls w13 zaa A3 c3 (And.intro lc3 cm3) (ld3.mono (((le5.trans le7).trans le9).trans S14.ghost)) A5 c5 (And.intro lc5 cm5) (ld5.mono ((le7.trans le9).trans S14.ghost)) A7 c7 (And.intro lc7 cm7) (ld7.mono (le9.trans S14.ghost)) A9 c9 (And.intro lc9 cm9) (ld9.mono ((Le.refl _).trans S14.ghost))) ?_
 rintro _ w15 ⟨h15, v15_0, v15_1, v15_2, v15_3, T15, rfl, in15_0⟩
 obtain ⟨k15, lk15, ll15, U15⟩ := zbp S14 T15
 have S16 := U15
 dsimp only [lAa, lAn, lA0, lAs] at S16
 have lo_in15_0 := zb1 in15_0; have hi_in15_0 := zb2 in15_0
 obtain ⟨h17, le17, T17, rp17⟩ := S16.freeze (i := 5) rfl
 have lf17_0 := ((((((lk1.trans le3).trans le5).trans le7).trans le9).trans lk15).trans le17)
 have S18 := T17.fx 5 (emp) rfl
 dsimp only [lAa, lAn, lA0, lAs] at S18
 obtain ⟨A17, c17, e17, lc17, cm17, ld17⟩ := rp17
 injection e17 with e17 _; subst e17
 have cn17 := cm17; simp only [maxLen] at cn17
 obtain ⟨h19, le19, T19, rp19⟩ := S18.freeze (i := 6) rfl
 have lf19_1 := ((((((le3.trans le5).trans le7).trans le9).trans lk15).trans le17).trans le19)
 have S20 := T19.fx 6 (emp) rfl
 dsimp only [lAa, lAn, lA0, lAs] at S20
 obtain ⟨A19, c19, e19, lc19, cm19, ld19⟩ := rp19
 injection e19 with e19 _; subst e19
 have cn19 := cm19; simp only [maxLen] at cn19
 obtain ⟨h21, le21, T21, rp21⟩ := S20.freeze (i := 7) rfl
 have lf21_2 := ((((((le5.trans le7).trans le9).trans lk15).trans le17).trans le19).trans le21)
 have S22 := T21.fx 7 (emp) rfl
 dsimp only [lAa, lAn, lA0, lAs] at S22
 obtain ⟨A21, c21, e21, lc21, cm21, ld21⟩ := rp21
 injection e21 with e21 _; subst e21
 have cn21 := cm21; simp only [maxLen] at cn21
 obtain ⟨h23, le23, T23, rp23⟩ := S22.freeze (i := 8) rfl
 have lf23_3 := ((((((le7.trans le9).trans lk15).trans le17).trans le19).trans le21).trans le23)
 have S24 := T23.fx 8 (emp) rfl
 dsimp only [lAa, lAn, lA0, lAs] at S24
 obtain ⟨A23, c23, e23, lc23, cm23, ld23⟩ := rp23
 injection e23 with e23 _; subst e23
 have cn23 := cm23; simp only [maxLen] at cn23
 refine p_v (v := .tuple #[.agg #[.slice A17 ((zaj zaa).spots).length c17, .slice A19 ((zaj zaa).first).length c19, .slice A21 ((zaj zaa).follow).length c21, .slice A23 ((zaj zaa).last).length c23, .bool ((zaj zaa).empty)], .int .i64 (errM zaa)]) rfl rfl rfl (zah rfl) <| p_v (v := .agg #[.slice A17 ((zaj zaa).spots).length c17, .slice A19 ((zaj zaa).first).length c19, .slice A21 ((zaj zaa).follow).length c21, .slice A23 ((zaj zaa).last).length c23, .bool ((zaj zaa).empty)]) rfl rfl rfl (zc3 (vs := [.agg #[.slice A17 ((zaj zaa).spots).length c17, .slice A19 ((zaj zaa).first).length c19, .slice A21 ((zaj zaa).follow).length c21, .slice A23 ((zaj zaa).last).length c23, .bool ((zaj zaa).empty)], .int .i64 (errM zaa)]) rfl rfl) <| p_v (v := .int .i64 (errM zaa)) rfl rfl rfl (zc3 (vs := [.agg #[.slice A17 ((zaj zaa).spots).length c17, .slice A19 ((zaj zaa).first).length c19, .slice A21 ((zaj zaa).follow).length c21, .slice A23 ((zaj zaa).last).length c23, .bool ((zaj zaa).empty)], .int .i64 (errM zaa)]) rfl rfl) ?_
 obtain ⟨b25, w25, r25, g25, T25⟩ := zcb (P := Try.prog) S24 27 (v := (.agg #[.slice none 0 0, .slice none 0 0, .slice none 0 0, .slice none 0 0, .bool false])) [.slice none 0 0, .slice none 0 0, .slice none 0 0, .slice none 0 0, .bool false] rfl
 have S26 := T25
 dsimp only [lAa, lAn, lA0, lAs] at S26
 refine p_v (v := .pointer (some ⟨b25, 0, none⟩)) rfl rfl rfl (zbn ty27 r25) ?_
 obtain ⟨w27, r27, g27, T27⟩ := zbq (P := Try.prog) (off := 0) (v := .agg #[.slice A17 ((zaj zaa).spots).length c17, .slice A19 ((zaj zaa).first).length c19, .slice A21 ((zaj zaa).follow).length c21, .slice A23 ((zaj zaa).last).length c23, .bool ((zaj zaa).empty)]) (vs := [.slice A17 ((zaj zaa).spots).length c17, .slice A19 ((zaj zaa).first).length c19, .slice A21 ((zaj zaa).follow).length c21, .slice A23 ((zaj zaa).last).length c23, .bool ((zaj zaa).empty)]) S26 ty27 rfl rfl (j := 9) rfl (by first | decide | exact Nat.le_of_ble_eq_true rfl) (by simp [Value.oneCell'])
 have S28 := T27.fx 9 (box b25 27 [.slice A17 ((zaj zaa).spots).length c17, .slice A19 ((zaj zaa).first).length c19, .slice A21 ((zaj zaa).follow).length c21, .slice A23 ((zaj zaa).last).length c23, .bool ((zaj zaa).empty)]) rfl
 dsimp only [lAa, lAn, lA0, lAs] at S28
 refine p_s rfl rfl (zbd rfl rfl r27) <| p_v (v := .int .i64 (errM zaa)) rfl rfl rfl (zai rfl) <| zab <| zad <| zaf (l := [0, 1, 2, 3, 4, 5, 6, 7, 8, 9, 10, 11, 12, 13, 14, 15, 16, 17, 18, 19, 20, 21, 22, 23, 24, 25]) rfl <| p_v (v := .agg #[.slice A3 zaa.spots.length c3, .slice A5 zaa.first.length c5, .slice A7 zaa.follow.length c7, .slice A9 zaa.last.length c9, .bool zaa.empty]) rfl rfl rfl (zan (seg := [.slice A3 zaa.spots.length c3, .slice A5 zaa.first.length c5, .slice A7 zaa.follow.length c7, .slice A9 zaa.last.length c9, .bool zaa.empty]) ty27 rfl (by simp) rfl (CF.box (m := 5) (S28.box_at (j := 4) rfl) rfl)) <| p_c rfl rfl rfl (zbg (args := [.agg #[.slice A3 zaa.spots.length c3, .slice A5 zaa.first.length c5, .slice A7 zaa.follow.length c7, .slice A9 zaa.last.length c9, .bool zaa.empty]]) ca12 rfl rfl) (zc7 w27 zaa A3 c3 (And.intro lc3 cm3) (ld3.mono ((lf21_2.trans le23).trans S28.ghost)) A5 c5 (And.intro lc5 cm5) (ld5.mono (lf23_3.trans S28.ghost)) A7 c7 (And.intro lc7 cm7) (ld7.mono ((((((le9.trans lk15).trans le17).trans le19).trans le21).trans le23).trans S28.ghost)) A9 c9 (And.intro lc9 cm9) (ld9.mono (((((lk15.trans le17).trans le19).trans le21).trans le23).trans S28.ghost))) ?_
 rintro _ w29 ⟨h29, T29, rfl⟩
 have S30 := S28.keep (Chg.of_below T29.below)
 refine p_v (v := .bool (zbh zaa)) rfl rfl rfl (zah rfl) ?_
 have hc31 : (zbh zaa) = true := by
  decide +kernel
 refine p_v (v := .agg #[.slice A3 zaa.spots.length c3, .slice A5 zaa.first.length c5, .slice A7 zaa.follow.length c7, .slice A9 zaa.last.length c9, .bool zaa.empty]) rfl (wo 2 12 rfl rfl (congrArg Value.bool hc31) rfl) rfl (zan (seg := [.slice A3 zaa.spots.length c3, .slice A5 zaa.first.length c5, .slice A7 zaa.follow.length c7, .slice A9 zaa.last.length c9, .bool zaa.empty]) ty27 rfl (by simp) rfl (CF.box (m := 5) (S30.box_at (j := 4) rfl) rfl)) <| p_c rfl (wo 2 12 rfl rfl (congrArg Value.bool hc31) rfl) rfl (zbg (args := [.agg #[.slice A3 zaa.spots.length c3, .slice A5 zaa.first.length c5, .slice A7 zaa.follow.length c7, .slice A9 zaa.last.length c9, .bool zaa.empty], .string (⟨#[]⟩ : ByteArray)]) ca11 rfl rfl) (runN_calls w29 zaa A3 c3 (And.intro lc3 cm3) (ld3.mono ((lf21_2.trans le23).trans S30.ghost)) A5 c5 (And.intro lc5 cm5) (ld5.mono (lf23_3.trans S30.ghost)) A7 c7 (And.intro lc7 cm7) (ld7.mono ((((((le9.trans lk15).trans le17).trans le19).trans le21).trans le23).trans S30.ghost)) A9 c9 (And.intro lc9 cm9) (ld9.mono (((((lk15.trans le17).trans le19).trans le21).trans le23).trans S30.ghost)) (⟨#[]⟩ : ByteArray) (by decide)) ?_
 rintro _ w32 ⟨h32, T32, rfl⟩
 have S33 := S30.keep (Chg.of_below T32.below)
 refine p_v (v := .bool (runM zaa (⟨#[]⟩ : ByteArray))) rfl rfl rfl (zbz (congrArg Value.bool hc31) rfl) <| p_v (v := .bool (runM zaa (⟨#[]⟩ : ByteArray))) rfl rfl rfl (zah rfl) ?_
 have hc34 : (runM zaa (⟨#[]⟩ : ByteArray)) = true := by
  decide +kernel
 refine p_v (v := .agg #[.slice A3 zaa.spots.length c3, .slice A5 zaa.first.length c5, .slice A7 zaa.follow.length c7, .slice A9 zaa.last.length c9, .bool zaa.empty]) rfl (wo 6 16 rfl rfl (congrArg Value.bool hc34) rfl) rfl (zan (seg := [.slice A3 zaa.spots.length c3, .slice A5 zaa.first.length c5, .slice A7 zaa.follow.length c7, .slice A9 zaa.last.length c9, .bool zaa.empty]) ty27 rfl (by simp) rfl (CF.box (m := 5) (S33.box_at (j := 4) rfl) rfl)) <| p_c rfl (wo 6 16 rfl rfl (congrArg Value.bool hc34) rfl) rfl (zbg (args := [.agg #[.slice A3 zaa.spots.length c3, .slice A5 zaa.first.length c5, .slice A7 zaa.follow.length c7, .slice A9 zaa.last.length c9, .bool zaa.empty], .string (⟨#[97, 98]⟩ : ByteArray)]) ca11 rfl rfl) (runN_calls w32 zaa A3 c3 (And.intro lc3 cm3) (ld3.mono ((lf21_2.trans le23).trans S33.ghost)) A5 c5 (And.intro lc5 cm5) (ld5.mono (lf23_3.trans S33.ghost)) A7 c7 (And.intro lc7 cm7) (ld7.mono ((((((le9.trans lk15).trans le17).trans le19).trans le21).trans le23).trans S33.ghost)) A9 c9 (And.intro lc9 cm9) (ld9.mono (((((lk15.trans le17).trans le19).trans le21).trans le23).trans S33.ghost)) (⟨#[97, 98]⟩ : ByteArray) (by decide)) ?_
 rintro _ w35 ⟨h35, T35, rfl⟩
 have S36 := S33.keep (Chg.of_below T35.below)
 refine p_v (v := .bool (runM zaa (⟨#[97, 98]⟩ : ByteArray))) rfl rfl rfl (zbz (congrArg Value.bool hc34) rfl) <| p_v (v := .bool (runM zaa (⟨#[97, 98]⟩ : ByteArray))) rfl rfl rfl (zah rfl) ?_
 have hc37 : (runM zaa (⟨#[97, 98]⟩ : ByteArray)) = true := by
  decide +kernel
 refine p_v (v := .agg #[.slice A3 zaa.spots.length c3, .slice A5 zaa.first.length c5, .slice A7 zaa.follow.length c7, .slice A9 zaa.last.length c9, .bool zaa.empty]) rfl (wo 10 20 rfl rfl (congrArg Value.bool hc37) rfl) rfl (zan (seg := [.slice A3 zaa.spots.length c3, .slice A5 zaa.first.length c5, .slice A7 zaa.follow.length c7, .slice A9 zaa.last.length c9, .bool zaa.empty]) ty27 rfl (by simp) rfl (CF.box (m := 5) (S36.box_at (j := 4) rfl) rfl)) <| p_c rfl (wo 10 20 rfl rfl (congrArg Value.bool hc37) rfl) rfl (zbg (args := [.agg #[.slice A3 zaa.spots.length c3, .slice A5 zaa.first.length c5, .slice A7 zaa.follow.length c7, .slice A9 zaa.last.length c9, .bool zaa.empty], .string (⟨#[97, 99]⟩ : ByteArray)]) ca11 rfl rfl) (runN_calls w35 zaa A3 c3 (And.intro lc3 cm3) (ld3.mono ((lf21_2.trans le23).trans S36.ghost)) A5 c5 (And.intro lc5 cm5) (ld5.mono (lf23_3.trans S36.ghost)) A7 c7 (And.intro lc7 cm7) (ld7.mono ((((((le9.trans lk15).trans le17).trans le19).trans le21).trans le23).trans S36.ghost)) A9 c9 (And.intro lc9 cm9) (ld9.mono (((((lk15.trans le17).trans le19).trans le21).trans le23).trans S36.ghost)) (⟨#[97, 99]⟩ : ByteArray) (by decide)) ?_
 rintro _ w38 ⟨h38, T38, rfl⟩
 have S39 := S36.keep (Chg.of_below T38.below)
 refine p_v (v := .bool (!(runM zaa (⟨#[97, 99]⟩ : ByteArray)))) rfl (wo 10 20 rfl rfl (congrArg Value.bool hc37) rfl) rfl (x_not rfl) <| p_v (v := .bool (!(runM zaa (⟨#[97, 99]⟩ : ByteArray)))) rfl rfl rfl (zbz (congrArg Value.bool hc37) rfl) <| p_v (v := .bool (!(runM zaa (⟨#[97, 99]⟩ : ByteArray)))) rfl rfl rfl (zah rfl) ?_
 have hc40 : (runM zaa (⟨#[97, 99]⟩ : ByteArray)) = false := by
  decide +kernel
 refine p_v (v := .int .i64 (errM zaa)) rfl (wo 15 25 rfl rfl (congrArg (fun z => Value.bool (!z)) hc40) rfl) rfl (zah rfl) <| p_v (v := .bool (decide ((errM zaa) = 0))) rfl (wo 15 25 rfl rfl (congrArg (fun z => Value.bool (!z)) hc40) rfl) rfl (x_eql rfl rfl) <| p_v (v := .bool (decide ((errM zaa) = 0))) rfl rfl rfl (zbz (congrArg (fun z => Value.bool (!z)) hc40) rfl) <| p_v (v := .bool (decide ((errM zaa) = 0))) rfl rfl rfl (zah rfl) ?_
 have hc41 : ((errM zaa) = 0) := by
  decide +kernel
 refine p_v (v := .pointer (some ⟨b25, 0, none⟩)) rfl (wo 19 29 rfl rfl (bT hc41) rfl) rfl (zas fd27_0 ty22 rfl rfl) <| p_v (v := .slice A17 ((zaj zaa).spots).length c17) rfl (wo 19 29 rfl rfl (bT hc41) rfl) rfl (zan (seg := [.slice A17 ((zaj zaa).spots).length c17]) ty22 rfl (by simp) rfl (CF.box (m := 1) (S39.box_at (j := 9) rfl) rfl)) <| p_v (v := .int .i64 (((zaj zaa).spots).length : Int)) rfl (wo 19 29 rfl rfl (bT hc41) rfl) rfl (za6 u22 rfl) <| p_v (v := .bool (decide ((((zaj zaa).spots).length : Int) = 2))) rfl (wo 19 29 rfl rfl (bT hc41) rfl) rfl (x_eql rfl rfl) <| p_v (v := .bool (decide ((((zaj zaa).spots).length : Int) = 2))) rfl rfl rfl (zbz (bT hc41) rfl) <| p_v (v := .bool (decide ((((zaj zaa).spots).length : Int) = 2))) rfl rfl rfl (zai rfl) <| zab ?_
 have hc42 : ((((zaj zaa).spots).length : Int) = 2) := by
  decide +kernel
 refine zbi Try.func6 (res1 rfl (zbk (v := .bool true) (bT hc42))) ?_
 have q0 : (true : Bool) = true := rfl
 refine ⟨_, rfl, h23, ?_, ?_⟩
 · exact S39.sub [] (by decide) rfl _ rfl
 · rfl
end Go.Proofs.Ythpdebieagaghaa
namespace Gx
open Go Go.RowKit
set_option linter.unusedSimpArgs false
set_option linter.unusedVariables false
set_option linter.unusedSectionVars false
def rows {α : Type} (T : TypeId) (k : Kd α) (us : List Value) (xss : List (List α)) (p : Nat → Bool) : Asrt where
  holds := fun h w F => us.length = xss.length ∧ ∃ G : Nat → Nat → Prop, (∀ i, i < xss.length → p i = true → (row T k (us.getD i default) (xss.getD i default)).holds h w (G i) ∧ ∀ b, G i b → F b) ∧
    ∀ i j, i < xss.length → j < xss.length → p i = true → p j = true → i ≠ j → ∀ b, G i b → ¬ G j b
  mono := fun hl ⟨hn, G, h1, h2⟩ => ⟨hn, G, fun i hi hp => ⟨(row T k _ _).mono hl (h1 i hi hp).1, (h1 i hi hp).2⟩, h2⟩
  far := fun hf ⟨hn, G, h1, h2⟩ => ⟨hn, G, fun i hi hp => ⟨(row T k _ _).far (fun b hb => hf b ((h1 i hi hp).2 b hb)) (h1 i hi hp).1, (h1 i hi hp).2⟩, h2⟩
section
variable {base : Nat} {w0 w : World} {h : Ghost} {L : List Asrt}
theorem St.split (S : St base w0 h w L) {j : Nat} {A A1 A2 : Asrt} (hj : L[j]? = some A)
    (hm : ∀ F, A.holds h w F → ∃ F1 F2, A1.holds h w F1 ∧ A2.holds h w F2 ∧ (∀ b, F1 b → F b) ∧ (∀ b, F2 b → F b) ∧ ∀ b, F1 b → ¬ F2 b) : St base w0 h w (L.set j A1 ++ [A2]) := by
  obtain ⟨Fs, hF, hD⟩ := S.sep
  obtain ⟨hA, hU⟩ := hF j A hj
  obtain ⟨F1, F2, h1, h2, s1, s2, hd⟩ := hm _ hA
  have hl : j < L.length := (List.getElem?_eq_some_iff.1 hj).1
  refine ⟨S.below, S.bsz, S.ghost, S.dom, fun i => if i = L.length then F2 else if i = j then F1 else Fs i, fun i B hi => ?_, fun i m hi hm' him b hb1 hb2 => ?_⟩
  · by_cases hil : i = L.length
    · subst hil
      rw [List.getElem?_append_right (by simp)] at hi
      simp at hi
      subst hi
      simp only [if_true]
      exact ⟨h2, fun b hb => hU b (s2 b hb)⟩
    · simp only [if_neg hil]
      have hlt : i < L.length := by
        have := (List.getElem?_eq_some_iff.1 hi).1
        simp at this; omega
      rw [List.getElem?_append_left (by simpa using hlt)] at hi
      by_cases hij : i = j
      · subst hij
        rw [List.getElem?_set_self hl] at hi
        injection hi with hi
        subst hi
        simp only [if_true]
        exact ⟨h1, fun b hb => hU b (s1 b hb)⟩
      · rw [List.getElem?_set_ne (fun e => hij e.symm)] at hi
        simp only [if_neg hij]
        exact hF i B hi
  · simp only [List.length_append, List.length_set, List.length_cons, List.length_nil] at hi hm'
    have old : ∀ i, i < L.length → i ≠ j → ∀ b, Fs j b → ¬ Fs i b := fun i hi hij b hb hb' => hD j i hl hi (fun e => hij e.symm) b hb hb'
    by_cases e1 : i = L.length <;> by_cases e2 : m = L.length
    · omega
    · simp only [if_pos e1] at hb1; simp only [if_neg e2] at hb2
      by_cases e3 : m = j
      · simp only [if_pos e3] at hb2; exact hd b hb2 hb1
      · simp only [if_neg e3] at hb2; exact old m (by omega) e3 b (s2 b hb1) hb2
    · simp only [if_neg e1] at hb1; simp only [if_pos e2] at hb2
      by_cases e3 : i = j
      · simp only [if_pos e3] at hb1; exact hd b hb1 hb2
      · simp only [if_neg e3] at hb1; exact old i (by omega) e3 b (s2 b hb2) hb1
    · simp only [if_neg e1] at hb1; simp only [if_neg e2] at hb2
      by_cases e3 : i = j
      · simp only [if_pos e3] at hb1
        have e4 : m ≠ j := fun e => him (by rw [e3, e])
        simp only [if_neg e4] at hb2
        exact old m (by omega) e4 b (s1 b hb1) hb2
      · simp only [if_neg e3] at hb1
        by_cases e4 : m = j
        · simp only [if_pos e4] at hb2; exact old i (by omega) e3 b (s1 b hb2) hb1
        · simp only [if_neg e4] at hb2; exact hD i m (by omega) (by omega) him b hb1 hb2
end
section
variable {base : Nat} {w0 w : World} {h : Ghost} {L : List Asrt} {α : Type} {k : Kd α} {T : TypeId} {us us2 : List Value} {xss xss2 : List (List α)} {ys : List α} {v : Value} {i j : Nat} {q : Int}
end
end Gx
namespace Gx
open Go Go.RowKit
set_option linter.unusedSimpArgs false
set_option linter.unusedVariables false
set_option linter.unusedSectionVars false
theorem lput_part {cs vs : List Value} {a n o : Nat} (h1 : a + n ≤ cs.length) (h2 : o + vs.length ≤ n) : lput cs a (lput ((cs.drop a).take n) o vs) = lput cs (a + o) vs := by
  have hs : ((cs.drop a).take n).length = n := by rw [List.length_take, List.length_drop]; omega
  apply List.ext_getElem?
  intro p
  rw [lput_get _ cs a p (by rw [zc0, hs]; exact h1), lput_get vs cs (a + o) p (by omega), zc0, hs]
  by_cases e1 : a ≤ p ∧ p < a + n
  · rw [if_pos e1, lput_get vs _ o (p - a) (by rw [hs]; exact h2)]
    by_cases e2 : o ≤ p - a ∧ p - a < o + vs.length
    · rw [if_pos e2, if_pos (by omega)]; congr 1; omega
    · rw [if_neg e2, if_neg (by omega), List.getElem?_take, if_pos (by omega), List.getElem?_drop]; congr 1; omega
  · rw [if_neg e1, if_neg (by omega)]
section
variable {P : Program} {w : World} {base : Nat} {w0 : World} {h : Ghost} {L : List Asrt}
variable {α : Type} [Inhabited α] {kd : Kd α} {xs : List α}
theorem e_store_part {j : Nat} {v u : Value} {q : Int} {T E : TypeId} {m n o b' : Nat} {gg : Bool} {z : Option Value} {ad : Addr} (e : α) {vs : List Value} (S : St base w0 h w L) (ht : zbx P T = some (m, b', gg, z)) (hm : kd.sz = n)
    (hj : L[j]? = some (row E kd v xs)) (hc : u.cells = vs.toArray) (hv1 : ∀ u ∈ vs, u.oneCell' = true) (hlen : vs.length = m) (hfit0 : o + m ≤ n) (hr : ∀ seg, kd.rep h (at_ xs q) seg → kd.rep h e (lput seg o vs)) (hat : AtOwn v n q ad) (h0 : 0 ≤ q) (hq : q < (xs.length : Int)) :
    ∃ w', (storeVar T (ad.add o) u).run P w = .ok () w' ∧ Chg w w' (fun b => v.ownBlock = some b) ∧ St base w0 h w' (L.set j (row E kd v (xs.set q.toNat e))) := by
  obtain ⟨Fs, hF, _⟩ := S.sep
  obtain ⟨g, hg, rfl⟩ := hat
  subst hm
  have hql : q.toNat < xs.length := by omega
  obtain ⟨⟨cs, hown, hel, hfo⟩, _⟩ := hF j _ hj
  rcases hown.2 with ⟨_, he⟩ | ⟨g', cap, cur, hv, hb, hh, hl, hcap, hcs, htk⟩
  · omega
  have hgg : g' = g := by rw [hv] at hg; simpa [Value.ownBlock] using hg
  subst hgg
  have hlt : g' < w.heap.size := (Array.getElem?_eq_some_iff.1 hh).1
  have hfit : q.toNat * kd.sz + kd.sz ≤ xs.length * kd.sz := by rw [← Nat.succ_mul]; exact Nat.mul_le_mul_right _ hql
  have hcap' : xs.length * kd.sz ≤ cap * kd.sz := Nat.mul_le_mul_right _ hl
  have hh' : w.heap[g']? = some (.cells cur.toList.toArray E (0, 0)) := by rw [hh]
  have hcl : cur.toList.length = cap * kd.sz := by rw [Array.length_toList]; exact hcs
  have hx : xs[q.toNat]? = some (at_ xs q) := at_some h0 hq
  have hseg := hel.2 _ _ hx
  have hr' := hr _ hseg
  have same : (cur.toList.drop (q.toNat * kd.sz)).take kd.sz = (cs.drop (q.toNat * kd.sz)).take kd.sz := by
    apply List.ext_getElem?
    intro p
    rw [List.getElem?_take, List.getElem?_take]
    split
    · rw [List.getElem?_drop, List.getElem?_drop, ← htk, List.getElem?_take, if_pos (by omega)]
    · rfl
  have hvl := kd.len hr'
  have S' : St base w0 h (zcd w g' E (lput cur.toList (q.toNat * kd.sz) (lput ((cs.drop (q.toNat * kd.sz)).take kd.sz) o vs))) (L.set j (row E kd v (xs.set q.toNat e))) := by
    refine S.upd hj fun F hF' hFU => ?_
    obtain ⟨cs2, hown2, hel2, hfo2⟩ := hF'
    have hFg : F g' := hfo2 g' hg
    refine ⟨(zc8 w g' E _).mono (fun b hb => by subst hb; exact hFg), F, ⟨lput cs (q.toNat * kd.sz) (lput ((cs.drop (q.toNat * kd.sz)).take kd.sz) o vs), ⟨?_, .inr ⟨g', cap, (lput cur.toList (q.toNat * kd.sz) (lput ((cs.drop (q.toNat * kd.sz)).take kd.sz) o vs)).toArray, ?_, hb, putBlock_at hlt _ _, ?_, hcap, ?_, ?_⟩⟩, drop_take_set hel hql hr', hfo2⟩, fun b hb => .inl hb⟩
    · rw [zc0, hown.1, List.length_set]
    · rw [hv, List.length_set]
    · rw [List.length_set]; exact hl
    · simp [zc0, hcs]
    · rw [List.length_set]
      show (lput cur.toList (q.toNat * kd.sz) _).take _ = _
      apply List.ext_getElem?
      intro p
      rw [List.getElem?_take, lput_get _ cur.toList _ _ (by omega), lput_get _ cs _ _ (by rw [hown.1]; omega)]
      split
      · split
        · rfl
        · rw [← htk, List.getElem?_take, if_pos (by assumption)]
      · rw [if_neg (by omega), List.getElem?_eq_none (by rw [hown.1]; omega)]
  have hrun := run_storeVar_box (P := P) (v := u) (off := q.toNat * kd.sz + o) ht hh' (by rw [hc]; simpa using hlen) (by omega) (by rw [hc]; simpa using hv1)
  rw [hc] at hrun
  have e2 : lput cur.toList (q.toNat * kd.sz + o) vs = lput cur.toList (q.toNat * kd.sz) (lput ((cs.drop (q.toNat * kd.sz)).take kd.sz) o vs) := by
    rw [← same, lput_part (by omega) (by omega)]
  rw [← e2] at S'
  have e3 : (⟨g', q.toNat * kd.sz, none⟩ : Addr).add o = ⟨g', q.toNat * kd.sz + o, none⟩ := by
    unfold Addr.add; split
    · rename_i e; rw [e]; rfl
    · rfl
  rw [e3]
  exact ⟨_, hrun, (zc8 w g' E _).mono (fun b hb => by subst hb; exact hg), S'⟩
end
end Gx
namespace Gx
open Go Go.RowKit
set_option linter.unusedSimpArgs false
set_option linter.unusedVariables false
theorem spot_tag {h : Ghost} {x : Spot} {seg : List Value} {n : Int} (hs : zax.rep h x seg) (hn : inK .u8 n) : zax.rep h (⟨x.set, n⟩ : Spot) (lput seg 4 [.int .u8 n]) := by
  obtain ⟨rfl, _⟩ := hs
  exact ⟨rfl, hn⟩
section
variable {P : Program} {w : World} {ρ : Env} {d : Option Tmp} {ty : TypeId} {pos : String} {af : Array Edge} {g : Option (Nat × Bool)} {x y : Operand}
end
section
variable {α : Type} [Inhabited α] {a b : List α} {i : Int}
variable {t t2 : List (List α)} {k : Int}
end
end Gx
namespace Gx
open Go Go.RowKit
set_option linter.unusedSimpArgs false
set_option linter.unusedSectionVars false
set_option linter.unusedVariables false
def bytesL (w : ByteArray) : List Int := w.data.toList.map fun b => ((b.toNat : Nat) : Int)
end Gx
namespace Gx
open Go Go.RowKit
set_option linter.unusedSimpArgs false
set_option linter.unusedSectionVars false
set_option linter.unusedVariables false
inductive Path (m : Mach) (src : List Int) : List Int → Int → Prop
  | one {i c : Int} : i ∈ src → 0 ≤ c → c < 256 → has (at_ m.spots i).set c = true → Path m src [c] i
  | snoc {l : List Int} {j i c : Int} : Path m src l j → i ∈ at_ m.follow j → 0 ≤ c → c < 256 → has (at_ m.spots i).set c = true → Path m src (l ++ [c]) i
theorem Path.some {m : Mach} {src l : List Int} {i : Int} (h : Path m src l i) : 0 < l.length := by cases h <;> simp
theorem Path.inn {m : Mach} (hR : Right m) {src l : List Int} {i : Int} (hs : ∀ x ∈ src, 0 ≤ x ∧ x < (m.spots.length : Int)) (h : Path m src l i) : 0 ≤ i ∧ i < (m.spots.length : Int) := by
  induction h with
  | one h3 => exact hs _ h3
  | snoc h3 h4 h5 h6 h7 ih => exact hR.rows ih.1 ih.2 _ h4
theorem Path.run {m : Mach} (hR : Right m) {l : List Int} {i : Int} (h : Path m m.first l i) : ∀ s : ByteArray, (∀ k : Nat, k < l.length → byt s ((k : Nat) : Int) = at_ l ((k : Nat) : Int)) → at_ (runTo m s (l.length - 1)) i = true := by
  induction h with
  | one h3 h4 h5 h6 =>
    intro s hb
    have hi := hR.firsts _ h3
    have h0 := hb 0 (by simp)
    show at_ (intoP m (markP m.spots.length m.first) (byt s 0)) _ = true
    unfold intoP
    rw [tab_at hi.1 hi.2]
    unfold markP
    rw [tab_at (by omega) (by omega), Int.toNat_natCast, Int.toNat_of_nonneg hi.1, decide_eq_true h3, Bool.true_and]
    have e : byt s 0 = _ := h0
    rw [e]; exact h6
  | snoc h3 h4 h5 h6 h7 ih =>
    rename_i l j i c
    intro s hb
    have hj := Path.inn hR hR.firsts h3
    have hi := hR.rows hj.1 hj.2 _ h4
    have hl := h3.some
    have h8 := ih s fun k hk => by
      rw [hb k (by simp; omega)]
      unfold at_
      rw [List.getD_eq_getElem?_getD, List.getD_eq_getElem?_getD, List.getElem?_append_left (by omega)]
    have h9 := hb l.length (by simp)
    have e1 : at_ (l ++ [c]) ((l.length : Nat) : Int) = c := by unfold at_; simp
    rw [e1] at h9
    rw [show (l ++ [c]).length - 1 = (l.length - 1) + 1 by simp; omega]
    show at_ (intoP m (zcr m (runTo m s (l.length - 1))) (byt s ((l.length - 1 + 1 : Nat) : Int))) i = true
    rw [show l.length - 1 + 1 = l.length by omega, h9]
    unfold intoP
    rw [tab_at hi.1 hi.2]
    unfold zcr
    rw [tab_at (by omega) (by omega), Int.toNat_natCast, Int.toNat_of_nonneg hi.1, h7, Bool.and_true, anyTo_iff]
    exact ⟨j.toNat, by omega, by rw [Int.toNat_of_nonneg hj.1, h8, decide_eq_true h4]; rfl⟩
end Gx
namespace Gx
open Go Go.RowKit
set_option linter.unusedSimpArgs false
set_option linter.unusedSectionVars false
set_option linter.unusedVariables false
def ltL : List Int → List Int → Bool
  | _, [] => false
  | [], _ :: _ => true
  | a :: x, b :: y => decide (a < b) || (decide (a = b) && ltL x y)
def lessL (x y : List Int) : Bool := decide (x.length < y.length) || (decide (x.length = y.length) && ltL x y)
def leL (x y : List Int) : Prop := x = y ∨ lessL x y = true
end Gx
namespace Gx
open Go Go.RowKit
set_option linter.unusedSimpArgs false
set_option linter.unusedSectionVars false
set_option linter.unusedVariables false
structure Dfa where
  part : PartM
  next : List (List Int)
  final : List Bool
deriving DecidableEq
instance : Inhabited Dfa := ⟨⟨⟨[], 0⟩, [], []⟩⟩
section
variable {S : Type} [DecidableEq S]
variable {next : S → Int → S} {n : Int} {first : S} {fin : S → Bool} {all all2 : List S} {mp mp2 : List (S × Int)} {nx : List (List Int)} {fl : List Bool} {l : List Int} {i k : Int} {s : S}
end
end Gx
namespace Gx
open Go Go.RowKit
set_option linter.unusedSimpArgs false
set_option linter.unusedSectionVars false
set_option linter.unusedVariables false
structure StepM where
  st : Int
  fr : Int
  by_ : Int
deriving DecidableEq
instance : Inhabited StepM := ⟨⟨0, 0, 0⟩⟩
end Gx
namespace Gx
open Go Go.RowKit
set_option linter.unusedSimpArgs false
set_option linter.unusedSectionVars false
set_option linter.unusedVariables false
section
variable {α β : Type} [DecidableEq α]
def KN (kvs : List (α × β)) : Prop := (kvs.map (·.1)).Nodup
end
structure Off (t : Int) (O : Int → List Int → Prop) (kvs : List (Int × ByteArray)) : Prop where
  kn : KN kvs
  len : ∀ i u, O i u → (u.length : Int) = t
  yes : ∀ p ∈ kvs, O p.1 (bytesL p.2) ∧ ∀ u, O p.1 u → leL (bytesL p.2) u
  all : ∀ i u, O i u → ∃ s, (i, s) ∈ kvs
theorem Off.congr {t : Int} {O O' : Int → List Int → Prop} {kvs : List (Int × ByteArray)} (h : Off t O kvs) (e : ∀ i u, O' i u ↔ O i u) : Off t O' kvs :=
  ⟨h.kn, fun i u hO => h.len i u ((e i u).1 hO), fun p hp => ⟨(e _ _).2 (h.yes p hp).1, fun u hu => (h.yes p hp).2 u ((e _ _).1 hu)⟩, fun i u hO => h.all i u ((e i u).1 hO)⟩
end Gx
namespace Gx
open Go Go.RowKit
set_option linter.unusedSimpArgs false
set_option linter.unusedSectionVars false
set_option linter.unusedVariables false
section
variable {P : Program} {ρ : Env} {w : World} {d : Option Tmp} {ty : TypeId} {pos : String} {af : Array Edge} {g : Option (Nat × Bool)} {x y : Operand}
end
theorem CF.sub {w : World} {ad : Addr} {cs ds : List Value} {o m : Nat} (hc : CF ad cs w) (hs : (cs.drop o).take m = ds) : CF (ad.add o) ds w := fun j v hj => by
  rw [add_add]
  refine hc _ _ ?_
  rw [← hs, List.getElem?_take] at hj
  split at hj
  · rwa [List.getElem?_drop] at hj
  · cases hj
end Gx
namespace Gx
open Go Go.RowKit
section
variable {P : Program} {f n : Nat} {k : List Item} {ρ : Env} {w : World} {R : Ending → World → Prop} {ops : Array Oper} {H : Held} {fuel : Nat} {listed : Array Bool} {i : Nat}
theorem ra_four {i2 i3 i4 : Nat} (hr : Region.ready .any ops listed = [i, i2, i3, i4]) (h : ∀ w2, Gr w w2 → RA1 P f n ops H fuel listed k ρ w2 R i) (h2 : ∀ w2, Gr w w2 → RA1 P f n ops H fuel listed k ρ w2 R i2) (h3 : ∀ w2, Gr w w2 → RA1 P f n ops H fuel listed k ρ w2 R i3) (h4 : ∀ w2, Gr w w2 → RA1 P f n ops H fuel listed k ρ w2 R i4) : RA P f n ops H (fuel + 1) listed k ρ w R := fun tmps ht w2 g =>
  ⟨(fun e => by rw [hr] at e; cases e), fun j hj => by
    rw [hr] at hj; simp at hj
    rcases hj with e | e | e | e
    · subst e; exact h w2 g tmps ht
    · subst e; exact h2 w2 g tmps ht
    · subst e; exact h3 w2 g tmps ht
    · subst e; exact h4 w2 g tmps ht⟩
theorem ra_mid {f2 : Nat} {l2 : Array Bool} (J : Env → World → Prop) (hj : ∀ l ρ w, l = l2 → J ρ w → RA P f n ops H f2 l k ρ w R) (h : (∀ l ρ w, l = l2 → J ρ w → RA P f n ops H f2 l k ρ w R) → RA P f n ops H fuel listed k ρ w R) : RA P f n ops H fuel listed k ρ w R := h hj
end
end Gx
namespace Gx
open Go Go.RowKit
set_option linter.unusedSimpArgs false
set_option linter.unusedVariables false
set_option maxRecDepth 100000
abbrev mcA : Mach := ⟨zaa.spots, zaa.first, zaa.follow.set (0 : Int).toNat [2, 1], zaa.last, zaa.empty⟩
abbrev mcB : Mach := ⟨zaa.spots, zaa.first, zaa.follow, zaa.last.take (2 : Int).toNat, zaa.empty⟩
abbrev mcC : Mach := ⟨zaa.spots.set (0 : Int).toNat ⟨(at_ zaa.spots (0 : Int)).set, 3⟩, zaa.first, zaa.follow, zaa.last, zaa.empty⟩
abbrev mcD : Mach := ⟨zaa.spots, [3], zaa.follow, zaa.last, zaa.empty⟩
abbrev mcE : Mach := ⟨zaa.spots, [0, 0], zaa.follow, zaa.last, zaa.empty⟩
abbrev mcF : Mach := ⟨List.replicate (251 : Int).toNat ⟨0, 0⟩, [], List.replicate (251 : Int).toNat [], List.replicate (251 : Int).toNat false, false⟩
abbrev mcG : Mach := ⟨[], [], List.replicate (1 : Int).toNat [], [], false⟩
abbrev zam : List Mach := [mcA, mcB, mcC, mcD, mcE, mcF, mcG]
abbrev mcZ : Mach := ⟨[], [], [], [], false⟩
abbrev mcY : Mach := ⟨List.replicate (250 : Int).toNat ⟨0, 0⟩, [], List.replicate (250 : Int).toNat [], List.replicate (250 : Int).toNat false, false⟩
abbrev mcS : Mach := ⟨[⟨zbb [98], 0⟩, ⟨zbb [97], 0⟩, ⟨zbb [98], 1⟩], [], [], [], false⟩
theorem seven_bad : (zam.all fun x => !zbh x) = true := by decide +kernel
theorem seven_1 {i : Int} (h0 : 0 ≤ i) (h1 : i < ((zam).length : Int)) : zbh (at_ zam i) = false := by
  have := List.all_eq_true.1 seven_bad _ (at_mem h0 h1)
  simpa using this
theorem seven_2 {i : Int} (h0 : 0 ≤ i) (h1 : i < ((zam).length : Int)) (w : ByteArray) : runM (at_ zam i) w = false := run_wrong _ _ (seven_1 h0 h1)
theorem seven_3 {i : Int} (h0 : 0 ≤ i) (h1 : i < ((zam).length : Int)) : errM (at_ zam i) = 1 := zco (seven_1 h0 h1)
theorem seven_len : ((zam).length : Int) = 7 := rfl
theorem some_n : (zaa.spots.length : Int) = 3 ∧ (zaa.first.length : Int) = 1 ∧ (zaa.follow.length : Int) = 3 ∧ (zaa.last.length : Int) = 3 := ⟨rfl, rfl, rfl, rfl⟩
theorem some_t : ((zaj zaa).spots.length : Int) = 2 ∧ ((zaj zaa).first.length : Int) = 1 ∧ ((zaj zaa).follow.length : Int) = 2 ∧ ((zaj zaa).last.length : Int) = 2 ∧ ((at_ (zaj zaa).follow (0 : Int)).length : Int) = 1 := by decide +kernel
theorem sets_S : ((setsM mcS).length : Int) = 2 := by decide +kernel
end Gx
namespace Gx
open Go Go.RowKit
set_option linter.unusedSimpArgs false
set_option linter.unusedSectionVars false
set_option linter.unusedVariables false
def Opens {α : Type} (P : Program) (k : Kd α) (t : TypeId) : Prop :=
  ∀ {H : Type} {enc : TypeId × Value → H} {w : World} {spare : Nat → Bool} {held : Bool} {fuel : Nat} {cs : List Value} {x : DataW H × List MemPlace}, DataW.trod enc P w 0 spare held fuel t cs = some x → ∃ m, k.rep (hp w) m cs
section
variable {P : Program} {t e : TypeId}
theorem inK_wf {k : IntKind} {n : Int} (h : (Lit.int k n).wf = true) : inK k n := by
  simp only [Lit.wf, Bool.and_eq_true, decide_eq_true_eq] at h
  exact h
theorem Opens.int {k : IntKind} (ht : P.underlying t = some (.int k)) : Opens P (Kd.int k) t := fun h => by
  obtain ⟨n, rfl, _, hw⟩ := DataW.trod_int ht h
  exact ⟨n, rfl, inK_wf hw⟩
theorem Opens.bool (ht : P.underlying t = some .bool) : Opens P Kd.bool t := fun h => by
  obtain ⟨b, rfl, _⟩ := DataW.trod_bool ht h
  exact ⟨b, rfl, trivial⟩
theorem Opens.string (ht : P.underlying t = some .string) : Opens P Kd.string t := fun h => by
  obtain ⟨s, rfl, _, hs⟩ := DataW.trod_string ht h
  exact ⟨s, rfl, hs⟩
theorem exists_list {α : Type} {Q : Nat → α → Prop} : ∀ (n : Nat), (∀ i, i < n → ∃ m, Q i m) → ∃ l : List α, l.length = n ∧ ∀ i m, l[i]? = some m → Q i m
  | 0, _ => ⟨[], rfl, fun i m h => by simp at h⟩
  | n + 1, h => by
    obtain ⟨l, hl, hq⟩ := exists_list n fun i hi => h i (by omega)
    obtain ⟨m, hm⟩ := h n (by omega)
    refine ⟨l ++ [m], by simp [hl], fun i y hy => ?_⟩
    rw [List.getElem?_append] at hy
    split at hy
    · exact hq i y hy
    · rename_i hi
      have e : i - l.length = 0 := by
        rcases Nat.eq_zero_or_pos (i - l.length) with h0 | h0
        · exact h0
        · rw [List.getElem?_eq_none (by simp; omega)] at hy; cases hy
      rw [e] at hy
      simp at hy
      subst hy
      have : i = n := by omega
      rw [this]; exact hm
theorem Opens.ints {k : IntKind} {n : Nat} (hn : 0 < n) (ht : P.underlying t = some (.array n e)) (he : P.underlying e = some (.int k)) (hc : P.cellsOf e = 1) (hct : P.cellsOf t = n) : Opens P (kInts k n hn) t := fun {H enc w spare held fuel cs x} h => by
  obtain ⟨xs, m, _, _, hl, hx, hel⟩ := DataW.trod_array ht h
  rw [hct] at hl
  have h1 : ∀ i, i < n → ∃ z : Int, cs[i]? = some (.int k z) ∧ inK k z := fun i hi => by
    have h2 := hel i hi
    rw [hc, Nat.mul_one, List.getElem?_eq_getElem (by omega)] at h2
    obtain ⟨z, hz, _, hw⟩ := DataW.trod_int he h2
    refine ⟨z, ?_, inK_wf hw⟩
    have h3 := congrArg (fun l : List Value => l[0]?) hz
    simpa [List.getElem?_take, List.getElem?_drop] using h3
  obtain ⟨l, hll, hq⟩ := exists_list n h1
  refine ⟨l, ?_, hll, fun z hz => ?_⟩
  · apply List.ext_getElem?
    intro i
    rw [zb0, List.getElem?_map]
    by_cases hi : i < n
    · have h4 := hq i (l[i]'(by omega)) (List.getElem?_eq_getElem _)
      rw [h4.1, List.getElem?_eq_getElem (by omega)]; rfl
    · rw [List.getElem?_eq_none (by omega), List.getElem?_eq_none (by omega)]; rfl
  · obtain ⟨i, hi⟩ := List.mem_iff_getElem?.1 hz
    exact (hq i z hi).2
theorem Opens.set (ht : P.underlying t = some (.array 4 e)) (he : P.underlying e = some (.int .u64)) (hc : P.cellsOf e = 1) (hct : P.cellsOf t = 4) : Opens P kSet t := fun h => by
  obtain ⟨l, hl, hok⟩ := Opens.ints (n := 4) (by omega) ht he hc hct h
  exact ⟨ofWords l, by rw [hl, encSet_of hok], trivial⟩
theorem Opens.slice {α : Type} {k : Kd α} (ht : P.underlying t = some (.slice e)) (hc : P.cellsOf e = k.sz) (ho : Opens P k e) : Opens P k.slice t := fun {H enc w spare held fuel cs x} h => by
  rcases DataW.trod_slice ht h with ⟨rfl, _⟩ | ⟨a, len, cap, elems, rest, n, _, rfl, _, _, hl, hm, hlen, hel, _, _⟩
  · exact ⟨[], none, 0, rfl, Nat.le_refl _, by simp [maxLen], fun hne => (hne rfl).elim⟩
  · rw [hc] at hel
    have h1 : ∀ i, i < len → ∃ m, ∃ seg, k.rep (hp w) m seg ∧ ∀ j v, seg[j]? = some v → gcell (hp w) (a.add (i * k.sz + j)) = some v := fun i hi => by
      have h2 := hel i hi
      rw [List.getElem?_eq_getElem (by omega)] at h2
      obtain ⟨seg, hseg, hd⟩ := Option.bind_eq_some_iff.1 h2
      obtain ⟨m, hr⟩ := ho hd
      refine ⟨m, seg, hr, fun j v hj => ?_⟩
      obtain ⟨_, hlen2, hcell⟩ := World.cells?_some hseg
      have hjl : j < k.sz := by
        have := (List.getElem?_eq_some_iff.1 hj).1
        rw [k.len hr] at this; exact this
      have h5 := hcell j hjl
      rw [hj] at h5
      rw [Addr.add_add] at h5
      show gcell (hp w) _ = _
      unfold gcell hp
      unfold World.cell? at h5
      exact h5
    obtain ⟨l, hll, hq⟩ := exists_list len h1
    refine ⟨l, some a, cap, by rw [hll], by omega, hm, fun _ => ⟨a, rfl, hq⟩⟩
end
end Gx
namespace Gx
open Go Go.RowKit
set_option linter.unusedSimpArgs false
set_option linter.unusedSectionVars false
set_option linter.unusedVariables false
section
variable {P : Program} {t : TypeId}
theorem trod_field {H : Type} {enc : TypeId × Value → H} {w : World} {spare : Nat → Bool} {held : Bool} {fuel : Nat} {cs : List Value} {x : DataW H × List MemPlace} {α : Type} {k : Kd α} {q o ft : Nat} (hf : zci P t q = some (o, ft)) (hc : P.cellsOf ft = k.sz) (ho : Opens P k ft) (h : DataW.trod enc P w 0 spare held fuel t cs = some x) : ∃ m, k.rep (hp w) m ((cs.drop o).take k.sz) := by
  obtain ⟨fs, fd, hu, hq, rfl, rfl⟩ := fieldInfo_parts hf
  obtain ⟨xs, n, _, _, _, hl, hp⟩ := DataW.trod_struct hu h
  have h1 := hp q fd hq
  have hlt : q < fs.size := (Array.getElem?_eq_some_iff.1 hq).1
  rw [hc, List.getElem?_eq_getElem (by omega)] at h1
  exact ho h1
theorem trod_len {H : Type} {enc : TypeId × Value → H} {w : World} {spare : Nat → Bool} {held : Bool} {fuel : Nat} {cs : List Value} {x : DataW H × List MemPlace} {q o ft : Nat} (hf : zci P t q = some (o, ft)) (h : DataW.trod enc P w 0 spare held fuel t cs = some x) : cs.length = P.cellsOf t := by
  obtain ⟨fs, fd, hu, hq, rfl, rfl⟩ := fieldInfo_parts hf
  obtain ⟨xs, n, _, _, hl, _, _⟩ := DataW.trod_struct hu h
  exact hl
theorem Opens.spot {a b : TypeId} (h0 : zci P t 0 = some (0, a)) (h1 : zci P t 1 = some (4, b)) (hc : P.cellsOf t = 5) (ha : P.cellsOf a = 4) (hb : P.cellsOf b = 1) (oa : Opens P kSet a) (ob : Opens P (Kd.int .u8) b) : Opens P zax t := fun {H enc w spare held fuel cs x} h => by
  obtain ⟨s, e0, _⟩ := trod_field h0 ha oa h
  obtain ⟨n, e1, hn⟩ := trod_field h1 hb ob h
  have hl := trod_len h0 h
  rw [hc] at hl
  refine ⟨⟨s, n⟩, ?_, hn⟩
  have e2 : cs = (cs.drop 0).take 4 ++ (cs.drop 4).take 1 := by
    rw [List.drop_zero, List.take_of_length_le (l := cs.drop 4) (by simp; omega), List.take_append_drop]
  rw [e2]
  show (cs.drop 0).take kSet.sz ++ (cs.drop 4).take (Kd.int .u8).sz = _
  rw [e0, e1]; rfl
def kMach : Kd Mach where
  sz := 5
  pos := by omega
  rep := fun h m cs => ∃ A0 c0 A1 c1 A2 c2 A3 c3, cs = [.slice A0 m.spots.length c0, .slice A1 m.first.length c1, .slice A2 m.follow.length c2, .slice A3 m.last.length c3, .bool m.empty] ∧
    ((m.spots.length ≤ c0 ∧ c0 ≤ maxLen) ∧ zbs zax h A0 m.spots) ∧ ((m.first.length ≤ c1 ∧ c1 ≤ maxLen) ∧ zbs (Kd.int .i64) h A1 m.first) ∧ ((m.follow.length ≤ c2 ∧ c2 ≤ maxLen) ∧ zbs (Kd.int .i64).slice h A2 m.follow) ∧ ((m.last.length ≤ c3 ∧ c3 ≤ maxLen) ∧ zbs Kd.bool h A3 m.last)
  mono := fun hl ⟨A0, c0, A1, c1, A2, c2, A3, c3, e, h0, h1, h2, h3⟩ => ⟨A0, c0, A1, c1, A2, c2, A3, c3, e, ⟨h0.1, h0.2.mono hl⟩, ⟨h1.1, h1.2.mono hl⟩, ⟨h2.1, h2.2.mono hl⟩, ⟨h3.1, h3.2.mono hl⟩⟩
  len := fun ⟨_, _, _, _, _, _, _, _, e, _⟩ => by rw [e]; rfl
  one := fun ⟨_, _, _, _, _, _, _, _, e, _⟩ u hu => by rw [e] at hu; exact zao rfl (zao rfl (zao rfl (zao rfl (zao rfl zb9)))) u hu
end
end Gx
