/- My own library for walks through the translated code, and the walks of the functions that the law NfaKnown comes to, part 4; no conditions but those that each contract tells. -/
import Derived.Test.YthpdebieagaghaaLNfaKnown2
namespace Go.Proofs.Ythpdebieagaghaa
open Go Go.RowKit Gx
set_option maxHeartbeats 1000000
set_option linter.unusedVariables false
set_option linter.unusedSimpArgs false
attribute [local irreducible] listOf count first has zbb wbits Lib.ctz zcz zbh rowOk tab markP intoP intoTo zcr zcg zcs runTo endsIn endTo runM posTo anyTo allTo numAt numsL numsIn zcl kept lefts zcx lastTp zck zaj errM zdb zbc lfp seekN seekB fullS zcj useN trues addS zcm setsM
theorem nfaKnown_calls (w : World) :
    Calls Try.prog 4 #[] w fun e w' => ∃ v, e = .returned v ∧ ∃ (hn : Ghost), St w.heap.size w hn w' [] ∧ v = .bool true := by
 refine za1 Try.func4 rfl Try.ntmps4 rfl ?_
 have S0 := St.init w
 obtain ⟨hs0_, hs1_, hs2_, hs3_⟩ := some_n
 obtain ⟨ht0_, ht1_, ht2_, ht3_, ht4_⟩ := some_t
 have h7_ := seven_len; have hss_ := sets_S
 refine zad <| zaf (l := [0]) rfl <| p_v (v := .bool false) rfl rfl rfl (zai rfl) <| zab <| zad <| zaf (l := [0, 1, 2]) rfl <| p_c rfl rfl rfl (zbg (args := []) ca10 rfl rfl) (zcy w ) ?_
 rintro _ w1 ⟨h1, v1_0, v1_1, v1_2, v1_3, T1, rfl⟩
 obtain ⟨k1, lk1, ll1, U1⟩ := zbp S0 T1
 have S2 := U1
 dsimp only [lAa, lAn, lA0, lAs] at S2
 obtain ⟨b3, w3, r3, g3, T3⟩ := zcb (P := Try.prog) S2 27 (v := (.agg #[.slice none 0 0, .slice none 0 0, .slice none 0 0, .slice none 0 0, .bool false])) [.slice none 0 0, .slice none 0 0, .slice none 0 0, .slice none 0 0, .bool false] rfl
 have S4 := T3
 dsimp only [lAa, lAn, lA0, lAs] at S4
 refine p_v (v := .pointer (some ⟨b3, 0, none⟩)) rfl rfl rfl (zbn ty27 r3) ?_
 have oc6 := zba S4 (j := 0) rfl
 have oc7 := zba S4 (j := 1) rfl
 have oc8 := zba S4 (j := 2) rfl
 have oc9 := zba S4 (j := 3) rfl
 obtain ⟨w5, r5, g5, T5⟩ := zbq (P := Try.prog) (off := 0) (v := .agg #[v1_0, v1_1, v1_2, v1_3, .bool zaa.empty]) (vs := [v1_0, v1_1, v1_2, v1_3, .bool zaa.empty]) S4 ty27 rfl rfl (j := 4) rfl (by first | decide | exact Nat.le_of_ble_eq_true rfl) (zao oc6 (zao oc7 (zao oc8 (zao oc9 (zao rfl zb9)))))
 have S10 := T5.fx 4 (box b3 27 [v1_0, v1_1, v1_2, v1_3, .bool zaa.empty]) rfl
 dsimp only [lAa, lAn, lA0, lAs] at S10
 refine p_s rfl rfl (zbd rfl rfl r5) <| zab <| zad <| zaf (l := [0, 1, 2, 3, 4, 5, 6, 7]) rfl <| p_v (v := .agg #[v1_0, v1_1, v1_2, v1_3, .bool zaa.empty]) rfl rfl rfl (zan (seg := [v1_0, v1_1, v1_2, v1_3, .bool zaa.empty]) ty27 rfl (by simp) rfl (CF.box (m := 5) (S10.box_at (j := 4) rfl) rfl)) ?_
 obtain ⟨A11, c11, ev11, lc11, cm11⟩ := S10.row_val (j := 0) rfl
 obtain ⟨A12, c12, ev12, lc12, cm12⟩ := S10.row_val (j := 1) rfl
 obtain ⟨A13, c13, ev13, lc13, cm13⟩ := S10.row_val (j := 2) rfl
 obtain ⟨A14, c14, ev14, lc14, cm14⟩ := S10.row_val (j := 3) rfl
 refine p_c rfl rfl rfl (zbg (args := [.agg #[.slice A11 zaa.spots.length c11, .slice A12 zaa.first.length c12, .slice A13 zaa.follow.length c13, .slice A14 zaa.last.length c14, .bool zaa.empty]]) ca8 rfl (zbr (Eq.trans (b := .agg #[v1_0, v1_1, v1_2, v1_3, .bool zaa.empty]) rfl (by rw [ev11, ev12, ev13, ev14])) rfl)) (trimN_calls w5 zaa A11 c11 (And.intro lc11 cm11) (zay S10 (j := 0) rfl ev11) A12 c12 (And.intro lc12 cm12) (zay S10 (j := 1) rfl ev12) A13 c13 (And.intro lc13 cm13) (zay S10 (j := 2) rfl ev13) A14 c14 (And.intro lc14 cm14) (zay S10 (j := 3) rfl ev14)) ?_
 rintro _ w15 ⟨h15, v15_0, v15_1, v15_2, v15_3, T15, rfl, in15_0⟩
 obtain ⟨k15, lk15, ll15, U15⟩ := zbp S10 T15
 have S16 := U15
 dsimp only [lAa, lAn, lA0, lAs] at S16
 have lo_in15_0 := zb1 in15_0; have hi_in15_0 := zb2 in15_0
 obtain ⟨h17, le17, T17, rp17⟩ := S16.freeze (i := 5) rfl
 have S18 := T17.fx 5 (emp) rfl
 dsimp only [lAa, lAn, lA0, lAs] at S18
 obtain ⟨A17, c17, e17, lc17, cm17, ld17⟩ := rp17
 injection e17 with e17 _; subst e17
 have cn17 := cm17; simp only [maxLen] at cn17
 obtain ⟨h19, le19, T19, rp19⟩ := S18.freeze (i := 6) rfl
 have S20 := T19.fx 6 (emp) rfl
 dsimp only [lAa, lAn, lA0, lAs] at S20
 obtain ⟨A19, c19, e19, lc19, cm19, ld19⟩ := rp19
 injection e19 with e19 _; subst e19
 have cn19 := cm19; simp only [maxLen] at cn19
 obtain ⟨h21, le21, T21, rp21⟩ := S20.freeze (i := 7) rfl
 have S22 := T21.fx 7 (emp) rfl
 dsimp only [lAa, lAn, lA0, lAs] at S22
 obtain ⟨A21, c21, e21, lc21, cm21, ld21⟩ := rp21
 injection e21 with e21 _; subst e21
 have cn21 := cm21; simp only [maxLen] at cn21
 obtain ⟨h23, le23, T23, rp23⟩ := S22.freeze (i := 8) rfl
 have S24 := T23.fx 8 (emp) rfl
 dsimp only [lAa, lAn, lA0, lAs] at S24
 obtain ⟨A23, c23, e23, lc23, cm23, ld23⟩ := rp23
 injection e23 with e23 _; subst e23
 have cn23 := cm23; simp only [maxLen] at cn23
 refine p_v (v := .tuple #[.agg #[.slice A17 ((zaj zaa).spots).length c17, .slice A19 ((zaj zaa).first).length c19, .slice A21 ((zaj zaa).follow).length c21, .slice A23 ((zaj zaa).last).length c23, .bool ((zaj zaa).empty)], .int .i64 (errM zaa)]) rfl rfl rfl (zah rfl) <| p_v (v := .agg #[.slice A17 ((zaj zaa).spots).length c17, .slice A19 ((zaj zaa).first).length c19, .slice A21 ((zaj zaa).follow).length c21, .slice A23 ((zaj zaa).last).length c23, .bool ((zaj zaa).empty)]) rfl rfl rfl (zc3 (vs := [.agg #[.slice A17 ((zaj zaa).spots).length c17, .slice A19 ((zaj zaa).first).length c19, .slice A21 ((zaj zaa).follow).length c21, .slice A23 ((zaj zaa).last).length c23, .bool ((zaj zaa).empty)], .int .i64 (errM zaa)]) rfl rfl) <| p_v (v := .int .i64 (errM zaa)) rfl rfl rfl (zc3 (vs := [.agg #[.slice A17 ((zaj zaa).spots).length c17, .slice A19 ((zaj zaa).first).length c19, .slice A21 ((zaj zaa).follow).length c21, .slice A23 ((zaj zaa).last).length c23, .bool ((zaj zaa).empty)], .int .i64 (errM zaa)]) rfl rfl) ?_
 obtain ⟨b25, w25, r25, g25, T25⟩ := zcb (P := Try.prog) S24 27 (v := (.agg #[.slice none 0 0, .slice none 0 0, .slice none 0 0, .slice none 0 0, .bool false])) [.slice none 0 0, .slice none 0 0, .slice none 0 0, .slice none 0 0, .bool false] rfl
 have S26 := T25
 dsimp only [lAa, lAn, lA0, lAs] at S26
 refine p_v (v := .pointer (some ⟨b25, 0, none⟩)) rfl rfl rfl (zbn ty27 r25) ?_
 obtain ⟨w27, r27, g27, T27⟩ := zbq (P := Try.prog) (off := 0) (v := .agg #[.slice A17 ((zaj zaa).spots).length c17, .slice A19 ((zaj zaa).first).length c19, .slice A21 ((zaj zaa).follow).length c21, .slice A23 ((zaj zaa).last).length c23, .bool ((zaj zaa).empty)]) (vs := [.slice A17 ((zaj zaa).spots).length c17, .slice A19 ((zaj zaa).first).length c19, .slice A21 ((zaj zaa).follow).length c21, .slice A23 ((zaj zaa).last).length c23, .bool ((zaj zaa).empty)]) S26 ty27 rfl rfl (j := 9) rfl (by first | decide | exact Nat.le_of_ble_eq_true rfl) (by simp [Value.oneCell'])
 have S28 := T27.fx 9 (box b25 27 [.slice A17 ((zaj zaa).spots).length c17, .slice A19 ((zaj zaa).first).length c19, .slice A21 ((zaj zaa).follow).length c21, .slice A23 ((zaj zaa).last).length c23, .bool ((zaj zaa).empty)]) rfl
 dsimp only [lAa, lAn, lA0, lAs] at S28
 refine p_s rfl rfl (zbd rfl rfl r27) <| p_v (v := .int .i64 (errM zaa)) rfl rfl rfl (zai rfl) <| zab <| zad <| zad <| zaf (l := [0, 1, 2, 3, 4, 5, 6, 7, 8, 9, 10, 11, 12, 13, 14, 15, 16, 17, 18, 19, 20, 21, 22, 23, 24, 25, 26, 27, 28, 29, 30, 31, 32, 33, 34, 35, 36, 37, 38, 39, 40, 41, 42, 43, 44, 45, 46, 47, 48, 49, 50, 51, 52, 53, 54, 55, 56]) rfl <| p_v (v := .int .i64 (errM zaa)) rfl rfl rfl (zah rfl) <| p_v (v := .bool (decide ((errM zaa) ≠ 0))) rfl rfl rfl (x_neq rfl rfl) <| p_v (v := .bool (decide ((errM zaa) ≠ 0))) rfl rfl rfl (zah rfl) ?_
 have hc29 : ¬ ((errM zaa) ≠ 0) := by
  decide +kernel
 refine p_v (v := .pointer (some ⟨b25, 0, none⟩)) rfl (wo 2 23 rfl rfl (bF hc29) rfl) rfl (zas fd27_0 ty22 rfl rfl) <| p_v (v := .slice A17 ((zaj zaa).spots).length c17) rfl (wo 2 23 rfl rfl (bF hc29) rfl) rfl (zan (seg := [.slice A17 ((zaj zaa).spots).length c17]) ty22 rfl (by simp) rfl (CF.box (m := 1) (S28.box_at (j := 9) rfl) rfl)) <| p_v (v := .int .i64 (((zaj zaa).spots).length : Int)) rfl (wo 2 23 rfl rfl (bF hc29) rfl) rfl (za6 u22 rfl) <| p_v (v := .bool (decide ((((zaj zaa).spots).length : Int) ≠ 2))) rfl (wo 2 23 rfl rfl (bF hc29) rfl) rfl (x_neq rfl rfl) <| p_v (v := .bool (decide ((((zaj zaa).spots).length : Int) ≠ 2))) rfl rfl rfl (zb6 (bF hc29) rfl) <| p_v (v := .bool (decide ((((zaj zaa).spots).length : Int) ≠ 2))) rfl rfl rfl (zah rfl) ?_
 have hc30 : ¬ ((((zaj zaa).spots).length : Int) ≠ 2) := by
  decide +kernel
 refine p_v (v := .pointer (some ⟨b25, 2, none⟩)) rfl (wo 8 29 rfl rfl (bF hc30) rfl) rfl (zas fd27_2 ty24 rfl rfl) <| p_v (v := .slice A21 ((zaj zaa).follow).length c21) rfl (wo 8 29 rfl rfl (bF hc30) rfl) rfl (zan (seg := [.slice A21 ((zaj zaa).follow).length c21]) ty24 rfl (by simp) rfl (CF.box (m := 1) (S28.box_at (j := 9) rfl) rfl)) <| p_v (v := .int .i64 (((zaj zaa).follow).length : Int)) rfl (wo 8 29 rfl rfl (bF hc30) rfl) rfl (za6 u24 rfl) <| p_v (v := .bool (decide ((((zaj zaa).follow).length : Int) ≠ 2))) rfl (wo 8 29 rfl rfl (bF hc30) rfl) rfl (x_neq rfl rfl) <| p_v (v := .bool (decide ((((zaj zaa).follow).length : Int) ≠ 2))) rfl rfl rfl (zb6 (bF hc30) rfl) <| p_v (v := .bool (decide ((((zaj zaa).follow).length : Int) ≠ 2))) rfl rfl rfl (zah rfl) ?_
 have hc31 : ¬ ((((zaj zaa).follow).length : Int) ≠ 2) := by
  decide +kernel
 refine p_v (v := .pointer (some ⟨b25, 2, none⟩)) rfl (wo 14 35 rfl rfl (bF hc31) rfl) rfl (zas fd27_2 ty24 rfl rfl) <| p_v (v := .slice A21 ((zaj zaa).follow).length c21) rfl (wo 14 35 rfl rfl (bF hc31) rfl) rfl (zan (seg := [.slice A21 ((zaj zaa).follow).length c21]) ty24 rfl (by simp) rfl (CF.box (m := 1) (S28.box_at (j := 9) rfl) rfl)) ?_
 obtain ⟨ad32, seg32, a32, rp32, ce32⟩ := za5 (q := (0 : Int)) (m := 1) ld21 rfl (by first|omega|(simp;omega)|assumption) (by first|omega|(simp;omega)|assumption)
 refine p_v (v := .pointer (some ad32)) rfl (wo 14 35 rfl rfl (bF hc31) rfl) rfl (za4 u24 ty23 rfl rfl a32 (by first|omega|(simp;omega)|assumption) (by first|omega|(simp;omega)|assumption)) ?_
 obtain ⟨A32, c32, rfl, lc32, cm32, ld32⟩ := rp32
 have cn32 := cm32; simp only [maxLen] at cn32
 refine p_v (v := .slice A32 (at_ ((zaj zaa).follow) (0 : Int)).length c32) rfl (wo 14 35 rfl rfl (bF hc31) rfl) rfl (zan (seg := [.slice A32 (at_ ((zaj zaa).follow) (0 : Int)).length c32]) ty23 rfl (by simp) rfl (CF.ghost ce32 (le23.trans S28.ghost))) <| p_v (v := .int .i64 ((at_ ((zaj zaa).follow) (0 : Int)).length : Int)) rfl (wo 14 35 rfl rfl (bF hc31) rfl) rfl (za6 u23 rfl) <| p_v (v := .bool (decide (((at_ ((zaj zaa).follow) (0 : Int)).length : Int) ≠ 1))) rfl (wo 14 35 rfl rfl (bF hc31) rfl) rfl (x_neq rfl rfl) <| p_v (v := .bool (decide (((at_ ((zaj zaa).follow) (0 : Int)).length : Int) ≠ 1))) rfl rfl rfl (zb6 (bF hc31) rfl) <| p_v (v := .bool (decide (((at_ ((zaj zaa).follow) (0 : Int)).length : Int) ≠ 1))) rfl rfl rfl (zah rfl) ?_
 have hc33 : ¬ (((at_ ((zaj zaa).follow) (0 : Int)).length : Int) ≠ 1) := by
  decide +kernel
 refine p_v (v := .pointer (some ⟨b25, 2, none⟩)) rfl (wo 22 43 rfl rfl (bF hc33) rfl) rfl (zas fd27_2 ty24 rfl rfl) <| p_v (v := .slice A21 ((zaj zaa).follow).length c21) rfl (wo 22 43 rfl rfl (bF hc33) rfl) rfl (zan (seg := [.slice A21 ((zaj zaa).follow).length c21]) ty24 rfl (by simp) rfl (CF.box (m := 1) (S28.box_at (j := 9) rfl) rfl)) ?_
 obtain ⟨ad34, seg34, a34, rp34, ce34⟩ := za5 (q := (0 : Int)) (m := 1) ld21 rfl (by first|omega|(simp;omega)|assumption) (by first|omega|(simp;omega)|assumption)
 refine p_v (v := .pointer (some ad34)) rfl (wo 22 43 rfl rfl (bF hc33) rfl) rfl (za4 u24 ty23 rfl rfl a34 (by first|omega|(simp;omega)|assumption) (by first|omega|(simp;omega)|assumption)) ?_
 obtain ⟨A34, c34, rfl, lc34, cm34, ld34⟩ := rp34
 have cn34 := cm34; simp only [maxLen] at cn34
 refine p_v (v := .slice A34 (at_ ((zaj zaa).follow) (0 : Int)).length c34) rfl (wo 22 43 rfl rfl (bF hc33) rfl) rfl (zan (seg := [.slice A34 (at_ ((zaj zaa).follow) (0 : Int)).length c34]) ty23 rfl (by simp) rfl (CF.ghost ce34 (le23.trans S28.ghost))) ?_
 obtain ⟨ad35, seg35, a35, rp35, ce35⟩ := za5 (q := (0 : Int)) (m := 1) ld34 rfl (by first|omega|(simp;omega)|assumption) (by first|omega|(simp;omega)|assumption)
 refine p_v (v := .pointer (some ad35)) rfl (wo 22 43 rfl rfl (bF hc33) rfl) rfl (za4 u23 ty3 rfl rfl a35 (by first|omega|(simp;omega)|assumption) (by first|omega|(simp;omega)|assumption)) ?_
 obtain ⟨rfl, in35⟩ := rp35
 have lo35 := zb1 in35; have hi35 := zb2 in35
 refine p_v (v := .int .i64 (at_ (at_ ((zaj zaa).follow) (0 : Int)) (0 : Int))) rfl (wo 22 43 rfl rfl (bF hc33) rfl) rfl (zan (seg := [.int .i64 (at_ (at_ ((zaj zaa).follow) (0 : Int)) (0 : Int))]) ty3 rfl (by simp) rfl (CF.ghost ce35 (le23.trans S28.ghost))) <| p_v (v := .bool (decide ((at_ (at_ ((zaj zaa).follow) (0 : Int)) (0 : Int)) ≠ 1))) rfl (wo 22 43 rfl rfl (bF hc33) rfl) rfl (x_neq rfl rfl) <| p_v (v := .bool (decide ((at_ (at_ ((zaj zaa).follow) (0 : Int)) (0 : Int)) ≠ 1))) rfl rfl rfl (zb6 (bF hc33) rfl) <| p_v (v := .bool (decide ((at_ (at_ ((zaj zaa).follow) (0 : Int)) (0 : Int)) ≠ 1))) rfl rfl rfl (zah rfl) ?_
 have hc36 : ¬ ((at_ (at_ ((zaj zaa).follow) (0 : Int)) (0 : Int)) ≠ 1) := by
  decide +kernel
 refine p_v (v := .pointer (some ⟨b25, 1, none⟩)) rfl (wo 31 52 rfl rfl (bF hc36) rfl) rfl (zas fd27_1 ty23 rfl rfl) <| p_v (v := .slice A19 ((zaj zaa).first).length c19) rfl (wo 31 52 rfl rfl (bF hc36) rfl) rfl (zan (seg := [.slice A19 ((zaj zaa).first).length c19]) ty23 rfl (by simp) rfl (CF.box (m := 1) (S28.box_at (j := 9) rfl) rfl)) <| p_v (v := .int .i64 (((zaj zaa).first).length : Int)) rfl (wo 31 52 rfl rfl (bF hc36) rfl) rfl (za6 u23 rfl) <| p_v (v := .bool (decide ((((zaj zaa).first).length : Int) ≠ 1))) rfl (wo 31 52 rfl rfl (bF hc36) rfl) rfl (x_neq rfl rfl) <| p_v (v := .bool (decide ((((zaj zaa).first).length : Int) ≠ 1))) rfl rfl rfl (zb6 (bF hc36) rfl) <| p_v (v := .bool (decide ((((zaj zaa).first).length : Int) ≠ 1))) rfl rfl rfl (zah rfl) ?_
 have hc37 : ¬ ((((zaj zaa).first).length : Int) ≠ 1) := by
  decide +kernel
 refine p_v (v := .pointer (some ⟨b25, 3, none⟩)) rfl (wo 37 58 rfl rfl (bF hc37) rfl) rfl (zas fd27_3 ty25 rfl rfl) <| p_v (v := .slice A23 ((zaj zaa).last).length c23) rfl (wo 37 58 rfl rfl (bF hc37) rfl) rfl (zan (seg := [.slice A23 ((zaj zaa).last).length c23]) ty25 rfl (by simp) rfl (CF.box (m := 1) (S28.box_at (j := 9) rfl) rfl)) ?_
 obtain ⟨ad38, seg38, a38, rp38, ce38⟩ := za5 (q := (1 : Int)) (m := 1) ld23 rfl (by first|omega|(simp;omega)|assumption) (by first|omega|(simp;omega)|assumption)
 refine p_v (v := .pointer (some ad38)) rfl (wo 37 58 rfl rfl (bF hc37) rfl) rfl (za4 u25 ty4 rfl rfl a38 (by first|omega|(simp;omega)|assumption) (by first|omega|(simp;omega)|assumption)) ?_
 obtain ⟨rfl, _⟩ := rp38
 refine p_v (v := .bool (at_ ((zaj zaa).last) (1 : Int))) rfl (wo 37 58 rfl rfl (bF hc37) rfl) rfl (zan (seg := [.bool (at_ ((zaj zaa).last) (1 : Int))]) ty4 rfl (by simp) rfl (CF.ghost ce38 ((Le.refl _).trans S28.ghost))) <| p_v (v := .bool (!(at_ ((zaj zaa).last) (1 : Int)))) rfl (wo 37 58 rfl rfl (bF hc37) rfl) rfl (x_not rfl) <| p_v (v := .bool (!(at_ ((zaj zaa).last) (1 : Int)))) rfl rfl rfl (zb6 (bF hc37) rfl) <| p_v (v := .bool (!(at_ ((zaj zaa).last) (1 : Int)))) rfl rfl rfl (zah rfl) ?_
 have hc39 : (at_ ((zaj zaa).last) (1 : Int)) = true := by
  decide +kernel
 refine p_v (v := .pointer (some ⟨b25, 4, none⟩)) rfl (wo 44 65 rfl rfl (congrArg (fun z => Value.bool (!z)) hc39) rfl) rfl (zas fd27_4 ty4 rfl rfl) <| p_v (v := .bool ((zaj zaa).empty)) rfl (wo 44 65 rfl rfl (congrArg (fun z => Value.bool (!z)) hc39) rfl) rfl (zan (seg := [.bool ((zaj zaa).empty)]) ty4 rfl (by simp) rfl (CF.box (m := 1) (S28.box_at (j := 9) rfl) rfl)) <| p_v (v := .bool (!((zaj zaa).empty))) rfl (wo 44 65 rfl rfl (congrArg (fun z => Value.bool (!z)) hc39) rfl) rfl (x_not rfl) <| p_v (v := .bool (!((zaj zaa).empty))) rfl rfl rfl (zb6 (congrArg (fun z => Value.bool (!z)) hc39) rfl) <| p_v (v := .bool (!((zaj zaa).empty))) rfl rfl rfl (zah rfl) ?_
 have hc40 : ((zaj zaa).empty) = true := by
  decide +kernel
 refine p_v (v := .agg #[v1_0, v1_1, v1_2, v1_3, .bool zaa.empty]) rfl (wo 49 70 rfl rfl (congrArg (fun z => Value.bool (!z)) hc40) rfl) rfl (zan (seg := [v1_0, v1_1, v1_2, v1_3, .bool zaa.empty]) ty27 rfl (by simp) rfl (CF.box (m := 5) (S28.box_at (j := 4) rfl) rfl)) ?_
 obtain ⟨A41, c41, ev41, lc41, cm41⟩ := S28.row_val (j := 0) rfl
 obtain ⟨A42, c42, ev42, lc42, cm42⟩ := S28.row_val (j := 1) rfl
 obtain ⟨A43, c43, ev43, lc43, cm43⟩ := S28.row_val (j := 2) rfl
 obtain ⟨A44, c44, ev44, lc44, cm44⟩ := S28.row_val (j := 3) rfl
 refine p_c rfl (wo 49 70 rfl rfl (congrArg (fun z => Value.bool (!z)) hc40) rfl) rfl (zbg (args := [.agg #[.slice A41 zaa.spots.length c41, .slice A42 zaa.first.length c42, .slice A43 zaa.follow.length c43, .slice A44 zaa.last.length c44, .bool zaa.empty], .string (⟨#[97]⟩ : ByteArray)]) ca11 rfl (zbr (Eq.trans (b := .agg #[v1_0, v1_1, v1_2, v1_3, .bool zaa.empty]) rfl (by rw [ev41, ev42, ev43, ev44])) (zbr rfl rfl))) (runN_calls w27 zaa A41 c41 (And.intro lc41 cm41) (zay S28 (j := 0) rfl ev41) A42 c42 (And.intro lc42 cm42) (zay S28 (j := 1) rfl ev42) A43 c43 (And.intro lc43 cm43) (zay S28 (j := 2) rfl ev43) A44 c44 (And.intro lc44 cm44) (zay S28 (j := 3) rfl ev44) (⟨#[97]⟩ : ByteArray) (by decide)) ?_
 rintro _ w45 ⟨h45, T45, rfl⟩
 have S46 := S28.keep (Chg.of_below T45.below)
 refine p_v (v := .bool (runM zaa (⟨#[97]⟩ : ByteArray))) rfl rfl rfl (zb6 (congrArg (fun z => Value.bool (!z)) hc40) rfl) <| p_v (v := .bool (runM zaa (⟨#[97]⟩ : ByteArray))) rfl rfl rfl (zah rfl) ?_
 have hc47 : (runM zaa (⟨#[97]⟩ : ByteArray)) = false := by
  decide +kernel
 refine p_v (v := .agg #[v1_0, v1_1, v1_2, v1_3, .bool zaa.empty]) rfl (wo 53 74 rfl rfl (congrArg Value.bool hc47) rfl) rfl (zan (seg := [v1_0, v1_1, v1_2, v1_3, .bool zaa.empty]) ty27 rfl (by simp) rfl (CF.box (m := 5) (S46.box_at (j := 4) rfl) rfl)) ?_
 obtain ⟨A48, c48, ev48, lc48, cm48⟩ := S46.row_val (j := 0) rfl
 obtain ⟨A49, c49, ev49, lc49, cm49⟩ := S46.row_val (j := 1) rfl
 obtain ⟨A50, c50, ev50, lc50, cm50⟩ := S46.row_val (j := 2) rfl
 obtain ⟨A51, c51, ev51, lc51, cm51⟩ := S46.row_val (j := 3) rfl
 refine p_c rfl (wo 53 74 rfl rfl (congrArg Value.bool hc47) rfl) rfl (zbg (args := [.agg #[.slice A48 zaa.spots.length c48, .slice A49 zaa.first.length c49, .slice A50 zaa.follow.length c50, .slice A51 zaa.last.length c51, .bool zaa.empty], .string (⟨#[97, 98, 98]⟩ : ByteArray)]) ca11 rfl (zbr (Eq.trans (b := .agg #[v1_0, v1_1, v1_2, v1_3, .bool zaa.empty]) rfl (by rw [ev48, ev49, ev50, ev51])) (zbr rfl rfl))) (runN_calls w45 zaa A48 c48 (And.intro lc48 cm48) (zay S46 (j := 0) rfl ev48) A49 c49 (And.intro lc49 cm49) (zay S46 (j := 1) rfl ev49) A50 c50 (And.intro lc50 cm50) (zay S46 (j := 2) rfl ev50) A51 c51 (And.intro lc51 cm51) (zay S46 (j := 3) rfl ev51) (⟨#[97, 98, 98]⟩ : ByteArray) (by decide)) ?_
 rintro _ w52 ⟨h52, T52, rfl⟩
 have S53 := S46.keep (Chg.of_below T52.below)
 refine p_v (v := .bool (runM zaa (⟨#[97, 98, 98]⟩ : ByteArray))) rfl rfl rfl (zb6 (congrArg Value.bool hc47) rfl) <| zab ?_
 have hc54 : (runM zaa (⟨#[97, 98, 98]⟩ : ByteArray)) = false := by
  decide +kernel
 refine zc6 (b := false) (congrArg Value.bool hc54) ?_
 simp only [if_true, if_false, Bool.false_eq_true]
 refine za9 <| zad <| zaf (l := [0, 1, 2, 3, 4, 5, 6, 7, 8, 9, 10, 11, 12, 13, 14]) rfl <| p_c rfl rfl rfl (zbg (args := []) ca10 rfl rfl) (zcy w52 ) ?_
 rintro _ w55 ⟨h55, v55_0, v55_1, v55_2, v55_3, T55, rfl⟩
 obtain ⟨k55, lk55, ll55, U55⟩ := zbp S53 T55
 have lc55_0 := ((((((lk1.trans lk15).trans le17).trans le19).trans le21).trans le23).trans lk55)
 have S56 := U55
 dsimp only [lAa, lAn, lA0, lAs] at S56
 refine p_c rfl rfl rfl (zbg (args := []) ca10 rfl rfl) (zcy w55 ) ?_
 rintro _ w57 ⟨h57, v57_0, v57_1, v57_2, v57_3, T57, rfl⟩
 obtain ⟨k57, lk57, ll57, U57⟩ := zbp S56 T57
 have lc57_1 := ((((((lk15.trans le17).trans le19).trans le21).trans le23).trans lk55).trans lk57)
 have S58 := U57
 dsimp only [lAa, lAn, lA0, lAs] at S58
 refine p_c rfl rfl rfl (zbg (args := []) ca10 rfl rfl) (zcy w57 ) ?_
 rintro _ w59 ⟨h59, v59_0, v59_1, v59_2, v59_3, T59, rfl⟩
 obtain ⟨k59, lk59, ll59, U59⟩ := zbp S58 T59
 have lc59_2 := ((((((le17.trans le19).trans le21).trans le23).trans lk55).trans lk57).trans lk59)
 have S60 := U59
 dsimp only [lAa, lAn, lA0, lAs] at S60
 refine p_c rfl rfl rfl (zbg (args := []) ca10 rfl rfl) (zcy w59 ) ?_
 rintro _ w61 ⟨h61, v61_0, v61_1, v61_2, v61_3, T61, rfl⟩
 obtain ⟨k61, lk61, ll61, U61⟩ := zbp S60 T61
 have lc61_3 := ((((((le19.trans le21).trans le23).trans lk55).trans lk57).trans lk59).trans lk61)
 have S62 := U61
 dsimp only [lAa, lAn, lA0, lAs] at S62
 refine p_c rfl rfl rfl (zbg (args := []) ca10 rfl rfl) (zcy w61 ) ?_
 rintro _ w63 ⟨h63, v63_0, v63_1, v63_2, v63_3, T63, rfl⟩
 obtain ⟨k63, lk63, ll63, U63⟩ := zbp S62 T63
 have lc63_4 := ((((((le21.trans le23).trans lk55).trans lk57).trans lk59).trans lk61).trans lk63)
 have S64 := U63
 dsimp only [lAa, lAn, lA0, lAs] at S64
 obtain ⟨b65, w65, r65, g65, T65⟩ := zcb (P := Try.prog) S64 27 (v := (.agg #[.slice none 0 0, .slice none 0 0, .slice none 0 0, .slice none 0 0, .bool false])) [.slice none 0 0, .slice none 0 0, .slice none 0 0, .slice none 0 0, .bool false] rfl
 have S66 := T65
 dsimp only [lAa, lAn, lA0, lAs] at S66
 refine p_v (v := .pointer (some ⟨b65, 0, none⟩)) rfl rfl rfl (zbn ty27 r65) ?_
 obtain ⟨b67, w67, r67, g67, T67⟩ := zcb (P := Try.prog) S66 27 (v := (.agg #[.slice none 0 0, .slice none 0 0, .slice none 0 0, .slice none 0 0, .bool false])) [.slice none 0 0, .slice none 0 0, .slice none 0 0, .slice none 0 0, .bool false] rfl
 have S68 := T67
 dsimp only [lAa, lAn, lA0, lAs] at S68
 refine p_v (v := .pointer (some ⟨b67, 0, none⟩)) rfl rfl rfl (zbn ty27 r67) ?_
 obtain ⟨b69, w69, r69, g69, T69⟩ := zcb (P := Try.prog) S68 27 (v := (.agg #[.slice none 0 0, .slice none 0 0, .slice none 0 0, .slice none 0 0, .bool false])) [.slice none 0 0, .slice none 0 0, .slice none 0 0, .slice none 0 0, .bool false] rfl
 have S70 := T69
 dsimp only [lAa, lAn, lA0, lAs] at S70
 refine p_v (v := .pointer (some ⟨b69, 0, none⟩)) rfl rfl rfl (zbn ty27 r69) ?_
 obtain ⟨b71, w71, r71, g71, T71⟩ := zcb (P := Try.prog) S70 27 (v := (.agg #[.slice none 0 0, .slice none 0 0, .slice none 0 0, .slice none 0 0, .bool false])) [.slice none 0 0, .slice none 0 0, .slice none 0 0, .slice none 0 0, .bool false] rfl
 have S72 := T71
 dsimp only [lAa, lAn, lA0, lAs] at S72
 refine p_v (v := .pointer (some ⟨b71, 0, none⟩)) rfl rfl rfl (zbn ty27 r71) ?_
 obtain ⟨b73, w73, r73, g73, T73⟩ := zcb (P := Try.prog) S72 27 (v := (.agg #[.slice none 0 0, .slice none 0 0, .slice none 0 0, .slice none 0 0, .bool false])) [.slice none 0 0, .slice none 0 0, .slice none 0 0, .slice none 0 0, .bool false] rfl
 have S74 := T73
 dsimp only [lAa, lAn, lA0, lAs] at S74
 refine p_v (v := .pointer (some ⟨b73, 0, none⟩)) rfl rfl rfl (zbn ty27 r73) ?_
 have oc76 := zba S74 (j := 10) rfl
 have oc77 := zba S74 (j := 11) rfl
 have oc78 := zba S74 (j := 12) rfl
 have oc79 := zba S74 (j := 13) rfl
 obtain ⟨w75, r75, g75, T75⟩ := zbq (P := Try.prog) (off := 0) (v := .agg #[v55_0, v55_1, v55_2, v55_3, .bool zaa.empty]) (vs := [v55_0, v55_1, v55_2, v55_3, .bool zaa.empty]) S74 ty27 rfl rfl (j := 30) rfl (by first | decide | exact Nat.le_of_ble_eq_true rfl) (zao oc76 (zao oc77 (zao oc78 (zao oc79 (zao rfl zb9)))))
 have S80 := T75.fx 30 (box b65 27 [v55_0, v55_1, v55_2, v55_3, .bool zaa.empty]) rfl
 dsimp only [lAa, lAn, lA0, lAs] at S80
 refine p_s rfl rfl (zbd rfl rfl r75) ?_
 have oc82 := zba S80 (j := 14) rfl
 have oc83 := zba S80 (j := 15) rfl
 have oc84 := zba S80 (j := 16) rfl
 have oc85 := zba S80 (j := 17) rfl
 obtain ⟨w81, r81, g81, T81⟩ := zbq (P := Try.prog) (off := 0) (v := .agg #[v57_0, v57_1, v57_2, v57_3, .bool zaa.empty]) (vs := [v57_0, v57_1, v57_2, v57_3, .bool zaa.empty]) S80 ty27 rfl rfl (j := 31) rfl (by first | decide | exact Nat.le_of_ble_eq_true rfl) (zao oc82 (zao oc83 (zao oc84 (zao oc85 (zao rfl zb9)))))
 have S86 := T81.fx 31 (box b67 27 [v57_0, v57_1, v57_2, v57_3, .bool zaa.empty]) rfl
 dsimp only [lAa, lAn, lA0, lAs] at S86
 refine p_s rfl rfl (zbd rfl rfl r81) ?_
 have oc88 := zba S86 (j := 18) rfl
 have oc89 := zba S86 (j := 19) rfl
 have oc90 := zba S86 (j := 20) rfl
 have oc91 := zba S86 (j := 21) rfl
 obtain ⟨w87, r87, g87, T87⟩ := zbq (P := Try.prog) (off := 0) (v := .agg #[v59_0, v59_1, v59_2, v59_3, .bool zaa.empty]) (vs := [v59_0, v59_1, v59_2, v59_3, .bool zaa.empty]) S86 ty27 rfl rfl (j := 32) rfl (by first | decide | exact Nat.le_of_ble_eq_true rfl) (zao oc88 (zao oc89 (zao oc90 (zao oc91 (zao rfl zb9)))))
 have S92 := T87.fx 32 (box b69 27 [v59_0, v59_1, v59_2, v59_3, .bool zaa.empty]) rfl
 dsimp only [lAa, lAn, lA0, lAs] at S92
 refine p_s rfl rfl (zbd rfl rfl r87) ?_
 have oc94 := zba S92 (j := 22) rfl
 have oc95 := zba S92 (j := 23) rfl
 have oc96 := zba S92 (j := 24) rfl
 have oc97 := zba S92 (j := 25) rfl
 obtain ⟨w93, r93, g93, T93⟩ := zbq (P := Try.prog) (off := 0) (v := .agg #[v61_0, v61_1, v61_2, v61_3, .bool zaa.empty]) (vs := [v61_0, v61_1, v61_2, v61_3, .bool zaa.empty]) S92 ty27 rfl rfl (j := 33) rfl (by first | decide | exact Nat.le_of_ble_eq_true rfl) (zao oc94 (zao oc95 (zao oc96 (zao oc97 (zao rfl zb9)))))
 have S98 := T93.fx 33 (box b71 27 [v61_0, v61_1, v61_2, v61_3, .bool zaa.empty]) rfl
 dsimp only [lAa, lAn, lA0, lAs] at S98
 refine p_s rfl rfl (zbd rfl rfl r93) ?_
 have oc100 := zba S98 (j := 26) rfl
 have oc101 := zba S98 (j := 27) rfl
 have oc102 := zba S98 (j := 28) rfl
 have oc103 := zba S98 (j := 29) rfl
 obtain ⟨w99, r99, g99, T99⟩ := zbq (P := Try.prog) (off := 0) (v := .agg #[v63_0, v63_1, v63_2, v63_3, .bool zaa.empty]) (vs := [v63_0, v63_1, v63_2, v63_3, .bool zaa.empty]) S98 ty27 rfl rfl (j := 34) rfl (by first | decide | exact Nat.le_of_ble_eq_true rfl) (zao oc100 (zao oc101 (zao oc102 (zao oc103 (zao rfl zb9)))))
 have S104 := T99.fx 34 (box b73 27 [v63_0, v63_1, v63_2, v63_3, .bool zaa.empty]) rfl
 dsimp only [lAa, lAn, lA0, lAs] at S104
 refine p_s rfl rfl (zbd rfl rfl r99) <| zab <| zad <| zaf (l := [0, 1, 2, 3, 4]) rfl <| p_v (v := .pointer (some ⟨b65, 2, none⟩)) rfl rfl rfl (zas fd27_2 ty24 rfl rfl) <| p_v (v := v55_2) rfl rfl rfl (zan (seg := [v55_2]) ty24 rfl (by simp) rfl (CF.box (m := 1) (S104.box_at (j := 30) rfl) rfl)) ?_
 obtain ⟨v105, w105, r105, g105, T105⟩ := za7 (kd := (Kd.int .i64)) (xs := ([2, 1] : List Int)) (len := 2) [.int .i64 2, .int .i64 1] S104 u23 ty3 rfl rfl rfl rfl rfl (zbj rfl (zbj rfl zb4)) ([.int .i64 2] ++ ([.int .i64 1])) (zbl.cons (k := (Kd.int .i64)) (h := k63) (x := 2) (cs := [.int .i64 2]) ⟨rfl, (zat (by first|omega|(simp;omega)|assumption) (by first|omega|(simp;omega)|assumption))⟩ (zbl.single (k := (Kd.int .i64)) (h := k63) (x := 1) (cs := [.int .i64 1]) ⟨rfl, (zat (by first|omega|(simp;omega)|assumption) (by first|omega|(simp;omega)|assumption))⟩)) rfl
 have S106 := T105
 dsimp only [lAa, lAn, lA0, lAs] at S106
 refine p_v (v := v105) rfl rfl rfl (zaw (pv := [(0, .int .i64 2), (1, .int .i64 1)]) rfl r105) ?_
 obtain ⟨ad107, a107, at107⟩ := zbo (q := (0 : Int)) (m := 1) S106 (j := 12) rfl rfl (by first|omega|(simp;omega)|assumption) (by first|omega|(simp;omega)|assumption)
 refine p_v (v := .pointer (some ad107)) rfl rfl rfl (zbm u24 ty23 rfl rfl a107 (by first|omega|(simp;omega)|assumption) (by first|omega|(simp;omega)|assumption)) ?_
 obtain ⟨h109, le109, T109, rp109⟩ := S106.freeze (i := 35) rfl
 have lf109_0 := (((((lc55_0.trans lk57).trans lk59).trans lk61).trans lk63).trans le109)
 have lf109_5 := ((((((le23.trans lk55).trans lk57).trans lk59).trans lk61).trans lk63).trans le109)
 have S110 := T109.fx 35 (emp) rfl
 dsimp only [lAa, lAn, lA0, lAs] at S110
 obtain ⟨A109, c109, e109, lc109, cm109, ld109⟩ := rp109
 injection e109 with e109 _; subst e109
 have cn109 := cm109; simp only [maxLen] at cn109
 obtain ⟨w108, r108, g108, T108⟩ := zcq (u := .slice A109 ([2, 1] : List Int).length c109) (q := (0 : Int)) ([2, 1] : List Int) (vs := [.slice A109 ([2, 1] : List Int).length c109]) S110 ty23 rfl (j := 12) rfl rfl ⟨_, _, rfl, (And.intro lc109 cm109).1, (And.intro lc109 cm109).2, ld109.mono (Le.refl _)⟩ at107 (by first|omega|(simp;omega)|assumption) (by first|omega|(simp;omega)|assumption)
 have S111 := T108.fx 12 (row 23 (Kd.int .i64).slice v55_2 (zaa.follow.set ((0 : Int)).toNat ([2, 1] : List Int))) rfl
 dsimp only [lAa, lAn, lA0, lAs] at S111
 refine p_s rfl rfl (zbd rfl rfl r108) <| zab <| zad <| zaf (l := [0, 1, 2, 3, 4]) rfl <| p_v (v := .pointer (some ⟨b67, 3, none⟩)) rfl rfl rfl (zas fd27_3 ty25 rfl rfl) <| p_v (v := v57_3) rfl rfl rfl (zan (seg := [v57_3]) ty25 rfl (by simp) rfl (CF.box (m := 1) (S111.box_at (j := 31) rfl) rfl)) ?_
 obtain ⟨v112, r112, T112⟩ := e_slice_hi (q := (2 : Int)) (kk := .i64) S111 u25 ty4 (j := 17) rfl (by first|omega|(simp;omega)|assumption) (by first|omega|(simp;omega)|assumption)
 have S113 := T112.fx 17 (row 4 Kd.bool v112 (zaa.last.take ((2 : Int)).toNat)) rfl
 dsimp only [lAa, lAn, lA0, lAs] at S113
 refine p_v (v := v112) rfl rfl rfl (x_slice (lv := none) (hv := some (.int .i64 (2 : Int))) rfl rfl rfl r112) <| p_v (v := .pointer (some ⟨b67, 3, none⟩)) rfl rfl rfl (zas fd27_3 ty25 rfl rfl) ?_
 have oc115 := zba S113 (j := 17) rfl
 obtain ⟨w114, r114, g114, T114⟩ := zbq (P := Try.prog) (off := 3) (v := v112) (vs := [v112]) S113 ty25 (zac S113 (j := 17) rfl) rfl (j := 31) rfl (by first | decide | exact Nat.le_of_ble_eq_true rfl) (zao oc115 zb9)
 have S116 := T114.fx 31 (box b67 27 [v57_0, v57_1, v57_2, v112, .bool zaa.empty]) rfl
 dsimp only [lAa, lAn, lA0, lAs] at S116
 refine p_s rfl rfl (zbd rfl rfl r114) <| zab <| zad <| zaf (l := [0, 1, 2, 3, 4]) rfl <| p_v (v := .pointer (some ⟨b69, 0, none⟩)) rfl rfl rfl (zas fd27_0 ty22 rfl rfl) <| p_v (v := v59_0) rfl rfl rfl (zan (seg := [v59_0]) ty22 rfl (by simp) rfl (CF.box (m := 1) (S116.box_at (j := 32) rfl) rfl)) ?_
 obtain ⟨ad117, a117, at117⟩ := zbo (q := (0 : Int)) (m := 5) S116 (j := 18) rfl rfl (by first|omega|(simp;omega)|assumption) (by first|omega|(simp;omega)|assumption)
 refine p_v (v := .pointer (some ad117)) rfl rfl rfl (zbm u22 ty38 rfl rfl a117 (by first|omega|(simp;omega)|assumption) (by first|omega|(simp;omega)|assumption)) <| p_v (v := .pointer (some (ad117.add 4))) rfl rfl rfl (x_fieldAd fd38_1 ty5 rfl rfl) ?_
 have ok119 : ∀ seg, zax.rep h109 (at_ zaa.spots (0 : Int)) seg → zax.rep h109 (⟨(at_ zaa.spots (0 : Int)).set, 3⟩ : Spot) (lput seg 4 [.int .u8 3]) := fun seg hs => spot_tag hs (in_u8 (by first|omega|(simp;omega)|assumption) (by first|omega|(simp;omega)|assumption))
 obtain ⟨w118, r118, g118, T118⟩ := e_store_part (u := .int .u8 3) (q := (0 : Int)) (m := 1) (n := 5) (o := 4) (⟨(at_ zaa.spots (0 : Int)).set, 3⟩ : Spot) (vs := [.int .u8 3]) S116 ty5 rfl (j := 18) rfl rfl (zao rfl zb9) rfl (by decide) ok119 at117 (by first|omega|(simp;omega)|assumption) (by first|omega|(simp;omega)|assumption)
 have S120 := T118.fx 18 (row 38 zax v59_0 (zaa.spots.set ((0 : Int)).toNat (⟨(at_ zaa.spots (0 : Int)).set, 3⟩ : Spot))) rfl
 dsimp only [lAa, lAn, lA0, lAs] at S120
 refine p_s rfl rfl (zbd rfl rfl r118) <| zab <| zad <| zaf (l := [0, 1, 2]) rfl ?_
 obtain ⟨v121, w121, r121, g121, T121⟩ := za7 (kd := (Kd.int .i64)) (xs := ([3] : List Int)) (len := 1) [.int .i64 3] S120 u23 ty3 rfl rfl rfl rfl rfl (zbj rfl zb4) [.int .i64 3] (zbl.single (k := (Kd.int .i64)) (h := h109) (x := 3) (cs := [.int .i64 3]) ⟨rfl, (zat (by first|omega|(simp;omega)|assumption) (by first|omega|(simp;omega)|assumption))⟩) rfl
 have S122 := T121
 dsimp only [lAa, lAn, lA0, lAs] at S122
 refine p_v (v := v121) rfl rfl rfl (zaw (pv := [(0, .int .i64 3)]) rfl r121) <| p_v (v := .pointer (some ⟨b71, 1, none⟩)) rfl rfl rfl (zas fd27_1 ty23 rfl rfl) ?_
 have oc124 := zba S122 (j := 36) rfl
 obtain ⟨w123, r123, g123, T123⟩ := zbq (P := Try.prog) (off := 1) (v := v121) (vs := [v121]) S122 ty23 (zac S122 (j := 36) rfl) rfl (j := 33) rfl (by first | decide | exact Nat.le_of_ble_eq_true rfl) (zao oc124 zb9)
 have S125 := T123.fx 33 (box b71 27 [v61_0, v121, v61_2, v61_3, .bool zaa.empty]) rfl
 dsimp only [lAa, lAn, lA0, lAs] at S125
 refine p_s rfl rfl (zbd rfl rfl r123) <| zab <| zad <| zaf (l := [0, 1, 2]) rfl ?_
 obtain ⟨v126, w126, r126, g126, T126⟩ := za7 (kd := (Kd.int .i64)) (xs := ([0, 0] : List Int)) (len := 2) [.int .i64 0, .int .i64 0] S125 u23 ty3 rfl rfl rfl rfl rfl (zbj rfl (zbj rfl zb4)) ([.int .i64 0] ++ ([.int .i64 0])) (zbl.cons (k := (Kd.int .i64)) (h := h109) (x := 0) (cs := [.int .i64 0]) ⟨rfl, (zat (by first|omega|(simp;omega)|assumption) (by first|omega|(simp;omega)|assumption))⟩ (zbl.single (k := (Kd.int .i64)) (h := h109) (x := 0) (cs := [.int .i64 0]) ⟨rfl, (zat (by first|omega|(simp;omega)|assumption) (by first|omega|(simp;omega)|assumption))⟩)) rfl
 have S127 := T126
 dsimp only [lAa, lAn, lA0, lAs] at S127
 refine p_v (v := v126) rfl rfl rfl (zaw (pv := [(0, .int .i64 0), (1, .int .i64 0)]) rfl r126) <| p_v (v := .pointer (some ⟨b73, 1, none⟩)) rfl rfl rfl (zas fd27_1 ty23 rfl rfl) ?_
 have oc129 := zba S127 (j := 37) rfl
 obtain ⟨w128, r128, g128, T128⟩ := zbq (P := Try.prog) (off := 1) (v := v126) (vs := [v126]) S127 ty23 (zac S127 (j := 37) rfl) rfl (j := 34) rfl (by first | decide | exact Nat.le_of_ble_eq_true rfl) (zao oc129 zb9)
 have S130 := T128.fx 34 (box b73 27 [v63_0, v126, v63_2, v63_3, .bool zaa.empty]) rfl
 dsimp only [lAa, lAn, lA0, lAs] at S130
 refine p_s rfl rfl (zbd rfl rfl r128) <| zab <| zad <| zad ?_
 obtain ⟨h131, le131, T131, rp131⟩ := S130.freeze (i := 0) rfl
 have lf131_1 := (((((lc57_1.trans lk59).trans lk61).trans lk63).trans le109).trans le131)
 have lf131_6 := ((((((lk55.trans lk57).trans lk59).trans lk61).trans lk63).trans le109).trans le131)
 have lf131_7 := (((((lk57.trans lk59).trans lk61).trans lk63).trans le109).trans le131)
 have S132 := T131.fx 0 (emp) rfl
 dsimp only [lAa, lAn, lA0, lAs] at S132
 obtain ⟨A131, c131, e131, lc131, cm131, ld131⟩ := rp131
 injection e131 with e131 _; subst e131
 have cn131 := cm131; simp only [maxLen] at cn131
 obtain ⟨h133, le133, T133, rp133⟩ := S132.freeze (i := 1) rfl
 have lf133_2 := (((((lc59_2.trans lk61).trans lk63).trans le109).trans le131).trans le133)
 have lf133_8 := (((((lk59.trans lk61).trans lk63).trans le109).trans le131).trans le133)
 have S134 : St w.heap.size w h133 w128 [emp, emp, row 23 (Kd.int .i64).slice v1_2 zaa.follow, row 4 Kd.bool v1_3 zaa.last, box b3 27 [.slice A131 zaa.spots.length c131, v1_1, v1_2, v1_3, .bool zaa.empty], emp, emp, emp, emp, box b25 27 [.slice A17 ((zaj zaa).spots).length c17, .slice A19 ((zaj zaa).first).length c19, .slice A21 ((zaj zaa).follow).length c21, .slice A23 ((zaj zaa).last).length c23, .bool ((zaj zaa).empty)], row 38 zax v55_0 zaa.spots, row 3 (Kd.int .i64) v55_1 zaa.first, row 23 (Kd.int .i64).slice v55_2 (zaa.follow.set ((0 : Int)).toNat ([2, 1] : List Int)), row 4 Kd.bool v55_3 zaa.last, row 38 zax v57_0 zaa.spots, row 3 (Kd.int .i64) v57_1 zaa.first, row 23 (Kd.int .i64).slice v57_2 zaa.follow, row 4 Kd.bool v112 (zaa.last.take ((2 : Int)).toNat), row 38 zax v59_0 (zaa.spots.set ((0 : Int)).toNat (⟨(at_ zaa.spots (0 : Int)).set, 3⟩ : Spot)), row 3 (Kd.int .i64) v59_1 zaa.first, row 23 (Kd.int .i64).slice v59_2 zaa.follow, row 4 Kd.bool v59_3 zaa.last, row 38 zax v61_0 zaa.spots, row 3 (Kd.int .i64) v61_1 zaa.first, row 23 (Kd.int .i64).slice v61_2 zaa.follow, row 4 Kd.bool v61_3 zaa.last, row 38 zax v63_0 zaa.spots, row 3 (Kd.int .i64) v63_1 zaa.first, row 23 (Kd.int .i64).slice v63_2 zaa.follow, row 4 Kd.bool v63_3 zaa.last, box b65 27 [v55_0, v55_1, v55_2, v55_3, .bool zaa.empty], box b67 27 [v57_0, v57_1, v57_2, v112, .bool zaa.empty], box b69 27 [v59_0, v59_1, v59_2, v59_3, .bool zaa.empty], box b71 27 [v61_0, v121, v61_2, v61_3, .bool zaa.empty], box b73 27 [v63_0, v126, v63_2, v63_3, .bool zaa.empty], emp, row 3 (Kd.int .i64) v121 ([3] : List Int), row 3 (Kd.int .i64) v126 ([0, 0] : List Int)] := T133
 obtain ⟨A133, c133, e133, lc133, cm133, ld133⟩ := rp133
 injection e133 with e133 _; subst e133
 have cn133 := cm133; simp only [maxLen] at cn133
 obtain ⟨h135, le135, T135, rp135⟩ := S134.freeze (i := 2) rfl
 have lf135_3 := (((((lc61_3.trans lk63).trans le109).trans le131).trans le133).trans le135)
 have lf135_9 := (((((lk61.trans lk63).trans le109).trans le131).trans le133).trans le135)
 have S136 : St w.heap.size w h135 w128 [emp, emp, emp, row 4 Kd.bool v1_3 zaa.last, box b3 27 [.slice A131 zaa.spots.length c131, .slice A133 zaa.first.length c133, v1_2, v1_3, .bool zaa.empty], emp, emp, emp, emp, box b25 27 [.slice A17 ((zaj zaa).spots).length c17, .slice A19 ((zaj zaa).first).length c19, .slice A21 ((zaj zaa).follow).length c21, .slice A23 ((zaj zaa).last).length c23, .bool ((zaj zaa).empty)], row 38 zax v55_0 zaa.spots, row 3 (Kd.int .i64) v55_1 zaa.first, row 23 (Kd.int .i64).slice v55_2 (zaa.follow.set ((0 : Int)).toNat ([2, 1] : List Int)), row 4 Kd.bool v55_3 zaa.last, row 38 zax v57_0 zaa.spots, row 3 (Kd.int .i64) v57_1 zaa.first, row 23 (Kd.int .i64).slice v57_2 zaa.follow, row 4 Kd.bool v112 (zaa.last.take ((2 : Int)).toNat), row 38 zax v59_0 (zaa.spots.set ((0 : Int)).toNat (⟨(at_ zaa.spots (0 : Int)).set, 3⟩ : Spot)), row 3 (Kd.int .i64) v59_1 zaa.first, row 23 (Kd.int .i64).slice v59_2 zaa.follow, row 4 Kd.bool v59_3 zaa.last, row 38 zax v61_0 zaa.spots, row 3 (Kd.int .i64) v61_1 zaa.first, row 23 (Kd.int .i64).slice v61_2 zaa.follow, row 4 Kd.bool v61_3 zaa.last, row 38 zax v63_0 zaa.spots, row 3 (Kd.int .i64) v63_1 zaa.first, row 23 (Kd.int .i64).slice v63_2 zaa.follow, row 4 Kd.bool v63_3 zaa.last, box b65 27 [v55_0, v55_1, v55_2, v55_3, .bool zaa.empty], box b67 27 [v57_0, v57_1, v57_2, v112, .bool zaa.empty], box b69 27 [v59_0, v59_1, v59_2, v59_3, .bool zaa.empty], box b71 27 [v61_0, v121, v61_2, v61_3, .bool zaa.empty], box b73 27 [v63_0, v126, v63_2, v63_3, .bool zaa.empty], emp, row 3 (Kd.int .i64) v121 ([3] : List Int), row 3 (Kd.int .i64) v126 ([0, 0] : List Int)] := T135
 obtain ⟨A135, c135, e135, lc135, cm135, ld135⟩ := rp135
 injection e135 with e135 _; subst e135
 have cn135 := cm135; simp only [maxLen] at cn135
 obtain ⟨h137, le137, T137, rp137⟩ := S136.freeze (i := 3) rfl
 have lf137_4 := (((((lc63_4.trans le109).trans le131).trans le133).trans le135).trans le137)
 have lf137_10 := (((((lk63.trans le109).trans le131).trans le133).trans le135).trans le137)
 have S138 : St w.heap.size w h137 w128 [emp, emp, emp, emp, box b3 27 [.slice A131 zaa.spots.length c131, .slice A133 zaa.first.length c133, .slice A135 zaa.follow.length c135, v1_3, .bool zaa.empty], emp, emp, emp, emp, box b25 27 [.slice A17 ((zaj zaa).spots).length c17, .slice A19 ((zaj zaa).first).length c19, .slice A21 ((zaj zaa).follow).length c21, .slice A23 ((zaj zaa).last).length c23, .bool ((zaj zaa).empty)], row 38 zax v55_0 zaa.spots, row 3 (Kd.int .i64) v55_1 zaa.first, row 23 (Kd.int .i64).slice v55_2 (zaa.follow.set ((0 : Int)).toNat ([2, 1] : List Int)), row 4 Kd.bool v55_3 zaa.last, row 38 zax v57_0 zaa.spots, row 3 (Kd.int .i64) v57_1 zaa.first, row 23 (Kd.int .i64).slice v57_2 zaa.follow, row 4 Kd.bool v112 (zaa.last.take ((2 : Int)).toNat), row 38 zax v59_0 (zaa.spots.set ((0 : Int)).toNat (⟨(at_ zaa.spots (0 : Int)).set, 3⟩ : Spot)), row 3 (Kd.int .i64) v59_1 zaa.first, row 23 (Kd.int .i64).slice v59_2 zaa.follow, row 4 Kd.bool v59_3 zaa.last, row 38 zax v61_0 zaa.spots, row 3 (Kd.int .i64) v61_1 zaa.first, row 23 (Kd.int .i64).slice v61_2 zaa.follow, row 4 Kd.bool v61_3 zaa.last, row 38 zax v63_0 zaa.spots, row 3 (Kd.int .i64) v63_1 zaa.first, row 23 (Kd.int .i64).slice v63_2 zaa.follow, row 4 Kd.bool v63_3 zaa.last, box b65 27 [v55_0, v55_1, v55_2, v55_3, .bool zaa.empty], box b67 27 [v57_0, v57_1, v57_2, v112, .bool zaa.empty], box b69 27 [v59_0, v59_1, v59_2, v59_3, .bool zaa.empty], box b71 27 [v61_0, v121, v61_2, v61_3, .bool zaa.empty], box b73 27 [v63_0, v126, v63_2, v63_3, .bool zaa.empty], emp, row 3 (Kd.int .i64) v121 ([3] : List Int), row 3 (Kd.int .i64) v126 ([0, 0] : List Int)] := T137
 obtain ⟨A137, c137, e137, lc137, cm137, ld137⟩ := rp137
 injection e137 with e137 _; subst e137
 have cn137 := cm137; simp only [maxLen] at cn137
 obtain ⟨h139, le139, T139, rp139⟩ := S138.freeze (i := 10) rfl
 have lf139_0 := (((((lf109_0.trans le131).trans le133).trans le135).trans le137).trans le139)
 have lf139_5 := (((((lf109_5.trans le131).trans le133).trans le135).trans le137).trans le139)
 have lf139_11 := (((((le109.trans le131).trans le133).trans le135).trans le137).trans le139)
 have S140 : St w.heap.size w h139 w128 [emp, emp, emp, emp, box b3 27 [.slice A131 zaa.spots.length c131, .slice A133 zaa.first.length c133, .slice A135 zaa.follow.length c135, .slice A137 zaa.last.length c137, .bool zaa.empty], emp, emp, emp, emp, box b25 27 [.slice A17 ((zaj zaa).spots).length c17, .slice A19 ((zaj zaa).first).length c19, .slice A21 ((zaj zaa).follow).length c21, .slice A23 ((zaj zaa).last).length c23, .bool ((zaj zaa).empty)], emp, row 3 (Kd.int .i64) v55_1 zaa.first, row 23 (Kd.int .i64).slice v55_2 (zaa.follow.set ((0 : Int)).toNat ([2, 1] : List Int)), row 4 Kd.bool v55_3 zaa.last, row 38 zax v57_0 zaa.spots, row 3 (Kd.int .i64) v57_1 zaa.first, row 23 (Kd.int .i64).slice v57_2 zaa.follow, row 4 Kd.bool v112 (zaa.last.take ((2 : Int)).toNat), row 38 zax v59_0 (zaa.spots.set ((0 : Int)).toNat (⟨(at_ zaa.spots (0 : Int)).set, 3⟩ : Spot)), row 3 (Kd.int .i64) v59_1 zaa.first, row 23 (Kd.int .i64).slice v59_2 zaa.follow, row 4 Kd.bool v59_3 zaa.last, row 38 zax v61_0 zaa.spots, row 3 (Kd.int .i64) v61_1 zaa.first, row 23 (Kd.int .i64).slice v61_2 zaa.follow, row 4 Kd.bool v61_3 zaa.last, row 38 zax v63_0 zaa.spots, row 3 (Kd.int .i64) v63_1 zaa.first, row 23 (Kd.int .i64).slice v63_2 zaa.follow, row 4 Kd.bool v63_3 zaa.last, box b65 27 [v55_0, v55_1, v55_2, v55_3, .bool zaa.empty], box b67 27 [v57_0, v57_1, v57_2, v112, .bool zaa.empty], box b69 27 [v59_0, v59_1, v59_2, v59_3, .bool zaa.empty], box b71 27 [v61_0, v121, v61_2, v61_3, .bool zaa.empty], box b73 27 [v63_0, v126, v63_2, v63_3, .bool zaa.empty], emp, row 3 (Kd.int .i64) v121 ([3] : List Int), row 3 (Kd.int .i64) v126 ([0, 0] : List Int)] := T139
 obtain ⟨A139, c139, e139, lc139, cm139, ld139⟩ := rp139
 injection e139 with e139 _; subst e139
 have cn139 := cm139; simp only [maxLen] at cn139
 obtain ⟨h141, le141, T141, rp141⟩ := S140.freeze (i := 11) rfl
 have lf141_1 := (((((lf131_1.trans le133).trans le135).trans le137).trans le139).trans le141)
 have lf141_6 := (((((lf131_6.trans le133).trans le135).trans le137).trans le139).trans le141)
 have lf141_7 := (((((lf131_7.trans le133).trans le135).trans le137).trans le139).trans le141)
 have lf141_12 := (((((le131.trans le133).trans le135).trans le137).trans le139).trans le141)
 have S142 : St w.heap.size w h141 w128 [emp, emp, emp, emp, box b3 27 [.slice A131 zaa.spots.length c131, .slice A133 zaa.first.length c133, .slice A135 zaa.follow.length c135, .slice A137 zaa.last.length c137, .bool zaa.empty], emp, emp, emp, emp, box b25 27 [.slice A17 ((zaj zaa).spots).length c17, .slice A19 ((zaj zaa).first).length c19, .slice A21 ((zaj zaa).follow).length c21, .slice A23 ((zaj zaa).last).length c23, .bool ((zaj zaa).empty)], emp, emp, row 23 (Kd.int .i64).slice v55_2 (zaa.follow.set ((0 : Int)).toNat ([2, 1] : List Int)), row 4 Kd.bool v55_3 zaa.last, row 38 zax v57_0 zaa.spots, row 3 (Kd.int .i64) v57_1 zaa.first, row 23 (Kd.int .i64).slice v57_2 zaa.follow, row 4 Kd.bool v112 (zaa.last.take ((2 : Int)).toNat), row 38 zax v59_0 (zaa.spots.set ((0 : Int)).toNat (⟨(at_ zaa.spots (0 : Int)).set, 3⟩ : Spot)), row 3 (Kd.int .i64) v59_1 zaa.first, row 23 (Kd.int .i64).slice v59_2 zaa.follow, row 4 Kd.bool v59_3 zaa.last, row 38 zax v61_0 zaa.spots, row 3 (Kd.int .i64) v61_1 zaa.first, row 23 (Kd.int .i64).slice v61_2 zaa.follow, row 4 Kd.bool v61_3 zaa.last, row 38 zax v63_0 zaa.spots, row 3 (Kd.int .i64) v63_1 zaa.first, row 23 (Kd.int .i64).slice v63_2 zaa.follow, row 4 Kd.bool v63_3 zaa.last, box b65 27 [.slice A139 zaa.spots.length c139, v55_1, v55_2, v55_3, .bool zaa.empty], box b67 27 [v57_0, v57_1, v57_2, v112, .bool zaa.empty], box b69 27 [v59_0, v59_1, v59_2, v59_3, .bool zaa.empty], box b71 27 [v61_0, v121, v61_2, v61_3, .bool zaa.empty], box b73 27 [v63_0, v126, v63_2, v63_3, .bool zaa.empty], emp, row 3 (Kd.int .i64) v121 ([3] : List Int), row 3 (Kd.int .i64) v126 ([0, 0] : List Int)] := T141
 obtain ⟨A141, c141, e141, lc141, cm141, ld141⟩ := rp141
 injection e141 with e141 _; subst e141
 have cn141 := cm141; simp only [maxLen] at cn141
 obtain ⟨h143, le143, T143, rp143⟩ := S142.freeze (i := 12) rfl
 have lf143_2 := (((((lf133_2.trans le135).trans le137).trans le139).trans le141).trans le143)
 have lf143_8 := (((((lf133_8.trans le135).trans le137).trans le139).trans le141).trans le143)
 have lf143_13 := (((((le133.trans le135).trans le137).trans le139).trans le141).trans le143)
 have S144 : St w.heap.size w h143 w128 [emp, emp, emp, emp, box b3 27 [.slice A131 zaa.spots.length c131, .slice A133 zaa.first.length c133, .slice A135 zaa.follow.length c135, .slice A137 zaa.last.length c137, .bool zaa.empty], emp, emp, emp, emp, box b25 27 [.slice A17 ((zaj zaa).spots).length c17, .slice A19 ((zaj zaa).first).length c19, .slice A21 ((zaj zaa).follow).length c21, .slice A23 ((zaj zaa).last).length c23, .bool ((zaj zaa).empty)], emp, emp, emp, row 4 Kd.bool v55_3 zaa.last, row 38 zax v57_0 zaa.spots, row 3 (Kd.int .i64) v57_1 zaa.first, row 23 (Kd.int .i64).slice v57_2 zaa.follow, row 4 Kd.bool v112 (zaa.last.take ((2 : Int)).toNat), row 38 zax v59_0 (zaa.spots.set ((0 : Int)).toNat (⟨(at_ zaa.spots (0 : Int)).set, 3⟩ : Spot)), row 3 (Kd.int .i64) v59_1 zaa.first, row 23 (Kd.int .i64).slice v59_2 zaa.follow, row 4 Kd.bool v59_3 zaa.last, row 38 zax v61_0 zaa.spots, row 3 (Kd.int .i64) v61_1 zaa.first, row 23 (Kd.int .i64).slice v61_2 zaa.follow, row 4 Kd.bool v61_3 zaa.last, row 38 zax v63_0 zaa.spots, row 3 (Kd.int .i64) v63_1 zaa.first, row 23 (Kd.int .i64).slice v63_2 zaa.follow, row 4 Kd.bool v63_3 zaa.last, box b65 27 [.slice A139 zaa.spots.length c139, .slice A141 zaa.first.length c141, v55_2, v55_3, .bool zaa.empty], box b67 27 [v57_0, v57_1, v57_2, v112, .bool zaa.empty], box b69 27 [v59_0, v59_1, v59_2, v59_3, .bool zaa.empty], box b71 27 [v61_0, v121, v61_2, v61_3, .bool zaa.empty], box b73 27 [v63_0, v126, v63_2, v63_3, .bool zaa.empty], emp, row 3 (Kd.int .i64) v121 ([3] : List Int), row 3 (Kd.int .i64) v126 ([0, 0] : List Int)] := T143
 obtain ⟨A143, c143, e143, lc143, cm143, ld143⟩ := rp143
 injection e143 with e143 _; subst e143
 have cn143 := cm143; simp only [maxLen] at cn143
 obtain ⟨h145, le145, T145, rp145⟩ := S144.freeze (i := 13) rfl
 have lf145_3 := (((((lf135_3.trans le137).trans le139).trans le141).trans le143).trans le145)
 have lf145_9 := (((((lf135_9.trans le137).trans le139).trans le141).trans le143).trans le145)
 have lf145_14 := (((((le135.trans le137).trans le139).trans le141).trans le143).trans le145)
 have S146 : St w.heap.size w h145 w128 [emp, emp, emp, emp, box b3 27 [.slice A131 zaa.spots.length c131, .slice A133 zaa.first.length c133, .slice A135 zaa.follow.length c135, .slice A137 zaa.last.length c137, .bool zaa.empty], emp, emp, emp, emp, box b25 27 [.slice A17 ((zaj zaa).spots).length c17, .slice A19 ((zaj zaa).first).length c19, .slice A21 ((zaj zaa).follow).length c21, .slice A23 ((zaj zaa).last).length c23, .bool ((zaj zaa).empty)], emp, emp, emp, emp, row 38 zax v57_0 zaa.spots, row 3 (Kd.int .i64) v57_1 zaa.first, row 23 (Kd.int .i64).slice v57_2 zaa.follow, row 4 Kd.bool v112 (zaa.last.take ((2 : Int)).toNat), row 38 zax v59_0 (zaa.spots.set ((0 : Int)).toNat (⟨(at_ zaa.spots (0 : Int)).set, 3⟩ : Spot)), row 3 (Kd.int .i64) v59_1 zaa.first, row 23 (Kd.int .i64).slice v59_2 zaa.follow, row 4 Kd.bool v59_3 zaa.last, row 38 zax v61_0 zaa.spots, row 3 (Kd.int .i64) v61_1 zaa.first, row 23 (Kd.int .i64).slice v61_2 zaa.follow, row 4 Kd.bool v61_3 zaa.last, row 38 zax v63_0 zaa.spots, row 3 (Kd.int .i64) v63_1 zaa.first, row 23 (Kd.int .i64).slice v63_2 zaa.follow, row 4 Kd.bool v63_3 zaa.last, box b65 27 [.slice A139 zaa.spots.length c139, .slice A141 zaa.first.length c141, .slice A143 (zaa.follow.set ((0 : Int)).toNat ([2, 1] : List Int)).length c143, v55_3, .bool zaa.empty], box b67 27 [v57_0, v57_1, v57_2, v112, .bool zaa.empty], box b69 27 [v59_0, v59_1, v59_2, v59_3, .bool zaa.empty], box b71 27 [v61_0, v121, v61_2, v61_3, .bool zaa.empty], box b73 27 [v63_0, v126, v63_2, v63_3, .bool zaa.empty], emp, row 3 (Kd.int .i64) v121 ([3] : List Int), row 3 (Kd.int .i64) v126 ([0, 0] : List Int)] := T145
 obtain ⟨A145, c145, e145, lc145, cm145, ld145⟩ := rp145
 injection e145 with e145 _; subst e145
 have cn145 := cm145; simp only [maxLen] at cn145
 obtain ⟨h147, le147, T147, rp147⟩ := S146.freeze (i := 14) rfl
 have lf147_4 := (((((lf137_4.trans le139).trans le141).trans le143).trans le145).trans le147)
 have lf147_10 := (((((lf137_10.trans le139).trans le141).trans le143).trans le145).trans le147)
 have lf147_15 := (((((le137.trans le139).trans le141).trans le143).trans le145).trans le147)
 have S148 : St w.heap.size w h147 w128 [emp, emp, emp, emp, box b3 27 [.slice A131 zaa.spots.length c131, .slice A133 zaa.first.length c133, .slice A135 zaa.follow.length c135, .slice A137 zaa.last.length c137, .bool zaa.empty], emp, emp, emp, emp, box b25 27 [.slice A17 ((zaj zaa).spots).length c17, .slice A19 ((zaj zaa).first).length c19, .slice A21 ((zaj zaa).follow).length c21, .slice A23 ((zaj zaa).last).length c23, .bool ((zaj zaa).empty)], emp, emp, emp, emp, emp, row 3 (Kd.int .i64) v57_1 zaa.first, row 23 (Kd.int .i64).slice v57_2 zaa.follow, row 4 Kd.bool v112 (zaa.last.take ((2 : Int)).toNat), row 38 zax v59_0 (zaa.spots.set ((0 : Int)).toNat (⟨(at_ zaa.spots (0 : Int)).set, 3⟩ : Spot)), row 3 (Kd.int .i64) v59_1 zaa.first, row 23 (Kd.int .i64).slice v59_2 zaa.follow, row 4 Kd.bool v59_3 zaa.last, row 38 zax v61_0 zaa.spots, row 3 (Kd.int .i64) v61_1 zaa.first, row 23 (Kd.int .i64).slice v61_2 zaa.follow, row 4 Kd.bool v61_3 zaa.last, row 38 zax v63_0 zaa.spots, row 3 (Kd.int .i64) v63_1 zaa.first, row 23 (Kd.int .i64).slice v63_2 zaa.follow, row 4 Kd.bool v63_3 zaa.last, box b65 27 [.slice A139 zaa.spots.length c139, .slice A141 zaa.first.length c141, .slice A143 (zaa.follow.set ((0 : Int)).toNat ([2, 1] : List Int)).length c143, .slice A145 zaa.last.length c145, .bool zaa.empty], box b67 27 [v57_0, v57_1, v57_2, v112, .bool zaa.empty], box b69 27 [v59_0, v59_1, v59_2, v59_3, .bool zaa.empty], box b71 27 [v61_0, v121, v61_2, v61_3, .bool zaa.empty], box b73 27 [v63_0, v126, v63_2, v63_3, .bool zaa.empty], emp, row 3 (Kd.int .i64) v121 ([3] : List Int), row 3 (Kd.int .i64) v126 ([0, 0] : List Int)] := T147
 obtain ⟨A147, c147, e147, lc147, cm147, ld147⟩ := rp147
 injection e147 with e147 _; subst e147
 have cn147 := cm147; simp only [maxLen] at cn147
 obtain ⟨h149, le149, T149, rp149⟩ := S148.freeze (i := 15) rfl
 have lf149_0 := (((((lf139_0.trans le141).trans le143).trans le145).trans le147).trans le149)
 have lf149_5 := (((((lf139_5.trans le141).trans le143).trans le145).trans le147).trans le149)
 have lf149_11 := (((((lf139_11.trans le141).trans le143).trans le145).trans le147).trans le149)
 have lf149_16 := (((((le139.trans le141).trans le143).trans le145).trans le147).trans le149)
 have S150 : St w.heap.size w h149 w128 [emp, emp, emp, emp, box b3 27 [.slice A131 zaa.spots.length c131, .slice A133 zaa.first.length c133, .slice A135 zaa.follow.length c135, .slice A137 zaa.last.length c137, .bool zaa.empty], emp, emp, emp, emp, box b25 27 [.slice A17 ((zaj zaa).spots).length c17, .slice A19 ((zaj zaa).first).length c19, .slice A21 ((zaj zaa).follow).length c21, .slice A23 ((zaj zaa).last).length c23, .bool ((zaj zaa).empty)], emp, emp, emp, emp, emp, emp, row 23 (Kd.int .i64).slice v57_2 zaa.follow, row 4 Kd.bool v112 (zaa.last.take ((2 : Int)).toNat), row 38 zax v59_0 (zaa.spots.set ((0 : Int)).toNat (⟨(at_ zaa.spots (0 : Int)).set, 3⟩ : Spot)), row 3 (Kd.int .i64) v59_1 zaa.first, row 23 (Kd.int .i64).slice v59_2 zaa.follow, row 4 Kd.bool v59_3 zaa.last, row 38 zax v61_0 zaa.spots, row 3 (Kd.int .i64) v61_1 zaa.first, row 23 (Kd.int .i64).slice v61_2 zaa.follow, row 4 Kd.bool v61_3 zaa.last, row 38 zax v63_0 zaa.spots, row 3 (Kd.int .i64) v63_1 zaa.first, row 23 (Kd.int .i64).slice v63_2 zaa.follow, row 4 Kd.bool v63_3 zaa.last, box b65 27 [.slice A139 zaa.spots.length c139, .slice A141 zaa.first.length c141, .slice A143 (zaa.follow.set ((0 : Int)).toNat ([2, 1] : List Int)).length c143, .slice A145 zaa.last.length c145, .bool zaa.empty], box b67 27 [.slice A147 zaa.spots.length c147, v57_1, v57_2, v112, .bool zaa.empty], box b69 27 [v59_0, v59_1, v59_2, v59_3, .bool zaa.empty], box b71 27 [v61_0, v121, v61_2, v61_3, .bool zaa.empty], box b73 27 [v63_0, v126, v63_2, v63_3, .bool zaa.empty], emp, row 3 (Kd.int .i64) v121 ([3] : List Int), row 3 (Kd.int .i64) v126 ([0, 0] : List Int)] := T149
 obtain ⟨A149, c149, e149, lc149, cm149, ld149⟩ := rp149
 injection e149 with e149 _; subst e149
 have cn149 := cm149; simp only [maxLen] at cn149
 obtain ⟨h151, le151, T151, rp151⟩ := S150.freeze (i := 16) rfl
 have lf151_1 := (((((lf141_1.trans le143).trans le145).trans le147).trans le149).trans le151)
 have lf151_6 := (((((lf141_6.trans le143).trans le145).trans le147).trans le149).trans le151)
 have lf151_7 := (((((lf141_7.trans le143).trans le145).trans le147).trans le149).trans le151)
 have lf151_12 := (((((lf141_12.trans le143).trans le145).trans le147).trans le149).trans le151)
 have lf151_17 := (((((le141.trans le143).trans le145).trans le147).trans le149).trans le151)
 have S152 : St w.heap.size w h151 w128 [emp, emp, emp, emp, box b3 27 [.slice A131 zaa.spots.length c131, .slice A133 zaa.first.length c133, .slice A135 zaa.follow.length c135, .slice A137 zaa.last.length c137, .bool zaa.empty], emp, emp, emp, emp, box b25 27 [.slice A17 ((zaj zaa).spots).length c17, .slice A19 ((zaj zaa).first).length c19, .slice A21 ((zaj zaa).follow).length c21, .slice A23 ((zaj zaa).last).length c23, .bool ((zaj zaa).empty)], emp, emp, emp, emp, emp, emp, emp, row 4 Kd.bool v112 (zaa.last.take ((2 : Int)).toNat), row 38 zax v59_0 (zaa.spots.set ((0 : Int)).toNat (⟨(at_ zaa.spots (0 : Int)).set, 3⟩ : Spot)), row 3 (Kd.int .i64) v59_1 zaa.first, row 23 (Kd.int .i64).slice v59_2 zaa.follow, row 4 Kd.bool v59_3 zaa.last, row 38 zax v61_0 zaa.spots, row 3 (Kd.int .i64) v61_1 zaa.first, row 23 (Kd.int .i64).slice v61_2 zaa.follow, row 4 Kd.bool v61_3 zaa.last, row 38 zax v63_0 zaa.spots, row 3 (Kd.int .i64) v63_1 zaa.first, row 23 (Kd.int .i64).slice v63_2 zaa.follow, row 4 Kd.bool v63_3 zaa.last, box b65 27 [.slice A139 zaa.spots.length c139, .slice A141 zaa.first.length c141, .slice A143 (zaa.follow.set ((0 : Int)).toNat ([2, 1] : List Int)).length c143, .slice A145 zaa.last.length c145, .bool zaa.empty], box b67 27 [.slice A147 zaa.spots.length c147, .slice A149 zaa.first.length c149, v57_2, v112, .bool zaa.empty], box b69 27 [v59_0, v59_1, v59_2, v59_3, .bool zaa.empty], box b71 27 [v61_0, v121, v61_2, v61_3, .bool zaa.empty], box b73 27 [v63_0, v126, v63_2, v63_3, .bool zaa.empty], emp, row 3 (Kd.int .i64) v121 ([3] : List Int), row 3 (Kd.int .i64) v126 ([0, 0] : List Int)] := T151
 obtain ⟨A151, c151, e151, lc151, cm151, ld151⟩ := rp151
 injection e151 with e151 _; subst e151
 have cn151 := cm151; simp only [maxLen] at cn151
 obtain ⟨h153, le153, T153, rp153⟩ := S152.freeze (i := 17) rfl
 have lf153_2 := (((((lf143_2.trans le145).trans le147).trans le149).trans le151).trans le153)
 have lf153_8 := (((((lf143_8.trans le145).trans le147).trans le149).trans le151).trans le153)
 have lf153_13 := (((((lf143_13.trans le145).trans le147).trans le149).trans le151).trans le153)
 have lf153_18 := (((((le143.trans le145).trans le147).trans le149).trans le151).trans le153)
 have S154 : St w.heap.size w h153 w128 [emp, emp, emp, emp, box b3 27 [.slice A131 zaa.spots.length c131, .slice A133 zaa.first.length c133, .slice A135 zaa.follow.length c135, .slice A137 zaa.last.length c137, .bool zaa.empty], emp, emp, emp, emp, box b25 27 [.slice A17 ((zaj zaa).spots).length c17, .slice A19 ((zaj zaa).first).length c19, .slice A21 ((zaj zaa).follow).length c21, .slice A23 ((zaj zaa).last).length c23, .bool ((zaj zaa).empty)], emp, emp, emp, emp, emp, emp, emp, emp, row 38 zax v59_0 (zaa.spots.set ((0 : Int)).toNat (⟨(at_ zaa.spots (0 : Int)).set, 3⟩ : Spot)), row 3 (Kd.int .i64) v59_1 zaa.first, row 23 (Kd.int .i64).slice v59_2 zaa.follow, row 4 Kd.bool v59_3 zaa.last, row 38 zax v61_0 zaa.spots, row 3 (Kd.int .i64) v61_1 zaa.first, row 23 (Kd.int .i64).slice v61_2 zaa.follow, row 4 Kd.bool v61_3 zaa.last, row 38 zax v63_0 zaa.spots, row 3 (Kd.int .i64) v63_1 zaa.first, row 23 (Kd.int .i64).slice v63_2 zaa.follow, row 4 Kd.bool v63_3 zaa.last, box b65 27 [.slice A139 zaa.spots.length c139, .slice A141 zaa.first.length c141, .slice A143 (zaa.follow.set ((0 : Int)).toNat ([2, 1] : List Int)).length c143, .slice A145 zaa.last.length c145, .bool zaa.empty], box b67 27 [.slice A147 zaa.spots.length c147, .slice A149 zaa.first.length c149, .slice A151 zaa.follow.length c151, v112, .bool zaa.empty], box b69 27 [v59_0, v59_1, v59_2, v59_3, .bool zaa.empty], box b71 27 [v61_0, v121, v61_2, v61_3, .bool zaa.empty], box b73 27 [v63_0, v126, v63_2, v63_3, .bool zaa.empty], emp, row 3 (Kd.int .i64) v121 ([3] : List Int), row 3 (Kd.int .i64) v126 ([0, 0] : List Int)] := T153
 obtain ⟨A153, c153, e153, lc153, cm153, ld153⟩ := rp153
 injection e153 with e153 _; subst e153
 have cn153 := cm153; simp only [maxLen] at cn153
 obtain ⟨h155, le155, T155, rp155⟩ := S154.freeze (i := 18) rfl
 have lf155_3 := (((((lf145_3.trans le147).trans le149).trans le151).trans le153).trans le155)
 have lf155_9 := (((((lf145_9.trans le147).trans le149).trans le151).trans le153).trans le155)
 have lf155_14 := (((((lf145_14.trans le147).trans le149).trans le151).trans le153).trans le155)
 have lf155_19 := (((((le145.trans le147).trans le149).trans le151).trans le153).trans le155)
 have S156 : St w.heap.size w h155 w128 [emp, emp, emp, emp, box b3 27 [.slice A131 zaa.spots.length c131, .slice A133 zaa.first.length c133, .slice A135 zaa.follow.length c135, .slice A137 zaa.last.length c137, .bool zaa.empty], emp, emp, emp, emp, box b25 27 [.slice A17 ((zaj zaa).spots).length c17, .slice A19 ((zaj zaa).first).length c19, .slice A21 ((zaj zaa).follow).length c21, .slice A23 ((zaj zaa).last).length c23, .bool ((zaj zaa).empty)], emp, emp, emp, emp, emp, emp, emp, emp, emp, row 3 (Kd.int .i64) v59_1 zaa.first, row 23 (Kd.int .i64).slice v59_2 zaa.follow, row 4 Kd.bool v59_3 zaa.last, row 38 zax v61_0 zaa.spots, row 3 (Kd.int .i64) v61_1 zaa.first, row 23 (Kd.int .i64).slice v61_2 zaa.follow, row 4 Kd.bool v61_3 zaa.last, row 38 zax v63_0 zaa.spots, row 3 (Kd.int .i64) v63_1 zaa.first, row 23 (Kd.int .i64).slice v63_2 zaa.follow, row 4 Kd.bool v63_3 zaa.last, box b65 27 [.slice A139 zaa.spots.length c139, .slice A141 zaa.first.length c141, .slice A143 (zaa.follow.set ((0 : Int)).toNat ([2, 1] : List Int)).length c143, .slice A145 zaa.last.length c145, .bool zaa.empty], box b67 27 [.slice A147 zaa.spots.length c147, .slice A149 zaa.first.length c149, .slice A151 zaa.follow.length c151, .slice A153 (zaa.last.take ((2 : Int)).toNat).length c153, .bool zaa.empty], box b69 27 [v59_0, v59_1, v59_2, v59_3, .bool zaa.empty], box b71 27 [v61_0, v121, v61_2, v61_3, .bool zaa.empty], box b73 27 [v63_0, v126, v63_2, v63_3, .bool zaa.empty], emp, row 3 (Kd.int .i64) v121 ([3] : List Int), row 3 (Kd.int .i64) v126 ([0, 0] : List Int)] := T155
 obtain ⟨A155, c155, e155, lc155, cm155, ld155⟩ := rp155
 injection e155 with e155 _; subst e155
 have cn155 := cm155; simp only [maxLen] at cn155
 obtain ⟨h157, le157, T157, rp157⟩ := S156.freeze (i := 19) rfl
 have lf157_4 := (((((lf147_4.trans le149).trans le151).trans le153).trans le155).trans le157)
 have lf157_10 := (((((lf147_10.trans le149).trans le151).trans le153).trans le155).trans le157)
 have lf157_15 := (((((lf147_15.trans le149).trans le151).trans le153).trans le155).trans le157)
 have lf157_20 := (((((le147.trans le149).trans le151).trans le153).trans le155).trans le157)
 have S158 : St w.heap.size w h157 w128 [emp, emp, emp, emp, box b3 27 [.slice A131 zaa.spots.length c131, .slice A133 zaa.first.length c133, .slice A135 zaa.follow.length c135, .slice A137 zaa.last.length c137, .bool zaa.empty], emp, emp, emp, emp, box b25 27 [.slice A17 ((zaj zaa).spots).length c17, .slice A19 ((zaj zaa).first).length c19, .slice A21 ((zaj zaa).follow).length c21, .slice A23 ((zaj zaa).last).length c23, .bool ((zaj zaa).empty)], emp, emp, emp, emp, emp, emp, emp, emp, emp, emp, row 23 (Kd.int .i64).slice v59_2 zaa.follow, row 4 Kd.bool v59_3 zaa.last, row 38 zax v61_0 zaa.spots, row 3 (Kd.int .i64) v61_1 zaa.first, row 23 (Kd.int .i64).slice v61_2 zaa.follow, row 4 Kd.bool v61_3 zaa.last, row 38 zax v63_0 zaa.spots, row 3 (Kd.int .i64) v63_1 zaa.first, row 23 (Kd.int .i64).slice v63_2 zaa.follow, row 4 Kd.bool v63_3 zaa.last, box b65 27 [.slice A139 zaa.spots.length c139, .slice A141 zaa.first.length c141, .slice A143 (zaa.follow.set ((0 : Int)).toNat ([2, 1] : List Int)).length c143, .slice A145 zaa.last.length c145, .bool zaa.empty], box b67 27 [.slice A147 zaa.spots.length c147, .slice A149 zaa.first.length c149, .slice A151 zaa.follow.length c151, .slice A153 (zaa.last.take ((2 : Int)).toNat).length c153, .bool zaa.empty], box b69 27 [.slice A155 (zaa.spots.set ((0 : Int)).toNat (⟨(at_ zaa.spots (0 : Int)).set, 3⟩ : Spot)).length c155, v59_1, v59_2, v59_3, .bool zaa.empty], box b71 27 [v61_0, v121, v61_2, v61_3, .bool zaa.empty], box b73 27 [v63_0, v126, v63_2, v63_3, .bool zaa.empty], emp, row 3 (Kd.int .i64) v121 ([3] : List Int), row 3 (Kd.int .i64) v126 ([0, 0] : List Int)] := T157
 obtain ⟨A157, c157, e157, lc157, cm157, ld157⟩ := rp157
 injection e157 with e157 _; subst e157
 have cn157 := cm157; simp only [maxLen] at cn157
 obtain ⟨h159, le159, T159, rp159⟩ := S158.freeze (i := 20) rfl
 have lf159_0 := (((((lf149_0.trans le151).trans le153).trans le155).trans le157).trans le159)
 have lf159_5 := (((((lf149_5.trans le151).trans le153).trans le155).trans le157).trans le159)
 have lf159_11 := (((((lf149_11.trans le151).trans le153).trans le155).trans le157).trans le159)
 have lf159_16 := (((((lf149_16.trans le151).trans le153).trans le155).trans le157).trans le159)
 have lf159_21 := (((((le149.trans le151).trans le153).trans le155).trans le157).trans le159)
 have S160 : St w.heap.size w h159 w128 [emp, emp, emp, emp, box b3 27 [.slice A131 zaa.spots.length c131, .slice A133 zaa.first.length c133, .slice A135 zaa.follow.length c135, .slice A137 zaa.last.length c137, .bool zaa.empty], emp, emp, emp, emp, box b25 27 [.slice A17 ((zaj zaa).spots).length c17, .slice A19 ((zaj zaa).first).length c19, .slice A21 ((zaj zaa).follow).length c21, .slice A23 ((zaj zaa).last).length c23, .bool ((zaj zaa).empty)], emp, emp, emp, emp, emp, emp, emp, emp, emp, emp, emp, row 4 Kd.bool v59_3 zaa.last, row 38 zax v61_0 zaa.spots, row 3 (Kd.int .i64) v61_1 zaa.first, row 23 (Kd.int .i64).slice v61_2 zaa.follow, row 4 Kd.bool v61_3 zaa.last, row 38 zax v63_0 zaa.spots, row 3 (Kd.int .i64) v63_1 zaa.first, row 23 (Kd.int .i64).slice v63_2 zaa.follow, row 4 Kd.bool v63_3 zaa.last, box b65 27 [.slice A139 zaa.spots.length c139, .slice A141 zaa.first.length c141, .slice A143 (zaa.follow.set ((0 : Int)).toNat ([2, 1] : List Int)).length c143, .slice A145 zaa.last.length c145, .bool zaa.empty], box b67 27 [.slice A147 zaa.spots.length c147, .slice A149 zaa.first.length c149, .slice A151 zaa.follow.length c151, .slice A153 (zaa.last.take ((2 : Int)).toNat).length c153, .bool zaa.empty], box b69 27 [.slice A155 (zaa.spots.set ((0 : Int)).toNat (⟨(at_ zaa.spots (0 : Int)).set, 3⟩ : Spot)).length c155, .slice A157 zaa.first.length c157, v59_2, v59_3, .bool zaa.empty], box b71 27 [v61_0, v121, v61_2, v61_3, .bool zaa.empty], box b73 27 [v63_0, v126, v63_2, v63_3, .bool zaa.empty], emp, row 3 (Kd.int .i64) v121 ([3] : List Int), row 3 (Kd.int .i64) v126 ([0, 0] : List Int)] := T159
 obtain ⟨A159, c159, e159, lc159, cm159, ld159⟩ := rp159
 injection e159 with e159 _; subst e159
 have cn159 := cm159; simp only [maxLen] at cn159
 obtain ⟨h161, le161, T161, rp161⟩ := S160.freeze (i := 21) rfl
 have lf161_1 := (((((lf151_1.trans le153).trans le155).trans le157).trans le159).trans le161)
 have lf161_6 := (((((lf151_6.trans le153).trans le155).trans le157).trans le159).trans le161)
 have lf161_7 := (((((lf151_7.trans le153).trans le155).trans le157).trans le159).trans le161)
 have lf161_12 := (((((lf151_12.trans le153).trans le155).trans le157).trans le159).trans le161)
 have lf161_17 := (((((lf151_17.trans le153).trans le155).trans le157).trans le159).trans le161)
 have lf161_22 := (((((le151.trans le153).trans le155).trans le157).trans le159).trans le161)
 have S162 : St w.heap.size w h161 w128 [emp, emp, emp, emp, box b3 27 [.slice A131 zaa.spots.length c131, .slice A133 zaa.first.length c133, .slice A135 zaa.follow.length c135, .slice A137 zaa.last.length c137, .bool zaa.empty], emp, emp, emp, emp, box b25 27 [.slice A17 ((zaj zaa).spots).length c17, .slice A19 ((zaj zaa).first).length c19, .slice A21 ((zaj zaa).follow).length c21, .slice A23 ((zaj zaa).last).length c23, .bool ((zaj zaa).empty)], emp, emp, emp, emp, emp, emp, emp, emp, emp, emp, emp, emp, row 38 zax v61_0 zaa.spots, row 3 (Kd.int .i64) v61_1 zaa.first, row 23 (Kd.int .i64).slice v61_2 zaa.follow, row 4 Kd.bool v61_3 zaa.last, row 38 zax v63_0 zaa.spots, row 3 (Kd.int .i64) v63_1 zaa.first, row 23 (Kd.int .i64).slice v63_2 zaa.follow, row 4 Kd.bool v63_3 zaa.last, box b65 27 [.slice A139 zaa.spots.length c139, .slice A141 zaa.first.length c141, .slice A143 (zaa.follow.set ((0 : Int)).toNat ([2, 1] : List Int)).length c143, .slice A145 zaa.last.length c145, .bool zaa.empty], box b67 27 [.slice A147 zaa.spots.length c147, .slice A149 zaa.first.length c149, .slice A151 zaa.follow.length c151, .slice A153 (zaa.last.take ((2 : Int)).toNat).length c153, .bool zaa.empty], box b69 27 [.slice A155 (zaa.spots.set ((0 : Int)).toNat (⟨(at_ zaa.spots (0 : Int)).set, 3⟩ : Spot)).length c155, .slice A157 zaa.first.length c157, .slice A159 zaa.follow.length c159, v59_3, .bool zaa.empty], box b71 27 [v61_0, v121, v61_2, v61_3, .bool zaa.empty], box b73 27 [v63_0, v126, v63_2, v63_3, .bool zaa.empty], emp, row 3 (Kd.int .i64) v121 ([3] : List Int), row 3 (Kd.int .i64) v126 ([0, 0] : List Int)] := T161
 obtain ⟨A161, c161, e161, lc161, cm161, ld161⟩ := rp161
 injection e161 with e161 _; subst e161
 have cn161 := cm161; simp only [maxLen] at cn161
 obtain ⟨h163, le163, T163, rp163⟩ := S162.freeze (i := 22) rfl
 have lf163_2 := (((((lf153_2.trans le155).trans le157).trans le159).trans le161).trans le163)
 have lf163_8 := (((((lf153_8.trans le155).trans le157).trans le159).trans le161).trans le163)
 have lf163_13 := (((((lf153_13.trans le155).trans le157).trans le159).trans le161).trans le163)
 have lf163_18 := (((((lf153_18.trans le155).trans le157).trans le159).trans le161).trans le163)
 have lf163_23 := (((((le153.trans le155).trans le157).trans le159).trans le161).trans le163)
 have S164 : St w.heap.size w h163 w128 [emp, emp, emp, emp, box b3 27 [.slice A131 zaa.spots.length c131, .slice A133 zaa.first.length c133, .slice A135 zaa.follow.length c135, .slice A137 zaa.last.length c137, .bool zaa.empty], emp, emp, emp, emp, box b25 27 [.slice A17 ((zaj zaa).spots).length c17, .slice A19 ((zaj zaa).first).length c19, .slice A21 ((zaj zaa).follow).length c21, .slice A23 ((zaj zaa).last).length c23, .bool ((zaj zaa).empty)], emp, emp, emp, emp, emp, emp, emp, emp, emp, emp, emp, emp, emp, row 3 (Kd.int .i64) v61_1 zaa.first, row 23 (Kd.int .i64).slice v61_2 zaa.follow, row 4 Kd.bool v61_3 zaa.last, row 38 zax v63_0 zaa.spots, row 3 (Kd.int .i64) v63_1 zaa.first, row 23 (Kd.int .i64).slice v63_2 zaa.follow, row 4 Kd.bool v63_3 zaa.last, box b65 27 [.slice A139 zaa.spots.length c139, .slice A141 zaa.first.length c141, .slice A143 (zaa.follow.set ((0 : Int)).toNat ([2, 1] : List Int)).length c143, .slice A145 zaa.last.length c145, .bool zaa.empty], box b67 27 [.slice A147 zaa.spots.length c147, .slice A149 zaa.first.length c149, .slice A151 zaa.follow.length c151, .slice A153 (zaa.last.take ((2 : Int)).toNat).length c153, .bool zaa.empty], box b69 27 [.slice A155 (zaa.spots.set ((0 : Int)).toNat (⟨(at_ zaa.spots (0 : Int)).set, 3⟩ : Spot)).length c155, .slice A157 zaa.first.length c157, .slice A159 zaa.follow.length c159, .slice A161 zaa.last.length c161, .bool zaa.empty], box b71 27 [v61_0, v121, v61_2, v61_3, .bool zaa.empty], box b73 27 [v63_0, v126, v63_2, v63_3, .bool zaa.empty], emp, row 3 (Kd.int .i64) v121 ([3] : List Int), row 3 (Kd.int .i64) v126 ([0, 0] : List Int)] := T163
 obtain ⟨A163, c163, e163, lc163, cm163, ld163⟩ := rp163
 injection e163 with e163 _; subst e163
 have cn163 := cm163; simp only [maxLen] at cn163
 obtain ⟨h165, le165, T165, rp165⟩ := S164.freeze (i := 36) rfl
 have lf165_3 := (((((lf155_3.trans le157).trans le159).trans le161).trans le163).trans le165)
 have lf165_9 := (((((lf155_9.trans le157).trans le159).trans le161).trans le163).trans le165)
 have lf165_14 := (((((lf155_14.trans le157).trans le159).trans le161).trans le163).trans le165)
 have lf165_19 := (((((lf155_19.trans le157).trans le159).trans le161).trans le163).trans le165)
 have lf165_24 := (((((le155.trans le157).trans le159).trans le161).trans le163).trans le165)
 have S166 : St w.heap.size w h165 w128 [emp, emp, emp, emp, box b3 27 [.slice A131 zaa.spots.length c131, .slice A133 zaa.first.length c133, .slice A135 zaa.follow.length c135, .slice A137 zaa.last.length c137, .bool zaa.empty], emp, emp, emp, emp, box b25 27 [.slice A17 ((zaj zaa).spots).length c17, .slice A19 ((zaj zaa).first).length c19, .slice A21 ((zaj zaa).follow).length c21, .slice A23 ((zaj zaa).last).length c23, .bool ((zaj zaa).empty)], emp, emp, emp, emp, emp, emp, emp, emp, emp, emp, emp, emp, emp, row 3 (Kd.int .i64) v61_1 zaa.first, row 23 (Kd.int .i64).slice v61_2 zaa.follow, row 4 Kd.bool v61_3 zaa.last, row 38 zax v63_0 zaa.spots, row 3 (Kd.int .i64) v63_1 zaa.first, row 23 (Kd.int .i64).slice v63_2 zaa.follow, row 4 Kd.bool v63_3 zaa.last, box b65 27 [.slice A139 zaa.spots.length c139, .slice A141 zaa.first.length c141, .slice A143 (zaa.follow.set ((0 : Int)).toNat ([2, 1] : List Int)).length c143, .slice A145 zaa.last.length c145, .bool zaa.empty], box b67 27 [.slice A147 zaa.spots.length c147, .slice A149 zaa.first.length c149, .slice A151 zaa.follow.length c151, .slice A153 (zaa.last.take ((2 : Int)).toNat).length c153, .bool zaa.empty], box b69 27 [.slice A155 (zaa.spots.set ((0 : Int)).toNat (⟨(at_ zaa.spots (0 : Int)).set, 3⟩ : Spot)).length c155, .slice A157 zaa.first.length c157, .slice A159 zaa.follow.length c159, .slice A161 zaa.last.length c161, .bool zaa.empty], box b71 27 [.slice A163 zaa.spots.length c163, v121, v61_2, v61_3, .bool zaa.empty], box b73 27 [v63_0, v126, v63_2, v63_3, .bool zaa.empty], emp, emp, row 3 (Kd.int .i64) v126 ([0, 0] : List Int)] := T165
 obtain ⟨A165, c165, e165, lc165, cm165, ld165⟩ := rp165
 injection e165 with e165 _; subst e165
 have cn165 := cm165; simp only [maxLen] at cn165
 obtain ⟨h167, le167, T167, rp167⟩ := S166.freeze (i := 24) rfl
 have lf167_4 := (((((lf157_4.trans le159).trans le161).trans le163).trans le165).trans le167)
 have lf167_10 := (((((lf157_10.trans le159).trans le161).trans le163).trans le165).trans le167)
 have lf167_15 := (((((lf157_15.trans le159).trans le161).trans le163).trans le165).trans le167)
 have lf167_20 := (((((lf157_20.trans le159).trans le161).trans le163).trans le165).trans le167)
 have lf167_25 := (((((le157.trans le159).trans le161).trans le163).trans le165).trans le167)
 have S168 : St w.heap.size w h167 w128 [emp, emp, emp, emp, box b3 27 [.slice A131 zaa.spots.length c131, .slice A133 zaa.first.length c133, .slice A135 zaa.follow.length c135, .slice A137 zaa.last.length c137, .bool zaa.empty], emp, emp, emp, emp, box b25 27 [.slice A17 ((zaj zaa).spots).length c17, .slice A19 ((zaj zaa).first).length c19, .slice A21 ((zaj zaa).follow).length c21, .slice A23 ((zaj zaa).last).length c23, .bool ((zaj zaa).empty)], emp, emp, emp, emp, emp, emp, emp, emp, emp, emp, emp, emp, emp, row 3 (Kd.int .i64) v61_1 zaa.first, emp, row 4 Kd.bool v61_3 zaa.last, row 38 zax v63_0 zaa.spots, row 3 (Kd.int .i64) v63_1 zaa.first, row 23 (Kd.int .i64).slice v63_2 zaa.follow, row 4 Kd.bool v63_3 zaa.last, box b65 27 [.slice A139 zaa.spots.length c139, .slice A141 zaa.first.length c141, .slice A143 (zaa.follow.set ((0 : Int)).toNat ([2, 1] : List Int)).length c143, .slice A145 zaa.last.length c145, .bool zaa.empty], box b67 27 [.slice A147 zaa.spots.length c147, .slice A149 zaa.first.length c149, .slice A151 zaa.follow.length c151, .slice A153 (zaa.last.take ((2 : Int)).toNat).length c153, .bool zaa.empty], box b69 27 [.slice A155 (zaa.spots.set ((0 : Int)).toNat (⟨(at_ zaa.spots (0 : Int)).set, 3⟩ : Spot)).length c155, .slice A157 zaa.first.length c157, .slice A159 zaa.follow.length c159, .slice A161 zaa.last.length c161, .bool zaa.empty], box b71 27 [.slice A163 zaa.spots.length c163, .slice A165 ([3] : List Int).length c165, v61_2, v61_3, .bool zaa.empty], box b73 27 [v63_0, v126, v63_2, v63_3, .bool zaa.empty], emp, emp, row 3 (Kd.int .i64) v126 ([0, 0] : List Int)] := T167
 obtain ⟨A167, c167, e167, lc167, cm167, ld167⟩ := rp167
 injection e167 with e167 _; subst e167
 have cn167 := cm167; simp only [maxLen] at cn167
 obtain ⟨h169, le169, T169, rp169⟩ := S168.freeze (i := 25) rfl
 have lf169_0 := (((((lf159_0.trans le161).trans le163).trans le165).trans le167).trans le169)
 have lf169_5 := (((((lf159_5.trans le161).trans le163).trans le165).trans le167).trans le169)
 have lf169_11 := (((((lf159_11.trans le161).trans le163).trans le165).trans le167).trans le169)
 have lf169_16 := (((((lf159_16.trans le161).trans le163).trans le165).trans le167).trans le169)
 have lf169_21 := (((((lf159_21.trans le161).trans le163).trans le165).trans le167).trans le169)
 have lf169_26 := (((((le159.trans le161).trans le163).trans le165).trans le167).trans le169)
 have S170 : St w.heap.size w h169 w128 [emp, emp, emp, emp, box b3 27 [.slice A131 zaa.spots.length c131, .slice A133 zaa.first.length c133, .slice A135 zaa.follow.length c135, .slice A137 zaa.last.length c137, .bool zaa.empty], emp, emp, emp, emp, box b25 27 [.slice A17 ((zaj zaa).spots).length c17, .slice A19 ((zaj zaa).first).length c19, .slice A21 ((zaj zaa).follow).length c21, .slice A23 ((zaj zaa).last).length c23, .bool ((zaj zaa).empty)], emp, emp, emp, emp, emp, emp, emp, emp, emp, emp, emp, emp, emp, row 3 (Kd.int .i64) v61_1 zaa.first, emp, emp, row 38 zax v63_0 zaa.spots, row 3 (Kd.int .i64) v63_1 zaa.first, row 23 (Kd.int .i64).slice v63_2 zaa.follow, row 4 Kd.bool v63_3 zaa.last, box b65 27 [.slice A139 zaa.spots.length c139, .slice A141 zaa.first.length c141, .slice A143 (zaa.follow.set ((0 : Int)).toNat ([2, 1] : List Int)).length c143, .slice A145 zaa.last.length c145, .bool zaa.empty], box b67 27 [.slice A147 zaa.spots.length c147, .slice A149 zaa.first.length c149, .slice A151 zaa.follow.length c151, .slice A153 (zaa.last.take ((2 : Int)).toNat).length c153, .bool zaa.empty], box b69 27 [.slice A155 (zaa.spots.set ((0 : Int)).toNat (⟨(at_ zaa.spots (0 : Int)).set, 3⟩ : Spot)).length c155, .slice A157 zaa.first.length c157, .slice A159 zaa.follow.length c159, .slice A161 zaa.last.length c161, .bool zaa.empty], box b71 27 [.slice A163 zaa.spots.length c163, .slice A165 ([3] : List Int).length c165, .slice A167 zaa.follow.length c167, v61_3, .bool zaa.empty], box b73 27 [v63_0, v126, v63_2, v63_3, .bool zaa.empty], emp, emp, row 3 (Kd.int .i64) v126 ([0, 0] : List Int)] := T169
 obtain ⟨A169, c169, e169, lc169, cm169, ld169⟩ := rp169
 injection e169 with e169 _; subst e169
 have cn169 := cm169; simp only [maxLen] at cn169
 obtain ⟨h171, le171, T171, rp171⟩ := S170.freeze (i := 26) rfl
 have lf171_1 := (((((lf161_1.trans le163).trans le165).trans le167).trans le169).trans le171)
 have lf171_6 := (((((lf161_6.trans le163).trans le165).trans le167).trans le169).trans le171)
 have lf171_7 := (((((lf161_7.trans le163).trans le165).trans le167).trans le169).trans le171)
 have lf171_12 := (((((lf161_12.trans le163).trans le165).trans le167).trans le169).trans le171)
 have lf171_17 := (((((lf161_17.trans le163).trans le165).trans le167).trans le169).trans le171)
 have lf171_22 := (((((lf161_22.trans le163).trans le165).trans le167).trans le169).trans le171)
 have lf171_27 := (((((le161.trans le163).trans le165).trans le167).trans le169).trans le171)
 have S172 : St w.heap.size w h171 w128 [emp, emp, emp, emp, box b3 27 [.slice A131 zaa.spots.length c131, .slice A133 zaa.first.length c133, .slice A135 zaa.follow.length c135, .slice A137 zaa.last.length c137, .bool zaa.empty], emp, emp, emp, emp, box b25 27 [.slice A17 ((zaj zaa).spots).length c17, .slice A19 ((zaj zaa).first).length c19, .slice A21 ((zaj zaa).follow).length c21, .slice A23 ((zaj zaa).last).length c23, .bool ((zaj zaa).empty)], emp, emp, emp, emp, emp, emp, emp, emp, emp, emp, emp, emp, emp, row 3 (Kd.int .i64) v61_1 zaa.first, emp, emp, emp, row 3 (Kd.int .i64) v63_1 zaa.first, row 23 (Kd.int .i64).slice v63_2 zaa.follow, row 4 Kd.bool v63_3 zaa.last, box b65 27 [.slice A139 zaa.spots.length c139, .slice A141 zaa.first.length c141, .slice A143 (zaa.follow.set ((0 : Int)).toNat ([2, 1] : List Int)).length c143, .slice A145 zaa.last.length c145, .bool zaa.empty], box b67 27 [.slice A147 zaa.spots.length c147, .slice A149 zaa.first.length c149, .slice A151 zaa.follow.length c151, .slice A153 (zaa.last.take ((2 : Int)).toNat).length c153, .bool zaa.empty], box b69 27 [.slice A155 (zaa.spots.set ((0 : Int)).toNat (⟨(at_ zaa.spots (0 : Int)).set, 3⟩ : Spot)).length c155, .slice A157 zaa.first.length c157, .slice A159 zaa.follow.length c159, .slice A161 zaa.last.length c161, .bool zaa.empty], box b71 27 [.slice A163 zaa.spots.length c163, .slice A165 ([3] : List Int).length c165, .slice A167 zaa.follow.length c167, .slice A169 zaa.last.length c169, .bool zaa.empty], box b73 27 [v63_0, v126, v63_2, v63_3, .bool zaa.empty], emp, emp, row 3 (Kd.int .i64) v126 ([0, 0] : List Int)] := T171
 obtain ⟨A171, c171, e171, lc171, cm171, ld171⟩ := rp171
 injection e171 with e171 _; subst e171
 have cn171 := cm171; simp only [maxLen] at cn171
 obtain ⟨h173, le173, T173, rp173⟩ := S172.freeze (i := 37) rfl
 have lf173_2 := (((((lf163_2.trans le165).trans le167).trans le169).trans le171).trans le173)
 have lf173_8 := (((((lf163_8.trans le165).trans le167).trans le169).trans le171).trans le173)
 have lf173_13 := (((((lf163_13.trans le165).trans le167).trans le169).trans le171).trans le173)
 have lf173_18 := (((((lf163_18.trans le165).trans le167).trans le169).trans le171).trans le173)
 have lf173_23 := (((((lf163_23.trans le165).trans le167).trans le169).trans le171).trans le173)
 have lf173_28 := (((((le163.trans le165).trans le167).trans le169).trans le171).trans le173)
 have S174 : St w.heap.size w h173 w128 [emp, emp, emp, emp, box b3 27 [.slice A131 zaa.spots.length c131, .slice A133 zaa.first.length c133, .slice A135 zaa.follow.length c135, .slice A137 zaa.last.length c137, .bool zaa.empty], emp, emp, emp, emp, box b25 27 [.slice A17 ((zaj zaa).spots).length c17, .slice A19 ((zaj zaa).first).length c19, .slice A21 ((zaj zaa).follow).length c21, .slice A23 ((zaj zaa).last).length c23, .bool ((zaj zaa).empty)], emp, emp, emp, emp, emp, emp, emp, emp, emp, emp, emp, emp, emp, row 3 (Kd.int .i64) v61_1 zaa.first, emp, emp, emp, row 3 (Kd.int .i64) v63_1 zaa.first, row 23 (Kd.int .i64).slice v63_2 zaa.follow, row 4 Kd.bool v63_3 zaa.last, box b65 27 [.slice A139 zaa.spots.length c139, .slice A141 zaa.first.length c141, .slice A143 (zaa.follow.set ((0 : Int)).toNat ([2, 1] : List Int)).length c143, .slice A145 zaa.last.length c145, .bool zaa.empty], box b67 27 [.slice A147 zaa.spots.length c147, .slice A149 zaa.first.length c149, .slice A151 zaa.follow.length c151, .slice A153 (zaa.last.take ((2 : Int)).toNat).length c153, .bool zaa.empty], box b69 27 [.slice A155 (zaa.spots.set ((0 : Int)).toNat (⟨(at_ zaa.spots (0 : Int)).set, 3⟩ : Spot)).length c155, .slice A157 zaa.first.length c157, .slice A159 zaa.follow.length c159, .slice A161 zaa.last.length c161, .bool zaa.empty], box b71 27 [.slice A163 zaa.spots.length c163, .slice A165 ([3] : List Int).length c165, .slice A167 zaa.follow.length c167, .slice A169 zaa.last.length c169, .bool zaa.empty], box b73 27 [.slice A171 zaa.spots.length c171, v126, v63_2, v63_3, .bool zaa.empty], emp, emp, emp] := T173
 obtain ⟨A173, c173, e173, lc173, cm173, ld173⟩ := rp173
 injection e173 with e173 _; subst e173
 have cn173 := cm173; simp only [maxLen] at cn173
 obtain ⟨h175, le175, T175, rp175⟩ := S174.freeze (i := 28) rfl
 have lf175_3 := (((((lf165_3.trans le167).trans le169).trans le171).trans le173).trans le175)
 have lf175_9 := (((((lf165_9.trans le167).trans le169).trans le171).trans le173).trans le175)
 have lf175_14 := (((((lf165_14.trans le167).trans le169).trans le171).trans le173).trans le175)
 have lf175_19 := (((((lf165_19.trans le167).trans le169).trans le171).trans le173).trans le175)
 have lf175_24 := (((((lf165_24.trans le167).trans le169).trans le171).trans le173).trans le175)
 have lf175_29 := (((((le165.trans le167).trans le169).trans le171).trans le173).trans le175)
 have S176 : St w.heap.size w h175 w128 [emp, emp, emp, emp, box b3 27 [.slice A131 zaa.spots.length c131, .slice A133 zaa.first.length c133, .slice A135 zaa.follow.length c135, .slice A137 zaa.last.length c137, .bool zaa.empty], emp, emp, emp, emp, box b25 27 [.slice A17 ((zaj zaa).spots).length c17, .slice A19 ((zaj zaa).first).length c19, .slice A21 ((zaj zaa).follow).length c21, .slice A23 ((zaj zaa).last).length c23, .bool ((zaj zaa).empty)], emp, emp, emp, emp, emp, emp, emp, emp, emp, emp, emp, emp, emp, row 3 (Kd.int .i64) v61_1 zaa.first, emp, emp, emp, row 3 (Kd.int .i64) v63_1 zaa.first, emp, row 4 Kd.bool v63_3 zaa.last, box b65 27 [.slice A139 zaa.spots.length c139, .slice A141 zaa.first.length c141, .slice A143 (zaa.follow.set ((0 : Int)).toNat ([2, 1] : List Int)).length c143, .slice A145 zaa.last.length c145, .bool zaa.empty], box b67 27 [.slice A147 zaa.spots.length c147, .slice A149 zaa.first.length c149, .slice A151 zaa.follow.length c151, .slice A153 (zaa.last.take ((2 : Int)).toNat).length c153, .bool zaa.empty], box b69 27 [.slice A155 (zaa.spots.set ((0 : Int)).toNat (⟨(at_ zaa.spots (0 : Int)).set, 3⟩ : Spot)).length c155, .slice A157 zaa.first.length c157, .slice A159 zaa.follow.length c159, .slice A161 zaa.last.length c161, .bool zaa.empty], box b71 27 [.slice A163 zaa.spots.length c163, .slice A165 ([3] : List Int).length c165, .slice A167 zaa.follow.length c167, .slice A169 zaa.last.length c169, .bool zaa.empty], box b73 27 [.slice A171 zaa.spots.length c171, .slice A173 ([0, 0] : List Int).length c173, v63_2, v63_3, .bool zaa.empty], emp, emp, emp] := T175
 obtain ⟨A175, c175, e175, lc175, cm175, ld175⟩ := rp175
 injection e175 with e175 _; subst e175
 have cn175 := cm175; simp only [maxLen] at cn175
 obtain ⟨h177, le177, T177, rp177⟩ := S176.freeze (i := 29) rfl
 have lf177_4 := (((((lf167_4.trans le169).trans le171).trans le173).trans le175).trans le177)
 have lf177_10 := (((((lf167_10.trans le169).trans le171).trans le173).trans le175).trans le177)
 have lf177_15 := (((((lf167_15.trans le169).trans le171).trans le173).trans le175).trans le177)
 have lf177_20 := (((((lf167_20.trans le169).trans le171).trans le173).trans le175).trans le177)
 have lf177_25 := (((((lf167_25.trans le169).trans le171).trans le173).trans le175).trans le177)
 have lf177_30 := (((((le167.trans le169).trans le171).trans le173).trans le175).trans le177)
 have S178 : St w.heap.size w h177 w128 [emp, emp, emp, emp, box b3 27 [.slice A131 zaa.spots.length c131, .slice A133 zaa.first.length c133, .slice A135 zaa.follow.length c135, .slice A137 zaa.last.length c137, .bool zaa.empty], emp, emp, emp, emp, box b25 27 [.slice A17 ((zaj zaa).spots).length c17, .slice A19 ((zaj zaa).first).length c19, .slice A21 ((zaj zaa).follow).length c21, .slice A23 ((zaj zaa).last).length c23, .bool ((zaj zaa).empty)], emp, emp, emp, emp, emp, emp, emp, emp, emp, emp, emp, emp, emp, row 3 (Kd.int .i64) v61_1 zaa.first, emp, emp, emp, row 3 (Kd.int .i64) v63_1 zaa.first, emp, emp, box b65 27 [.slice A139 zaa.spots.length c139, .slice A141 zaa.first.length c141, .slice A143 (zaa.follow.set ((0 : Int)).toNat ([2, 1] : List Int)).length c143, .slice A145 zaa.last.length c145, .bool zaa.empty], box b67 27 [.slice A147 zaa.spots.length c147, .slice A149 zaa.first.length c149, .slice A151 zaa.follow.length c151, .slice A153 (zaa.last.take ((2 : Int)).toNat).length c153, .bool zaa.empty], box b69 27 [.slice A155 (zaa.spots.set ((0 : Int)).toNat (⟨(at_ zaa.spots (0 : Int)).set, 3⟩ : Spot)).length c155, .slice A157 zaa.first.length c157, .slice A159 zaa.follow.length c159, .slice A161 zaa.last.length c161, .bool zaa.empty], box b71 27 [.slice A163 zaa.spots.length c163, .slice A165 ([3] : List Int).length c165, .slice A167 zaa.follow.length c167, .slice A169 zaa.last.length c169, .bool zaa.empty], box b73 27 [.slice A171 zaa.spots.length c171, .slice A173 ([0, 0] : List Int).length c173, .slice A175 zaa.follow.length c175, v63_3, .bool zaa.empty], emp, emp, emp] := T177
 obtain ⟨A177, c177, e177, lc177, cm177, ld177⟩ := rp177
 injection e177 with e177 _; subst e177
 have cn177 := cm177; simp only [maxLen] at cn177
 have hf179 : (CFs ⟨b65, 0, none⟩ [.slice A139 zaa.spots.length c139, .slice A141 zaa.first.length c141, .slice A143 (zaa.follow.set ((0 : Int)).toNat ([2, 1] : List Int)).length c143, .slice A145 zaa.last.length c145, .bool zaa.empty]).1 w128 := (CF.box (m := 5) (S178.box_at (j := 30) rfl) rfl)
 have hf180 : (CFs ⟨b67, 0, none⟩ [.slice A147 zaa.spots.length c147, .slice A149 zaa.first.length c149, .slice A151 zaa.follow.length c151, .slice A153 (zaa.last.take ((2 : Int)).toNat).length c153, .bool zaa.empty]).1 w128 := (CF.box (m := 5) (S178.box_at (j := 31) rfl) rfl)
 have hf181 : (CFs ⟨b69, 0, none⟩ [.slice A155 (zaa.spots.set ((0 : Int)).toNat (⟨(at_ zaa.spots (0 : Int)).set, 3⟩ : Spot)).length c155, .slice A157 zaa.first.length c157, .slice A159 zaa.follow.length c159, .slice A161 zaa.last.length c161, .bool zaa.empty]).1 w128 := (CF.box (m := 5) (S178.box_at (j := 32) rfl) rfl)
 have hf182 : (CFs ⟨b71, 0, none⟩ [.slice A163 zaa.spots.length c163, .slice A165 ([3] : List Int).length c165, .slice A167 zaa.follow.length c167, .slice A169 zaa.last.length c169, .bool zaa.empty]).1 w128 := (CF.box (m := 5) (S178.box_at (j := 33) rfl) rfl)
 have hf183 : (CFs ⟨b73, 0, none⟩ [.slice A171 zaa.spots.length c171, .slice A173 ([0, 0] : List Int).length c173, .slice A175 zaa.follow.length c175, .slice A177 zaa.last.length c177, .bool zaa.empty]).1 w128 := (CF.box (m := 5) (S178.box_at (j := 34) rfl) rfl)
 refine daS (hkC 0 hf179 (hkC 1 hf180 (hkC 2 hf181 (hkC 3 hf182 (hkC 4 hf183 (hkN (w := w128))))))) 14 rfl mixed ?_
 intro wd184 gd184 hd184
 have S185 := S178.keep gd184
 have hf186 := spUp gd184 hf179
 have hf187 := spUp gd184 hf180
 have hf188 := spUp gd184 hf181
 have hf189 := spUp gd184 hf182
 have hf190 := spUp gd184 hf183
 refine qd1 0 (i := 0) (v := .agg #[.slice A139 zaa.spots.length c139, .slice A141 zaa.first.length c141, .slice A143 (zaa.follow.set ((0 : Int)).toNat ([2, 1] : List Int)).length c143, .slice A145 zaa.last.length c145, .bool zaa.empty]) rfl rfl (by decide +kernel) rfl rfl (fun wq hq => (zan (seg := [.slice A139 zaa.spots.length c139, .slice A141 zaa.first.length c141, .slice A143 (zaa.follow.set ((0 : Int)).toNat ([2, 1] : List Int)).length c143, .slice A145 zaa.last.length c145, .bool zaa.empty]) ty27 rfl (by simp) rfl hq)) (of_eq hf186 (zau rfl)) <| qd1 1 (i := 1) (v := .agg #[.slice A147 zaa.spots.length c147, .slice A149 zaa.first.length c149, .slice A151 zaa.follow.length c151, .slice A153 (zaa.last.take ((2 : Int)).toNat).length c153, .bool zaa.empty]) rfl rfl (by decide +kernel) rfl rfl (fun wq hq => (zan (seg := [.slice A147 zaa.spots.length c147, .slice A149 zaa.first.length c149, .slice A151 zaa.follow.length c151, .slice A153 (zaa.last.take ((2 : Int)).toNat).length c153, .bool zaa.empty]) ty27 rfl (by simp) rfl hq)) (zc1 rfl (of_eq hf187 (zau rfl))) <| qd1 2 (i := 2) (v := .agg #[.slice A155 (zaa.spots.set ((0 : Int)).toNat (⟨(at_ zaa.spots (0 : Int)).set, 3⟩ : Spot)).length c155, .slice A157 zaa.first.length c157, .slice A159 zaa.follow.length c159, .slice A161 zaa.last.length c161, .bool zaa.empty]) rfl rfl (by decide +kernel) rfl rfl (fun wq hq => (zan (seg := [.slice A155 (zaa.spots.set ((0 : Int)).toNat (⟨(at_ zaa.spots (0 : Int)).set, 3⟩ : Spot)).length c155, .slice A157 zaa.first.length c157, .slice A159 zaa.follow.length c159, .slice A161 zaa.last.length c161, .bool zaa.empty]) ty27 rfl (by simp) rfl hq)) (zc1 rfl (zc1 rfl (of_eq hf188 (zau rfl)))) <| qd1 3 (i := 3) (v := .agg #[.slice A163 zaa.spots.length c163, .slice A165 ([3] : List Int).length c165, .slice A167 zaa.follow.length c167, .slice A169 zaa.last.length c169, .bool zaa.empty]) rfl rfl (by decide +kernel) rfl rfl (fun wq hq => (zan (seg := [.slice A163 zaa.spots.length c163, .slice A165 ([3] : List Int).length c165, .slice A167 zaa.follow.length c167, .slice A169 zaa.last.length c169, .bool zaa.empty]) ty27 rfl (by simp) rfl hq)) (zc1 rfl (zc1 rfl (zc1 rfl (of_eq hf189 (zau rfl))))) <| qd1 4 (i := 4) (v := .agg #[.slice A171 zaa.spots.length c171, .slice A173 ([0, 0] : List Int).length c173, .slice A175 zaa.follow.length c175, .slice A177 zaa.last.length c177, .bool zaa.empty]) rfl rfl (by decide +kernel) rfl rfl (fun wq hq => (zan (seg := [.slice A171 zaa.spots.length c171, .slice A173 ([0, 0] : List Int).length c173, .slice A175 zaa.follow.length c175, .slice A177 zaa.last.length c177, .bool zaa.empty]) ty27 rfl (by simp) rfl hq)) (zc1 rfl (zc1 rfl (zc1 rfl (zc1 rfl (of_eq hf190 (zau rfl)))))) <| qd0 (i := 13) (v := .int .i64 0) rfl (by decide +kernel) rfl rfl (zah rfl) (zau rfl) ?_
 refine ra_mid (f2 := 2) (l2 := #[true, true, true, true, true, true, true, true, true, true, true, false, false, true]) (fun ρ w' => ∃ (h : Ghost) (j247_v198 : Value) (j247_v212 : Value) (j247_v226 : Value) (j247_v240 : Value), Le h177 h ∧ St w.heap.size w h w' [row 38 zax j247_v198 (List.replicate ((251 : Int)).toNat (⟨0, 0⟩ : Spot)), row 23 (Kd.int .i64).slice j247_v212 (List.replicate ((251 : Int)).toNat ([] : List Int)), row 4 Kd.bool j247_v226 (List.replicate ((251 : Int)).toNat false), row 23 (Kd.int .i64).slice j247_v240 (List.replicate ((1 : Int)).toNat ([] : List Int))] ∧ ρ 99 = .agg #[.slice A139 zaa.spots.length c139, .slice A141 zaa.first.length c141, .slice A143 (zaa.follow.set ((0 : Int)).toNat ([2, 1] : List Int)).length c143, .slice A145 zaa.last.length c145, .bool zaa.empty] ∧ ρ 100 = .agg #[.slice A147 zaa.spots.length c147, .slice A149 zaa.first.length c149, .slice A151 zaa.follow.length c151, .slice A153 (zaa.last.take ((2 : Int)).toNat).length c153, .bool zaa.empty] ∧ ρ 101 = .agg #[.slice A155 (zaa.spots.set ((0 : Int)).toNat (⟨(at_ zaa.spots (0 : Int)).set, 3⟩ : Spot)).length c155, .slice A157 zaa.first.length c157, .slice A159 zaa.follow.length c159, .slice A161 zaa.last.length c161, .bool zaa.empty] ∧ ρ 102 = .agg #[.slice A163 zaa.spots.length c163, .slice A165 ([3] : List Int).length c165, .slice A167 zaa.follow.length c167, .slice A169 zaa.last.length c169, .bool zaa.empty] ∧ ρ 103 = .agg #[.slice A171 zaa.spots.length c171, .slice A173 ([0, 0] : List Int).length c173, .slice A175 zaa.follow.length c175, .slice A177 zaa.last.length c177, .bool zaa.empty] ∧ ρ 104 = j247_v198 ∧ ρ 105 = j247_v212 ∧ ρ 106 = j247_v226 ∧ ρ 107 = .agg #[j247_v198, .slice none 0 0, j247_v212, j247_v226, .bool false] ∧ ρ 108 = j247_v240 ∧ ρ 109 = .agg #[.slice none 0 0, .slice none 0 0, j247_v240, .slice none 0 0, .bool false] ∧ ρ 112 = .int .i64 0 ∧ (CFs ⟨b65, 0, none⟩ [.slice A139 zaa.spots.length c139, .slice A141 zaa.first.length c141, .slice A143 (zaa.follow.set ((0 : Int)).toNat ([2, 1] : List Int)).length c143, .slice A145 zaa.last.length c145, .bool zaa.empty]).1 w' ∧ (CFs ⟨b67, 0, none⟩ [.slice A147 zaa.spots.length c147, .slice A149 zaa.first.length c149, .slice A151 zaa.follow.length c151, .slice A153 (zaa.last.take ((2 : Int)).toNat).length c153, .bool zaa.empty]).1 w' ∧ (CFs ⟨b69, 0, none⟩ [.slice A155 (zaa.spots.set ((0 : Int)).toNat (⟨(at_ zaa.spots (0 : Int)).set, 3⟩ : Spot)).length c155, .slice A157 zaa.first.length c157, .slice A159 zaa.follow.length c159, .slice A161 zaa.last.length c161, .bool zaa.empty]).1 w' ∧ (CFs ⟨b71, 0, none⟩ [.slice A163 zaa.spots.length c163, .slice A165 ([3] : List Int).length c165, .slice A167 zaa.follow.length c167, .slice A169 zaa.last.length c169, .bool zaa.empty]).1 w' ∧ (CFs ⟨b73, 0, none⟩ [.slice A171 zaa.spots.length c171, .slice A173 ([0, 0] : List Int).length c173, .slice A175 zaa.follow.length c175, .slice A177 zaa.last.length c177, .bool zaa.empty]).1 w') ?_ (fun jn247 => ?_)
 ·skip
  rintro _ ρj247 wj247 rfl ⟨hj247, j247_v198, j247_v212, j247_v226, j247_v240, lej247, Sj247, rj247_99, rj247_100, rj247_101, rj247_102, rj247_103, rj247_104, rj247_105, rj247_106, rj247_107, rj247_108, rj247_109, rj247_112, hm247_0, hm247_1, hm247_2, hm247_3, hm247_4⟩
  have jr247_0 := Sj247.row_le (j := 0) rfl; simp only [maxLen] at jr247_0
  have jr247_1 := Sj247.row_le (j := 1) rfl; simp only [maxLen] at jr247_1
  have jr247_2 := Sj247.row_le (j := 2) rfl; simp only [maxLen] at jr247_2
  have jr247_3 := Sj247.row_le (j := 3) rfl; simp only [maxLen] at jr247_3
  refine za0 (i := 11) (by decide +kernel) ?_
  intro wd248 gd248
  have S249 := Sj247.keep gd248
  have hf250 := spUp gd248 hm247_0
  have hf251 := spUp gd248 hm247_1
  have hf252 := spUp gd248 hm247_2
  have hf253 := spUp gd248 hm247_3
  have hf254 := spUp gd248 hm247_4
  obtain ⟨h256, le256, T256, rp256⟩ := S249.freeze (i := 0) rfl
  have lf256_0 := (((((((lf169_0.trans le171).trans le173).trans le175).trans le177)).trans lej247).trans le256)
  have lf256_1 := ((((((lf171_1.trans le173).trans le175).trans le177)).trans lej247).trans le256)
  have lf256_5 := (((((((lf169_5.trans le171).trans le173).trans le175).trans le177)).trans lej247).trans le256)
  have lf256_6 := ((((((lf171_6.trans le173).trans le175).trans le177)).trans lej247).trans le256)
  have lf256_7 := ((((((lf171_7.trans le173).trans le175).trans le177)).trans lej247).trans le256)
  have lf256_11 := (((((((lf169_11.trans le171).trans le173).trans le175).trans le177)).trans lej247).trans le256)
  have lf256_12 := ((((((lf171_12.trans le173).trans le175).trans le177)).trans lej247).trans le256)
  have lf256_16 := (((((((lf169_16.trans le171).trans le173).trans le175).trans le177)).trans lej247).trans le256)
  have lf256_17 := ((((((lf171_17.trans le173).trans le175).trans le177)).trans lej247).trans le256)
  have lf256_21 := (((((((lf169_21.trans le171).trans le173).trans le175).trans le177)).trans lej247).trans le256)
  have lf256_22 := ((((((lf171_22.trans le173).trans le175).trans le177)).trans lej247).trans le256)
  have lf256_26 := (((((((lf169_26.trans le171).trans le173).trans le175).trans le177)).trans lej247).trans le256)
  have lf256_27 := ((((((lf171_27.trans le173).trans le175).trans le177)).trans lej247).trans le256)
  have lf256_31 := (((((((le169.trans le171).trans le173).trans le175).trans le177)).trans lej247).trans le256)
  have lf256_32 := ((((((le171.trans le173).trans le175).trans le177)).trans lej247).trans le256)
  have S257 := T256.fx 0 (emp) rfl
  dsimp only [lAa, lAn, lA0, lAs] at S257
  obtain ⟨A256, c256, e256, lc256, cm256, ld256⟩ := rp256
  injection e256 with e256 _; subst e256
  have cn256 := cm256; simp only [maxLen] at cn256
  obtain ⟨h258, le258, T258, rp258⟩ := S257.freeze (i := 1) rfl
  have lf258_2 := ((((((lf173_2.trans le175).trans le177)).trans lej247).trans le256).trans le258)
  have lf258_8 := ((((((lf173_8.trans le175).trans le177)).trans lej247).trans le256).trans le258)
  have lf258_13 := ((((((lf173_13.trans le175).trans le177)).trans lej247).trans le256).trans le258)
  have lf258_18 := ((((((lf173_18.trans le175).trans le177)).trans lej247).trans le256).trans le258)
  have lf258_23 := ((((((lf173_23.trans le175).trans le177)).trans lej247).trans le256).trans le258)
  have lf258_28 := ((((((lf173_28.trans le175).trans le177)).trans lej247).trans le256).trans le258)
  have lf258_33 := ((((((le173.trans le175).trans le177)).trans lej247).trans le256).trans le258)
  have S259 := T258.fx 1 (emp) rfl
  dsimp only [lAa, lAn, lA0, lAs] at S259
  obtain ⟨A258, c258, e258, lc258, cm258, ld258⟩ := rp258
  injection e258 with e258 _; subst e258
  have cn258 := cm258; simp only [maxLen] at cn258
  obtain ⟨h260, le260, T260, rp260⟩ := S259.freeze (i := 2) rfl
  have lf260_3 := ((((((lf175_3.trans le177)).trans lej247).trans le256).trans le258).trans le260)
  have lf260_9 := ((((((lf175_9.trans le177)).trans lej247).trans le256).trans le258).trans le260)
  have lf260_14 := ((((((lf175_14.trans le177)).trans lej247).trans le256).trans le258).trans le260)
  have lf260_19 := ((((((lf175_19.trans le177)).trans lej247).trans le256).trans le258).trans le260)
  have lf260_24 := ((((((lf175_24.trans le177)).trans lej247).trans le256).trans le258).trans le260)
  have lf260_29 := ((((((lf175_29.trans le177)).trans lej247).trans le256).trans le258).trans le260)
  have lf260_34 := ((((((le175.trans le177)).trans lej247).trans le256).trans le258).trans le260)
  have S261 := T260.fx 2 (emp) rfl
  dsimp only [lAa, lAn, lA0, lAs] at S261
  obtain ⟨A260, c260, e260, lc260, cm260, ld260⟩ := rp260
  injection e260 with e260 _; subst e260
  have cn260 := cm260; simp only [maxLen] at cn260
  obtain ⟨h262, le262, T262, rp262⟩ := S261.freeze (i := 3) rfl
  have lf262_4 := ((((((lf177_4).trans lej247).trans le256).trans le258).trans le260).trans le262)
  have lf262_10 := ((((((lf177_10).trans lej247).trans le256).trans le258).trans le260).trans le262)
  have lf262_15 := ((((((lf177_15).trans lej247).trans le256).trans le258).trans le260).trans le262)
  have lf262_20 := ((((((lf177_20).trans lej247).trans le256).trans le258).trans le260).trans le262)
  have lf262_25 := ((((((lf177_25).trans lej247).trans le256).trans le258).trans le260).trans le262)
  have lf262_30 := ((((((lf177_30).trans lej247).trans le256).trans le258).trans le260).trans le262)
  have lf262_35 := ((((((le177).trans lej247).trans le256).trans le258).trans le260).trans le262)
  have S263 := T262.fx 3 (emp) rfl
  dsimp only [lAa, lAn, lA0, lAs] at S263
  obtain ⟨A262, c262, e262, lc262, cm262, ld262⟩ := rp262
  injection e262 with e262 _; subst e262
  have cn262 := cm262; simp only [maxLen] at cn262
  obtain ⟨v255, w255, r255, g255, T255⟩ := zc9 (kd := kMach) (xs := zam) (len := 7) (m := 5) [(.agg #[.slice A139 zaa.spots.length c139, .slice A141 zaa.first.length c141, .slice A143 (zaa.follow.set ((0 : Int)).toNat ([2, 1] : List Int)).length c143, .slice A145 zaa.last.length c145, .bool zaa.empty], [.slice A139 zaa.spots.length c139, .slice A141 zaa.first.length c141, .slice A143 (zaa.follow.set ((0 : Int)).toNat ([2, 1] : List Int)).length c143, .slice A145 zaa.last.length c145, .bool zaa.empty]), (.agg #[.slice A147 zaa.spots.length c147, .slice A149 zaa.first.length c149, .slice A151 zaa.follow.length c151, .slice A153 (zaa.last.take ((2 : Int)).toNat).length c153, .bool zaa.empty], [.slice A147 zaa.spots.length c147, .slice A149 zaa.first.length c149, .slice A151 zaa.follow.length c151, .slice A153 (zaa.last.take ((2 : Int)).toNat).length c153, .bool zaa.empty]), (.agg #[.slice A155 (zaa.spots.set ((0 : Int)).toNat (⟨(at_ zaa.spots (0 : Int)).set, 3⟩ : Spot)).length c155, .slice A157 zaa.first.length c157, .slice A159 zaa.follow.length c159, .slice A161 zaa.last.length c161, .bool zaa.empty], [.slice A155 (zaa.spots.set ((0 : Int)).toNat (⟨(at_ zaa.spots (0 : Int)).set, 3⟩ : Spot)).length c155, .slice A157 zaa.first.length c157, .slice A159 zaa.follow.length c159, .slice A161 zaa.last.length c161, .bool zaa.empty]), (.agg #[.slice A163 zaa.spots.length c163, .slice A165 ([3] : List Int).length c165, .slice A167 zaa.follow.length c167, .slice A169 zaa.last.length c169, .bool zaa.empty], [.slice A163 zaa.spots.length c163, .slice A165 ([3] : List Int).length c165, .slice A167 zaa.follow.length c167, .slice A169 zaa.last.length c169, .bool zaa.empty]), (.agg #[.slice A171 zaa.spots.length c171, .slice A173 ([0, 0] : List Int).length c173, .slice A175 zaa.follow.length c175, .slice A177 zaa.last.length c177, .bool zaa.empty], [.slice A171 zaa.spots.length c171, .slice A173 ([0, 0] : List Int).length c173, .slice A175 zaa.follow.length c175, .slice A177 zaa.last.length c177, .bool zaa.empty]), (.agg #[.slice A256 (List.replicate ((251 : Int)).toNat (⟨0, 0⟩ : Spot)).length c256, .slice none 0 0, .slice A258 (List.replicate ((251 : Int)).toNat ([] : List Int)).length c258, .slice A260 (List.replicate ((251 : Int)).toNat false).length c260, .bool false], [.slice A256 (List.replicate ((251 : Int)).toNat (⟨0, 0⟩ : Spot)).length c256, .slice none 0 0, .slice A258 (List.replicate ((251 : Int)).toNat ([] : List Int)).length c258, .slice A260 (List.replicate ((251 : Int)).toNat false).length c260, .bool false]), (.agg #[.slice none 0 0, .slice none 0 0, .slice A262 (List.replicate ((1 : Int)).toNat ([] : List Int)).length c262, .slice none 0 0, .bool false], [.slice none 0 0, .slice none 0 0, .slice A262 (List.replicate ((1 : Int)).toNat ([] : List Int)).length c262, .slice none 0 0, .bool false])] S263 u42 ty27 rfl rfl rfl rfl (zcf rfl rfl (zcf rfl rfl (zcf rfl rfl (zcf rfl rfl (zcf rfl rfl (zcf rfl rfl (zcf rfl rfl segs_nil))))))) (cs := ([.slice A139 zaa.spots.length c139, .slice A141 zaa.first.length c141, .slice A143 (zaa.follow.set ((0 : Int)).toNat ([2, 1] : List Int)).length c143, .slice A145 zaa.last.length c145, .bool zaa.empty] ++ ([.slice A147 zaa.spots.length c147, .slice A149 zaa.first.length c149, .slice A151 zaa.follow.length c151, .slice A153 (zaa.last.take ((2 : Int)).toNat).length c153, .bool zaa.empty] ++ ([.slice A155 (zaa.spots.set ((0 : Int)).toNat (⟨(at_ zaa.spots (0 : Int)).set, 3⟩ : Spot)).length c155, .slice A157 zaa.first.length c157, .slice A159 zaa.follow.length c159, .slice A161 zaa.last.length c161, .bool zaa.empty] ++ ([.slice A163 zaa.spots.length c163, .slice A165 ([3] : List Int).length c165, .slice A167 zaa.follow.length c167, .slice A169 zaa.last.length c169, .bool zaa.empty] ++ ([.slice A171 zaa.spots.length c171, .slice A173 ([0, 0] : List Int).length c173, .slice A175 zaa.follow.length c175, .slice A177 zaa.last.length c177, .bool zaa.empty] ++ ([.slice A256 (List.replicate ((251 : Int)).toNat (⟨0, 0⟩ : Spot)).length c256, .slice none 0 0, .slice A258 (List.replicate ((251 : Int)).toNat ([] : List Int)).length c258, .slice A260 (List.replicate ((251 : Int)).toNat false).length c260, .bool false] ++ ([.slice none 0 0, .slice none 0 0, .slice A262 (List.replicate ((1 : Int)).toNat ([] : List Int)).length c262, .slice none 0 0, .bool false])))))))) (zbl.cons (k := kMach) (h := h262) (x := mcA) (cs := [.slice A139 zaa.spots.length c139, .slice A141 zaa.first.length c141, .slice A143 (zaa.follow.set ((0 : Int)).toNat ([2, 1] : List Int)).length c143, .slice A145 zaa.last.length c145, .bool zaa.empty]) ⟨_, _, _, _, _, _, _, _, rfl, ⟨(And.intro lc139 cm139), ld139.mono (((lf256_17.trans le258).trans le260).trans le262)⟩, ⟨(And.intro lc141 cm141), ld141.mono ((lf258_18.trans le260).trans le262)⟩, ⟨(And.intro lc143 cm143), ld143.mono (lf260_19.trans le262)⟩, ⟨(And.intro lc145 cm145), ld145.mono lf262_20⟩⟩ (zbl.cons (k := kMach) (h := h262) (x := mcB) (cs := [.slice A147 zaa.spots.length c147, .slice A149 zaa.first.length c149, .slice A151 zaa.follow.length c151, .slice A153 (zaa.last.take ((2 : Int)).toNat).length c153, .bool zaa.empty]) ⟨_, _, _, _, _, _, _, _, rfl, ⟨(And.intro lc147 cm147), ld147.mono (((lf256_21.trans le258).trans le260).trans le262)⟩, ⟨(And.intro lc149 cm149), ld149.mono (((lf256_22.trans le258).trans le260).trans le262)⟩, ⟨(And.intro lc151 cm151), ld151.mono ((lf258_23.trans le260).trans le262)⟩, ⟨(And.intro lc153 cm153), ld153.mono (lf260_24.trans le262)⟩⟩ (zbl.cons (k := kMach) (h := h262) (x := mcC) (cs := [.slice A155 (zaa.spots.set ((0 : Int)).toNat (⟨(at_ zaa.spots (0 : Int)).set, 3⟩ : Spot)).length c155, .slice A157 zaa.first.length c157, .slice A159 zaa.follow.length c159, .slice A161 zaa.last.length c161, .bool zaa.empty]) ⟨_, _, _, _, _, _, _, _, rfl, ⟨(And.intro lc155 cm155), ld155.mono lf262_25⟩, ⟨(And.intro lc157 cm157), ld157.mono (((lf256_26.trans le258).trans le260).trans le262)⟩, ⟨(And.intro lc159 cm159), ld159.mono (((lf256_27.trans le258).trans le260).trans le262)⟩, ⟨(And.intro lc161 cm161), ld161.mono ((lf258_28.trans le260).trans le262)⟩⟩ (zbl.cons (k := kMach) (h := h262) (x := mcD) (cs := [.slice A163 zaa.spots.length c163, .slice A165 ([3] : List Int).length c165, .slice A167 zaa.follow.length c167, .slice A169 zaa.last.length c169, .bool zaa.empty]) ⟨_, _, _, _, _, _, _, _, rfl, ⟨(And.intro lc163 cm163), ld163.mono (lf260_29.trans le262)⟩, ⟨(And.intro lc165 cm165), ld165.mono lf262_30⟩, ⟨(And.intro lc167 cm167), ld167.mono (((lf256_31.trans le258).trans le260).trans le262)⟩, ⟨(And.intro lc169 cm169), ld169.mono (((lf256_32.trans le258).trans le260).trans le262)⟩⟩ (zbl.cons (k := kMach) (h := h262) (x := mcE) (cs := [.slice A171 zaa.spots.length c171, .slice A173 ([0, 0] : List Int).length c173, .slice A175 zaa.follow.length c175, .slice A177 zaa.last.length c177, .bool zaa.empty]) ⟨_, _, _, _, _, _, _, _, rfl, ⟨(And.intro lc171 cm171), ld171.mono ((lf258_33.trans le260).trans le262)⟩, ⟨(And.intro lc173 cm173), ld173.mono (lf260_34.trans le262)⟩, ⟨(And.intro lc175 cm175), ld175.mono lf262_35⟩, ⟨(And.intro lc177 cm177), ld177.mono ((((lej247.trans le256).trans le258).trans le260).trans le262)⟩⟩ (zbl.cons (k := kMach) (h := h262) (x := mcF) (cs := [.slice A256 (List.replicate ((251 : Int)).toNat (⟨0, 0⟩ : Spot)).length c256, .slice none 0 0, .slice A258 (List.replicate ((251 : Int)).toNat ([] : List Int)).length c258, .slice A260 (List.replicate ((251 : Int)).toNat false).length c260, .bool false]) ⟨_, _, _, _, _, _, _, _, rfl, ⟨(And.intro lc256 cm256), ld256.mono ((le258.trans le260).trans le262)⟩, ⟨(by simp [maxLen]), (zca _ _)⟩, ⟨(And.intro lc258 cm258), ld258.mono (le260.trans le262)⟩, ⟨(And.intro lc260 cm260), ld260.mono le262⟩⟩ (zbl.single (k := kMach) (h := h262) (x := mcG) (cs := [.slice none 0 0, .slice none 0 0, .slice A262 (List.replicate ((1 : Int)).toNat ([] : List Int)).length c262, .slice none 0 0, .bool false]) ⟨_, _, _, _, _, _, _, _, rfl, ⟨(by simp [maxLen]), (zca _ _)⟩, ⟨(by simp [maxLen]), (zca _ _)⟩, ⟨(And.intro lc262 cm262), ld262.mono (Le.refl _)⟩, ⟨(by simp [maxLen]), (zca _ _)⟩⟩))))))) (by first | rfl | simp only [List.flatMap_cons, List.flatMap_nil, List.append_nil] | simp)
  have S264 := T255
  dsimp only [lAa, lAn, lA0, lAs] at S264
  have hf265 := spUp g255 hf250
  have hf266 := spUp g255 hf251
  have hf267 := spUp g255 hf252
  have hf268 := spUp g255 hf253
  have hf269 := spUp g255 hf254
  refine d_v (v := v255) rfl rfl rfl (zaw (pv := [(0, .agg #[.slice A139 zaa.spots.length c139, .slice A141 zaa.first.length c141, .slice A143 (zaa.follow.set ((0 : Int)).toNat ([2, 1] : List Int)).length c143, .slice A145 zaa.last.length c145, .bool zaa.empty]), (1, .agg #[.slice A147 zaa.spots.length c147, .slice A149 zaa.first.length c149, .slice A151 zaa.follow.length c151, .slice A153 (zaa.last.take ((2 : Int)).toNat).length c153, .bool zaa.empty]), (2, .agg #[.slice A155 (zaa.spots.set ((0 : Int)).toNat (⟨(at_ zaa.spots (0 : Int)).set, 3⟩ : Spot)).length c155, .slice A157 zaa.first.length c157, .slice A159 zaa.follow.length c159, .slice A161 zaa.last.length c161, .bool zaa.empty]), (3, .agg #[.slice A163 zaa.spots.length c163, .slice A165 ([3] : List Int).length c165, .slice A167 zaa.follow.length c167, .slice A169 zaa.last.length c169, .bool zaa.empty]), (4, .agg #[.slice A171 zaa.spots.length c171, .slice A173 ([0, 0] : List Int).length c173, .slice A175 zaa.follow.length c175, .slice A177 zaa.last.length c177, .bool zaa.empty]), (5, .agg #[.slice A256 (List.replicate ((251 : Int)).toNat (⟨0, 0⟩ : Spot)).length c256, .slice none 0 0, .slice A258 (List.replicate ((251 : Int)).toNat ([] : List Int)).length c258, .slice A260 (List.replicate ((251 : Int)).toNat false).length c260, .bool false]), (6, .agg #[.slice none 0 0, .slice none 0 0, .slice A262 (List.replicate ((1 : Int)).toNat ([] : List Int)).length c262, .slice none 0 0, .bool false])]) (zbr (congrArg (Prod.mk _) rj247_99) (zbr (congrArg (Prod.mk _) rj247_100) (zbr (congrArg (Prod.mk _) rj247_101) (zbr (congrArg (Prod.mk _) rj247_102) (zbr (congrArg (Prod.mk _) rj247_103) (zbr (congrArg (Prod.mk _) rj247_107) (zbr (congrArg (Prod.mk _) rj247_109) rfl))))))) r255) (.inl g255) ?_
  have lb270 := S264.row_le (j := 4) rfl; simp only [maxLen] at lb270
  refine qd0 (i := 12) (v := .int .i64 (zam.length : Int)) rfl (by decide +kernel) rfl rfl (x_len_own u42 rfl (e_len_own S264 (j := 4) rfl)) (zau rfl) <| ra_done (by decide +kernel) ?_
  intro wd271 gd271
  have S272 := S264.keep gd271
  refine zaz <| zcc (S := Int) (fun (q_ : Int) ρ w' => match q_ with | t112 => ∃ (h : Ghost), Le h262 h ∧ St w.heap.size w h w' [row 27 kMach v255 zam] ∧ ρ 110 = v255 ∧ ρ 111 = .int .i64 (zam.length : Int) ∧ ρ 112 = .int .i64 t112 ∧ inK .i64 t112 ∧ (0 ≤ t112 ∧ t112 ≤ 7)) (fun q_ => match q_ with | t112 => (7 - t112).toNat) (0) ⟨h262, Le.refl _, S272.sub [4] (by decide) rfl _ rfl, rfl, rfl, rj247_112, (zat (by first|omega|(simp;omega)|assumption) (by first|omega|(simp;omega)|assumption)), (by exact ⟨by omega, by omega⟩)⟩ ?_
  rintro t112 ih273 ρ273 w273 ⟨h273, le273, S273, r273_110, r273_111, r273_112, f273_0, hI273⟩
  have lf273_0 := zb1 f273_0; have hf273_0 := zb2 f273_0
  have rl273_0 := S273.row_le (j := 0) rfl; simp only [maxLen] at rl273_0
  have hl7_ := hI273.2
  refine zad <| zaf (l := [0]) rfl <| p_v (v := .bool (decide (t112 < (zam.length : Int)))) rfl rfl rfl (x_lss r273_112 r273_111) <| zab <| zad ?_
  refine za3 (p := t112 < (zam.length : Int)) rfl (fun hc274 => ?_) (fun hc274 => ?_)
  ·skip
   refine za9 <| zad <| zaz <| zad <| zaf (l := [0, 1, 2, 3]) rfl ?_
   obtain ⟨ad275, a275, at275⟩ := zbo (q := t112) (m := 5) S273 (j := 0) rfl rfl (by first|omega|(simp;omega)|assumption) (by first|omega|(simp;omega)|assumption)
   refine p_v (v := .pointer (some ad275)) rfl rfl rfl (zbm u42 ty27 r273_110 r273_112 a275 (by first|omega|(simp;omega)|assumption) (by first|omega|(simp;omega)|assumption)) ?_
   obtain ⟨seg276, rp276, cf276⟩ := zc2 (q := t112) S273 (j := 0) rfl rfl at275 (by first|omega|(simp;omega)|assumption) (by first|omega|(simp;omega)|assumption)
   obtain ⟨A276_0, c276_0, A276_1, c276_1, A276_2, c276_2, A276_3, c276_3, rfl, ⟨bd276_0, ld276_0⟩, ⟨bd276_1, ld276_1⟩, ⟨bd276_2, ld276_2⟩, ⟨bd276_3, ld276_3⟩⟩ := rp276
   have ba276_0 := bd276_0.1; have bb276_0 := bd276_0.2; simp only [maxLen] at bb276_0
   have ba276_1 := bd276_1.1; have bb276_1 := bd276_1.2; simp only [maxLen] at bb276_1
   have ba276_2 := bd276_2.1; have bb276_2 := bd276_2.2; simp only [maxLen] at bb276_2
   have ba276_3 := bd276_3.1; have bb276_3 := bd276_3.2; simp only [maxLen] at bb276_3
   refine p_v (v := .agg #[.slice A276_0 ((at_ zam t112).spots).length c276_0, .slice A276_1 ((at_ zam t112).first).length c276_1, .slice A276_2 ((at_ zam t112).follow).length c276_2, .slice A276_3 ((at_ zam t112).last).length c276_3, .bool ((at_ zam t112).empty)]) rfl rfl rfl (zan (seg := [.slice A276_0 ((at_ zam t112).spots).length c276_0, .slice A276_1 ((at_ zam t112).first).length c276_1, .slice A276_2 ((at_ zam t112).follow).length c276_2, .slice A276_3 ((at_ zam t112).last).length c276_3, .bool ((at_ zam t112).empty)]) ty27 rfl (by simp) rfl cf276) ?_
   obtain ⟨b277, w277, r277, g277, T277⟩ := zcb (P := Try.prog) S273 27 (v := (.agg #[.slice none 0 0, .slice none 0 0, .slice none 0 0, .slice none 0 0, .bool false])) [.slice none 0 0, .slice none 0 0, .slice none 0 0, .slice none 0 0, .bool false] rfl
   have S278 := T277
   dsimp only [lAa, lAn, lA0, lAs] at S278
   refine p_v (v := .pointer (some ⟨b277, 0, none⟩)) rfl rfl rfl (zbn ty27 r277) ?_
   obtain ⟨w279, r279, g279, T279⟩ := zbq (P := Try.prog) (off := 0) (v := .agg #[.slice A276_0 ((at_ zam t112).spots).length c276_0, .slice A276_1 ((at_ zam t112).first).length c276_1, .slice A276_2 ((at_ zam t112).follow).length c276_2, .slice A276_3 ((at_ zam t112).last).length c276_3, .bool ((at_ zam t112).empty)]) (vs := [.slice A276_0 ((at_ zam t112).spots).length c276_0, .slice A276_1 ((at_ zam t112).first).length c276_1, .slice A276_2 ((at_ zam t112).follow).length c276_2, .slice A276_3 ((at_ zam t112).last).length c276_3, .bool ((at_ zam t112).empty)]) S278 ty27 rfl rfl (j := 1) rfl (by first | decide | exact Nat.le_of_ble_eq_true rfl) (by simp [Value.oneCell'])
   have S280 := T279.fx 1 (box b277 27 [.slice A276_0 ((at_ zam t112).spots).length c276_0, .slice A276_1 ((at_ zam t112).first).length c276_1, .slice A276_2 ((at_ zam t112).follow).length c276_2, .slice A276_3 ((at_ zam t112).last).length c276_3, .bool ((at_ zam t112).empty)]) rfl
   dsimp only [lAa, lAn, lA0, lAs] at S280
   refine p_s rfl rfl (zbd rfl rfl r279) <| zab <| zad <| zaf (l := [0, 1, 2, 3, 4, 5, 6, 7]) rfl <| p_v (v := .agg #[.slice A276_0 ((at_ zam t112).spots).length c276_0, .slice A276_1 ((at_ zam t112).first).length c276_1, .slice A276_2 ((at_ zam t112).follow).length c276_2, .slice A276_3 ((at_ zam t112).last).length c276_3, .bool ((at_ zam t112).empty)]) rfl rfl rfl (zan (seg := [.slice A276_0 ((at_ zam t112).spots).length c276_0, .slice A276_1 ((at_ zam t112).first).length c276_1, .slice A276_2 ((at_ zam t112).follow).length c276_2, .slice A276_3 ((at_ zam t112).last).length c276_3, .bool ((at_ zam t112).empty)]) ty27 rfl (by simp) rfl (CF.box (m := 5) (S280.box_at (j := 1) rfl) rfl)) <| p_c rfl rfl rfl (zbg (args := [.agg #[.slice A276_0 ((at_ zam t112).spots).length c276_0, .slice A276_1 ((at_ zam t112).first).length c276_1, .slice A276_2 ((at_ zam t112).follow).length c276_2, .slice A276_3 ((at_ zam t112).last).length c276_3, .bool ((at_ zam t112).empty)]]) ca8 rfl rfl) (trimN_calls w279 (at_ zam t112) A276_0 c276_0 bd276_0 (ld276_0.mono ((Le.refl _).trans S280.ghost)) A276_1 c276_1 bd276_1 (ld276_1.mono ((Le.refl _).trans S280.ghost)) A276_2 c276_2 bd276_2 (ld276_2.mono ((Le.refl _).trans S280.ghost)) A276_3 c276_3 bd276_3 (ld276_3.mono ((Le.refl _).trans S280.ghost))) ?_
   rintro _ w281 ⟨h281, v281_0, v281_1, v281_2, v281_3, T281, rfl, in281_0⟩
   obtain ⟨k281, lk281, ll281, U281⟩ := zbp S280 T281
   have lc281_0 := ((((((lf256_0.trans le258).trans le260).trans le262)).trans le273).trans lk281)
   have lc281_1 := ((((((lf256_1.trans le258).trans le260).trans le262)).trans le273).trans lk281)
   have lc281_5 := ((((((lf256_5.trans le258).trans le260).trans le262)).trans le273).trans lk281)
   have lc281_6 := ((((((lf256_6.trans le258).trans le260).trans le262)).trans le273).trans lk281)
   have lc281_7 := ((((((lf256_7.trans le258).trans le260).trans le262)).trans le273).trans lk281)
   have lc281_11 := ((((((lf256_11.trans le258).trans le260).trans le262)).trans le273).trans lk281)
   have lc281_12 := ((((((lf256_12.trans le258).trans le260).trans le262)).trans le273).trans lk281)
   have lc281_16 := ((((((lf256_16.trans le258).trans le260).trans le262)).trans le273).trans lk281)
   have lc281_17 := ((((((lf256_17.trans le258).trans le260).trans le262)).trans le273).trans lk281)
   have lc281_21 := ((((((lf256_21.trans le258).trans le260).trans le262)).trans le273).trans lk281)
   have lc281_22 := ((((((lf256_22.trans le258).trans le260).trans le262)).trans le273).trans lk281)
   have lc281_26 := ((((((lf256_26.trans le258).trans le260).trans le262)).trans le273).trans lk281)
   have lc281_27 := ((((((lf256_27.trans le258).trans le260).trans le262)).trans le273).trans lk281)
   have lc281_31 := ((((((lf256_31.trans le258).trans le260).trans le262)).trans le273).trans lk281)
   have lc281_32 := ((((((lf256_32.trans le258).trans le260).trans le262)).trans le273).trans lk281)
   have lc281_36 := (((((((lej247.trans le256).trans le258).trans le260).trans le262)).trans le273).trans lk281)
   have lc281_37 := ((((((le256.trans le258).trans le260).trans le262)).trans le273).trans lk281)
   have S282 := U281
   dsimp only [lAa, lAn, lA0, lAs] at S282
   have lo_in281_0 := zb1 in281_0; have hi_in281_0 := zb2 in281_0
   obtain ⟨h283, le283, T283, rp283⟩ := S282.freeze (i := 2) rfl
   have lf283_2 := ((((((lf258_2.trans le260).trans le262)).trans le273).trans lk281).trans le283)
   have lf283_8 := ((((((lf258_8.trans le260).trans le262)).trans le273).trans lk281).trans le283)
   have lf283_13 := ((((((lf258_13.trans le260).trans le262)).trans le273).trans lk281).trans le283)
   have lf283_18 := ((((((lf258_18.trans le260).trans le262)).trans le273).trans lk281).trans le283)
   have lf283_23 := ((((((lf258_23.trans le260).trans le262)).trans le273).trans lk281).trans le283)
   have lf283_28 := ((((((lf258_28.trans le260).trans le262)).trans le273).trans lk281).trans le283)
   have lf283_33 := ((((((lf258_33.trans le260).trans le262)).trans le273).trans lk281).trans le283)
   have lf283_38 := ((((((le258.trans le260).trans le262)).trans le273).trans lk281).trans le283)
   have S284 := T283.fx 2 (emp) rfl
   dsimp only [lAa, lAn, lA0, lAs] at S284
   obtain ⟨A283, c283, e283, lc283, cm283, ld283⟩ := rp283
   injection e283 with e283 _; subst e283
   have cn283 := cm283; simp only [maxLen] at cn283
   obtain ⟨h285, le285, T285, rp285⟩ := S284.freeze (i := 3) rfl
   have lf285_3 := ((((((lf260_3.trans le262)).trans le273).trans lk281).trans le283).trans le285)
   have lf285_9 := ((((((lf260_9.trans le262)).trans le273).trans lk281).trans le283).trans le285)
   have lf285_14 := ((((((lf260_14.trans le262)).trans le273).trans lk281).trans le283).trans le285)
   have lf285_19 := ((((((lf260_19.trans le262)).trans le273).trans lk281).trans le283).trans le285)
   have lf285_24 := ((((((lf260_24.trans le262)).trans le273).trans lk281).trans le283).trans le285)
   have lf285_29 := ((((((lf260_29.trans le262)).trans le273).trans lk281).trans le283).trans le285)
   have lf285_34 := ((((((lf260_34.trans le262)).trans le273).trans lk281).trans le283).trans le285)
   have lf285_39 := ((((((le260.trans le262)).trans le273).trans lk281).trans le283).trans le285)
   have S286 := T285.fx 3 (emp) rfl
   dsimp only [lAa, lAn, lA0, lAs] at S286
   obtain ⟨A285, c285, e285, lc285, cm285, ld285⟩ := rp285
   injection e285 with e285 _; subst e285
   have cn285 := cm285; simp only [maxLen] at cn285
   obtain ⟨h287, le287, T287, rp287⟩ := S286.freeze (i := 4) rfl
   have lf287_4 := ((((((lf262_4).trans le273).trans lk281).trans le283).trans le285).trans le287)
   have lf287_10 := ((((((lf262_10).trans le273).trans lk281).trans le283).trans le285).trans le287)
   have lf287_15 := ((((((lf262_15).trans le273).trans lk281).trans le283).trans le285).trans le287)
   have lf287_20 := ((((((lf262_20).trans le273).trans lk281).trans le283).trans le285).trans le287)
   have lf287_25 := ((((((lf262_25).trans le273).trans lk281).trans le283).trans le285).trans le287)
   have lf287_30 := ((((((lf262_30).trans le273).trans lk281).trans le283).trans le285).trans le287)
   have lf287_35 := ((((((lf262_35).trans le273).trans lk281).trans le283).trans le285).trans le287)
   have lf287_40 := ((((((le262).trans le273).trans lk281).trans le283).trans le285).trans le287)
   have S288 := T287.fx 4 (emp) rfl
   dsimp only [lAa, lAn, lA0, lAs] at S288
   obtain ⟨A287, c287, e287, lc287, cm287, ld287⟩ := rp287
   injection e287 with e287 _; subst e287
   have cn287 := cm287; simp only [maxLen] at cn287
   obtain ⟨h289, le289, T289, rp289⟩ := S288.freeze (i := 5) rfl
   have lf289_41 := (((((le273.trans lk281).trans le283).trans le285).trans le287).trans le289)
   have S290 := T289.fx 5 (emp) rfl
   dsimp only [lAa, lAn, lA0, lAs] at S290
   obtain ⟨A289, c289, e289, lc289, cm289, ld289⟩ := rp289
   injection e289 with e289 _; subst e289
   have cn289 := cm289; simp only [maxLen] at cn289
   refine p_v (v := .tuple #[.agg #[.slice A283 ((zaj (at_ zam t112)).spots).length c283, .slice A285 ((zaj (at_ zam t112)).first).length c285, .slice A287 ((zaj (at_ zam t112)).follow).length c287, .slice A289 ((zaj (at_ zam t112)).last).length c289, .bool ((zaj (at_ zam t112)).empty)], .int .i64 (errM (at_ zam t112))]) rfl rfl rfl (zah rfl) <| p_v (v := .agg #[.slice A283 ((zaj (at_ zam t112)).spots).length c283, .slice A285 ((zaj (at_ zam t112)).first).length c285, .slice A287 ((zaj (at_ zam t112)).follow).length c287, .slice A289 ((zaj (at_ zam t112)).last).length c289, .bool ((zaj (at_ zam t112)).empty)]) rfl rfl rfl (zc3 (vs := [.agg #[.slice A283 ((zaj (at_ zam t112)).spots).length c283, .slice A285 ((zaj (at_ zam t112)).first).length c285, .slice A287 ((zaj (at_ zam t112)).follow).length c287, .slice A289 ((zaj (at_ zam t112)).last).length c289, .bool ((zaj (at_ zam t112)).empty)], .int .i64 (errM (at_ zam t112))]) rfl rfl) <| p_v (v := .int .i64 (errM (at_ zam t112))) rfl rfl rfl (zc3 (vs := [.agg #[.slice A283 ((zaj (at_ zam t112)).spots).length c283, .slice A285 ((zaj (at_ zam t112)).first).length c285, .slice A287 ((zaj (at_ zam t112)).follow).length c287, .slice A289 ((zaj (at_ zam t112)).last).length c289, .bool ((zaj (at_ zam t112)).empty)], .int .i64 (errM (at_ zam t112))]) rfl rfl) ?_
   obtain ⟨b291, w291, r291, g291, T291⟩ := zcb (P := Try.prog) S290 27 (v := (.agg #[.slice none 0 0, .slice none 0 0, .slice none 0 0, .slice none 0 0, .bool false])) [.slice none 0 0, .slice none 0 0, .slice none 0 0, .slice none 0 0, .bool false] rfl
   have S292 := T291
   dsimp only [lAa, lAn, lA0, lAs] at S292
   refine p_v (v := .pointer (some ⟨b291, 0, none⟩)) rfl rfl rfl (zbn ty27 r291) ?_
   obtain ⟨w293, r293, g293, T293⟩ := zbq (P := Try.prog) (off := 0) (v := .agg #[.slice A283 ((zaj (at_ zam t112)).spots).length c283, .slice A285 ((zaj (at_ zam t112)).first).length c285, .slice A287 ((zaj (at_ zam t112)).follow).length c287, .slice A289 ((zaj (at_ zam t112)).last).length c289, .bool ((zaj (at_ zam t112)).empty)]) (vs := [.slice A283 ((zaj (at_ zam t112)).spots).length c283, .slice A285 ((zaj (at_ zam t112)).first).length c285, .slice A287 ((zaj (at_ zam t112)).follow).length c287, .slice A289 ((zaj (at_ zam t112)).last).length c289, .bool ((zaj (at_ zam t112)).empty)]) S292 ty27 rfl rfl (j := 6) rfl (by first | decide | exact Nat.le_of_ble_eq_true rfl) (by simp [Value.oneCell'])
   have S294 := T293.fx 6 (box b291 27 [.slice A283 ((zaj (at_ zam t112)).spots).length c283, .slice A285 ((zaj (at_ zam t112)).first).length c285, .slice A287 ((zaj (at_ zam t112)).follow).length c287, .slice A289 ((zaj (at_ zam t112)).last).length c289, .bool ((zaj (at_ zam t112)).empty)]) rfl
   dsimp only [lAa, lAn, lA0, lAs] at S294
   refine p_s rfl rfl (zbd rfl rfl r293) <| p_v (v := .int .i64 (errM (at_ zam t112))) rfl rfl rfl (zai rfl) <| zab <| zad <| zaf (l := [0, 1, 2, 3, 4, 5, 6, 7, 8, 9]) rfl <| p_v (v := .agg #[.slice A276_0 ((at_ zam t112).spots).length c276_0, .slice A276_1 ((at_ zam t112).first).length c276_1, .slice A276_2 ((at_ zam t112).follow).length c276_2, .slice A276_3 ((at_ zam t112).last).length c276_3, .bool ((at_ zam t112).empty)]) rfl rfl rfl (zan (seg := [.slice A276_0 ((at_ zam t112).spots).length c276_0, .slice A276_1 ((at_ zam t112).first).length c276_1, .slice A276_2 ((at_ zam t112).follow).length c276_2, .slice A276_3 ((at_ zam t112).last).length c276_3, .bool ((at_ zam t112).empty)]) ty27 rfl (by simp) rfl (CF.box (m := 5) (S294.box_at (j := 1) rfl) rfl)) <| p_c rfl rfl rfl (zbg (args := [.agg #[.slice A276_0 ((at_ zam t112).spots).length c276_0, .slice A276_1 ((at_ zam t112).first).length c276_1, .slice A276_2 ((at_ zam t112).follow).length c276_2, .slice A276_3 ((at_ zam t112).last).length c276_3, .bool ((at_ zam t112).empty)]]) ca12 rfl rfl) (zc7 w293 (at_ zam t112) A276_0 c276_0 bd276_0 (ld276_0.mono (((((lk281.trans le283).trans le285).trans le287).trans le289).trans S294.ghost)) A276_1 c276_1 bd276_1 (ld276_1.mono (((((lk281.trans le283).trans le285).trans le287).trans le289).trans S294.ghost)) A276_2 c276_2 bd276_2 (ld276_2.mono (((((lk281.trans le283).trans le285).trans le287).trans le289).trans S294.ghost)) A276_3 c276_3 bd276_3 (ld276_3.mono (((((lk281.trans le283).trans le285).trans le287).trans le289).trans S294.ghost))) ?_
   rintro _ w295 ⟨h295, T295, rfl⟩
   have S296 := S294.keep (Chg.of_below T295.below)
   refine p_v (v := .bool (zbh (at_ zam t112))) rfl rfl rfl (zah rfl) ?_
   have hc297 : (zbh (at_ zam t112)) = false := by
    exact seven_1 hI273.1 (by omega)
   refine p_v (v := .agg #[.slice A276_0 ((at_ zam t112).spots).length c276_0, .slice A276_1 ((at_ zam t112).first).length c276_1, .slice A276_2 ((at_ zam t112).follow).length c276_2, .slice A276_3 ((at_ zam t112).last).length c276_3, .bool ((at_ zam t112).empty)]) rfl (wo 2 123 rfl rfl (congrArg Value.bool hc297) rfl) rfl (zan (seg := [.slice A276_0 ((at_ zam t112).spots).length c276_0, .slice A276_1 ((at_ zam t112).first).length c276_1, .slice A276_2 ((at_ zam t112).follow).length c276_2, .slice A276_3 ((at_ zam t112).last).length c276_3, .bool ((at_ zam t112).empty)]) ty27 rfl (by simp) rfl (CF.box (m := 5) (S296.box_at (j := 1) rfl) rfl)) <| p_c rfl (wo 2 123 rfl rfl (congrArg Value.bool hc297) rfl) rfl (zbg (args := [.agg #[.slice A276_0 ((at_ zam t112).spots).length c276_0, .slice A276_1 ((at_ zam t112).first).length c276_1, .slice A276_2 ((at_ zam t112).follow).length c276_2, .slice A276_3 ((at_ zam t112).last).length c276_3, .bool ((at_ zam t112).empty)], .string (⟨#[]⟩ : ByteArray)]) ca11 rfl rfl) (runN_calls w295 (at_ zam t112) A276_0 c276_0 bd276_0 (ld276_0.mono (((((lk281.trans le283).trans le285).trans le287).trans le289).trans S296.ghost)) A276_1 c276_1 bd276_1 (ld276_1.mono (((((lk281.trans le283).trans le285).trans le287).trans le289).trans S296.ghost)) A276_2 c276_2 bd276_2 (ld276_2.mono (((((lk281.trans le283).trans le285).trans le287).trans le289).trans S296.ghost)) A276_3 c276_3 bd276_3 (ld276_3.mono (((((lk281.trans le283).trans le285).trans le287).trans le289).trans S296.ghost)) (⟨#[]⟩ : ByteArray) (by decide)) ?_
   rintro _ w298 ⟨h298, T298, rfl⟩
   have S299 := S296.keep (Chg.of_below T298.below)
   refine p_v (v := .bool (runM (at_ zam t112) (⟨#[]⟩ : ByteArray))) rfl rfl rfl (zb6 (congrArg Value.bool hc297) rfl) <| p_v (v := .bool (runM (at_ zam t112) (⟨#[]⟩ : ByteArray))) rfl rfl rfl (zah rfl) ?_
   have hc300 : (runM (at_ zam t112) (⟨#[]⟩ : ByteArray)) = false := by
    exact seven_2 hI273.1 (by omega) _
   refine p_v (v := .int .i64 (errM (at_ zam t112))) rfl (wo 6 127 rfl rfl (congrArg Value.bool hc300) rfl) rfl (zah rfl) <| p_v (v := .bool (decide ((errM (at_ zam t112)) ≠ 1))) rfl (wo 6 127 rfl rfl (congrArg Value.bool hc300) rfl) rfl (x_neq rfl rfl) <| p_v (v := .bool (decide ((errM (at_ zam t112)) ≠ 1))) rfl rfl rfl (zb6 (congrArg Value.bool hc300) rfl) <| zab ?_
   have hc301 : ¬ ((errM (at_ zam t112)) ≠ 1) := by
    exact fun h => h (seven_3 hI273.1 (by omega))
   refine zc6 (b := false) (bF hc301) ?_
   simp only [if_true, if_false, Bool.false_eq_true]
   refine za9 <| za2 <| zaf (l := [0, 1]) rfl <| p_v (v := .int .i64 (t112 + 1)) rfl rfl rfl (zcv r273_112 rfl (zat (by first|omega|(simp;omega)|assumption) (by first|omega|(simp;omega)|assumption))) <| p_v (v := .int .i64 (t112 + 1)) rfl rfl rfl (zah rfl) <| zab ?_
   refine ih273 (t112 + 1) _ _ (by dsimp only; omega) ⟨h289, lf289_41, S299.sub [0] (by decide) rfl _ rfl, r273_110, r273_111, rfl, (zat (by first|omega|(simp;omega)|assumption) (by first|omega|(simp;omega)|assumption)), (by exact ⟨by omega, by omega⟩)⟩
  refine zby rfl <| zad <| zaf (l := [0, 1, 2, 3, 4, 5, 6, 7, 8, 9, 10, 11, 12]) rfl ?_
  obtain ⟨v302, w302, r302, g302, T302⟩ := za7 (kd := (Kd.int .u8)) (xs := ([98] : List Int)) (len := 1) [.int .u8 98] S273 u56 ty5 rfl rfl rfl rfl rfl (zbj rfl zb4) [.int .u8 98] (zbl.single (k := (Kd.int .u8)) (h := h273) (x := 98) (cs := [.int .u8 98]) ⟨rfl, (in_u8 (by first|omega|(simp;omega)|assumption) (by first|omega|(simp;omega)|assumption))⟩) rfl
  have S303 := T302
  dsimp only [lAa, lAn, lA0, lAs] at S303
  refine p_v (v := v302) rfl rfl rfl (zaw (pv := [(0, .int .u8 98)]) rfl r302) ?_
  obtain ⟨A304, c304, ev304, lc304, cm304⟩ := S303.row_val (j := 1) rfl
  refine p_c rfl rfl rfl (zbg (args := [.slice A304 ([98] : List Int).length c304]) ca14 rfl (zbr ev304 rfl)) (of_calls w302 ([98] : List Int) A304 c304 (And.intro lc304 cm304) (zay S303 (j := 1) rfl ev304)) ?_
  rintro _ w305 ⟨h305, T305, rfl⟩
  have S306 := S303.keep (Chg.of_below T305.below)
  refine p_v (v := .agg (zak (⟨zbb ([98] : List Int), 0⟩ : Spot)).toArray) rfl rfl rfl (zav (pv := [(0, .agg (za8 (zbb ([98] : List Int))).toArray)]) rfl (zae pl38 ty38 rfl (cs := (zak (⟨zbb ([98] : List Int), 0⟩ : Spot))) rfl)) ?_
  obtain ⟨v307, w307, r307, g307, T307⟩ := za7 (kd := (Kd.int .u8)) (xs := ([97] : List Int)) (len := 1) [.int .u8 97] S306 u56 ty5 rfl rfl rfl rfl rfl (zbj rfl zb4) [.int .u8 97] (zbl.single (k := (Kd.int .u8)) (h := h273) (x := 97) (cs := [.int .u8 97]) ⟨rfl, (in_u8 (by first|omega|(simp;omega)|assumption) (by first|omega|(simp;omega)|assumption))⟩) rfl
  have S308 := T307
  dsimp only [lAa, lAn, lA0, lAs] at S308
  refine p_v (v := v307) rfl rfl rfl (zaw (pv := [(0, .int .u8 97)]) rfl r307) ?_
  obtain ⟨A309, c309, ev309, lc309, cm309⟩ := S308.row_val (j := 2) rfl
  refine p_c rfl rfl rfl (zbg (args := [.slice A309 ([97] : List Int).length c309]) ca14 rfl (zbr ev309 rfl)) (of_calls w307 ([97] : List Int) A309 c309 (And.intro lc309 cm309) (zay S308 (j := 2) rfl ev309)) ?_
  rintro _ w310 ⟨h310, T310, rfl⟩
  have S311 := S308.keep (Chg.of_below T310.below)
  refine p_v (v := .agg (zak (⟨zbb ([97] : List Int), 0⟩ : Spot)).toArray) rfl rfl rfl (zav (pv := [(0, .agg (za8 (zbb ([97] : List Int))).toArray)]) rfl (zae pl38 ty38 rfl (cs := (zak (⟨zbb ([97] : List Int), 0⟩ : Spot))) rfl)) ?_
  obtain ⟨v312, w312, r312, g312, T312⟩ := za7 (kd := (Kd.int .u8)) (xs := ([98] : List Int)) (len := 1) [.int .u8 98] S311 u56 ty5 rfl rfl rfl rfl rfl (zbj rfl zb4) [.int .u8 98] (zbl.single (k := (Kd.int .u8)) (h := h273) (x := 98) (cs := [.int .u8 98]) ⟨rfl, (in_u8 (by first|omega|(simp;omega)|assumption) (by first|omega|(simp;omega)|assumption))⟩) rfl
  have S313 := T312
  dsimp only [lAa, lAn, lA0, lAs] at S313
  refine p_v (v := v312) rfl rfl rfl (zaw (pv := [(0, .int .u8 98)]) rfl r312) ?_
  obtain ⟨A314, c314, ev314, lc314, cm314⟩ := S313.row_val (j := 3) rfl
  refine p_c rfl rfl rfl (zbg (args := [.slice A314 ([98] : List Int).length c314]) ca14 rfl (zbr ev314 rfl)) (of_calls w312 ([98] : List Int) A314 c314 (And.intro lc314 cm314) (zay S313 (j := 3) rfl ev314)) ?_
  rintro _ w315 ⟨h315, T315, rfl⟩
  have S316 := S313.keep (Chg.of_below T315.below)
  refine p_v (v := .agg (zak (⟨zbb ([98] : List Int), 1⟩ : Spot)).toArray) rfl rfl rfl (zav (pv := [(0, .agg (za8 (zbb ([98] : List Int))).toArray), (1, .int .u8 1)]) rfl (zae pl38 ty38 rfl (cs := (zak (⟨zbb ([98] : List Int), 1⟩ : Spot))) rfl)) ?_
  obtain ⟨v317, w317, r317, g317, T317⟩ := zc9 (kd := zax) (xs := ([(⟨zbb ([98] : List Int), 0⟩ : Spot), (⟨zbb ([97] : List Int), 0⟩ : Spot), (⟨zbb ([98] : List Int), 1⟩ : Spot)] : List Spot)) (len := 3) (m := 5) [(.agg (zak (⟨zbb ([98] : List Int), 0⟩ : Spot)).toArray, (zak (⟨zbb ([98] : List Int), 0⟩ : Spot))), (.agg (zak (⟨zbb ([97] : List Int), 0⟩ : Spot)).toArray, (zak (⟨zbb ([97] : List Int), 0⟩ : Spot))), (.agg (zak (⟨zbb ([98] : List Int), 1⟩ : Spot)).toArray, (zak (⟨zbb ([98] : List Int), 1⟩ : Spot)))] S316 u22 ty38 rfl rfl rfl rfl (zcf rfl rfl (zcf rfl rfl (zcf rfl rfl segs_nil))) (cs := ((zak (⟨zbb ([98] : List Int), 0⟩ : Spot)) ++ ((zak (⟨zbb ([97] : List Int), 0⟩ : Spot)) ++ ((zak (⟨zbb ([98] : List Int), 1⟩ : Spot)))))) (zbl.cons (k := zax) (h := h273) (x := (⟨zbb ([98] : List Int), 0⟩ : Spot)) (cs := (zak (⟨zbb ([98] : List Int), 0⟩ : Spot))) ⟨rfl, (by first | assumption | (show inK .u8 _; constructor <;> decide) | (constructor <;> simp [IntKind.min, IntKind.max] <;> omega))⟩ (zbl.cons (k := zax) (h := h273) (x := (⟨zbb ([97] : List Int), 0⟩ : Spot)) (cs := (zak (⟨zbb ([97] : List Int), 0⟩ : Spot))) ⟨rfl, (by first | assumption | (show inK .u8 _; constructor <;> decide) | (constructor <;> simp [IntKind.min, IntKind.max] <;> omega))⟩ (zbl.single (k := zax) (h := h273) (x := (⟨zbb ([98] : List Int), 1⟩ : Spot)) (cs := (zak (⟨zbb ([98] : List Int), 1⟩ : Spot))) ⟨rfl, (by first | assumption | (show inK .u8 _; constructor <;> decide) | (constructor <;> simp [IntKind.min, IntKind.max] <;> omega))⟩))) (by first | rfl | simp only [List.flatMap_cons, List.flatMap_nil, List.append_nil] | simp)
  have S318 := T317
  dsimp only [lAa, lAn, lA0, lAs] at S318
  refine p_v (v := v317) rfl rfl rfl (zaw (pv := [(0, .agg (zak (⟨zbb ([98] : List Int), 0⟩ : Spot)).toArray), (1, .agg (zak (⟨zbb ([97] : List Int), 0⟩ : Spot)).toArray), (2, .agg (zak (⟨zbb ([98] : List Int), 1⟩ : Spot)).toArray)]) rfl r317) <| p_v (v := .agg #[v317, .slice none 0 0, .slice none 0 0, .slice none 0 0, .bool false]) rfl rfl rfl (zav (pv := [(0, v317)]) rfl (zae pl27 ty27 rfl (cs := [v317, .slice none 0 0, .slice none 0 0, .slice none 0 0, .bool false]) (zag (vc := [v317]) rfl (zac S318 (j := 4) rfl) rfl rfl (zar rfl)))) ?_
  obtain ⟨A319, c319, ev319, lc319, cm319⟩ := S318.row_val (j := 4) rfl
  refine p_c rfl rfl rfl (zbg (args := [.agg #[.slice A319 ([(⟨zbb ([98] : List Int), 0⟩ : Spot), (⟨zbb ([97] : List Int), 0⟩ : Spot), (⟨zbb ([98] : List Int), 1⟩ : Spot)] : List Spot).length c319, .slice none 0 0, .slice none 0 0, .slice none 0 0, .bool false]]) ca13 rfl (zbr (Eq.trans (b := .agg #[v317, .slice none 0 0, .slice none 0 0, .slice none 0 0, .bool false]) rfl (by rw [ev319])) rfl)) (setsN_calls w317 mcS A319 c319 (And.intro lc319 cm319) (zay S318 (j := 4) rfl ev319) none 0 (by simp [maxLen]) (zca _ _) none 0 (by simp [maxLen]) (zca _ _) none 0 (by simp [maxLen]) (zca _ _) (by first | assumption | omega | decide)) ?_
  rintro v320_0 w320 ⟨h320, _, T320, rfl⟩
  obtain ⟨k320, lk320, ll320, U320⟩ := zbp S318 T320
  have lc320_0 := ((((((lf256_0.trans le258).trans le260).trans le262)).trans le273).trans lk320)
  have lc320_1 := ((((((lf256_1.trans le258).trans le260).trans le262)).trans le273).trans lk320)
  have lc320_5 := ((((((lf256_5.trans le258).trans le260).trans le262)).trans le273).trans lk320)
  have lc320_6 := ((((((lf256_6.trans le258).trans le260).trans le262)).trans le273).trans lk320)
  have lc320_7 := ((((((lf256_7.trans le258).trans le260).trans le262)).trans le273).trans lk320)
  have lc320_11 := ((((((lf256_11.trans le258).trans le260).trans le262)).trans le273).trans lk320)
  have lc320_12 := ((((((lf256_12.trans le258).trans le260).trans le262)).trans le273).trans lk320)
  have lc320_16 := ((((((lf256_16.trans le258).trans le260).trans le262)).trans le273).trans lk320)
  have lc320_17 := ((((((lf256_17.trans le258).trans le260).trans le262)).trans le273).trans lk320)
  have lc320_21 := ((((((lf256_21.trans le258).trans le260).trans le262)).trans le273).trans lk320)
  have lc320_22 := ((((((lf256_22.trans le258).trans le260).trans le262)).trans le273).trans lk320)
  have lc320_26 := ((((((lf256_26.trans le258).trans le260).trans le262)).trans le273).trans lk320)
  have lc320_27 := ((((((lf256_27.trans le258).trans le260).trans le262)).trans le273).trans lk320)
  have lc320_31 := ((((((lf256_31.trans le258).trans le260).trans le262)).trans le273).trans lk320)
  have lc320_32 := ((((((lf256_32.trans le258).trans le260).trans le262)).trans le273).trans lk320)
  have lc320_36 := (((((((lej247.trans le256).trans le258).trans le260).trans le262)).trans le273).trans lk320)
  have lc320_37 := ((((((le256.trans le258).trans le260).trans le262)).trans le273).trans lk320)
  have S321 := U320
  dsimp only [lAa, lAn, lA0, lAs] at S321
  refine p_v (v := v320_0) rfl rfl rfl (zai rfl) <| zab <| zad <| daS (hkN (w := w320)) 6 rfl mixed ?_
  intro wd322 gd322 hd322
  have S323 := S321.keep gd322
  refine ra_mid (f2 := 1) (l2 := #[true, true, true, true, true, false]) (fun ρ w' => ∃ (h : Ghost) (j340_b338 : Nat) (j340_v326 : Value) (j340_v330 : Value) (j340_v334 : Value), Le k320 h ∧ St w.heap.size w h w' [row 36 kSet v320_0 (setsM mcS), row 38 zax j340_v326 (List.replicate ((250 : Int)).toNat (⟨0, 0⟩ : Spot)), row 23 (Kd.int .i64).slice j340_v330 (List.replicate ((250 : Int)).toNat ([] : List Int)), row 4 Kd.bool j340_v334 (List.replicate ((250 : Int)).toNat false), box j340_b338 27 [.slice none 0 0, .slice none 0 0, .slice none 0 0, .slice none 0 0, .bool false]] ∧ ρ 13 = v320_0 ∧ ρ 14 = .pointer (some ⟨j340_b338, 0, none⟩) ∧ ρ 144 = j340_v326 ∧ ρ 145 = j340_v330 ∧ ρ 146 = j340_v334 ∧ ρ 147 = .agg #[j340_v326, .slice none 0 0, j340_v330, j340_v334, .bool false]) ?_ (fun jn340 => ?_)
  ·skip
   rintro _ ρj340 wj340 rfl ⟨hj340, j340_b338, j340_v326, j340_v330, j340_v334, lej340, Sj340, rj340_13, rj340_14, rj340_144, rj340_145, rj340_146, rj340_147⟩
   have jr340_0 := Sj340.row_le (j := 0) rfl; simp only [maxLen] at jr340_0
   have jr340_1 := Sj340.row_le (j := 1) rfl; simp only [maxLen] at jr340_1
   have jr340_2 := Sj340.row_le (j := 2) rfl; simp only [maxLen] at jr340_2
   have jr340_3 := Sj340.row_le (j := 3) rfl; simp only [maxLen] at jr340_3
   refine za0 (i := 5) (by decide +kernel) ?_
   intro wd341 gd341
   have S342 := Sj340.keep gd341
   have oc344 := zba S342 (j := 1) rfl
   have oc345 := zba S342 (j := 2) rfl
   have oc346 := zba S342 (j := 3) rfl
   obtain ⟨w343, r343, g343, T343⟩ := zbq (P := Try.prog) (off := 0) (v := .agg #[j340_v326, .slice none 0 0, j340_v330, j340_v334, .bool false]) (vs := [j340_v326, .slice none 0 0, j340_v330, j340_v334, .bool false]) S342 ty27 rfl rfl (j := 4) rfl (by first | decide | exact Nat.le_of_ble_eq_true rfl) (zao oc344 (zao rfl (zao oc345 (zao oc346 (zao rfl zb9)))))
   have S347 := T343.fx 4 (box j340_b338 27 [j340_v326, .slice none 0 0, j340_v330, j340_v334, .bool false]) rfl
   dsimp only [lAa, lAn, lA0, lAs] at S347
   refine d_s rfl rfl (zbd rj340_14 rj340_147 r343) (.inr trivial) <| ra_done (by decide +kernel) ?_
   intro wd348 gd348
   have S349 := S347.keep gd348
   refine zad ?_
   have hc351 : (zbh mcZ) = true := by
    decide +kernel
   have hf352 : (CFs ⟨j340_b338, 0, none⟩ [j340_v326, .slice none 0 0, j340_v330, j340_v334, .bool false]).1 wd348 := (CF.box (m := 5) (S349.box_at (j := 4) rfl) rfl)
   refine daS (hkC 3 hf352 (hkN (w := wd348))) 36 rfl mixed ?_
   intro wd353 gd353 hd353
   have S354 := S349.keep gd353
   have hf355 := spUp gd353 hf352
   refine qd0 (i := 0) (v := .agg #[.slice none 0 0, .slice none 0 0, .slice none 0 0, .slice none 0 0, .bool false]) rfl (by decide +kernel) rfl rfl (zav (pv := []) rfl (zae pl27 ty27 rfl (cs := [.slice none 0 0, .slice none 0 0, .slice none 0 0, .slice none 0 0, .bool false]) rfl)) (zau rfl) <| d_m (i := 1) (v := .bool (zbh mcZ)) (fun _ => True) (fun _ ho => trivial) rfl (by decide +kernel) (by decide +kernel) (by decide +kernel) rfl rfl (fun wq => (zbg (args := [.agg #[.slice none 0 0, .slice none 0 0, .slice none 0 0, .slice none 0 0, .bool false]]) ca12 rfl rfl)) (fun wq hq => (zc7 wq mcZ none 0 (by simp [maxLen]) (zca _ _) none 0 (by simp [maxLen]) (zca _ _) none 0 (by simp [maxLen]) (zca _ _) none 0 (by simp [maxLen]) (zca _ _)).mono fun e w2 he => by obtain ⟨_, rfl, _, T, rfl⟩ := he; exact ⟨rfl, Chg.of_below T.below⟩) (zau rfl) <| qd0 (i := 2) (v := .bool (zbh mcZ)) rfl (by decide +kernel) rfl rfl (zah rfl) (zau rfl) <| qd1 0 (i := 3) (v := .agg #[j340_v326, .slice none 0 0, j340_v330, j340_v334, .bool false]) rfl rfl (by decide +kernel) (wo 2 150 rfl rfl (congrArg Value.bool hc351) rfl) rfl (fun wq hq => (zan (seg := [j340_v326, .slice none 0 0, j340_v330, j340_v334, .bool false]) ty27 rfl (by simp) rj340_14 hq)) (of_eq hf355 (of_nil _ _)) <| za0 (i := 4) (by decide +kernel) ?_
   intro wd356 gd356
   have S357 := S354.keep gd356
   have hf358 := spUp gd356 hf355
   obtain ⟨A359, c359, ev359, lc359, cm359⟩ := S357.row_val (j := 1) rfl
   obtain ⟨A360, c360, ev360, lc360, cm360⟩ := S357.row_val (j := 2) rfl
   obtain ⟨A361, c361, ev361, lc361, cm361⟩ := S357.row_val (j := 3) rfl
   refine d_c rfl (wo 2 150 rfl rfl (congrArg Value.bool hc351) rfl) rfl (zbg (args := [.agg #[.slice A359 (List.replicate ((250 : Int)).toNat (⟨0, 0⟩ : Spot)).length c359, .slice none 0 0, .slice A360 (List.replicate ((250 : Int)).toNat ([] : List Int)).length c360, .slice A361 (List.replicate ((250 : Int)).toNat false).length c361, .bool false]]) ca12 rfl (zbr (Eq.trans (b := .agg #[j340_v326, .slice none 0 0, j340_v330, j340_v334, .bool false]) rfl (by rw [ev359, ev360, ev361])) rfl)) (zc7 wd356 mcY A359 c359 (And.intro lc359 cm359) (zay S357 (j := 1) rfl ev359) none 0 (by simp [maxLen]) (zca _ _) A360 c360 (And.intro lc360 cm360) (zay S357 (j := 2) rfl ev360) A361 c361 (And.intro lc361 cm361) (zay S357 (j := 3) rfl ev361)) ?_
   rintro _ w362 ⟨h362, T362, rfl⟩
   have S363 := S357.keep (Chg.of_below T362.below)
   have hf364 := spUp (Chg.of_below T362.below) hf358
   refine ⟨.inl (Chg.of_below T362.below), ?_⟩
   have hc365 : (zbh mcY) = true := by
    decide +kernel
   have hc367 : (runM mcZ (⟨#[]⟩ : ByteArray)) = false := by
    decide +kernel
   have lb368 := S363.row_le (j := 0) rfl; simp only [maxLen] at lb368
   have hc369 : (((setsM mcS).length : Int) = 2) := by
    exact hss_
   obtain ⟨ad370, a370, at370⟩ := zbo (q := (0 : Int)) (m := 4) S363 (j := 0) rfl rfl (by first|omega|(simp;omega)|assumption) (by first|omega|(simp;omega)|assumption)
   obtain ⟨seg371, rp371, cf371⟩ := zc2 (q := (0 : Int)) S363 (j := 0) rfl rfl at370 (by first|omega|(simp;omega)|assumption) (by first|omega|(simp;omega)|assumption)
   obtain ⟨rfl, ok371⟩ := rp371
   have hf372 : (CFs ad370 (za8 (at_ (setsM mcS) (0 : Int)))).1 w362 := cf371
   refine raMo (hkC 19 hf372 (hkN (w := w362))) <| qd0 (i := 5) (v := .bool (zbh mcY)) rfl (by decide +kernel) rfl rfl (zbz (congrArg Value.bool hc351) rfl) (zau rfl) <| qd0 (i := 6) (v := .bool (zbh mcY)) rfl (by decide +kernel) rfl rfl (zah rfl) (zau rfl) <| qd0 (i := 7) (v := .agg #[.slice none 0 0, .slice none 0 0, .slice none 0 0, .slice none 0 0, .bool false]) rfl (by decide +kernel) (wo 6 154 rfl rfl (congrArg Value.bool hc365) rfl) rfl (zav (pv := []) rfl (zae pl27 ty27 rfl (cs := [.slice none 0 0, .slice none 0 0, .slice none 0 0, .slice none 0 0, .bool false]) rfl)) (zau rfl) <| d_m (i := 8) (v := .bool (runM mcZ (⟨#[]⟩ : ByteArray))) (fun _ => True) (fun _ ho => trivial) rfl (by decide +kernel) (by decide +kernel) (by decide +kernel) (wo 6 154 rfl rfl (congrArg Value.bool hc365) rfl) rfl (fun wq => (zbg (args := [.agg #[.slice none 0 0, .slice none 0 0, .slice none 0 0, .slice none 0 0, .bool false], .string (⟨#[]⟩ : ByteArray)]) ca11 rfl rfl)) (fun wq hq => (runN_calls wq mcZ none 0 (by simp [maxLen]) (zca _ _) none 0 (by simp [maxLen]) (zca _ _) none 0 (by simp [maxLen]) (zca _ _) none 0 (by simp [maxLen]) (zca _ _) (⟨#[]⟩ : ByteArray) (by decide)).mono fun e w2 he => by obtain ⟨_, rfl, _, T, rfl⟩ := he; exact ⟨rfl, Chg.of_below T.below⟩) (zau rfl) <| qd0 (i := 9) (v := .bool (!(runM mcZ (⟨#[]⟩ : ByteArray)))) rfl (by decide +kernel) (wo 6 154 rfl rfl (congrArg Value.bool hc365) rfl) rfl (x_not rfl) (zau rfl) <| qd0 (i := 10) (v := .bool (!(runM mcZ (⟨#[]⟩ : ByteArray)))) rfl (by decide +kernel) rfl rfl (zbz (congrArg Value.bool hc365) rfl) (zau rfl) <| qd0 (i := 11) (v := .bool (!(runM mcZ (⟨#[]⟩ : ByteArray)))) rfl (by decide +kernel) rfl rfl (zah rfl) (zau rfl) <| qd0 (i := 12) (v := v320_0) rfl (by decide +kernel) (wo 11 159 rfl rfl (congrArg (fun z => Value.bool (!z)) hc367) rfl) rfl (zah rj340_13) (zau rfl) <| qd0 (i := 13) (v := .int .i64 ((setsM mcS).length : Int)) rfl (by decide +kernel) (wo 11 159 rfl rfl (congrArg (fun z => Value.bool (!z)) hc367) rfl) rfl (x_len_own u43 rfl (e_len_own S363 (j := 0) rfl)) (zau rfl) <| qd0 (i := 14) (v := .bool (decide (((setsM mcS).length : Int) = 2))) rfl (by decide +kernel) (wo 11 159 rfl rfl (congrArg (fun z => Value.bool (!z)) hc367) rfl) rfl (x_eql rfl rfl) (zau rfl) <| qd0 (i := 15) (v := .bool (decide (((setsM mcS).length : Int) = 2))) rfl (by decide +kernel) rfl rfl (zbz (congrArg (fun z => Value.bool (!z)) hc367) rfl) (zau rfl) ?_
   refine qd0 (i := 16) (v := .bool (decide (((setsM mcS).length : Int) = 2))) rfl (by decide +kernel) rfl rfl (zah rfl) (zau rfl) <| qd0 (i := 17) (v := v320_0) rfl (by decide +kernel) (wo 16 164 rfl rfl (bT hc369) rfl) rfl (zah rj340_13) (zau rfl) <| qd0 (i := 18) (v := .pointer (some ad370)) rfl (by decide +kernel) (wo 16 164 rfl rfl (bT hc369) rfl) rfl (zbm u43 ty36 rfl rfl a370 (by first|omega|(simp;omega)|assumption) (by first|omega|(simp;omega)|assumption)) (zau rfl) <| qd1 0 (i := 19) (v := .agg (za8 (at_ (setsM mcS) (0 : Int))).toArray) rfl rfl (by decide +kernel) (wo 16 164 rfl rfl (bT hc369) rfl) rfl (fun wq hq => (zan (seg := (za8 (at_ (setsM mcS) (0 : Int)))) ty36 rfl (by simp) rfl hq)) (of_eq hf372 (zau rfl)) <| za0 (i := 20) (by decide +kernel) ?_
   intro wd373 gd373
   have S374 := S363.keep gd373
   have hf375 := spUp gd373 hf372
   have hf376 := spUp gd373 hf364
   obtain ⟨v377, w377, r377, g377, T377⟩ := za7 (kd := (Kd.int .u8)) (xs := ([98] : List Int)) (len := 1) [.int .u8 98] S374 u56 ty5 rfl rfl rfl rfl rfl (zbj rfl zb4) [.int .u8 98] (zbl.single (k := (Kd.int .u8)) (h := hj340) (x := 98) (cs := [.int .u8 98]) ⟨rfl, (in_u8 (by first|omega|(simp;omega)|assumption) (by first|omega|(simp;omega)|assumption))⟩) rfl
   have S378 := T377
   dsimp only [lAa, lAn, lA0, lAs] at S378
   have hf379 := spUp g377 hf375
   have hf380 := spUp g377 hf376
   refine d_v (v := v377) rfl (wo 16 164 rfl rfl (bT hc369) rfl) rfl (zaw (pv := [(0, .int .u8 98)]) rfl r377) (.inl g377) <| za0 (i := 21) (by decide +kernel) ?_
   intro wd381 gd381
   have S382 := S378.keep gd381
   have hf383 := spUp gd381 hf379
   have hf384 := spUp gd381 hf380
   obtain ⟨A385, c385, ev385, lc385, cm385⟩ := S382.row_val (j := 5) rfl
   refine d_c rfl (wo 16 164 rfl rfl (bT hc369) rfl) rfl (zbg (args := [.slice A385 ([98] : List Int).length c385]) ca14 rfl (zbr ev385 rfl)) (of_calls wd381 ([98] : List Int) A385 c385 (And.intro lc385 cm385) (zay S382 (j := 5) rfl ev385)) ?_
   rintro _ w386 ⟨h386, T386, rfl⟩
   have S387 := S382.keep (Chg.of_below T386.below)
   have hf388 := spUp (Chg.of_below T386.below) hf383
   have hf389 := spUp (Chg.of_below T386.below) hf384
   refine ⟨.inl (Chg.of_below T386.below), ?_⟩
   have hc390 : ((at_ (setsM mcS) (0 : Int)) = (zbb ([98] : List Int))) := by
    decide +kernel
   obtain ⟨ad391, a391, at391⟩ := zbo (q := (1 : Int)) (m := 4) S387 (j := 0) rfl rfl (by first|omega|(simp;omega)|assumption) (by first|omega|(simp;omega)|assumption)
   obtain ⟨seg392, rp392, cf392⟩ := zc2 (q := (1 : Int)) S387 (j := 0) rfl rfl at391 (by first|omega|(simp;omega)|assumption) (by first|omega|(simp;omega)|assumption)
   obtain ⟨rfl, ok392⟩ := rp392
   have hf393 : (CFs ad391 (za8 (at_ (setsM mcS) (1 : Int)))).1 w386 := cf392
   refine raMo (hkC 27 hf393 (hkN (w := w386))) <| qd0 (i := 22) (v := .bool (decide ((at_ (setsM mcS) (0 : Int)) = (zbb ([98] : List Int))))) rfl (by decide +kernel) (wo 16 164 rfl rfl (bT hc369) rfl) rfl (x_eql_set u36 u34 ty34 q36 rfl rfl) (zau rfl) <| qd0 (i := 23) (v := .bool (decide ((at_ (setsM mcS) (0 : Int)) = (zbb ([98] : List Int))))) rfl (by decide +kernel) rfl rfl (zbz (bT hc369) rfl) (zau rfl) <| qd0 (i := 24) (v := .bool (decide ((at_ (setsM mcS) (0 : Int)) = (zbb ([98] : List Int))))) rfl (by decide +kernel) rfl rfl (zah rfl) (zau rfl) <| qd0 (i := 25) (v := v320_0) rfl (by decide +kernel) (wo 24 172 rfl rfl (bT hc390) rfl) rfl (zah rj340_13) (zau rfl) <| qd0 (i := 26) (v := .pointer (some ad391)) rfl (by decide +kernel) (wo 24 172 rfl rfl (bT hc390) rfl) rfl (zbm u43 ty36 rfl rfl a391 (by first|omega|(simp;omega)|assumption) (by first|omega|(simp;omega)|assumption)) (zau rfl) <| qd1 0 (i := 27) (v := .agg (za8 (at_ (setsM mcS) (1 : Int))).toArray) rfl rfl (by decide +kernel) (wo 24 172 rfl rfl (bT hc390) rfl) rfl (fun wq hq => (zan (seg := (za8 (at_ (setsM mcS) (1 : Int)))) ty36 rfl (by simp) rfl hq)) (of_eq hf393 (zau rfl)) <| za0 (i := 28) (by decide +kernel) ?_
   intro wd394 gd394
   have S395 := S387.keep gd394
   have hf396 := spUp gd394 hf393
   have hf397 := spUp gd394 hf388
   have hf398 := spUp gd394 hf389
   obtain ⟨v399, w399, r399, g399, T399⟩ := za7 (kd := (Kd.int .u8)) (xs := ([97] : List Int)) (len := 1) [.int .u8 97] S395 u56 ty5 rfl rfl rfl rfl rfl (zbj rfl zb4) [.int .u8 97] (zbl.single (k := (Kd.int .u8)) (h := hj340) (x := 97) (cs := [.int .u8 97]) ⟨rfl, (in_u8 (by first|omega|(simp;omega)|assumption) (by first|omega|(simp;omega)|assumption))⟩) rfl
   have S400 := T399
   dsimp only [lAa, lAn, lA0, lAs] at S400
   have hf401 := spUp g399 hf396
   have hf402 := spUp g399 hf397
   have hf403 := spUp g399 hf398
   refine d_v (v := v399) rfl (wo 24 172 rfl rfl (bT hc390) rfl) rfl (zaw (pv := [(0, .int .u8 97)]) rfl r399) (.inl g399) <| za0 (i := 29) (by decide +kernel) ?_
   intro wd404 gd404
   have S405 := S400.keep gd404
   have hf406 := spUp gd404 hf401
   have hf407 := spUp gd404 hf402
   have hf408 := spUp gd404 hf403
   obtain ⟨A409, c409, ev409, lc409, cm409⟩ := S405.row_val (j := 6) rfl
   refine d_c rfl (wo 24 172 rfl rfl (bT hc390) rfl) rfl (zbg (args := [.slice A409 ([97] : List Int).length c409]) ca14 rfl (zbr ev409 rfl)) (of_calls wd404 ([97] : List Int) A409 c409 (And.intro lc409 cm409) (zay S405 (j := 6) rfl ev409)) ?_
   rintro _ w410 ⟨h410, T410, rfl⟩
   have S411 := S405.keep (Chg.of_below T410.below)
   have hf412 := spUp (Chg.of_below T410.below) hf406
   have hf413 := spUp (Chg.of_below T410.below) hf407
   have hf414 := spUp (Chg.of_below T410.below) hf408
   refine ⟨.inl (Chg.of_below T410.below), ?_⟩
   have hc415 : ((at_ (setsM mcS) (1 : Int)) = (zbb ([97] : List Int))) := by
    decide +kernel
   refine qd0 (i := 30) (v := .bool (decide ((at_ (setsM mcS) (1 : Int)) = (zbb ([97] : List Int))))) rfl (by decide +kernel) (wo 24 172 rfl rfl (bT hc390) rfl) rfl (x_eql_set u36 u34 ty34 q36 rfl rfl) (zau rfl) <| qd0 (i := 31) (v := .bool (decide ((at_ (setsM mcS) (1 : Int)) = (zbb ([97] : List Int))))) rfl (by decide +kernel) rfl rfl (zbz (bT hc390) rfl) (zau rfl) <| qd0 (i := 32) (v := .bool (decide ((at_ (setsM mcS) (1 : Int)) = (zbb ([97] : List Int))))) rfl (by decide +kernel) rfl rfl (zah rfl) (zau rfl) <| d_m (i := 33) (v := .bool true) (fun _ => True) (fun _ ho => trivial) rfl (by decide +kernel) (by decide +kernel) (by decide +kernel) (wo 32 180 rfl rfl (bT hc415) rfl) rfl (fun wq => (zbg (args := []) ca6 rfl rfl)) (fun wq hq => (awake10_calls wq ).mono fun e w2 he => by obtain ⟨_, rfl, _, T, rfl⟩ := he; exact ⟨rfl, Chg.of_below T.below⟩) (zau rfl) <| qd0 (i := 34) (v := .bool true) rfl (by decide +kernel) rfl rfl (zbz (bT hc415) rfl) (zau rfl) <| qd0 (i := 35) (v := .bool true) rfl (by decide +kernel) rfl rfl (zai rfl) (zau rfl) <| ra_done (by decide +kernel) ?_
   intro wd417 gd417
   have S418 := S411.keep gd417
   refine zbi Try.func4 (res1 rfl (zbk (v := .bool true) rfl)) ?_
   have q0 : (true : Bool) = true := rfl
   refine ⟨_, rfl, hj340, ?_, ?_⟩
   · exact S418.sub [] (by decide) rfl _ rfl
   · rfl
  refine ra_four (i := 0) (i2 := 1) (i3 := 2) (i4 := 4) (by decide +kernel) ?_ ?_ ?_ ?_
  ·skip
   intro wd420 gd420
   have S421 := S323.keep gd420
   obtain ⟨v422, w422, r422, g422, T422⟩ := zaq (kk := .i64) (kk' := .i64) (kd := zax) (q := (250 : Int)) (z := (⟨0, 0⟩ : Spot)) (zc := (zak (⟨0, 0⟩ : Spot))) S421 u22 ty38 rfl rfl ⟨rfl, by constructor <;> decide⟩ (by first|omega|(simp;omega)|assumption) (by first|omega|(simp;omega)|assumption) (by first|omega|(simp;omega)|assumption)
   have S423 := T422
   dsimp only [lAa, lAn, lA0, lAs] at S423
   refine d_v (v := v422) rfl rfl rfl (zap rfl rfl r422) (.inl g422) ?_
   refine ra_three (i := 1) (i2 := 2) (i3 := 4) (by decide +kernel) ?_ ?_ ?_
   ·skip
    intro wd424 gd424
    have S425 := S423.keep gd424
    obtain ⟨v426, w426, r426, g426, T426⟩ := zaq (kk := .i64) (kk' := .i64) (kd := (Kd.int .i64).slice) (q := (250 : Int)) (z := ([] : List Int)) (zc := [.slice none 0 0]) S425 u24 ty23 rfl rfl (zal _ _) (by first|omega|(simp;omega)|assumption) (by first|omega|(simp;omega)|assumption) (by first|omega|(simp;omega)|assumption)
    have S427 := T426
    dsimp only [lAa, lAn, lA0, lAs] at S427
    refine d_v (v := v426) rfl rfl rfl (zap rfl rfl r426) (.inl g426) ?_
    refine zcn (i := 2) (i2 := 4) (by decide +kernel) ?_ ?_
    ·skip
     intro wd428 gd428
     have S429 := S427.keep gd428
     obtain ⟨v430, w430, r430, g430, T430⟩ := zaq (kk := .i64) (kk' := .i64) (kd := Kd.bool) (q := (250 : Int)) (z := false) (zc := [.bool false]) S429 u25 ty4 rfl rfl ⟨rfl, trivial⟩ (by first|omega|(simp;omega)|assumption) (by first|omega|(simp;omega)|assumption) (by first|omega|(simp;omega)|assumption)
     have S431 := T430
     dsimp only [lAa, lAn, lA0, lAs] at S431
     refine d_v (v := v430) rfl rfl rfl (zap rfl rfl r430) (.inl g430) <| qd0 (i := 3) (v := .agg #[v422, .slice none 0 0, v426, v430, .bool false]) rfl (by decide +kernel) rfl rfl (zav (pv := [(0, v422), (2, v426), (3, v430)]) rfl (zae pl27 ty27 rfl (cs := [v422, .slice none 0 0, v426, v430, .bool false]) (zag (vc := [v422]) rfl (zac S431 (j := 6) rfl) rfl rfl (zag (vc := [v426]) rfl (zac S431 (j := 7) rfl) rfl rfl (zag (vc := [v430]) rfl (zac S431 (j := 8) rfl) rfl rfl (zar rfl)))))) (zau rfl) <| za0 (i := 4) (by decide +kernel) ?_
     intro wd432 gd432
     have S433 := S431.keep gd432
     obtain ⟨b434, w434, r434, g434, T434⟩ := zcb (P := Try.prog) S433 27 (v := (.agg #[.slice none 0 0, .slice none 0 0, .slice none 0 0, .slice none 0 0, .bool false])) [.slice none 0 0, .slice none 0 0, .slice none 0 0, .slice none 0 0, .bool false] rfl
     have S435 := T434
     dsimp only [lAa, lAn, lA0, lAs] at S435
     refine d_v (v := .pointer (some ⟨b434, 0, none⟩)) rfl rfl rfl (zbn ty27 r434) (.inl g434) ?_
     exact jn340 _ _ _ (by decide +kernel) ⟨k320, b434, v422, v426, v430, (Le.refl _), S435.sub [5, 6, 7, 8, 9] (by decide) rfl _ rfl, rfl, rfl, rfl, rfl, rfl, rfl⟩
    intro wd436 gd436
    have S437 := S427.keep gd436
    obtain ⟨b438, w438, r438, g438, T438⟩ := zcb (P := Try.prog) S437 27 (v := (.agg #[.slice none 0 0, .slice none 0 0, .slice none 0 0, .slice none 0 0, .bool false])) [.slice none 0 0, .slice none 0 0, .slice none 0 0, .slice none 0 0, .bool false] rfl
    have S439 := T438
    dsimp only [lAa, lAn, lA0, lAs] at S439
    refine d_v (v := .pointer (some ⟨b438, 0, none⟩)) rfl rfl rfl (zbn ty27 r438) (.inl g438) <| za0 (i := 2) (by decide +kernel) ?_
    intro wd440 gd440
    have S441 := S439.keep gd440
    obtain ⟨v442, w442, r442, g442, T442⟩ := zaq (kk := .i64) (kk' := .i64) (kd := Kd.bool) (q := (250 : Int)) (z := false) (zc := [.bool false]) S441 u25 ty4 rfl rfl ⟨rfl, trivial⟩ (by first|omega|(simp;omega)|assumption) (by first|omega|(simp;omega)|assumption) (by first|omega|(simp;omega)|assumption)
    have S443 := T442
    dsimp only [lAa, lAn, lA0, lAs] at S443
    refine d_v (v := v442) rfl rfl rfl (zap rfl rfl r442) (.inl g442) <| qd0 (i := 3) (v := .agg #[v422, .slice none 0 0, v426, v442, .bool false]) rfl (by decide +kernel) rfl rfl (zav (pv := [(0, v422), (2, v426), (3, v442)]) rfl (zae pl27 ty27 rfl (cs := [v422, .slice none 0 0, v426, v442, .bool false]) (zag (vc := [v422]) rfl (zac S443 (j := 6) rfl) rfl rfl (zag (vc := [v426]) rfl (zac S443 (j := 7) rfl) rfl rfl (zag (vc := [v442]) rfl (zac S443 (j := 9) rfl) rfl rfl (zar rfl)))))) (zau rfl) ?_
    exact jn340 _ _ _ (by decide +kernel) ⟨k320, b438, v422, v426, v442, (Le.refl _), S443.sub [5, 6, 7, 9, 8] (by decide) rfl _ rfl, rfl, rfl, rfl, rfl, rfl, rfl⟩
   ·skip
    intro wd444 gd444
    have S445 := S423.keep gd444
    obtain ⟨v446, w446, r446, g446, T446⟩ := zaq (kk := .i64) (kk' := .i64) (kd := Kd.bool) (q := (250 : Int)) (z := false) (zc := [.bool false]) S445 u25 ty4 rfl rfl ⟨rfl, trivial⟩ (by first|omega|(simp;omega)|assumption) (by first|omega|(simp;omega)|assumption) (by first|omega|(simp;omega)|assumption)
    have S447 := T446
    dsimp only [lAa, lAn, lA0, lAs] at S447
    refine d_v (v := v446) rfl rfl rfl (zap rfl rfl r446) (.inl g446) ?_
    refine zcn (i := 1) (i2 := 4) (by decide +kernel) ?_ ?_
    ·skip
     intro wd448 gd448
     have S449 := S447.keep gd448
     obtain ⟨v450, w450, r450, g450, T450⟩ := zaq (kk := .i64) (kk' := .i64) (kd := (Kd.int .i64).slice) (q := (250 : Int)) (z := ([] : List Int)) (zc := [.slice none 0 0]) S449 u24 ty23 rfl rfl (zal _ _) (by first|omega|(simp;omega)|assumption) (by first|omega|(simp;omega)|assumption) (by first|omega|(simp;omega)|assumption)
     have S451 := T450
     dsimp only [lAa, lAn, lA0, lAs] at S451
     refine d_v (v := v450) rfl rfl rfl (zap rfl rfl r450) (.inl g450) <| qd0 (i := 3) (v := .agg #[v422, .slice none 0 0, v450, v446, .bool false]) rfl (by decide +kernel) rfl rfl (zav (pv := [(0, v422), (2, v450), (3, v446)]) rfl (zae pl27 ty27 rfl (cs := [v422, .slice none 0 0, v450, v446, .bool false]) (zag (vc := [v422]) rfl (zac S451 (j := 6) rfl) rfl rfl (zag (vc := [v450]) rfl (zac S451 (j := 8) rfl) rfl rfl (zag (vc := [v446]) rfl (zac S451 (j := 7) rfl) rfl rfl (zar rfl)))))) (zau rfl) <| za0 (i := 4) (by decide +kernel) ?_
     intro wd452 gd452
     have S453 := S451.keep gd452
     obtain ⟨b454, w454, r454, g454, T454⟩ := zcb (P := Try.prog) S453 27 (v := (.agg #[.slice none 0 0, .slice none 0 0, .slice none 0 0, .slice none 0 0, .bool false])) [.slice none 0 0, .slice none 0 0, .slice none 0 0, .slice none 0 0, .bool false] rfl
     have S455 := T454
     dsimp only [lAa, lAn, lA0, lAs] at S455
     refine d_v (v := .pointer (some ⟨b454, 0, none⟩)) rfl rfl rfl (zbn ty27 r454) (.inl g454) ?_
     exact jn340 _ _ _ (by decide +kernel) ⟨k320, b454, v422, v450, v446, (Le.refl _), S455.sub [5, 6, 8, 7, 9] (by decide) rfl _ rfl, rfl, rfl, rfl, rfl, rfl, rfl⟩
    intro wd456 gd456
    have S457 := S447.keep gd456
    obtain ⟨b458, w458, r458, g458, T458⟩ := zcb (P := Try.prog) S457 27 (v := (.agg #[.slice none 0 0, .slice none 0 0, .slice none 0 0, .slice none 0 0, .bool false])) [.slice none 0 0, .slice none 0 0, .slice none 0 0, .slice none 0 0, .bool false] rfl
    have S459 := T458
    dsimp only [lAa, lAn, lA0, lAs] at S459
    refine d_v (v := .pointer (some ⟨b458, 0, none⟩)) rfl rfl rfl (zbn ty27 r458) (.inl g458) <| za0 (i := 1) (by decide +kernel) ?_
    intro wd460 gd460
    have S461 := S459.keep gd460
    obtain ⟨v462, w462, r462, g462, T462⟩ := zaq (kk := .i64) (kk' := .i64) (kd := (Kd.int .i64).slice) (q := (250 : Int)) (z := ([] : List Int)) (zc := [.slice none 0 0]) S461 u24 ty23 rfl rfl (zal _ _) (by first|omega|(simp;omega)|assumption) (by first|omega|(simp;omega)|assumption) (by first|omega|(simp;omega)|assumption)
    have S463 := T462
    dsimp only [lAa, lAn, lA0, lAs] at S463
    refine d_v (v := v462) rfl rfl rfl (zap rfl rfl r462) (.inl g462) <| qd0 (i := 3) (v := .agg #[v422, .slice none 0 0, v462, v446, .bool false]) rfl (by decide +kernel) rfl rfl (zav (pv := [(0, v422), (2, v462), (3, v446)]) rfl (zae pl27 ty27 rfl (cs := [v422, .slice none 0 0, v462, v446, .bool false]) (zag (vc := [v422]) rfl (zac S463 (j := 6) rfl) rfl rfl (zag (vc := [v462]) rfl (zac S463 (j := 9) rfl) rfl rfl (zag (vc := [v446]) rfl (zac S463 (j := 7) rfl) rfl rfl (zar rfl)))))) (zau rfl) ?_
    exact jn340 _ _ _ (by decide +kernel) ⟨k320, b458, v422, v462, v446, (Le.refl _), S463.sub [5, 6, 9, 7, 8] (by decide) rfl _ rfl, rfl, rfl, rfl, rfl, rfl, rfl⟩
   intro wd464 gd464
   have S465 := S423.keep gd464
   obtain ⟨b466, w466, r466, g466, T466⟩ := zcb (P := Try.prog) S465 27 (v := (.agg #[.slice none 0 0, .slice none 0 0, .slice none 0 0, .slice none 0 0, .bool false])) [.slice none 0 0, .slice none 0 0, .slice none 0 0, .slice none 0 0, .bool false] rfl
   have S467 := T466
   dsimp only [lAa, lAn, lA0, lAs] at S467
   refine d_v (v := .pointer (some ⟨b466, 0, none⟩)) rfl rfl rfl (zbn ty27 r466) (.inl g466) ?_
   refine zcn (i := 1) (i2 := 2) (by decide +kernel) ?_ ?_
   ·skip
    intro wd468 gd468
    have S469 := S467.keep gd468
    obtain ⟨v470, w470, r470, g470, T470⟩ := zaq (kk := .i64) (kk' := .i64) (kd := (Kd.int .i64).slice) (q := (250 : Int)) (z := ([] : List Int)) (zc := [.slice none 0 0]) S469 u24 ty23 rfl rfl (zal _ _) (by first|omega|(simp;omega)|assumption) (by first|omega|(simp;omega)|assumption) (by first|omega|(simp;omega)|assumption)
    have S471 := T470
    dsimp only [lAa, lAn, lA0, lAs] at S471
    refine d_v (v := v470) rfl rfl rfl (zap rfl rfl r470) (.inl g470) <| za0 (i := 2) (by decide +kernel) ?_
    intro wd472 gd472
    have S473 := S471.keep gd472
    obtain ⟨v474, w474, r474, g474, T474⟩ := zaq (kk := .i64) (kk' := .i64) (kd := Kd.bool) (q := (250 : Int)) (z := false) (zc := [.bool false]) S473 u25 ty4 rfl rfl ⟨rfl, trivial⟩ (by first|omega|(simp;omega)|assumption) (by first|omega|(simp;omega)|assumption) (by first|omega|(simp;omega)|assumption)
    have S475 := T474
    dsimp only [lAa, lAn, lA0, lAs] at S475
    refine d_v (v := v474) rfl rfl rfl (zap rfl rfl r474) (.inl g474) <| qd0 (i := 3) (v := .agg #[v422, .slice none 0 0, v470, v474, .bool false]) rfl (by decide +kernel) rfl rfl (zav (pv := [(0, v422), (2, v470), (3, v474)]) rfl (zae pl27 ty27 rfl (cs := [v422, .slice none 0 0, v470, v474, .bool false]) (zag (vc := [v422]) rfl (zac S475 (j := 6) rfl) rfl rfl (zag (vc := [v470]) rfl (zac S475 (j := 8) rfl) rfl rfl (zag (vc := [v474]) rfl (zac S475 (j := 9) rfl) rfl rfl (zar rfl)))))) (zau rfl) ?_
    exact jn340 _ _ _ (by decide +kernel) ⟨k320, b466, v422, v470, v474, (Le.refl _), S475.sub [5, 6, 8, 9, 7] (by decide) rfl _ rfl, rfl, rfl, rfl, rfl, rfl, rfl⟩
   intro wd476 gd476
   have S477 := S467.keep gd476
   obtain ⟨v478, w478, r478, g478, T478⟩ := zaq (kk := .i64) (kk' := .i64) (kd := Kd.bool) (q := (250 : Int)) (z := false) (zc := [.bool false]) S477 u25 ty4 rfl rfl ⟨rfl, trivial⟩ (by first|omega|(simp;omega)|assumption) (by first|omega|(simp;omega)|assumption) (by first|omega|(simp;omega)|assumption)
   have S479 := T478
   dsimp only [lAa, lAn, lA0, lAs] at S479
   refine d_v (v := v478) rfl rfl rfl (zap rfl rfl r478) (.inl g478) <| za0 (i := 1) (by decide +kernel) ?_
   intro wd480 gd480
   have S481 := S479.keep gd480
   obtain ⟨v482, w482, r482, g482, T482⟩ := zaq (kk := .i64) (kk' := .i64) (kd := (Kd.int .i64).slice) (q := (250 : Int)) (z := ([] : List Int)) (zc := [.slice none 0 0]) S481 u24 ty23 rfl rfl (zal _ _) (by first|omega|(simp;omega)|assumption) (by first|omega|(simp;omega)|assumption) (by first|omega|(simp;omega)|assumption)
   have S483 := T482
   dsimp only [lAa, lAn, lA0, lAs] at S483
   refine d_v (v := v482) rfl rfl rfl (zap rfl rfl r482) (.inl g482) <| qd0 (i := 3) (v := .agg #[v422, .slice none 0 0, v482, v478, .bool false]) rfl (by decide +kernel) rfl rfl (zav (pv := [(0, v422), (2, v482), (3, v478)]) rfl (zae pl27 ty27 rfl (cs := [v422, .slice none 0 0, v482, v478, .bool false]) (zag (vc := [v422]) rfl (zac S483 (j := 6) rfl) rfl rfl (zag (vc := [v482]) rfl (zac S483 (j := 9) rfl) rfl rfl (zag (vc := [v478]) rfl (zac S483 (j := 8) rfl) rfl rfl (zar rfl)))))) (zau rfl) ?_
   exact jn340 _ _ _ (by decide +kernel) ⟨k320, b466, v422, v482, v478, (Le.refl _), S483.sub [5, 6, 9, 8, 7] (by decide) rfl _ rfl, rfl, rfl, rfl, rfl, rfl, rfl⟩
  ·skip
   intro wd484 gd484
   have S485 := S323.keep gd484
   obtain ⟨v486, w486, r486, g486, T486⟩ := zaq (kk := .i64) (kk' := .i64) (kd := (Kd.int .i64).slice) (q := (250 : Int)) (z := ([] : List Int)) (zc := [.slice none 0 0]) S485 u24 ty23 rfl rfl (zal _ _) (by first|omega|(simp;omega)|assumption) (by first|omega|(simp;omega)|assumption) (by first|omega|(simp;omega)|assumption)
   have S487 := T486
   dsimp only [lAa, lAn, lA0, lAs] at S487
   refine d_v (v := v486) rfl rfl rfl (zap rfl rfl r486) (.inl g486) ?_
   refine ra_three (i := 0) (i2 := 2) (i3 := 4) (by decide +kernel) ?_ ?_ ?_
   ·skip
    intro wd488 gd488
    have S489 := S487.keep gd488
    obtain ⟨v490, w490, r490, g490, T490⟩ := zaq (kk := .i64) (kk' := .i64) (kd := zax) (q := (250 : Int)) (z := (⟨0, 0⟩ : Spot)) (zc := (zak (⟨0, 0⟩ : Spot))) S489 u22 ty38 rfl rfl ⟨rfl, by constructor <;> decide⟩ (by first|omega|(simp;omega)|assumption) (by first|omega|(simp;omega)|assumption) (by first|omega|(simp;omega)|assumption)
    have S491 := T490
    dsimp only [lAa, lAn, lA0, lAs] at S491
    refine d_v (v := v490) rfl rfl rfl (zap rfl rfl r490) (.inl g490) ?_
    refine zcn (i := 2) (i2 := 4) (by decide +kernel) ?_ ?_
    ·skip
     intro wd492 gd492
     have S493 := S491.keep gd492
     obtain ⟨v494, w494, r494, g494, T494⟩ := zaq (kk := .i64) (kk' := .i64) (kd := Kd.bool) (q := (250 : Int)) (z := false) (zc := [.bool false]) S493 u25 ty4 rfl rfl ⟨rfl, trivial⟩ (by first|omega|(simp;omega)|assumption) (by first|omega|(simp;omega)|assumption) (by first|omega|(simp;omega)|assumption)
     have S495 := T494
     dsimp only [lAa, lAn, lA0, lAs] at S495
     refine d_v (v := v494) rfl rfl rfl (zap rfl rfl r494) (.inl g494) <| qd0 (i := 3) (v := .agg #[v490, .slice none 0 0, v486, v494, .bool false]) rfl (by decide +kernel) rfl rfl (zav (pv := [(0, v490), (2, v486), (3, v494)]) rfl (zae pl27 ty27 rfl (cs := [v490, .slice none 0 0, v486, v494, .bool false]) (zag (vc := [v490]) rfl (zac S495 (j := 7) rfl) rfl rfl (zag (vc := [v486]) rfl (zac S495 (j := 6) rfl) rfl rfl (zag (vc := [v494]) rfl (zac S495 (j := 8) rfl) rfl rfl (zar rfl)))))) (zau rfl) <| za0 (i := 4) (by decide +kernel) ?_
     intro wd496 gd496
     have S497 := S495.keep gd496
     obtain ⟨b498, w498, r498, g498, T498⟩ := zcb (P := Try.prog) S497 27 (v := (.agg #[.slice none 0 0, .slice none 0 0, .slice none 0 0, .slice none 0 0, .bool false])) [.slice none 0 0, .slice none 0 0, .slice none 0 0, .slice none 0 0, .bool false] rfl
     have S499 := T498
     dsimp only [lAa, lAn, lA0, lAs] at S499
     refine d_v (v := .pointer (some ⟨b498, 0, none⟩)) rfl rfl rfl (zbn ty27 r498) (.inl g498) ?_
     exact jn340 _ _ _ (by decide +kernel) ⟨k320, b498, v490, v486, v494, (Le.refl _), S499.sub [5, 7, 6, 8, 9] (by decide) rfl _ rfl, rfl, rfl, rfl, rfl, rfl, rfl⟩
    intro wd500 gd500
    have S501 := S491.keep gd500
    obtain ⟨b502, w502, r502, g502, T502⟩ := zcb (P := Try.prog) S501 27 (v := (.agg #[.slice none 0 0, .slice none 0 0, .slice none 0 0, .slice none 0 0, .bool false])) [.slice none 0 0, .slice none 0 0, .slice none 0 0, .slice none 0 0, .bool false] rfl
    have S503 := T502
    dsimp only [lAa, lAn, lA0, lAs] at S503
    refine d_v (v := .pointer (some ⟨b502, 0, none⟩)) rfl rfl rfl (zbn ty27 r502) (.inl g502) <| za0 (i := 2) (by decide +kernel) ?_
    intro wd504 gd504
    have S505 := S503.keep gd504
    obtain ⟨v506, w506, r506, g506, T506⟩ := zaq (kk := .i64) (kk' := .i64) (kd := Kd.bool) (q := (250 : Int)) (z := false) (zc := [.bool false]) S505 u25 ty4 rfl rfl ⟨rfl, trivial⟩ (by first|omega|(simp;omega)|assumption) (by first|omega|(simp;omega)|assumption) (by first|omega|(simp;omega)|assumption)
    have S507 := T506
    dsimp only [lAa, lAn, lA0, lAs] at S507
    refine d_v (v := v506) rfl rfl rfl (zap rfl rfl r506) (.inl g506) <| qd0 (i := 3) (v := .agg #[v490, .slice none 0 0, v486, v506, .bool false]) rfl (by decide +kernel) rfl rfl (zav (pv := [(0, v490), (2, v486), (3, v506)]) rfl (zae pl27 ty27 rfl (cs := [v490, .slice none 0 0, v486, v506, .bool false]) (zag (vc := [v490]) rfl (zac S507 (j := 7) rfl) rfl rfl (zag (vc := [v486]) rfl (zac S507 (j := 6) rfl) rfl rfl (zag (vc := [v506]) rfl (zac S507 (j := 9) rfl) rfl rfl (zar rfl)))))) (zau rfl) ?_
    exact jn340 _ _ _ (by decide +kernel) ⟨k320, b502, v490, v486, v506, (Le.refl _), S507.sub [5, 7, 6, 9, 8] (by decide) rfl _ rfl, rfl, rfl, rfl, rfl, rfl, rfl⟩
   ·skip
    intro wd508 gd508
    have S509 := S487.keep gd508
    obtain ⟨v510, w510, r510, g510, T510⟩ := zaq (kk := .i64) (kk' := .i64) (kd := Kd.bool) (q := (250 : Int)) (z := false) (zc := [.bool false]) S509 u25 ty4 rfl rfl ⟨rfl, trivial⟩ (by first|omega|(simp;omega)|assumption) (by first|omega|(simp;omega)|assumption) (by first|omega|(simp;omega)|assumption)
    have S511 := T510
    dsimp only [lAa, lAn, lA0, lAs] at S511
    refine d_v (v := v510) rfl rfl rfl (zap rfl rfl r510) (.inl g510) ?_
    refine zcn (i := 0) (i2 := 4) (by decide +kernel) ?_ ?_
    ·skip
     intro wd512 gd512
     have S513 := S511.keep gd512
     obtain ⟨v514, w514, r514, g514, T514⟩ := zaq (kk := .i64) (kk' := .i64) (kd := zax) (q := (250 : Int)) (z := (⟨0, 0⟩ : Spot)) (zc := (zak (⟨0, 0⟩ : Spot))) S513 u22 ty38 rfl rfl ⟨rfl, by constructor <;> decide⟩ (by first|omega|(simp;omega)|assumption) (by first|omega|(simp;omega)|assumption) (by first|omega|(simp;omega)|assumption)
     have S515 := T514
     dsimp only [lAa, lAn, lA0, lAs] at S515
     refine d_v (v := v514) rfl rfl rfl (zap rfl rfl r514) (.inl g514) <| qd0 (i := 3) (v := .agg #[v514, .slice none 0 0, v486, v510, .bool false]) rfl (by decide +kernel) rfl rfl (zav (pv := [(0, v514), (2, v486), (3, v510)]) rfl (zae pl27 ty27 rfl (cs := [v514, .slice none 0 0, v486, v510, .bool false]) (zag (vc := [v514]) rfl (zac S515 (j := 8) rfl) rfl rfl (zag (vc := [v486]) rfl (zac S515 (j := 6) rfl) rfl rfl (zag (vc := [v510]) rfl (zac S515 (j := 7) rfl) rfl rfl (zar rfl)))))) (zau rfl) <| za0 (i := 4) (by decide +kernel) ?_
     intro wd516 gd516
     have S517 := S515.keep gd516
     obtain ⟨b518, w518, r518, g518, T518⟩ := zcb (P := Try.prog) S517 27 (v := (.agg #[.slice none 0 0, .slice none 0 0, .slice none 0 0, .slice none 0 0, .bool false])) [.slice none 0 0, .slice none 0 0, .slice none 0 0, .slice none 0 0, .bool false] rfl
     have S519 := T518
     dsimp only [lAa, lAn, lA0, lAs] at S519
     refine d_v (v := .pointer (some ⟨b518, 0, none⟩)) rfl rfl rfl (zbn ty27 r518) (.inl g518) ?_
     exact jn340 _ _ _ (by decide +kernel) ⟨k320, b518, v514, v486, v510, (Le.refl _), S519.sub [5, 8, 6, 7, 9] (by decide) rfl _ rfl, rfl, rfl, rfl, rfl, rfl, rfl⟩
    intro wd520 gd520
    have S521 := S511.keep gd520
    obtain ⟨b522, w522, r522, g522, T522⟩ := zcb (P := Try.prog) S521 27 (v := (.agg #[.slice none 0 0, .slice none 0 0, .slice none 0 0, .slice none 0 0, .bool false])) [.slice none 0 0, .slice none 0 0, .slice none 0 0, .slice none 0 0, .bool false] rfl
    have S523 := T522
    dsimp only [lAa, lAn, lA0, lAs] at S523
    refine d_v (v := .pointer (some ⟨b522, 0, none⟩)) rfl rfl rfl (zbn ty27 r522) (.inl g522) <| za0 (i := 0) (by decide +kernel) ?_
    intro wd524 gd524
    have S525 := S523.keep gd524
    obtain ⟨v526, w526, r526, g526, T526⟩ := zaq (kk := .i64) (kk' := .i64) (kd := zax) (q := (250 : Int)) (z := (⟨0, 0⟩ : Spot)) (zc := (zak (⟨0, 0⟩ : Spot))) S525 u22 ty38 rfl rfl ⟨rfl, by constructor <;> decide⟩ (by first|omega|(simp;omega)|assumption) (by first|omega|(simp;omega)|assumption) (by first|omega|(simp;omega)|assumption)
    have S527 := T526
    dsimp only [lAa, lAn, lA0, lAs] at S527
    refine d_v (v := v526) rfl rfl rfl (zap rfl rfl r526) (.inl g526) <| qd0 (i := 3) (v := .agg #[v526, .slice none 0 0, v486, v510, .bool false]) rfl (by decide +kernel) rfl rfl (zav (pv := [(0, v526), (2, v486), (3, v510)]) rfl (zae pl27 ty27 rfl (cs := [v526, .slice none 0 0, v486, v510, .bool false]) (zag (vc := [v526]) rfl (zac S527 (j := 9) rfl) rfl rfl (zag (vc := [v486]) rfl (zac S527 (j := 6) rfl) rfl rfl (zag (vc := [v510]) rfl (zac S527 (j := 7) rfl) rfl rfl (zar rfl)))))) (zau rfl) ?_
    exact jn340 _ _ _ (by decide +kernel) ⟨k320, b522, v526, v486, v510, (Le.refl _), S527.sub [5, 9, 6, 7, 8] (by decide) rfl _ rfl, rfl, rfl, rfl, rfl, rfl, rfl⟩
   intro wd528 gd528
   have S529 := S487.keep gd528
   obtain ⟨b530, w530, r530, g530, T530⟩ := zcb (P := Try.prog) S529 27 (v := (.agg #[.slice none 0 0, .slice none 0 0, .slice none 0 0, .slice none 0 0, .bool false])) [.slice none 0 0, .slice none 0 0, .slice none 0 0, .slice none 0 0, .bool false] rfl
   have S531 := T530
   dsimp only [lAa, lAn, lA0, lAs] at S531
   refine d_v (v := .pointer (some ⟨b530, 0, none⟩)) rfl rfl rfl (zbn ty27 r530) (.inl g530) ?_
   refine zcn (i := 0) (i2 := 2) (by decide +kernel) ?_ ?_
   ·skip
    intro wd532 gd532
    have S533 := S531.keep gd532
    obtain ⟨v534, w534, r534, g534, T534⟩ := zaq (kk := .i64) (kk' := .i64) (kd := zax) (q := (250 : Int)) (z := (⟨0, 0⟩ : Spot)) (zc := (zak (⟨0, 0⟩ : Spot))) S533 u22 ty38 rfl rfl ⟨rfl, by constructor <;> decide⟩ (by first|omega|(simp;omega)|assumption) (by first|omega|(simp;omega)|assumption) (by first|omega|(simp;omega)|assumption)
    have S535 := T534
    dsimp only [lAa, lAn, lA0, lAs] at S535
    refine d_v (v := v534) rfl rfl rfl (zap rfl rfl r534) (.inl g534) <| za0 (i := 2) (by decide +kernel) ?_
    intro wd536 gd536
    have S537 := S535.keep gd536
    obtain ⟨v538, w538, r538, g538, T538⟩ := zaq (kk := .i64) (kk' := .i64) (kd := Kd.bool) (q := (250 : Int)) (z := false) (zc := [.bool false]) S537 u25 ty4 rfl rfl ⟨rfl, trivial⟩ (by first|omega|(simp;omega)|assumption) (by first|omega|(simp;omega)|assumption) (by first|omega|(simp;omega)|assumption)
    have S539 := T538
    dsimp only [lAa, lAn, lA0, lAs] at S539
    refine d_v (v := v538) rfl rfl rfl (zap rfl rfl r538) (.inl g538) <| qd0 (i := 3) (v := .agg #[v534, .slice none 0 0, v486, v538, .bool false]) rfl (by decide +kernel) rfl rfl (zav (pv := [(0, v534), (2, v486), (3, v538)]) rfl (zae pl27 ty27 rfl (cs := [v534, .slice none 0 0, v486, v538, .bool false]) (zag (vc := [v534]) rfl (zac S539 (j := 8) rfl) rfl rfl (zag (vc := [v486]) rfl (zac S539 (j := 6) rfl) rfl rfl (zag (vc := [v538]) rfl (zac S539 (j := 9) rfl) rfl rfl (zar rfl)))))) (zau rfl) ?_
    exact jn340 _ _ _ (by decide +kernel) ⟨k320, b530, v534, v486, v538, (Le.refl _), S539.sub [5, 8, 6, 9, 7] (by decide) rfl _ rfl, rfl, rfl, rfl, rfl, rfl, rfl⟩
   intro wd540 gd540
   have S541 := S531.keep gd540
   obtain ⟨v542, w542, r542, g542, T542⟩ := zaq (kk := .i64) (kk' := .i64) (kd := Kd.bool) (q := (250 : Int)) (z := false) (zc := [.bool false]) S541 u25 ty4 rfl rfl ⟨rfl, trivial⟩ (by first|omega|(simp;omega)|assumption) (by first|omega|(simp;omega)|assumption) (by first|omega|(simp;omega)|assumption)
   have S543 := T542
   dsimp only [lAa, lAn, lA0, lAs] at S543
   refine d_v (v := v542) rfl rfl rfl (zap rfl rfl r542) (.inl g542) <| za0 (i := 0) (by decide +kernel) ?_
   intro wd544 gd544
   have S545 := S543.keep gd544
   obtain ⟨v546, w546, r546, g546, T546⟩ := zaq (kk := .i64) (kk' := .i64) (kd := zax) (q := (250 : Int)) (z := (⟨0, 0⟩ : Spot)) (zc := (zak (⟨0, 0⟩ : Spot))) S545 u22 ty38 rfl rfl ⟨rfl, by constructor <;> decide⟩ (by first|omega|(simp;omega)|assumption) (by first|omega|(simp;omega)|assumption) (by first|omega|(simp;omega)|assumption)
   have S547 := T546
   dsimp only [lAa, lAn, lA0, lAs] at S547
   refine d_v (v := v546) rfl rfl rfl (zap rfl rfl r546) (.inl g546) <| qd0 (i := 3) (v := .agg #[v546, .slice none 0 0, v486, v542, .bool false]) rfl (by decide +kernel) rfl rfl (zav (pv := [(0, v546), (2, v486), (3, v542)]) rfl (zae pl27 ty27 rfl (cs := [v546, .slice none 0 0, v486, v542, .bool false]) (zag (vc := [v546]) rfl (zac S547 (j := 9) rfl) rfl rfl (zag (vc := [v486]) rfl (zac S547 (j := 6) rfl) rfl rfl (zag (vc := [v542]) rfl (zac S547 (j := 8) rfl) rfl rfl (zar rfl)))))) (zau rfl) ?_
   exact jn340 _ _ _ (by decide +kernel) ⟨k320, b530, v546, v486, v542, (Le.refl _), S547.sub [5, 9, 6, 8, 7] (by decide) rfl _ rfl, rfl, rfl, rfl, rfl, rfl, rfl⟩
  ·skip
   intro wd548 gd548
   have S549 := S323.keep gd548
   obtain ⟨v550, w550, r550, g550, T550⟩ := zaq (kk := .i64) (kk' := .i64) (kd := Kd.bool) (q := (250 : Int)) (z := false) (zc := [.bool false]) S549 u25 ty4 rfl rfl ⟨rfl, trivial⟩ (by first|omega|(simp;omega)|assumption) (by first|omega|(simp;omega)|assumption) (by first|omega|(simp;omega)|assumption)
   have S551 := T550
   dsimp only [lAa, lAn, lA0, lAs] at S551
   refine d_v (v := v550) rfl rfl rfl (zap rfl rfl r550) (.inl g550) ?_
   refine ra_three (i := 0) (i2 := 1) (i3 := 4) (by decide +kernel) ?_ ?_ ?_
   ·skip
    intro wd552 gd552
    have S553 := S551.keep gd552
    obtain ⟨v554, w554, r554, g554, T554⟩ := zaq (kk := .i64) (kk' := .i64) (kd := zax) (q := (250 : Int)) (z := (⟨0, 0⟩ : Spot)) (zc := (zak (⟨0, 0⟩ : Spot))) S553 u22 ty38 rfl rfl ⟨rfl, by constructor <;> decide⟩ (by first|omega|(simp;omega)|assumption) (by first|omega|(simp;omega)|assumption) (by first|omega|(simp;omega)|assumption)
    have S555 := T554
    dsimp only [lAa, lAn, lA0, lAs] at S555
    refine d_v (v := v554) rfl rfl rfl (zap rfl rfl r554) (.inl g554) ?_
    refine zcn (i := 1) (i2 := 4) (by decide +kernel) ?_ ?_
    ·skip
     intro wd556 gd556
     have S557 := S555.keep gd556
     obtain ⟨v558, w558, r558, g558, T558⟩ := zaq (kk := .i64) (kk' := .i64) (kd := (Kd.int .i64).slice) (q := (250 : Int)) (z := ([] : List Int)) (zc := [.slice none 0 0]) S557 u24 ty23 rfl rfl (zal _ _) (by first|omega|(simp;omega)|assumption) (by first|omega|(simp;omega)|assumption) (by first|omega|(simp;omega)|assumption)
     have S559 := T558
     dsimp only [lAa, lAn, lA0, lAs] at S559
     refine d_v (v := v558) rfl rfl rfl (zap rfl rfl r558) (.inl g558) <| qd0 (i := 3) (v := .agg #[v554, .slice none 0 0, v558, v550, .bool false]) rfl (by decide +kernel) rfl rfl (zav (pv := [(0, v554), (2, v558), (3, v550)]) rfl (zae pl27 ty27 rfl (cs := [v554, .slice none 0 0, v558, v550, .bool false]) (zag (vc := [v554]) rfl (zac S559 (j := 7) rfl) rfl rfl (zag (vc := [v558]) rfl (zac S559 (j := 8) rfl) rfl rfl (zag (vc := [v550]) rfl (zac S559 (j := 6) rfl) rfl rfl (zar rfl)))))) (zau rfl) <| za0 (i := 4) (by decide +kernel) ?_
     intro wd560 gd560
     have S561 := S559.keep gd560
     obtain ⟨b562, w562, r562, g562, T562⟩ := zcb (P := Try.prog) S561 27 (v := (.agg #[.slice none 0 0, .slice none 0 0, .slice none 0 0, .slice none 0 0, .bool false])) [.slice none 0 0, .slice none 0 0, .slice none 0 0, .slice none 0 0, .bool false] rfl
     have S563 := T562
     dsimp only [lAa, lAn, lA0, lAs] at S563
     refine d_v (v := .pointer (some ⟨b562, 0, none⟩)) rfl rfl rfl (zbn ty27 r562) (.inl g562) ?_
     exact jn340 _ _ _ (by decide +kernel) ⟨k320, b562, v554, v558, v550, (Le.refl _), S563.sub [5, 7, 8, 6, 9] (by decide) rfl _ rfl, rfl, rfl, rfl, rfl, rfl, rfl⟩
    intro wd564 gd564
    have S565 := S555.keep gd564
    obtain ⟨b566, w566, r566, g566, T566⟩ := zcb (P := Try.prog) S565 27 (v := (.agg #[.slice none 0 0, .slice none 0 0, .slice none 0 0, .slice none 0 0, .bool false])) [.slice none 0 0, .slice none 0 0, .slice none 0 0, .slice none 0 0, .bool false] rfl
    have S567 := T566
    dsimp only [lAa, lAn, lA0, lAs] at S567
    refine d_v (v := .pointer (some ⟨b566, 0, none⟩)) rfl rfl rfl (zbn ty27 r566) (.inl g566) <| za0 (i := 1) (by decide +kernel) ?_
    intro wd568 gd568
    have S569 := S567.keep gd568
    obtain ⟨v570, w570, r570, g570, T570⟩ := zaq (kk := .i64) (kk' := .i64) (kd := (Kd.int .i64).slice) (q := (250 : Int)) (z := ([] : List Int)) (zc := [.slice none 0 0]) S569 u24 ty23 rfl rfl (zal _ _) (by first|omega|(simp;omega)|assumption) (by first|omega|(simp;omega)|assumption) (by first|omega|(simp;omega)|assumption)
    have S571 := T570
    dsimp only [lAa, lAn, lA0, lAs] at S571
    refine d_v (v := v570) rfl rfl rfl (zap rfl rfl r570) (.inl g570) <| qd0 (i := 3) (v := .agg #[v554, .slice none 0 0, v570, v550, .bool false]) rfl (by decide +kernel) rfl rfl (zav (pv := [(0, v554), (2, v570), (3, v550)]) rfl (zae pl27 ty27 rfl (cs := [v554, .slice none 0 0, v570, v550, .bool false]) (zag (vc := [v554]) rfl (zac S571 (j := 7) rfl) rfl rfl (zag (vc := [v570]) rfl (zac S571 (j := 9) rfl) rfl rfl (zag (vc := [v550]) rfl (zac S571 (j := 6) rfl) rfl rfl (zar rfl)))))) (zau rfl) ?_
    exact jn340 _ _ _ (by decide +kernel) ⟨k320, b566, v554, v570, v550, (Le.refl _), S571.sub [5, 7, 9, 6, 8] (by decide) rfl _ rfl, rfl, rfl, rfl, rfl, rfl, rfl⟩
   ·skip
    intro wd572 gd572
    have S573 := S551.keep gd572
    obtain ⟨v574, w574, r574, g574, T574⟩ := zaq (kk := .i64) (kk' := .i64) (kd := (Kd.int .i64).slice) (q := (250 : Int)) (z := ([] : List Int)) (zc := [.slice none 0 0]) S573 u24 ty23 rfl rfl (zal _ _) (by first|omega|(simp;omega)|assumption) (by first|omega|(simp;omega)|assumption) (by first|omega|(simp;omega)|assumption)
    have S575 := T574
    dsimp only [lAa, lAn, lA0, lAs] at S575
    refine d_v (v := v574) rfl rfl rfl (zap rfl rfl r574) (.inl g574) ?_
    refine zcn (i := 0) (i2 := 4) (by decide +kernel) ?_ ?_
    ·skip
     intro wd576 gd576
     have S577 := S575.keep gd576
     obtain ⟨v578, w578, r578, g578, T578⟩ := zaq (kk := .i64) (kk' := .i64) (kd := zax) (q := (250 : Int)) (z := (⟨0, 0⟩ : Spot)) (zc := (zak (⟨0, 0⟩ : Spot))) S577 u22 ty38 rfl rfl ⟨rfl, by constructor <;> decide⟩ (by first|omega|(simp;omega)|assumption) (by first|omega|(simp;omega)|assumption) (by first|omega|(simp;omega)|assumption)
     have S579 := T578
     dsimp only [lAa, lAn, lA0, lAs] at S579
     refine d_v (v := v578) rfl rfl rfl (zap rfl rfl r578) (.inl g578) <| qd0 (i := 3) (v := .agg #[v578, .slice none 0 0, v574, v550, .bool false]) rfl (by decide +kernel) rfl rfl (zav (pv := [(0, v578), (2, v574), (3, v550)]) rfl (zae pl27 ty27 rfl (cs := [v578, .slice none 0 0, v574, v550, .bool false]) (zag (vc := [v578]) rfl (zac S579 (j := 8) rfl) rfl rfl (zag (vc := [v574]) rfl (zac S579 (j := 7) rfl) rfl rfl (zag (vc := [v550]) rfl (zac S579 (j := 6) rfl) rfl rfl (zar rfl)))))) (zau rfl) <| za0 (i := 4) (by decide +kernel) ?_
     intro wd580 gd580
     have S581 := S579.keep gd580
     obtain ⟨b582, w582, r582, g582, T582⟩ := zcb (P := Try.prog) S581 27 (v := (.agg #[.slice none 0 0, .slice none 0 0, .slice none 0 0, .slice none 0 0, .bool false])) [.slice none 0 0, .slice none 0 0, .slice none 0 0, .slice none 0 0, .bool false] rfl
     have S583 := T582
     dsimp only [lAa, lAn, lA0, lAs] at S583
     refine d_v (v := .pointer (some ⟨b582, 0, none⟩)) rfl rfl rfl (zbn ty27 r582) (.inl g582) ?_
     exact jn340 _ _ _ (by decide +kernel) ⟨k320, b582, v578, v574, v550, (Le.refl _), S583.sub [5, 8, 7, 6, 9] (by decide) rfl _ rfl, rfl, rfl, rfl, rfl, rfl, rfl⟩
    intro wd584 gd584
    have S585 := S575.keep gd584
    obtain ⟨b586, w586, r586, g586, T586⟩ := zcb (P := Try.prog) S585 27 (v := (.agg #[.slice none 0 0, .slice none 0 0, .slice none 0 0, .slice none 0 0, .bool false])) [.slice none 0 0, .slice none 0 0, .slice none 0 0, .slice none 0 0, .bool false] rfl
    have S587 := T586
    dsimp only [lAa, lAn, lA0, lAs] at S587
    refine d_v (v := .pointer (some ⟨b586, 0, none⟩)) rfl rfl rfl (zbn ty27 r586) (.inl g586) <| za0 (i := 0) (by decide +kernel) ?_
    intro wd588 gd588
    have S589 := S587.keep gd588
    obtain ⟨v590, w590, r590, g590, T590⟩ := zaq (kk := .i64) (kk' := .i64) (kd := zax) (q := (250 : Int)) (z := (⟨0, 0⟩ : Spot)) (zc := (zak (⟨0, 0⟩ : Spot))) S589 u22 ty38 rfl rfl ⟨rfl, by constructor <;> decide⟩ (by first|omega|(simp;omega)|assumption) (by first|omega|(simp;omega)|assumption) (by first|omega|(simp;omega)|assumption)
    have S591 := T590
    dsimp only [lAa, lAn, lA0, lAs] at S591
    refine d_v (v := v590) rfl rfl rfl (zap rfl rfl r590) (.inl g590) <| qd0 (i := 3) (v := .agg #[v590, .slice none 0 0, v574, v550, .bool false]) rfl (by decide +kernel) rfl rfl (zav (pv := [(0, v590), (2, v574), (3, v550)]) rfl (zae pl27 ty27 rfl (cs := [v590, .slice none 0 0, v574, v550, .bool false]) (zag (vc := [v590]) rfl (zac S591 (j := 9) rfl) rfl rfl (zag (vc := [v574]) rfl (zac S591 (j := 7) rfl) rfl rfl (zag (vc := [v550]) rfl (zac S591 (j := 6) rfl) rfl rfl (zar rfl)))))) (zau rfl) ?_
    exact jn340 _ _ _ (by decide +kernel) ⟨k320, b586, v590, v574, v550, (Le.refl _), S591.sub [5, 9, 7, 6, 8] (by decide) rfl _ rfl, rfl, rfl, rfl, rfl, rfl, rfl⟩
   intro wd592 gd592
   have S593 := S551.keep gd592
   obtain ⟨b594, w594, r594, g594, T594⟩ := zcb (P := Try.prog) S593 27 (v := (.agg #[.slice none 0 0, .slice none 0 0, .slice none 0 0, .slice none 0 0, .bool false])) [.slice none 0 0, .slice none 0 0, .slice none 0 0, .slice none 0 0, .bool false] rfl
   have S595 := T594
   dsimp only [lAa, lAn, lA0, lAs] at S595
   refine d_v (v := .pointer (some ⟨b594, 0, none⟩)) rfl rfl rfl (zbn ty27 r594) (.inl g594) ?_
   refine zcn (i := 0) (i2 := 1) (by decide +kernel) ?_ ?_
   ·skip
    intro wd596 gd596
    have S597 := S595.keep gd596
    obtain ⟨v598, w598, r598, g598, T598⟩ := zaq (kk := .i64) (kk' := .i64) (kd := zax) (q := (250 : Int)) (z := (⟨0, 0⟩ : Spot)) (zc := (zak (⟨0, 0⟩ : Spot))) S597 u22 ty38 rfl rfl ⟨rfl, by constructor <;> decide⟩ (by first|omega|(simp;omega)|assumption) (by first|omega|(simp;omega)|assumption) (by first|omega|(simp;omega)|assumption)
    have S599 := T598
    dsimp only [lAa, lAn, lA0, lAs] at S599
    refine d_v (v := v598) rfl rfl rfl (zap rfl rfl r598) (.inl g598) <| za0 (i := 1) (by decide +kernel) ?_
    intro wd600 gd600
    have S601 := S599.keep gd600
    obtain ⟨v602, w602, r602, g602, T602⟩ := zaq (kk := .i64) (kk' := .i64) (kd := (Kd.int .i64).slice) (q := (250 : Int)) (z := ([] : List Int)) (zc := [.slice none 0 0]) S601 u24 ty23 rfl rfl (zal _ _) (by first|omega|(simp;omega)|assumption) (by first|omega|(simp;omega)|assumption) (by first|omega|(simp;omega)|assumption)
    have S603 := T602
    dsimp only [lAa, lAn, lA0, lAs] at S603
    refine d_v (v := v602) rfl rfl rfl (zap rfl rfl r602) (.inl g602) <| qd0 (i := 3) (v := .agg #[v598, .slice none 0 0, v602, v550, .bool false]) rfl (by decide +kernel) rfl rfl (zav (pv := [(0, v598), (2, v602), (3, v550)]) rfl (zae pl27 ty27 rfl (cs := [v598, .slice none 0 0, v602, v550, .bool false]) (zag (vc := [v598]) rfl (zac S603 (j := 8) rfl) rfl rfl (zag (vc := [v602]) rfl (zac S603 (j := 9) rfl) rfl rfl (zag (vc := [v550]) rfl (zac S603 (j := 6) rfl) rfl rfl (zar rfl)))))) (zau rfl) ?_
    exact jn340 _ _ _ (by decide +kernel) ⟨k320, b594, v598, v602, v550, (Le.refl _), S603.sub [5, 8, 9, 6, 7] (by decide) rfl _ rfl, rfl, rfl, rfl, rfl, rfl, rfl⟩
   intro wd604 gd604
   have S605 := S595.keep gd604
   obtain ⟨v606, w606, r606, g606, T606⟩ := zaq (kk := .i64) (kk' := .i64) (kd := (Kd.int .i64).slice) (q := (250 : Int)) (z := ([] : List Int)) (zc := [.slice none 0 0]) S605 u24 ty23 rfl rfl (zal _ _) (by first|omega|(simp;omega)|assumption) (by first|omega|(simp;omega)|assumption) (by first|omega|(simp;omega)|assumption)
   have S607 := T606
   dsimp only [lAa, lAn, lA0, lAs] at S607
   refine d_v (v := v606) rfl rfl rfl (zap rfl rfl r606) (.inl g606) <| za0 (i := 0) (by decide +kernel) ?_
   intro wd608 gd608
   have S609 := S607.keep gd608
   obtain ⟨v610, w610, r610, g610, T610⟩ := zaq (kk := .i64) (kk' := .i64) (kd := zax) (q := (250 : Int)) (z := (⟨0, 0⟩ : Spot)) (zc := (zak (⟨0, 0⟩ : Spot))) S609 u22 ty38 rfl rfl ⟨rfl, by constructor <;> decide⟩ (by first|omega|(simp;omega)|assumption) (by first|omega|(simp;omega)|assumption) (by first|omega|(simp;omega)|assumption)
   have S611 := T610
   dsimp only [lAa, lAn, lA0, lAs] at S611
   refine d_v (v := v610) rfl rfl rfl (zap rfl rfl r610) (.inl g610) <| qd0 (i := 3) (v := .agg #[v610, .slice none 0 0, v606, v550, .bool false]) rfl (by decide +kernel) rfl rfl (zav (pv := [(0, v610), (2, v606), (3, v550)]) rfl (zae pl27 ty27 rfl (cs := [v610, .slice none 0 0, v606, v550, .bool false]) (zag (vc := [v610]) rfl (zac S611 (j := 9) rfl) rfl rfl (zag (vc := [v606]) rfl (zac S611 (j := 8) rfl) rfl rfl (zag (vc := [v550]) rfl (zac S611 (j := 6) rfl) rfl rfl (zar rfl)))))) (zau rfl) ?_
   exact jn340 _ _ _ (by decide +kernel) ⟨k320, b594, v610, v606, v550, (Le.refl _), S611.sub [5, 9, 8, 6, 7] (by decide) rfl _ rfl, rfl, rfl, rfl, rfl, rfl, rfl⟩
  intro wd612 gd612
  have S613 := S323.keep gd612
  obtain ⟨b614, w614, r614, g614, T614⟩ := zcb (P := Try.prog) S613 27 (v := (.agg #[.slice none 0 0, .slice none 0 0, .slice none 0 0, .slice none 0 0, .bool false])) [.slice none 0 0, .slice none 0 0, .slice none 0 0, .slice none 0 0, .bool false] rfl
  have S615 := T614
  dsimp only [lAa, lAn, lA0, lAs] at S615
  refine d_v (v := .pointer (some ⟨b614, 0, none⟩)) rfl rfl rfl (zbn ty27 r614) (.inl g614) ?_
  refine ra_three (i := 0) (i2 := 1) (i3 := 2) (by decide +kernel) ?_ ?_ ?_
  ·skip
   intro wd616 gd616
   have S617 := S615.keep gd616
   obtain ⟨v618, w618, r618, g618, T618⟩ := zaq (kk := .i64) (kk' := .i64) (kd := zax) (q := (250 : Int)) (z := (⟨0, 0⟩ : Spot)) (zc := (zak (⟨0, 0⟩ : Spot))) S617 u22 ty38 rfl rfl ⟨rfl, by constructor <;> decide⟩ (by first|omega|(simp;omega)|assumption) (by first|omega|(simp;omega)|assumption) (by first|omega|(simp;omega)|assumption)
   have S619 := T618
   dsimp only [lAa, lAn, lA0, lAs] at S619
   refine d_v (v := v618) rfl rfl rfl (zap rfl rfl r618) (.inl g618) ?_
   refine zcn (i := 1) (i2 := 2) (by decide +kernel) ?_ ?_
   ·skip
    intro wd620 gd620
    have S621 := S619.keep gd620
    obtain ⟨v622, w622, r622, g622, T622⟩ := zaq (kk := .i64) (kk' := .i64) (kd := (Kd.int .i64).slice) (q := (250 : Int)) (z := ([] : List Int)) (zc := [.slice none 0 0]) S621 u24 ty23 rfl rfl (zal _ _) (by first|omega|(simp;omega)|assumption) (by first|omega|(simp;omega)|assumption) (by first|omega|(simp;omega)|assumption)
    have S623 := T622
    dsimp only [lAa, lAn, lA0, lAs] at S623
    refine d_v (v := v622) rfl rfl rfl (zap rfl rfl r622) (.inl g622) <| za0 (i := 2) (by decide +kernel) ?_
    intro wd624 gd624
    have S625 := S623.keep gd624
    obtain ⟨v626, w626, r626, g626, T626⟩ := zaq (kk := .i64) (kk' := .i64) (kd := Kd.bool) (q := (250 : Int)) (z := false) (zc := [.bool false]) S625 u25 ty4 rfl rfl ⟨rfl, trivial⟩ (by first|omega|(simp;omega)|assumption) (by first|omega|(simp;omega)|assumption) (by first|omega|(simp;omega)|assumption)
    have S627 := T626
    dsimp only [lAa, lAn, lA0, lAs] at S627
    refine d_v (v := v626) rfl rfl rfl (zap rfl rfl r626) (.inl g626) <| qd0 (i := 3) (v := .agg #[v618, .slice none 0 0, v622, v626, .bool false]) rfl (by decide +kernel) rfl rfl (zav (pv := [(0, v618), (2, v622), (3, v626)]) rfl (zae pl27 ty27 rfl (cs := [v618, .slice none 0 0, v622, v626, .bool false]) (zag (vc := [v618]) rfl (zac S627 (j := 7) rfl) rfl rfl (zag (vc := [v622]) rfl (zac S627 (j := 8) rfl) rfl rfl (zag (vc := [v626]) rfl (zac S627 (j := 9) rfl) rfl rfl (zar rfl)))))) (zau rfl) ?_
    exact jn340 _ _ _ (by decide +kernel) ⟨k320, b614, v618, v622, v626, (Le.refl _), S627.sub [5, 7, 8, 9, 6] (by decide) rfl _ rfl, rfl, rfl, rfl, rfl, rfl, rfl⟩
   intro wd628 gd628
   have S629 := S619.keep gd628
   obtain ⟨v630, w630, r630, g630, T630⟩ := zaq (kk := .i64) (kk' := .i64) (kd := Kd.bool) (q := (250 : Int)) (z := false) (zc := [.bool false]) S629 u25 ty4 rfl rfl ⟨rfl, trivial⟩ (by first|omega|(simp;omega)|assumption) (by first|omega|(simp;omega)|assumption) (by first|omega|(simp;omega)|assumption)
   have S631 := T630
   dsimp only [lAa, lAn, lA0, lAs] at S631
   refine d_v (v := v630) rfl rfl rfl (zap rfl rfl r630) (.inl g630) <| za0 (i := 1) (by decide +kernel) ?_
   intro wd632 gd632
   have S633 := S631.keep gd632
   obtain ⟨v634, w634, r634, g634, T634⟩ := zaq (kk := .i64) (kk' := .i64) (kd := (Kd.int .i64).slice) (q := (250 : Int)) (z := ([] : List Int)) (zc := [.slice none 0 0]) S633 u24 ty23 rfl rfl (zal _ _) (by first|omega|(simp;omega)|assumption) (by first|omega|(simp;omega)|assumption) (by first|omega|(simp;omega)|assumption)
   have S635 := T634
   dsimp only [lAa, lAn, lA0, lAs] at S635
   refine d_v (v := v634) rfl rfl rfl (zap rfl rfl r634) (.inl g634) <| qd0 (i := 3) (v := .agg #[v618, .slice none 0 0, v634, v630, .bool false]) rfl (by decide +kernel) rfl rfl (zav (pv := [(0, v618), (2, v634), (3, v630)]) rfl (zae pl27 ty27 rfl (cs := [v618, .slice none 0 0, v634, v630, .bool false]) (zag (vc := [v618]) rfl (zac S635 (j := 7) rfl) rfl rfl (zag (vc := [v634]) rfl (zac S635 (j := 9) rfl) rfl rfl (zag (vc := [v630]) rfl (zac S635 (j := 8) rfl) rfl rfl (zar rfl)))))) (zau rfl) ?_
   exact jn340 _ _ _ (by decide +kernel) ⟨k320, b614, v618, v634, v630, (Le.refl _), S635.sub [5, 7, 9, 8, 6] (by decide) rfl _ rfl, rfl, rfl, rfl, rfl, rfl, rfl⟩
  ·skip
   intro wd636 gd636
   have S637 := S615.keep gd636
   obtain ⟨v638, w638, r638, g638, T638⟩ := zaq (kk := .i64) (kk' := .i64) (kd := (Kd.int .i64).slice) (q := (250 : Int)) (z := ([] : List Int)) (zc := [.slice none 0 0]) S637 u24 ty23 rfl rfl (zal _ _) (by first|omega|(simp;omega)|assumption) (by first|omega|(simp;omega)|assumption) (by first|omega|(simp;omega)|assumption)
   have S639 := T638
   dsimp only [lAa, lAn, lA0, lAs] at S639
   refine d_v (v := v638) rfl rfl rfl (zap rfl rfl r638) (.inl g638) ?_
   refine zcn (i := 0) (i2 := 2) (by decide +kernel) ?_ ?_
   ·skip
    intro wd640 gd640
    have S641 := S639.keep gd640
    obtain ⟨v642, w642, r642, g642, T642⟩ := zaq (kk := .i64) (kk' := .i64) (kd := zax) (q := (250 : Int)) (z := (⟨0, 0⟩ : Spot)) (zc := (zak (⟨0, 0⟩ : Spot))) S641 u22 ty38 rfl rfl ⟨rfl, by constructor <;> decide⟩ (by first|omega|(simp;omega)|assumption) (by first|omega|(simp;omega)|assumption) (by first|omega|(simp;omega)|assumption)
    have S643 := T642
    dsimp only [lAa, lAn, lA0, lAs] at S643
    refine d_v (v := v642) rfl rfl rfl (zap rfl rfl r642) (.inl g642) <| za0 (i := 2) (by decide +kernel) ?_
    intro wd644 gd644
    have S645 := S643.keep gd644
    obtain ⟨v646, w646, r646, g646, T646⟩ := zaq (kk := .i64) (kk' := .i64) (kd := Kd.bool) (q := (250 : Int)) (z := false) (zc := [.bool false]) S645 u25 ty4 rfl rfl ⟨rfl, trivial⟩ (by first|omega|(simp;omega)|assumption) (by first|omega|(simp;omega)|assumption) (by first|omega|(simp;omega)|assumption)
    have S647 := T646
    dsimp only [lAa, lAn, lA0, lAs] at S647
    refine d_v (v := v646) rfl rfl rfl (zap rfl rfl r646) (.inl g646) <| qd0 (i := 3) (v := .agg #[v642, .slice none 0 0, v638, v646, .bool false]) rfl (by decide +kernel) rfl rfl (zav (pv := [(0, v642), (2, v638), (3, v646)]) rfl (zae pl27 ty27 rfl (cs := [v642, .slice none 0 0, v638, v646, .bool false]) (zag (vc := [v642]) rfl (zac S647 (j := 8) rfl) rfl rfl (zag (vc := [v638]) rfl (zac S647 (j := 7) rfl) rfl rfl (zag (vc := [v646]) rfl (zac S647 (j := 9) rfl) rfl rfl (zar rfl)))))) (zau rfl) ?_
    exact jn340 _ _ _ (by decide +kernel) ⟨k320, b614, v642, v638, v646, (Le.refl _), S647.sub [5, 8, 7, 9, 6] (by decide) rfl _ rfl, rfl, rfl, rfl, rfl, rfl, rfl⟩
   intro wd648 gd648
   have S649 := S639.keep gd648
   obtain ⟨v650, w650, r650, g650, T650⟩ := zaq (kk := .i64) (kk' := .i64) (kd := Kd.bool) (q := (250 : Int)) (z := false) (zc := [.bool false]) S649 u25 ty4 rfl rfl ⟨rfl, trivial⟩ (by first|omega|(simp;omega)|assumption) (by first|omega|(simp;omega)|assumption) (by first|omega|(simp;omega)|assumption)
   have S651 := T650
   dsimp only [lAa, lAn, lA0, lAs] at S651
   refine d_v (v := v650) rfl rfl rfl (zap rfl rfl r650) (.inl g650) <| za0 (i := 0) (by decide +kernel) ?_
   intro wd652 gd652
   have S653 := S651.keep gd652
   obtain ⟨v654, w654, r654, g654, T654⟩ := zaq (kk := .i64) (kk' := .i64) (kd := zax) (q := (250 : Int)) (z := (⟨0, 0⟩ : Spot)) (zc := (zak (⟨0, 0⟩ : Spot))) S653 u22 ty38 rfl rfl ⟨rfl, by constructor <;> decide⟩ (by first|omega|(simp;omega)|assumption) (by first|omega|(simp;omega)|assumption) (by first|omega|(simp;omega)|assumption)
   have S655 := T654
   dsimp only [lAa, lAn, lA0, lAs] at S655
   refine d_v (v := v654) rfl rfl rfl (zap rfl rfl r654) (.inl g654) <| qd0 (i := 3) (v := .agg #[v654, .slice none 0 0, v638, v650, .bool false]) rfl (by decide +kernel) rfl rfl (zav (pv := [(0, v654), (2, v638), (3, v650)]) rfl (zae pl27 ty27 rfl (cs := [v654, .slice none 0 0, v638, v650, .bool false]) (zag (vc := [v654]) rfl (zac S655 (j := 9) rfl) rfl rfl (zag (vc := [v638]) rfl (zac S655 (j := 7) rfl) rfl rfl (zag (vc := [v650]) rfl (zac S655 (j := 8) rfl) rfl rfl (zar rfl)))))) (zau rfl) ?_
   exact jn340 _ _ _ (by decide +kernel) ⟨k320, b614, v654, v638, v650, (Le.refl _), S655.sub [5, 9, 7, 8, 6] (by decide) rfl _ rfl, rfl, rfl, rfl, rfl, rfl, rfl⟩
  intro wd656 gd656
  have S657 := S615.keep gd656
  obtain ⟨v658, w658, r658, g658, T658⟩ := zaq (kk := .i64) (kk' := .i64) (kd := Kd.bool) (q := (250 : Int)) (z := false) (zc := [.bool false]) S657 u25 ty4 rfl rfl ⟨rfl, trivial⟩ (by first|omega|(simp;omega)|assumption) (by first|omega|(simp;omega)|assumption) (by first|omega|(simp;omega)|assumption)
  have S659 := T658
  dsimp only [lAa, lAn, lA0, lAs] at S659
  refine d_v (v := v658) rfl rfl rfl (zap rfl rfl r658) (.inl g658) ?_
  refine zcn (i := 0) (i2 := 1) (by decide +kernel) ?_ ?_
  ·skip
   intro wd660 gd660
   have S661 := S659.keep gd660
   obtain ⟨v662, w662, r662, g662, T662⟩ := zaq (kk := .i64) (kk' := .i64) (kd := zax) (q := (250 : Int)) (z := (⟨0, 0⟩ : Spot)) (zc := (zak (⟨0, 0⟩ : Spot))) S661 u22 ty38 rfl rfl ⟨rfl, by constructor <;> decide⟩ (by first|omega|(simp;omega)|assumption) (by first|omega|(simp;omega)|assumption) (by first|omega|(simp;omega)|assumption)
   have S663 := T662
   dsimp only [lAa, lAn, lA0, lAs] at S663
   refine d_v (v := v662) rfl rfl rfl (zap rfl rfl r662) (.inl g662) <| za0 (i := 1) (by decide +kernel) ?_
   intro wd664 gd664
   have S665 := S663.keep gd664
   obtain ⟨v666, w666, r666, g666, T666⟩ := zaq (kk := .i64) (kk' := .i64) (kd := (Kd.int .i64).slice) (q := (250 : Int)) (z := ([] : List Int)) (zc := [.slice none 0 0]) S665 u24 ty23 rfl rfl (zal _ _) (by first|omega|(simp;omega)|assumption) (by first|omega|(simp;omega)|assumption) (by first|omega|(simp;omega)|assumption)
   have S667 := T666
   dsimp only [lAa, lAn, lA0, lAs] at S667
   refine d_v (v := v666) rfl rfl rfl (zap rfl rfl r666) (.inl g666) <| qd0 (i := 3) (v := .agg #[v662, .slice none 0 0, v666, v658, .bool false]) rfl (by decide +kernel) rfl rfl (zav (pv := [(0, v662), (2, v666), (3, v658)]) rfl (zae pl27 ty27 rfl (cs := [v662, .slice none 0 0, v666, v658, .bool false]) (zag (vc := [v662]) rfl (zac S667 (j := 8) rfl) rfl rfl (zag (vc := [v666]) rfl (zac S667 (j := 9) rfl) rfl rfl (zag (vc := [v658]) rfl (zac S667 (j := 7) rfl) rfl rfl (zar rfl)))))) (zau rfl) ?_
   exact jn340 _ _ _ (by decide +kernel) ⟨k320, b614, v662, v666, v658, (Le.refl _), S667.sub [5, 8, 9, 7, 6] (by decide) rfl _ rfl, rfl, rfl, rfl, rfl, rfl, rfl⟩
  intro wd668 gd668
  have S669 := S659.keep gd668
  obtain ⟨v670, w670, r670, g670, T670⟩ := zaq (kk := .i64) (kk' := .i64) (kd := (Kd.int .i64).slice) (q := (250 : Int)) (z := ([] : List Int)) (zc := [.slice none 0 0]) S669 u24 ty23 rfl rfl (zal _ _) (by first|omega|(simp;omega)|assumption) (by first|omega|(simp;omega)|assumption) (by first|omega|(simp;omega)|assumption)
  have S671 := T670
  dsimp only [lAa, lAn, lA0, lAs] at S671
  refine d_v (v := v670) rfl rfl rfl (zap rfl rfl r670) (.inl g670) <| za0 (i := 0) (by decide +kernel) ?_
  intro wd672 gd672
  have S673 := S671.keep gd672
  obtain ⟨v674, w674, r674, g674, T674⟩ := zaq (kk := .i64) (kk' := .i64) (kd := zax) (q := (250 : Int)) (z := (⟨0, 0⟩ : Spot)) (zc := (zak (⟨0, 0⟩ : Spot))) S673 u22 ty38 rfl rfl ⟨rfl, by constructor <;> decide⟩ (by first|omega|(simp;omega)|assumption) (by first|omega|(simp;omega)|assumption) (by first|omega|(simp;omega)|assumption)
  have S675 := T674
  dsimp only [lAa, lAn, lA0, lAs] at S675
  refine d_v (v := v674) rfl rfl rfl (zap rfl rfl r674) (.inl g674) <| qd0 (i := 3) (v := .agg #[v674, .slice none 0 0, v670, v658, .bool false]) rfl (by decide +kernel) rfl rfl (zav (pv := [(0, v674), (2, v670), (3, v658)]) rfl (zae pl27 ty27 rfl (cs := [v674, .slice none 0 0, v670, v658, .bool false]) (zag (vc := [v674]) rfl (zac S675 (j := 9) rfl) rfl rfl (zag (vc := [v670]) rfl (zac S675 (j := 8) rfl) rfl rfl (zag (vc := [v658]) rfl (zac S675 (j := 7) rfl) rfl rfl (zar rfl)))))) (zau rfl) ?_
  exact jn340 _ _ _ (by decide +kernel) ⟨k320, b614, v674, v670, v658, (Le.refl _), S675.sub [5, 9, 8, 7, 6] (by decide) rfl _ rfl, rfl, rfl, rfl, rfl, rfl, rfl⟩
 refine ra_four (i := 5) (i2 := 6) (i3 := 7) (i4 := 9) (by decide +kernel) ?_ ?_ ?_ ?_
 ·skip
  intro wd676 gd676
  have S677 := S185.keep gd676
  have hf678 := spUp gd676 hf186
  have hf679 := spUp gd676 hf187
  have hf680 := spUp gd676 hf188
  have hf681 := spUp gd676 hf189
  have hf682 := spUp gd676 hf190
  obtain ⟨v683, w683, r683, g683, T683⟩ := zaq (kk := .i64) (kk' := .i64) (kd := zax) (q := (251 : Int)) (z := (⟨0, 0⟩ : Spot)) (zc := (zak (⟨0, 0⟩ : Spot))) S677 u22 ty38 rfl rfl ⟨rfl, by constructor <;> decide⟩ (by first|omega|(simp;omega)|assumption) (by first|omega|(simp;omega)|assumption) (by first|omega|(simp;omega)|assumption)
  have S684 := T683
  dsimp only [lAa, lAn, lA0, lAs] at S684
  have hf685 := spUp g683 hf678
  have hf686 := spUp g683 hf679
  have hf687 := spUp g683 hf680
  have hf688 := spUp g683 hf681
  have hf689 := spUp g683 hf682
  refine d_v (v := v683) rfl rfl rfl (zap rfl rfl r683) (.inl g683) ?_
  refine ra_three (i := 6) (i2 := 7) (i3 := 9) (by decide +kernel) ?_ ?_ ?_
  ·skip
   intro wd690 gd690
   have S691 := S684.keep gd690
   have hf692 := spUp gd690 hf685
   have hf693 := spUp gd690 hf686
   have hf694 := spUp gd690 hf687
   have hf695 := spUp gd690 hf688
   have hf696 := spUp gd690 hf689
   obtain ⟨v697, w697, r697, g697, T697⟩ := zaq (kk := .i64) (kk' := .i64) (kd := (Kd.int .i64).slice) (q := (251 : Int)) (z := ([] : List Int)) (zc := [.slice none 0 0]) S691 u24 ty23 rfl rfl (zal _ _) (by first|omega|(simp;omega)|assumption) (by first|omega|(simp;omega)|assumption) (by first|omega|(simp;omega)|assumption)
   have S698 := T697
   dsimp only [lAa, lAn, lA0, lAs] at S698
   have hf699 := spUp g697 hf692
   have hf700 := spUp g697 hf693
   have hf701 := spUp g697 hf694
   have hf702 := spUp g697 hf695
   have hf703 := spUp g697 hf696
   refine d_v (v := v697) rfl rfl rfl (zap rfl rfl r697) (.inl g697) ?_
   refine zcn (i := 7) (i2 := 9) (by decide +kernel) ?_ ?_
   ·skip
    intro wd704 gd704
    have S705 := S698.keep gd704
    have hf706 := spUp gd704 hf699
    have hf707 := spUp gd704 hf700
    have hf708 := spUp gd704 hf701
    have hf709 := spUp gd704 hf702
    have hf710 := spUp gd704 hf703
    obtain ⟨v711, w711, r711, g711, T711⟩ := zaq (kk := .i64) (kk' := .i64) (kd := Kd.bool) (q := (251 : Int)) (z := false) (zc := [.bool false]) S705 u25 ty4 rfl rfl ⟨rfl, trivial⟩ (by first|omega|(simp;omega)|assumption) (by first|omega|(simp;omega)|assumption) (by first|omega|(simp;omega)|assumption)
    have S712 := T711
    dsimp only [lAa, lAn, lA0, lAs] at S712
    have hf713 := spUp g711 hf706
    have hf714 := spUp g711 hf707
    have hf715 := spUp g711 hf708
    have hf716 := spUp g711 hf709
    have hf717 := spUp g711 hf710
    refine d_v (v := v711) rfl rfl rfl (zap rfl rfl r711) (.inl g711) <| qd0 (i := 8) (v := .agg #[v683, .slice none 0 0, v697, v711, .bool false]) rfl (by decide +kernel) rfl rfl (zav (pv := [(0, v683), (2, v697), (3, v711)]) rfl (zae pl27 ty27 rfl (cs := [v683, .slice none 0 0, v697, v711, .bool false]) (zag (vc := [v683]) rfl (zac S712 (j := 38) rfl) rfl rfl (zag (vc := [v697]) rfl (zac S712 (j := 39) rfl) rfl rfl (zag (vc := [v711]) rfl (zac S712 (j := 40) rfl) rfl rfl (zar rfl)))))) (zau rfl) <| za0 (i := 9) (by decide +kernel) ?_
    intro wd718 gd718
    have S719 := S712.keep gd718
    have hf720 := spUp gd718 hf713
    have hf721 := spUp gd718 hf714
    have hf722 := spUp gd718 hf715
    have hf723 := spUp gd718 hf716
    have hf724 := spUp gd718 hf717
    obtain ⟨v725, w725, r725, g725, T725⟩ := zaq (kk := .i64) (kk' := .i64) (kd := (Kd.int .i64).slice) (q := (1 : Int)) (z := ([] : List Int)) (zc := [.slice none 0 0]) S719 u24 ty23 rfl rfl (zal _ _) (by first|omega|(simp;omega)|assumption) (by first|omega|(simp;omega)|assumption) (by first|omega|(simp;omega)|assumption)
    have S726 := T725
    dsimp only [lAa, lAn, lA0, lAs] at S726
    have hf727 := spUp g725 hf720
    have hf728 := spUp g725 hf721
    have hf729 := spUp g725 hf722
    have hf730 := spUp g725 hf723
    have hf731 := spUp g725 hf724
    refine d_v (v := v725) rfl rfl rfl (zap rfl rfl r725) (.inl g725) <| qd0 (i := 10) (v := .agg #[.slice none 0 0, .slice none 0 0, v725, .slice none 0 0, .bool false]) rfl (by decide +kernel) rfl rfl (zav (pv := [(2, v725)]) rfl (zae pl27 ty27 rfl (cs := [.slice none 0 0, .slice none 0 0, v725, .slice none 0 0, .bool false]) (zag (vc := [v725]) rfl (zac S726 (j := 41) rfl) rfl rfl (zar rfl)))) (zau rfl) ?_
    exact jn247 _ _ _ (by decide +kernel) ⟨h177, v683, v697, v711, v725, (Le.refl _), S726.sub [38, 39, 40, 41] (by decide) rfl _ rfl, rfl, rfl, rfl, rfl, rfl, rfl, rfl, rfl, rfl, rfl, rfl, rfl, hf727, hf728, hf729, hf730, hf731⟩
   intro wd732 gd732
   have S733 := S698.keep gd732
   have hf734 := spUp gd732 hf699
   have hf735 := spUp gd732 hf700
   have hf736 := spUp gd732 hf701
   have hf737 := spUp gd732 hf702
   have hf738 := spUp gd732 hf703
   obtain ⟨v739, w739, r739, g739, T739⟩ := zaq (kk := .i64) (kk' := .i64) (kd := (Kd.int .i64).slice) (q := (1 : Int)) (z := ([] : List Int)) (zc := [.slice none 0 0]) S733 u24 ty23 rfl rfl (zal _ _) (by first|omega|(simp;omega)|assumption) (by first|omega|(simp;omega)|assumption) (by first|omega|(simp;omega)|assumption)
   have S740 := T739
   dsimp only [lAa, lAn, lA0, lAs] at S740
   have hf741 := spUp g739 hf734
   have hf742 := spUp g739 hf735
   have hf743 := spUp g739 hf736
   have hf744 := spUp g739 hf737
   have hf745 := spUp g739 hf738
   refine d_v (v := v739) rfl rfl rfl (zap rfl rfl r739) (.inl g739) <| qd0 (i := 10) (v := .agg #[.slice none 0 0, .slice none 0 0, v739, .slice none 0 0, .bool false]) rfl (by decide +kernel) rfl rfl (zav (pv := [(2, v739)]) rfl (zae pl27 ty27 rfl (cs := [.slice none 0 0, .slice none 0 0, v739, .slice none 0 0, .bool false]) (zag (vc := [v739]) rfl (zac S740 (j := 40) rfl) rfl rfl (zar rfl)))) (zau rfl) <| za0 (i := 7) (by decide +kernel) ?_
   intro wd746 gd746
   have S747 := S740.keep gd746
   have hf748 := spUp gd746 hf741
   have hf749 := spUp gd746 hf742
   have hf750 := spUp gd746 hf743
   have hf751 := spUp gd746 hf744
   have hf752 := spUp gd746 hf745
   obtain ⟨v753, w753, r753, g753, T753⟩ := zaq (kk := .i64) (kk' := .i64) (kd := Kd.bool) (q := (251 : Int)) (z := false) (zc := [.bool false]) S747 u25 ty4 rfl rfl ⟨rfl, trivial⟩ (by first|omega|(simp;omega)|assumption) (by first|omega|(simp;omega)|assumption) (by first|omega|(simp;omega)|assumption)
   have S754 := T753
   dsimp only [lAa, lAn, lA0, lAs] at S754
   have hf755 := spUp g753 hf748
   have hf756 := spUp g753 hf749
   have hf757 := spUp g753 hf750
   have hf758 := spUp g753 hf751
   have hf759 := spUp g753 hf752
   refine d_v (v := v753) rfl rfl rfl (zap rfl rfl r753) (.inl g753) <| qd0 (i := 8) (v := .agg #[v683, .slice none 0 0, v697, v753, .bool false]) rfl (by decide +kernel) rfl rfl (zav (pv := [(0, v683), (2, v697), (3, v753)]) rfl (zae pl27 ty27 rfl (cs := [v683, .slice none 0 0, v697, v753, .bool false]) (zag (vc := [v683]) rfl (zac S754 (j := 38) rfl) rfl rfl (zag (vc := [v697]) rfl (zac S754 (j := 39) rfl) rfl rfl (zag (vc := [v753]) rfl (zac S754 (j := 41) rfl) rfl rfl (zar rfl)))))) (zau rfl) ?_
   exact jn247 _ _ _ (by decide +kernel) ⟨h177, v683, v697, v753, v739, (Le.refl _), S754.sub [38, 39, 41, 40] (by decide) rfl _ rfl, rfl, rfl, rfl, rfl, rfl, rfl, rfl, rfl, rfl, rfl, rfl, rfl, hf755, hf756, hf757, hf758, hf759⟩
  ·skip
   intro wd760 gd760
   have S761 := S684.keep gd760
   have hf762 := spUp gd760 hf685
   have hf763 := spUp gd760 hf686
   have hf764 := spUp gd760 hf687
   have hf765 := spUp gd760 hf688
   have hf766 := spUp gd760 hf689
   obtain ⟨v767, w767, r767, g767, T767⟩ := zaq (kk := .i64) (kk' := .i64) (kd := Kd.bool) (q := (251 : Int)) (z := false) (zc := [.bool false]) S761 u25 ty4 rfl rfl ⟨rfl, trivial⟩ (by first|omega|(simp;omega)|assumption) (by first|omega|(simp;omega)|assumption) (by first|omega|(simp;omega)|assumption)
   have S768 := T767
   dsimp only [lAa, lAn, lA0, lAs] at S768
   have hf769 := spUp g767 hf762
   have hf770 := spUp g767 hf763
   have hf771 := spUp g767 hf764
   have hf772 := spUp g767 hf765
   have hf773 := spUp g767 hf766
   refine d_v (v := v767) rfl rfl rfl (zap rfl rfl r767) (.inl g767) ?_
   refine zcn (i := 6) (i2 := 9) (by decide +kernel) ?_ ?_
   ·skip
    intro wd774 gd774
    have S775 := S768.keep gd774
    have hf776 := spUp gd774 hf769
    have hf777 := spUp gd774 hf770
    have hf778 := spUp gd774 hf771
    have hf779 := spUp gd774 hf772
    have hf780 := spUp gd774 hf773
    obtain ⟨v781, w781, r781, g781, T781⟩ := zaq (kk := .i64) (kk' := .i64) (kd := (Kd.int .i64).slice) (q := (251 : Int)) (z := ([] : List Int)) (zc := [.slice none 0 0]) S775 u24 ty23 rfl rfl (zal _ _) (by first|omega|(simp;omega)|assumption) (by first|omega|(simp;omega)|assumption) (by first|omega|(simp;omega)|assumption)
    have S782 := T781
    dsimp only [lAa, lAn, lA0, lAs] at S782
    have hf783 := spUp g781 hf776
    have hf784 := spUp g781 hf777
    have hf785 := spUp g781 hf778
    have hf786 := spUp g781 hf779
    have hf787 := spUp g781 hf780
    refine d_v (v := v781) rfl rfl rfl (zap rfl rfl r781) (.inl g781) <| qd0 (i := 8) (v := .agg #[v683, .slice none 0 0, v781, v767, .bool false]) rfl (by decide +kernel) rfl rfl (zav (pv := [(0, v683), (2, v781), (3, v767)]) rfl (zae pl27 ty27 rfl (cs := [v683, .slice none 0 0, v781, v767, .bool false]) (zag (vc := [v683]) rfl (zac S782 (j := 38) rfl) rfl rfl (zag (vc := [v781]) rfl (zac S782 (j := 40) rfl) rfl rfl (zag (vc := [v767]) rfl (zac S782 (j := 39) rfl) rfl rfl (zar rfl)))))) (zau rfl) <| za0 (i := 9) (by decide +kernel) ?_
    intro wd788 gd788
    have S789 := S782.keep gd788
    have hf790 := spUp gd788 hf783
    have hf791 := spUp gd788 hf784
    have hf792 := spUp gd788 hf785
    have hf793 := spUp gd788 hf786
    have hf794 := spUp gd788 hf787
    obtain ⟨v795, w795, r795, g795, T795⟩ := zaq (kk := .i64) (kk' := .i64) (kd := (Kd.int .i64).slice) (q := (1 : Int)) (z := ([] : List Int)) (zc := [.slice none 0 0]) S789 u24 ty23 rfl rfl (zal _ _) (by first|omega|(simp;omega)|assumption) (by first|omega|(simp;omega)|assumption) (by first|omega|(simp;omega)|assumption)
    have S796 := T795
    dsimp only [lAa, lAn, lA0, lAs] at S796
    have hf797 := spUp g795 hf790
    have hf798 := spUp g795 hf791
    have hf799 := spUp g795 hf792
    have hf800 := spUp g795 hf793
    have hf801 := spUp g795 hf794
    refine d_v (v := v795) rfl rfl rfl (zap rfl rfl r795) (.inl g795) <| qd0 (i := 10) (v := .agg #[.slice none 0 0, .slice none 0 0, v795, .slice none 0 0, .bool false]) rfl (by decide +kernel) rfl rfl (zav (pv := [(2, v795)]) rfl (zae pl27 ty27 rfl (cs := [.slice none 0 0, .slice none 0 0, v795, .slice none 0 0, .bool false]) (zag (vc := [v795]) rfl (zac S796 (j := 41) rfl) rfl rfl (zar rfl)))) (zau rfl) ?_
    exact jn247 _ _ _ (by decide +kernel) ⟨h177, v683, v781, v767, v795, (Le.refl _), S796.sub [38, 40, 39, 41] (by decide) rfl _ rfl, rfl, rfl, rfl, rfl, rfl, rfl, rfl, rfl, rfl, rfl, rfl, rfl, hf797, hf798, hf799, hf800, hf801⟩
   intro wd802 gd802
   have S803 := S768.keep gd802
   have hf804 := spUp gd802 hf769
   have hf805 := spUp gd802 hf770
   have hf806 := spUp gd802 hf771
   have hf807 := spUp gd802 hf772
   have hf808 := spUp gd802 hf773
   obtain ⟨v809, w809, r809, g809, T809⟩ := zaq (kk := .i64) (kk' := .i64) (kd := (Kd.int .i64).slice) (q := (1 : Int)) (z := ([] : List Int)) (zc := [.slice none 0 0]) S803 u24 ty23 rfl rfl (zal _ _) (by first|omega|(simp;omega)|assumption) (by first|omega|(simp;omega)|assumption) (by first|omega|(simp;omega)|assumption)
   have S810 := T809
   dsimp only [lAa, lAn, lA0, lAs] at S810
   have hf811 := spUp g809 hf804
   have hf812 := spUp g809 hf805
   have hf813 := spUp g809 hf806
   have hf814 := spUp g809 hf807
   have hf815 := spUp g809 hf808
   refine d_v (v := v809) rfl rfl rfl (zap rfl rfl r809) (.inl g809) <| qd0 (i := 10) (v := .agg #[.slice none 0 0, .slice none 0 0, v809, .slice none 0 0, .bool false]) rfl (by decide +kernel) rfl rfl (zav (pv := [(2, v809)]) rfl (zae pl27 ty27 rfl (cs := [.slice none 0 0, .slice none 0 0, v809, .slice none 0 0, .bool false]) (zag (vc := [v809]) rfl (zac S810 (j := 40) rfl) rfl rfl (zar rfl)))) (zau rfl) <| za0 (i := 6) (by decide +kernel) ?_
   intro wd816 gd816
   have S817 := S810.keep gd816
   have hf818 := spUp gd816 hf811
   have hf819 := spUp gd816 hf812
   have hf820 := spUp gd816 hf813
   have hf821 := spUp gd816 hf814
   have hf822 := spUp gd816 hf815
   obtain ⟨v823, w823, r823, g823, T823⟩ := zaq (kk := .i64) (kk' := .i64) (kd := (Kd.int .i64).slice) (q := (251 : Int)) (z := ([] : List Int)) (zc := [.slice none 0 0]) S817 u24 ty23 rfl rfl (zal _ _) (by first|omega|(simp;omega)|assumption) (by first|omega|(simp;omega)|assumption) (by first|omega|(simp;omega)|assumption)
   have S824 := T823
   dsimp only [lAa, lAn, lA0, lAs] at S824
   have hf825 := spUp g823 hf818
   have hf826 := spUp g823 hf819
   have hf827 := spUp g823 hf820
   have hf828 := spUp g823 hf821
   have hf829 := spUp g823 hf822
   refine d_v (v := v823) rfl rfl rfl (zap rfl rfl r823) (.inl g823) <| qd0 (i := 8) (v := .agg #[v683, .slice none 0 0, v823, v767, .bool false]) rfl (by decide +kernel) rfl rfl (zav (pv := [(0, v683), (2, v823), (3, v767)]) rfl (zae pl27 ty27 rfl (cs := [v683, .slice none 0 0, v823, v767, .bool false]) (zag (vc := [v683]) rfl (zac S824 (j := 38) rfl) rfl rfl (zag (vc := [v823]) rfl (zac S824 (j := 41) rfl) rfl rfl (zag (vc := [v767]) rfl (zac S824 (j := 39) rfl) rfl rfl (zar rfl)))))) (zau rfl) ?_
   exact jn247 _ _ _ (by decide +kernel) ⟨h177, v683, v823, v767, v809, (Le.refl _), S824.sub [38, 41, 39, 40] (by decide) rfl _ rfl, rfl, rfl, rfl, rfl, rfl, rfl, rfl, rfl, rfl, rfl, rfl, rfl, hf825, hf826, hf827, hf828, hf829⟩
  intro wd830 gd830
  have S831 := S684.keep gd830
  have hf832 := spUp gd830 hf685
  have hf833 := spUp gd830 hf686
  have hf834 := spUp gd830 hf687
  have hf835 := spUp gd830 hf688
  have hf836 := spUp gd830 hf689
  obtain ⟨v837, w837, r837, g837, T837⟩ := zaq (kk := .i64) (kk' := .i64) (kd := (Kd.int .i64).slice) (q := (1 : Int)) (z := ([] : List Int)) (zc := [.slice none 0 0]) S831 u24 ty23 rfl rfl (zal _ _) (by first|omega|(simp;omega)|assumption) (by first|omega|(simp;omega)|assumption) (by first|omega|(simp;omega)|assumption)
  have S838 := T837
  dsimp only [lAa, lAn, lA0, lAs] at S838
  have hf839 := spUp g837 hf832
  have hf840 := spUp g837 hf833
  have hf841 := spUp g837 hf834
  have hf842 := spUp g837 hf835
  have hf843 := spUp g837 hf836
  refine d_v (v := v837) rfl rfl rfl (zap rfl rfl r837) (.inl g837) <| qd0 (i := 10) (v := .agg #[.slice none 0 0, .slice none 0 0, v837, .slice none 0 0, .bool false]) rfl (by decide +kernel) rfl rfl (zav (pv := [(2, v837)]) rfl (zae pl27 ty27 rfl (cs := [.slice none 0 0, .slice none 0 0, v837, .slice none 0 0, .bool false]) (zag (vc := [v837]) rfl (zac S838 (j := 39) rfl) rfl rfl (zar rfl)))) (zau rfl) ?_
  refine zcn (i := 6) (i2 := 7) (by decide +kernel) ?_ ?_
  ·skip
   intro wd844 gd844
   have S845 := S838.keep gd844
   have hf846 := spUp gd844 hf839
   have hf847 := spUp gd844 hf840
   have hf848 := spUp gd844 hf841
   have hf849 := spUp gd844 hf842
   have hf850 := spUp gd844 hf843
   obtain ⟨v851, w851, r851, g851, T851⟩ := zaq (kk := .i64) (kk' := .i64) (kd := (Kd.int .i64).slice) (q := (251 : Int)) (z := ([] : List Int)) (zc := [.slice none 0 0]) S845 u24 ty23 rfl rfl (zal _ _) (by first|omega|(simp;omega)|assumption) (by first|omega|(simp;omega)|assumption) (by first|omega|(simp;omega)|assumption)
   have S852 := T851
   dsimp only [lAa, lAn, lA0, lAs] at S852
   have hf853 := spUp g851 hf846
   have hf854 := spUp g851 hf847
   have hf855 := spUp g851 hf848
   have hf856 := spUp g851 hf849
   have hf857 := spUp g851 hf850
   refine d_v (v := v851) rfl rfl rfl (zap rfl rfl r851) (.inl g851) <| za0 (i := 7) (by decide +kernel) ?_
   intro wd858 gd858
   have S859 := S852.keep gd858
   have hf860 := spUp gd858 hf853
   have hf861 := spUp gd858 hf854
   have hf862 := spUp gd858 hf855
   have hf863 := spUp gd858 hf856
   have hf864 := spUp gd858 hf857
   obtain ⟨v865, w865, r865, g865, T865⟩ := zaq (kk := .i64) (kk' := .i64) (kd := Kd.bool) (q := (251 : Int)) (z := false) (zc := [.bool false]) S859 u25 ty4 rfl rfl ⟨rfl, trivial⟩ (by first|omega|(simp;omega)|assumption) (by first|omega|(simp;omega)|assumption) (by first|omega|(simp;omega)|assumption)
   have S866 := T865
   dsimp only [lAa, lAn, lA0, lAs] at S866
   have hf867 := spUp g865 hf860
   have hf868 := spUp g865 hf861
   have hf869 := spUp g865 hf862
   have hf870 := spUp g865 hf863
   have hf871 := spUp g865 hf864
   refine d_v (v := v865) rfl rfl rfl (zap rfl rfl r865) (.inl g865) <| qd0 (i := 8) (v := .agg #[v683, .slice none 0 0, v851, v865, .bool false]) rfl (by decide +kernel) rfl rfl (zav (pv := [(0, v683), (2, v851), (3, v865)]) rfl (zae pl27 ty27 rfl (cs := [v683, .slice none 0 0, v851, v865, .bool false]) (zag (vc := [v683]) rfl (zac S866 (j := 38) rfl) rfl rfl (zag (vc := [v851]) rfl (zac S866 (j := 40) rfl) rfl rfl (zag (vc := [v865]) rfl (zac S866 (j := 41) rfl) rfl rfl (zar rfl)))))) (zau rfl) ?_
   exact jn247 _ _ _ (by decide +kernel) ⟨h177, v683, v851, v865, v837, (Le.refl _), S866.sub [38, 40, 41, 39] (by decide) rfl _ rfl, rfl, rfl, rfl, rfl, rfl, rfl, rfl, rfl, rfl, rfl, rfl, rfl, hf867, hf868, hf869, hf870, hf871⟩
  intro wd872 gd872
  have S873 := S838.keep gd872
  have hf874 := spUp gd872 hf839
  have hf875 := spUp gd872 hf840
  have hf876 := spUp gd872 hf841
  have hf877 := spUp gd872 hf842
  have hf878 := spUp gd872 hf843
  obtain ⟨v879, w879, r879, g879, T879⟩ := zaq (kk := .i64) (kk' := .i64) (kd := Kd.bool) (q := (251 : Int)) (z := false) (zc := [.bool false]) S873 u25 ty4 rfl rfl ⟨rfl, trivial⟩ (by first|omega|(simp;omega)|assumption) (by first|omega|(simp;omega)|assumption) (by first|omega|(simp;omega)|assumption)
  have S880 := T879
  dsimp only [lAa, lAn, lA0, lAs] at S880
  have hf881 := spUp g879 hf874
  have hf882 := spUp g879 hf875
  have hf883 := spUp g879 hf876
  have hf884 := spUp g879 hf877
  have hf885 := spUp g879 hf878
  refine d_v (v := v879) rfl rfl rfl (zap rfl rfl r879) (.inl g879) <| za0 (i := 6) (by decide +kernel) ?_
  intro wd886 gd886
  have S887 := S880.keep gd886
  have hf888 := spUp gd886 hf881
  have hf889 := spUp gd886 hf882
  have hf890 := spUp gd886 hf883
  have hf891 := spUp gd886 hf884
  have hf892 := spUp gd886 hf885
  obtain ⟨v893, w893, r893, g893, T893⟩ := zaq (kk := .i64) (kk' := .i64) (kd := (Kd.int .i64).slice) (q := (251 : Int)) (z := ([] : List Int)) (zc := [.slice none 0 0]) S887 u24 ty23 rfl rfl (zal _ _) (by first|omega|(simp;omega)|assumption) (by first|omega|(simp;omega)|assumption) (by first|omega|(simp;omega)|assumption)
  have S894 := T893
  dsimp only [lAa, lAn, lA0, lAs] at S894
  have hf895 := spUp g893 hf888
  have hf896 := spUp g893 hf889
  have hf897 := spUp g893 hf890
  have hf898 := spUp g893 hf891
  have hf899 := spUp g893 hf892
  refine d_v (v := v893) rfl rfl rfl (zap rfl rfl r893) (.inl g893) <| qd0 (i := 8) (v := .agg #[v683, .slice none 0 0, v893, v879, .bool false]) rfl (by decide +kernel) rfl rfl (zav (pv := [(0, v683), (2, v893), (3, v879)]) rfl (zae pl27 ty27 rfl (cs := [v683, .slice none 0 0, v893, v879, .bool false]) (zag (vc := [v683]) rfl (zac S894 (j := 38) rfl) rfl rfl (zag (vc := [v893]) rfl (zac S894 (j := 41) rfl) rfl rfl (zag (vc := [v879]) rfl (zac S894 (j := 40) rfl) rfl rfl (zar rfl)))))) (zau rfl) ?_
  exact jn247 _ _ _ (by decide +kernel) ⟨h177, v683, v893, v879, v837, (Le.refl _), S894.sub [38, 41, 40, 39] (by decide) rfl _ rfl, rfl, rfl, rfl, rfl, rfl, rfl, rfl, rfl, rfl, rfl, rfl, rfl, hf895, hf896, hf897, hf898, hf899⟩
 ·skip
  intro wd900 gd900
  have S901 := S185.keep gd900
  have hf902 := spUp gd900 hf186
  have hf903 := spUp gd900 hf187
  have hf904 := spUp gd900 hf188
  have hf905 := spUp gd900 hf189
  have hf906 := spUp gd900 hf190
  obtain ⟨v907, w907, r907, g907, T907⟩ := zaq (kk := .i64) (kk' := .i64) (kd := (Kd.int .i64).slice) (q := (251 : Int)) (z := ([] : List Int)) (zc := [.slice none 0 0]) S901 u24 ty23 rfl rfl (zal _ _) (by first|omega|(simp;omega)|assumption) (by first|omega|(simp;omega)|assumption) (by first|omega|(simp;omega)|assumption)
  have S908 := T907
  dsimp only [lAa, lAn, lA0, lAs] at S908
  have hf909 := spUp g907 hf902
  have hf910 := spUp g907 hf903
  have hf911 := spUp g907 hf904
  have hf912 := spUp g907 hf905
  have hf913 := spUp g907 hf906
  refine d_v (v := v907) rfl rfl rfl (zap rfl rfl r907) (.inl g907) ?_
  refine ra_three (i := 5) (i2 := 7) (i3 := 9) (by decide +kernel) ?_ ?_ ?_
  ·skip
   intro wd914 gd914
   have S915 := S908.keep gd914
   have hf916 := spUp gd914 hf909
   have hf917 := spUp gd914 hf910
   have hf918 := spUp gd914 hf911
   have hf919 := spUp gd914 hf912
   have hf920 := spUp gd914 hf913
   obtain ⟨v921, w921, r921, g921, T921⟩ := zaq (kk := .i64) (kk' := .i64) (kd := zax) (q := (251 : Int)) (z := (⟨0, 0⟩ : Spot)) (zc := (zak (⟨0, 0⟩ : Spot))) S915 u22 ty38 rfl rfl ⟨rfl, by constructor <;> decide⟩ (by first|omega|(simp;omega)|assumption) (by first|omega|(simp;omega)|assumption) (by first|omega|(simp;omega)|assumption)
   have S922 := T921
   dsimp only [lAa, lAn, lA0, lAs] at S922
   have hf923 := spUp g921 hf916
   have hf924 := spUp g921 hf917
   have hf925 := spUp g921 hf918
   have hf926 := spUp g921 hf919
   have hf927 := spUp g921 hf920
   refine d_v (v := v921) rfl rfl rfl (zap rfl rfl r921) (.inl g921) ?_
   refine zcn (i := 7) (i2 := 9) (by decide +kernel) ?_ ?_
   ·skip
    intro wd928 gd928
    have S929 := S922.keep gd928
    have hf930 := spUp gd928 hf923
    have hf931 := spUp gd928 hf924
    have hf932 := spUp gd928 hf925
    have hf933 := spUp gd928 hf926
    have hf934 := spUp gd928 hf927
    obtain ⟨v935, w935, r935, g935, T935⟩ := zaq (kk := .i64) (kk' := .i64) (kd := Kd.bool) (q := (251 : Int)) (z := false) (zc := [.bool false]) S929 u25 ty4 rfl rfl ⟨rfl, trivial⟩ (by first|omega|(simp;omega)|assumption) (by first|omega|(simp;omega)|assumption) (by first|omega|(simp;omega)|assumption)
    have S936 := T935
    dsimp only [lAa, lAn, lA0, lAs] at S936
    have hf937 := spUp g935 hf930
    have hf938 := spUp g935 hf931
    have hf939 := spUp g935 hf932
    have hf940 := spUp g935 hf933
    have hf941 := spUp g935 hf934
    refine d_v (v := v935) rfl rfl rfl (zap rfl rfl r935) (.inl g935) <| qd0 (i := 8) (v := .agg #[v921, .slice none 0 0, v907, v935, .bool false]) rfl (by decide +kernel) rfl rfl (zav (pv := [(0, v921), (2, v907), (3, v935)]) rfl (zae pl27 ty27 rfl (cs := [v921, .slice none 0 0, v907, v935, .bool false]) (zag (vc := [v921]) rfl (zac S936 (j := 39) rfl) rfl rfl (zag (vc := [v907]) rfl (zac S936 (j := 38) rfl) rfl rfl (zag (vc := [v935]) rfl (zac S936 (j := 40) rfl) rfl rfl (zar rfl)))))) (zau rfl) <| za0 (i := 9) (by decide +kernel) ?_
    intro wd942 gd942
    have S943 := S936.keep gd942
    have hf944 := spUp gd942 hf937
    have hf945 := spUp gd942 hf938
    have hf946 := spUp gd942 hf939
    have hf947 := spUp gd942 hf940
    have hf948 := spUp gd942 hf941
    obtain ⟨v949, w949, r949, g949, T949⟩ := zaq (kk := .i64) (kk' := .i64) (kd := (Kd.int .i64).slice) (q := (1 : Int)) (z := ([] : List Int)) (zc := [.slice none 0 0]) S943 u24 ty23 rfl rfl (zal _ _) (by first|omega|(simp;omega)|assumption) (by first|omega|(simp;omega)|assumption) (by first|omega|(simp;omega)|assumption)
    have S950 := T949
    dsimp only [lAa, lAn, lA0, lAs] at S950
    have hf951 := spUp g949 hf944
    have hf952 := spUp g949 hf945
    have hf953 := spUp g949 hf946
    have hf954 := spUp g949 hf947
    have hf955 := spUp g949 hf948
    refine d_v (v := v949) rfl rfl rfl (zap rfl rfl r949) (.inl g949) <| qd0 (i := 10) (v := .agg #[.slice none 0 0, .slice none 0 0, v949, .slice none 0 0, .bool false]) rfl (by decide +kernel) rfl rfl (zav (pv := [(2, v949)]) rfl (zae pl27 ty27 rfl (cs := [.slice none 0 0, .slice none 0 0, v949, .slice none 0 0, .bool false]) (zag (vc := [v949]) rfl (zac S950 (j := 41) rfl) rfl rfl (zar rfl)))) (zau rfl) ?_
    exact jn247 _ _ _ (by decide +kernel) ⟨h177, v921, v907, v935, v949, (Le.refl _), S950.sub [39, 38, 40, 41] (by decide) rfl _ rfl, rfl, rfl, rfl, rfl, rfl, rfl, rfl, rfl, rfl, rfl, rfl, rfl, hf951, hf952, hf953, hf954, hf955⟩
   intro wd956 gd956
   have S957 := S922.keep gd956
   have hf958 := spUp gd956 hf923
   have hf959 := spUp gd956 hf924
   have hf960 := spUp gd956 hf925
   have hf961 := spUp gd956 hf926
   have hf962 := spUp gd956 hf927
   obtain ⟨v963, w963, r963, g963, T963⟩ := zaq (kk := .i64) (kk' := .i64) (kd := (Kd.int .i64).slice) (q := (1 : Int)) (z := ([] : List Int)) (zc := [.slice none 0 0]) S957 u24 ty23 rfl rfl (zal _ _) (by first|omega|(simp;omega)|assumption) (by first|omega|(simp;omega)|assumption) (by first|omega|(simp;omega)|assumption)
   have S964 := T963
   dsimp only [lAa, lAn, lA0, lAs] at S964
   have hf965 := spUp g963 hf958
   have hf966 := spUp g963 hf959
   have hf967 := spUp g963 hf960
   have hf968 := spUp g963 hf961
   have hf969 := spUp g963 hf962
   refine d_v (v := v963) rfl rfl rfl (zap rfl rfl r963) (.inl g963) <| qd0 (i := 10) (v := .agg #[.slice none 0 0, .slice none 0 0, v963, .slice none 0 0, .bool false]) rfl (by decide +kernel) rfl rfl (zav (pv := [(2, v963)]) rfl (zae pl27 ty27 rfl (cs := [.slice none 0 0, .slice none 0 0, v963, .slice none 0 0, .bool false]) (zag (vc := [v963]) rfl (zac S964 (j := 40) rfl) rfl rfl (zar rfl)))) (zau rfl) <| za0 (i := 7) (by decide +kernel) ?_
   intro wd970 gd970
   have S971 := S964.keep gd970
   have hf972 := spUp gd970 hf965
   have hf973 := spUp gd970 hf966
   have hf974 := spUp gd970 hf967
   have hf975 := spUp gd970 hf968
   have hf976 := spUp gd970 hf969
   obtain ⟨v977, w977, r977, g977, T977⟩ := zaq (kk := .i64) (kk' := .i64) (kd := Kd.bool) (q := (251 : Int)) (z := false) (zc := [.bool false]) S971 u25 ty4 rfl rfl ⟨rfl, trivial⟩ (by first|omega|(simp;omega)|assumption) (by first|omega|(simp;omega)|assumption) (by first|omega|(simp;omega)|assumption)
   have S978 := T977
   dsimp only [lAa, lAn, lA0, lAs] at S978
   have hf979 := spUp g977 hf972
   have hf980 := spUp g977 hf973
   have hf981 := spUp g977 hf974
   have hf982 := spUp g977 hf975
   have hf983 := spUp g977 hf976
   refine d_v (v := v977) rfl rfl rfl (zap rfl rfl r977) (.inl g977) <| qd0 (i := 8) (v := .agg #[v921, .slice none 0 0, v907, v977, .bool false]) rfl (by decide +kernel) rfl rfl (zav (pv := [(0, v921), (2, v907), (3, v977)]) rfl (zae pl27 ty27 rfl (cs := [v921, .slice none 0 0, v907, v977, .bool false]) (zag (vc := [v921]) rfl (zac S978 (j := 39) rfl) rfl rfl (zag (vc := [v907]) rfl (zac S978 (j := 38) rfl) rfl rfl (zag (vc := [v977]) rfl (zac S978 (j := 41) rfl) rfl rfl (zar rfl)))))) (zau rfl) ?_
   exact jn247 _ _ _ (by decide +kernel) ⟨h177, v921, v907, v977, v963, (Le.refl _), S978.sub [39, 38, 41, 40] (by decide) rfl _ rfl, rfl, rfl, rfl, rfl, rfl, rfl, rfl, rfl, rfl, rfl, rfl, rfl, hf979, hf980, hf981, hf982, hf983⟩
  ·skip
   intro wd984 gd984
   have S985 := S908.keep gd984
   have hf986 := spUp gd984 hf909
   have hf987 := spUp gd984 hf910
   have hf988 := spUp gd984 hf911
   have hf989 := spUp gd984 hf912
   have hf990 := spUp gd984 hf913
   obtain ⟨v991, w991, r991, g991, T991⟩ := zaq (kk := .i64) (kk' := .i64) (kd := Kd.bool) (q := (251 : Int)) (z := false) (zc := [.bool false]) S985 u25 ty4 rfl rfl ⟨rfl, trivial⟩ (by first|omega|(simp;omega)|assumption) (by first|omega|(simp;omega)|assumption) (by first|omega|(simp;omega)|assumption)
   have S992 := T991
   dsimp only [lAa, lAn, lA0, lAs] at S992
   have hf993 := spUp g991 hf986
   have hf994 := spUp g991 hf987
   have hf995 := spUp g991 hf988
   have hf996 := spUp g991 hf989
   have hf997 := spUp g991 hf990
   refine d_v (v := v991) rfl rfl rfl (zap rfl rfl r991) (.inl g991) ?_
   refine zcn (i := 5) (i2 := 9) (by decide +kernel) ?_ ?_
   ·skip
    intro wd998 gd998
    have S999 := S992.keep gd998
    have hf1000 := spUp gd998 hf993
    have hf1001 := spUp gd998 hf994
    have hf1002 := spUp gd998 hf995
    have hf1003 := spUp gd998 hf996
    have hf1004 := spUp gd998 hf997
    obtain ⟨v1005, w1005, r1005, g1005, T1005⟩ := zaq (kk := .i64) (kk' := .i64) (kd := zax) (q := (251 : Int)) (z := (⟨0, 0⟩ : Spot)) (zc := (zak (⟨0, 0⟩ : Spot))) S999 u22 ty38 rfl rfl ⟨rfl, by constructor <;> decide⟩ (by first|omega|(simp;omega)|assumption) (by first|omega|(simp;omega)|assumption) (by first|omega|(simp;omega)|assumption)
    have S1006 := T1005
    dsimp only [lAa, lAn, lA0, lAs] at S1006
    have hf1007 := spUp g1005 hf1000
    have hf1008 := spUp g1005 hf1001
    have hf1009 := spUp g1005 hf1002
    have hf1010 := spUp g1005 hf1003
    have hf1011 := spUp g1005 hf1004
    refine d_v (v := v1005) rfl rfl rfl (zap rfl rfl r1005) (.inl g1005) <| qd0 (i := 8) (v := .agg #[v1005, .slice none 0 0, v907, v991, .bool false]) rfl (by decide +kernel) rfl rfl (zav (pv := [(0, v1005), (2, v907), (3, v991)]) rfl (zae pl27 ty27 rfl (cs := [v1005, .slice none 0 0, v907, v991, .bool false]) (zag (vc := [v1005]) rfl (zac S1006 (j := 40) rfl) rfl rfl (zag (vc := [v907]) rfl (zac S1006 (j := 38) rfl) rfl rfl (zag (vc := [v991]) rfl (zac S1006 (j := 39) rfl) rfl rfl (zar rfl)))))) (zau rfl) <| za0 (i := 9) (by decide +kernel) ?_
    intro wd1012 gd1012
    have S1013 := S1006.keep gd1012
    have hf1014 := spUp gd1012 hf1007
    have hf1015 := spUp gd1012 hf1008
    have hf1016 := spUp gd1012 hf1009
    have hf1017 := spUp gd1012 hf1010
    have hf1018 := spUp gd1012 hf1011
    obtain ⟨v1019, w1019, r1019, g1019, T1019⟩ := zaq (kk := .i64) (kk' := .i64) (kd := (Kd.int .i64).slice) (q := (1 : Int)) (z := ([] : List Int)) (zc := [.slice none 0 0]) S1013 u24 ty23 rfl rfl (zal _ _) (by first|omega|(simp;omega)|assumption) (by first|omega|(simp;omega)|assumption) (by first|omega|(simp;omega)|assumption)
    have S1020 := T1019
    dsimp only [lAa, lAn, lA0, lAs] at S1020
    have hf1021 := spUp g1019 hf1014
    have hf1022 := spUp g1019 hf1015
    have hf1023 := spUp g1019 hf1016
    have hf1024 := spUp g1019 hf1017
    have hf1025 := spUp g1019 hf1018
    refine d_v (v := v1019) rfl rfl rfl (zap rfl rfl r1019) (.inl g1019) <| qd0 (i := 10) (v := .agg #[.slice none 0 0, .slice none 0 0, v1019, .slice none 0 0, .bool false]) rfl (by decide +kernel) rfl rfl (zav (pv := [(2, v1019)]) rfl (zae pl27 ty27 rfl (cs := [.slice none 0 0, .slice none 0 0, v1019, .slice none 0 0, .bool false]) (zag (vc := [v1019]) rfl (zac S1020 (j := 41) rfl) rfl rfl (zar rfl)))) (zau rfl) ?_
    exact jn247 _ _ _ (by decide +kernel) ⟨h177, v1005, v907, v991, v1019, (Le.refl _), S1020.sub [40, 38, 39, 41] (by decide) rfl _ rfl, rfl, rfl, rfl, rfl, rfl, rfl, rfl, rfl, rfl, rfl, rfl, rfl, hf1021, hf1022, hf1023, hf1024, hf1025⟩
   intro wd1026 gd1026
   have S1027 := S992.keep gd1026
   have hf1028 := spUp gd1026 hf993
   have hf1029 := spUp gd1026 hf994
   have hf1030 := spUp gd1026 hf995
   have hf1031 := spUp gd1026 hf996
   have hf1032 := spUp gd1026 hf997
   obtain ⟨v1033, w1033, r1033, g1033, T1033⟩ := zaq (kk := .i64) (kk' := .i64) (kd := (Kd.int .i64).slice) (q := (1 : Int)) (z := ([] : List Int)) (zc := [.slice none 0 0]) S1027 u24 ty23 rfl rfl (zal _ _) (by first|omega|(simp;omega)|assumption) (by first|omega|(simp;omega)|assumption) (by first|omega|(simp;omega)|assumption)
   have S1034 := T1033
   dsimp only [lAa, lAn, lA0, lAs] at S1034
   have hf1035 := spUp g1033 hf1028
   have hf1036 := spUp g1033 hf1029
   have hf1037 := spUp g1033 hf1030
   have hf1038 := spUp g1033 hf1031
   have hf1039 := spUp g1033 hf1032
   refine d_v (v := v1033) rfl rfl rfl (zap rfl rfl r1033) (.inl g1033) <| qd0 (i := 10) (v := .agg #[.slice none 0 0, .slice none 0 0, v1033, .slice none 0 0, .bool false]) rfl (by decide +kernel) rfl rfl (zav (pv := [(2, v1033)]) rfl (zae pl27 ty27 rfl (cs := [.slice none 0 0, .slice none 0 0, v1033, .slice none 0 0, .bool false]) (zag (vc := [v1033]) rfl (zac S1034 (j := 40) rfl) rfl rfl (zar rfl)))) (zau rfl) <| za0 (i := 5) (by decide +kernel) ?_
   intro wd1040 gd1040
   have S1041 := S1034.keep gd1040
   have hf1042 := spUp gd1040 hf1035
   have hf1043 := spUp gd1040 hf1036
   have hf1044 := spUp gd1040 hf1037
   have hf1045 := spUp gd1040 hf1038
   have hf1046 := spUp gd1040 hf1039
   obtain ⟨v1047, w1047, r1047, g1047, T1047⟩ := zaq (kk := .i64) (kk' := .i64) (kd := zax) (q := (251 : Int)) (z := (⟨0, 0⟩ : Spot)) (zc := (zak (⟨0, 0⟩ : Spot))) S1041 u22 ty38 rfl rfl ⟨rfl, by constructor <;> decide⟩ (by first|omega|(simp;omega)|assumption) (by first|omega|(simp;omega)|assumption) (by first|omega|(simp;omega)|assumption)
   have S1048 := T1047
   dsimp only [lAa, lAn, lA0, lAs] at S1048
   have hf1049 := spUp g1047 hf1042
   have hf1050 := spUp g1047 hf1043
   have hf1051 := spUp g1047 hf1044
   have hf1052 := spUp g1047 hf1045
   have hf1053 := spUp g1047 hf1046
   refine d_v (v := v1047) rfl rfl rfl (zap rfl rfl r1047) (.inl g1047) <| qd0 (i := 8) (v := .agg #[v1047, .slice none 0 0, v907, v991, .bool false]) rfl (by decide +kernel) rfl rfl (zav (pv := [(0, v1047), (2, v907), (3, v991)]) rfl (zae pl27 ty27 rfl (cs := [v1047, .slice none 0 0, v907, v991, .bool false]) (zag (vc := [v1047]) rfl (zac S1048 (j := 41) rfl) rfl rfl (zag (vc := [v907]) rfl (zac S1048 (j := 38) rfl) rfl rfl (zag (vc := [v991]) rfl (zac S1048 (j := 39) rfl) rfl rfl (zar rfl)))))) (zau rfl) ?_
   exact jn247 _ _ _ (by decide +kernel) ⟨h177, v1047, v907, v991, v1033, (Le.refl _), S1048.sub [41, 38, 39, 40] (by decide) rfl _ rfl, rfl, rfl, rfl, rfl, rfl, rfl, rfl, rfl, rfl, rfl, rfl, rfl, hf1049, hf1050, hf1051, hf1052, hf1053⟩
  intro wd1054 gd1054
  have S1055 := S908.keep gd1054
  have hf1056 := spUp gd1054 hf909
  have hf1057 := spUp gd1054 hf910
  have hf1058 := spUp gd1054 hf911
  have hf1059 := spUp gd1054 hf912
  have hf1060 := spUp gd1054 hf913
  obtain ⟨v1061, w1061, r1061, g1061, T1061⟩ := zaq (kk := .i64) (kk' := .i64) (kd := (Kd.int .i64).slice) (q := (1 : Int)) (z := ([] : List Int)) (zc := [.slice none 0 0]) S1055 u24 ty23 rfl rfl (zal _ _) (by first|omega|(simp;omega)|assumption) (by first|omega|(simp;omega)|assumption) (by first|omega|(simp;omega)|assumption)
  have S1062 := T1061
  dsimp only [lAa, lAn, lA0, lAs] at S1062
  have hf1063 := spUp g1061 hf1056
  have hf1064 := spUp g1061 hf1057
  have hf1065 := spUp g1061 hf1058
  have hf1066 := spUp g1061 hf1059
  have hf1067 := spUp g1061 hf1060
  refine d_v (v := v1061) rfl rfl rfl (zap rfl rfl r1061) (.inl g1061) <| qd0 (i := 10) (v := .agg #[.slice none 0 0, .slice none 0 0, v1061, .slice none 0 0, .bool false]) rfl (by decide +kernel) rfl rfl (zav (pv := [(2, v1061)]) rfl (zae pl27 ty27 rfl (cs := [.slice none 0 0, .slice none 0 0, v1061, .slice none 0 0, .bool false]) (zag (vc := [v1061]) rfl (zac S1062 (j := 39) rfl) rfl rfl (zar rfl)))) (zau rfl) ?_
  refine zcn (i := 5) (i2 := 7) (by decide +kernel) ?_ ?_
  ·skip
   intro wd1068 gd1068
   have S1069 := S1062.keep gd1068
   have hf1070 := spUp gd1068 hf1063
   have hf1071 := spUp gd1068 hf1064
   have hf1072 := spUp gd1068 hf1065
   have hf1073 := spUp gd1068 hf1066
   have hf1074 := spUp gd1068 hf1067
   obtain ⟨v1075, w1075, r1075, g1075, T1075⟩ := zaq (kk := .i64) (kk' := .i64) (kd := zax) (q := (251 : Int)) (z := (⟨0, 0⟩ : Spot)) (zc := (zak (⟨0, 0⟩ : Spot))) S1069 u22 ty38 rfl rfl ⟨rfl, by constructor <;> decide⟩ (by first|omega|(simp;omega)|assumption) (by first|omega|(simp;omega)|assumption) (by first|omega|(simp;omega)|assumption)
   have S1076 := T1075
   dsimp only [lAa, lAn, lA0, lAs] at S1076
   have hf1077 := spUp g1075 hf1070
   have hf1078 := spUp g1075 hf1071
   have hf1079 := spUp g1075 hf1072
   have hf1080 := spUp g1075 hf1073
   have hf1081 := spUp g1075 hf1074
   refine d_v (v := v1075) rfl rfl rfl (zap rfl rfl r1075) (.inl g1075) <| za0 (i := 7) (by decide +kernel) ?_
   intro wd1082 gd1082
   have S1083 := S1076.keep gd1082
   have hf1084 := spUp gd1082 hf1077
   have hf1085 := spUp gd1082 hf1078
   have hf1086 := spUp gd1082 hf1079
   have hf1087 := spUp gd1082 hf1080
   have hf1088 := spUp gd1082 hf1081
   obtain ⟨v1089, w1089, r1089, g1089, T1089⟩ := zaq (kk := .i64) (kk' := .i64) (kd := Kd.bool) (q := (251 : Int)) (z := false) (zc := [.bool false]) S1083 u25 ty4 rfl rfl ⟨rfl, trivial⟩ (by first|omega|(simp;omega)|assumption) (by first|omega|(simp;omega)|assumption) (by first|omega|(simp;omega)|assumption)
   have S1090 := T1089
   dsimp only [lAa, lAn, lA0, lAs] at S1090
   have hf1091 := spUp g1089 hf1084
   have hf1092 := spUp g1089 hf1085
   have hf1093 := spUp g1089 hf1086
   have hf1094 := spUp g1089 hf1087
   have hf1095 := spUp g1089 hf1088
   refine d_v (v := v1089) rfl rfl rfl (zap rfl rfl r1089) (.inl g1089) <| qd0 (i := 8) (v := .agg #[v1075, .slice none 0 0, v907, v1089, .bool false]) rfl (by decide +kernel) rfl rfl (zav (pv := [(0, v1075), (2, v907), (3, v1089)]) rfl (zae pl27 ty27 rfl (cs := [v1075, .slice none 0 0, v907, v1089, .bool false]) (zag (vc := [v1075]) rfl (zac S1090 (j := 40) rfl) rfl rfl (zag (vc := [v907]) rfl (zac S1090 (j := 38) rfl) rfl rfl (zag (vc := [v1089]) rfl (zac S1090 (j := 41) rfl) rfl rfl (zar rfl)))))) (zau rfl) ?_
   exact jn247 _ _ _ (by decide +kernel) ⟨h177, v1075, v907, v1089, v1061, (Le.refl _), S1090.sub [40, 38, 41, 39] (by decide) rfl _ rfl, rfl, rfl, rfl, rfl, rfl, rfl, rfl, rfl, rfl, rfl, rfl, rfl, hf1091, hf1092, hf1093, hf1094, hf1095⟩
  intro wd1096 gd1096
  have S1097 := S1062.keep gd1096
  have hf1098 := spUp gd1096 hf1063
  have hf1099 := spUp gd1096 hf1064
  have hf1100 := spUp gd1096 hf1065
  have hf1101 := spUp gd1096 hf1066
  have hf1102 := spUp gd1096 hf1067
  obtain ⟨v1103, w1103, r1103, g1103, T1103⟩ := zaq (kk := .i64) (kk' := .i64) (kd := Kd.bool) (q := (251 : Int)) (z := false) (zc := [.bool false]) S1097 u25 ty4 rfl rfl ⟨rfl, trivial⟩ (by first|omega|(simp;omega)|assumption) (by first|omega|(simp;omega)|assumption) (by first|omega|(simp;omega)|assumption)
  have S1104 := T1103
  dsimp only [lAa, lAn, lA0, lAs] at S1104
  have hf1105 := spUp g1103 hf1098
  have hf1106 := spUp g1103 hf1099
  have hf1107 := spUp g1103 hf1100
  have hf1108 := spUp g1103 hf1101
  have hf1109 := spUp g1103 hf1102
  refine d_v (v := v1103) rfl rfl rfl (zap rfl rfl r1103) (.inl g1103) <| za0 (i := 5) (by decide +kernel) ?_
  intro wd1110 gd1110
  have S1111 := S1104.keep gd1110
  have hf1112 := spUp gd1110 hf1105
  have hf1113 := spUp gd1110 hf1106
  have hf1114 := spUp gd1110 hf1107
  have hf1115 := spUp gd1110 hf1108
  have hf1116 := spUp gd1110 hf1109
  obtain ⟨v1117, w1117, r1117, g1117, T1117⟩ := zaq (kk := .i64) (kk' := .i64) (kd := zax) (q := (251 : Int)) (z := (⟨0, 0⟩ : Spot)) (zc := (zak (⟨0, 0⟩ : Spot))) S1111 u22 ty38 rfl rfl ⟨rfl, by constructor <;> decide⟩ (by first|omega|(simp;omega)|assumption) (by first|omega|(simp;omega)|assumption) (by first|omega|(simp;omega)|assumption)
  have S1118 := T1117
  dsimp only [lAa, lAn, lA0, lAs] at S1118
  have hf1119 := spUp g1117 hf1112
  have hf1120 := spUp g1117 hf1113
  have hf1121 := spUp g1117 hf1114
  have hf1122 := spUp g1117 hf1115
  have hf1123 := spUp g1117 hf1116
  refine d_v (v := v1117) rfl rfl rfl (zap rfl rfl r1117) (.inl g1117) <| qd0 (i := 8) (v := .agg #[v1117, .slice none 0 0, v907, v1103, .bool false]) rfl (by decide +kernel) rfl rfl (zav (pv := [(0, v1117), (2, v907), (3, v1103)]) rfl (zae pl27 ty27 rfl (cs := [v1117, .slice none 0 0, v907, v1103, .bool false]) (zag (vc := [v1117]) rfl (zac S1118 (j := 41) rfl) rfl rfl (zag (vc := [v907]) rfl (zac S1118 (j := 38) rfl) rfl rfl (zag (vc := [v1103]) rfl (zac S1118 (j := 40) rfl) rfl rfl (zar rfl)))))) (zau rfl) ?_
  exact jn247 _ _ _ (by decide +kernel) ⟨h177, v1117, v907, v1103, v1061, (Le.refl _), S1118.sub [41, 38, 40, 39] (by decide) rfl _ rfl, rfl, rfl, rfl, rfl, rfl, rfl, rfl, rfl, rfl, rfl, rfl, rfl, hf1119, hf1120, hf1121, hf1122, hf1123⟩
 ·skip
  intro wd1124 gd1124
  have S1125 := S185.keep gd1124
  have hf1126 := spUp gd1124 hf186
  have hf1127 := spUp gd1124 hf187
  have hf1128 := spUp gd1124 hf188
  have hf1129 := spUp gd1124 hf189
  have hf1130 := spUp gd1124 hf190
  obtain ⟨v1131, w1131, r1131, g1131, T1131⟩ := zaq (kk := .i64) (kk' := .i64) (kd := Kd.bool) (q := (251 : Int)) (z := false) (zc := [.bool false]) S1125 u25 ty4 rfl rfl ⟨rfl, trivial⟩ (by first|omega|(simp;omega)|assumption) (by first|omega|(simp;omega)|assumption) (by first|omega|(simp;omega)|assumption)
  have S1132 := T1131
  dsimp only [lAa, lAn, lA0, lAs] at S1132
  have hf1133 := spUp g1131 hf1126
  have hf1134 := spUp g1131 hf1127
  have hf1135 := spUp g1131 hf1128
  have hf1136 := spUp g1131 hf1129
  have hf1137 := spUp g1131 hf1130
  refine d_v (v := v1131) rfl rfl rfl (zap rfl rfl r1131) (.inl g1131) ?_
  refine ra_three (i := 5) (i2 := 6) (i3 := 9) (by decide +kernel) ?_ ?_ ?_
  ·skip
   intro wd1138 gd1138
   have S1139 := S1132.keep gd1138
   have hf1140 := spUp gd1138 hf1133
   have hf1141 := spUp gd1138 hf1134
   have hf1142 := spUp gd1138 hf1135
   have hf1143 := spUp gd1138 hf1136
   have hf1144 := spUp gd1138 hf1137
   obtain ⟨v1145, w1145, r1145, g1145, T1145⟩ := zaq (kk := .i64) (kk' := .i64) (kd := zax) (q := (251 : Int)) (z := (⟨0, 0⟩ : Spot)) (zc := (zak (⟨0, 0⟩ : Spot))) S1139 u22 ty38 rfl rfl ⟨rfl, by constructor <;> decide⟩ (by first|omega|(simp;omega)|assumption) (by first|omega|(simp;omega)|assumption) (by first|omega|(simp;omega)|assumption)
   have S1146 := T1145
   dsimp only [lAa, lAn, lA0, lAs] at S1146
   have hf1147 := spUp g1145 hf1140
   have hf1148 := spUp g1145 hf1141
   have hf1149 := spUp g1145 hf1142
   have hf1150 := spUp g1145 hf1143
   have hf1151 := spUp g1145 hf1144
   refine d_v (v := v1145) rfl rfl rfl (zap rfl rfl r1145) (.inl g1145) ?_
   refine zcn (i := 6) (i2 := 9) (by decide +kernel) ?_ ?_
   ·skip
    intro wd1152 gd1152
    have S1153 := S1146.keep gd1152
    have hf1154 := spUp gd1152 hf1147
    have hf1155 := spUp gd1152 hf1148
    have hf1156 := spUp gd1152 hf1149
    have hf1157 := spUp gd1152 hf1150
    have hf1158 := spUp gd1152 hf1151
    obtain ⟨v1159, w1159, r1159, g1159, T1159⟩ := zaq (kk := .i64) (kk' := .i64) (kd := (Kd.int .i64).slice) (q := (251 : Int)) (z := ([] : List Int)) (zc := [.slice none 0 0]) S1153 u24 ty23 rfl rfl (zal _ _) (by first|omega|(simp;omega)|assumption) (by first|omega|(simp;omega)|assumption) (by first|omega|(simp;omega)|assumption)
    have S1160 := T1159
    dsimp only [lAa, lAn, lA0, lAs] at S1160
    have hf1161 := spUp g1159 hf1154
    have hf1162 := spUp g1159 hf1155
    have hf1163 := spUp g1159 hf1156
    have hf1164 := spUp g1159 hf1157
    have hf1165 := spUp g1159 hf1158
    refine d_v (v := v1159) rfl rfl rfl (zap rfl rfl r1159) (.inl g1159) <| qd0 (i := 8) (v := .agg #[v1145, .slice none 0 0, v1159, v1131, .bool false]) rfl (by decide +kernel) rfl rfl (zav (pv := [(0, v1145), (2, v1159), (3, v1131)]) rfl (zae pl27 ty27 rfl (cs := [v1145, .slice none 0 0, v1159, v1131, .bool false]) (zag (vc := [v1145]) rfl (zac S1160 (j := 39) rfl) rfl rfl (zag (vc := [v1159]) rfl (zac S1160 (j := 40) rfl) rfl rfl (zag (vc := [v1131]) rfl (zac S1160 (j := 38) rfl) rfl rfl (zar rfl)))))) (zau rfl) <| za0 (i := 9) (by decide +kernel) ?_
    intro wd1166 gd1166
    have S1167 := S1160.keep gd1166
    have hf1168 := spUp gd1166 hf1161
    have hf1169 := spUp gd1166 hf1162
    have hf1170 := spUp gd1166 hf1163
    have hf1171 := spUp gd1166 hf1164
    have hf1172 := spUp gd1166 hf1165
    obtain ⟨v1173, w1173, r1173, g1173, T1173⟩ := zaq (kk := .i64) (kk' := .i64) (kd := (Kd.int .i64).slice) (q := (1 : Int)) (z := ([] : List Int)) (zc := [.slice none 0 0]) S1167 u24 ty23 rfl rfl (zal _ _) (by first|omega|(simp;omega)|assumption) (by first|omega|(simp;omega)|assumption) (by first|omega|(simp;omega)|assumption)
    have S1174 := T1173
    dsimp only [lAa, lAn, lA0, lAs] at S1174
    have hf1175 := spUp g1173 hf1168
    have hf1176 := spUp g1173 hf1169
    have hf1177 := spUp g1173 hf1170
    have hf1178 := spUp g1173 hf1171
    have hf1179 := spUp g1173 hf1172
    refine d_v (v := v1173) rfl rfl rfl (zap rfl rfl r1173) (.inl g1173) <| qd0 (i := 10) (v := .agg #[.slice none 0 0, .slice none 0 0, v1173, .slice none 0 0, .bool false]) rfl (by decide +kernel) rfl rfl (zav (pv := [(2, v1173)]) rfl (zae pl27 ty27 rfl (cs := [.slice none 0 0, .slice none 0 0, v1173, .slice none 0 0, .bool false]) (zag (vc := [v1173]) rfl (zac S1174 (j := 41) rfl) rfl rfl (zar rfl)))) (zau rfl) ?_
    exact jn247 _ _ _ (by decide +kernel) ⟨h177, v1145, v1159, v1131, v1173, (Le.refl _), S1174.sub [39, 40, 38, 41] (by decide) rfl _ rfl, rfl, rfl, rfl, rfl, rfl, rfl, rfl, rfl, rfl, rfl, rfl, rfl, hf1175, hf1176, hf1177, hf1178, hf1179⟩
   intro wd1180 gd1180
   have S1181 := S1146.keep gd1180
   have hf1182 := spUp gd1180 hf1147
   have hf1183 := spUp gd1180 hf1148
   have hf1184 := spUp gd1180 hf1149
   have hf1185 := spUp gd1180 hf1150
   have hf1186 := spUp gd1180 hf1151
   obtain ⟨v1187, w1187, r1187, g1187, T1187⟩ := zaq (kk := .i64) (kk' := .i64) (kd := (Kd.int .i64).slice) (q := (1 : Int)) (z := ([] : List Int)) (zc := [.slice none 0 0]) S1181 u24 ty23 rfl rfl (zal _ _) (by first|omega|(simp;omega)|assumption) (by first|omega|(simp;omega)|assumption) (by first|omega|(simp;omega)|assumption)
   have S1188 := T1187
   dsimp only [lAa, lAn, lA0, lAs] at S1188
   have hf1189 := spUp g1187 hf1182
   have hf1190 := spUp g1187 hf1183
   have hf1191 := spUp g1187 hf1184
   have hf1192 := spUp g1187 hf1185
   have hf1193 := spUp g1187 hf1186
   refine d_v (v := v1187) rfl rfl rfl (zap rfl rfl r1187) (.inl g1187) <| qd0 (i := 10) (v := .agg #[.slice none 0 0, .slice none 0 0, v1187, .slice none 0 0, .bool false]) rfl (by decide +kernel) rfl rfl (zav (pv := [(2, v1187)]) rfl (zae pl27 ty27 rfl (cs := [.slice none 0 0, .slice none 0 0, v1187, .slice none 0 0, .bool false]) (zag (vc := [v1187]) rfl (zac S1188 (j := 40) rfl) rfl rfl (zar rfl)))) (zau rfl) <| za0 (i := 6) (by decide +kernel) ?_
   intro wd1194 gd1194
   have S1195 := S1188.keep gd1194
   have hf1196 := spUp gd1194 hf1189
   have hf1197 := spUp gd1194 hf1190
   have hf1198 := spUp gd1194 hf1191
   have hf1199 := spUp gd1194 hf1192
   have hf1200 := spUp gd1194 hf1193
   obtain ⟨v1201, w1201, r1201, g1201, T1201⟩ := zaq (kk := .i64) (kk' := .i64) (kd := (Kd.int .i64).slice) (q := (251 : Int)) (z := ([] : List Int)) (zc := [.slice none 0 0]) S1195 u24 ty23 rfl rfl (zal _ _) (by first|omega|(simp;omega)|assumption) (by first|omega|(simp;omega)|assumption) (by first|omega|(simp;omega)|assumption)
   have S1202 := T1201
   dsimp only [lAa, lAn, lA0, lAs] at S1202
   have hf1203 := spUp g1201 hf1196
   have hf1204 := spUp g1201 hf1197
   have hf1205 := spUp g1201 hf1198
   have hf1206 := spUp g1201 hf1199
   have hf1207 := spUp g1201 hf1200
   refine d_v (v := v1201) rfl rfl rfl (zap rfl rfl r1201) (.inl g1201) <| qd0 (i := 8) (v := .agg #[v1145, .slice none 0 0, v1201, v1131, .bool false]) rfl (by decide +kernel) rfl rfl (zav (pv := [(0, v1145), (2, v1201), (3, v1131)]) rfl (zae pl27 ty27 rfl (cs := [v1145, .slice none 0 0, v1201, v1131, .bool false]) (zag (vc := [v1145]) rfl (zac S1202 (j := 39) rfl) rfl rfl (zag (vc := [v1201]) rfl (zac S1202 (j := 41) rfl) rfl rfl (zag (vc := [v1131]) rfl (zac S1202 (j := 38) rfl) rfl rfl (zar rfl)))))) (zau rfl) ?_
   exact jn247 _ _ _ (by decide +kernel) ⟨h177, v1145, v1201, v1131, v1187, (Le.refl _), S1202.sub [39, 41, 38, 40] (by decide) rfl _ rfl, rfl, rfl, rfl, rfl, rfl, rfl, rfl, rfl, rfl, rfl, rfl, rfl, hf1203, hf1204, hf1205, hf1206, hf1207⟩
  ·skip
   intro wd1208 gd1208
   have S1209 := S1132.keep gd1208
   have hf1210 := spUp gd1208 hf1133
   have hf1211 := spUp gd1208 hf1134
   have hf1212 := spUp gd1208 hf1135
   have hf1213 := spUp gd1208 hf1136
   have hf1214 := spUp gd1208 hf1137
   obtain ⟨v1215, w1215, r1215, g1215, T1215⟩ := zaq (kk := .i64) (kk' := .i64) (kd := (Kd.int .i64).slice) (q := (251 : Int)) (z := ([] : List Int)) (zc := [.slice none 0 0]) S1209 u24 ty23 rfl rfl (zal _ _) (by first|omega|(simp;omega)|assumption) (by first|omega|(simp;omega)|assumption) (by first|omega|(simp;omega)|assumption)
   have S1216 := T1215
   dsimp only [lAa, lAn, lA0, lAs] at S1216
   have hf1217 := spUp g1215 hf1210
   have hf1218 := spUp g1215 hf1211
   have hf1219 := spUp g1215 hf1212
   have hf1220 := spUp g1215 hf1213
   have hf1221 := spUp g1215 hf1214
   refine d_v (v := v1215) rfl rfl rfl (zap rfl rfl r1215) (.inl g1215) ?_
   refine zcn (i := 5) (i2 := 9) (by decide +kernel) ?_ ?_
   ·skip
    intro wd1222 gd1222
    have S1223 := S1216.keep gd1222
    have hf1224 := spUp gd1222 hf1217
    have hf1225 := spUp gd1222 hf1218
    have hf1226 := spUp gd1222 hf1219
    have hf1227 := spUp gd1222 hf1220
    have hf1228 := spUp gd1222 hf1221
    obtain ⟨v1229, w1229, r1229, g1229, T1229⟩ := zaq (kk := .i64) (kk' := .i64) (kd := zax) (q := (251 : Int)) (z := (⟨0, 0⟩ : Spot)) (zc := (zak (⟨0, 0⟩ : Spot))) S1223 u22 ty38 rfl rfl ⟨rfl, by constructor <;> decide⟩ (by first|omega|(simp;omega)|assumption) (by first|omega|(simp;omega)|assumption) (by first|omega|(simp;omega)|assumption)
    have S1230 := T1229
    dsimp only [lAa, lAn, lA0, lAs] at S1230
    have hf1231 := spUp g1229 hf1224
    have hf1232 := spUp g1229 hf1225
    have hf1233 := spUp g1229 hf1226
    have hf1234 := spUp g1229 hf1227
    have hf1235 := spUp g1229 hf1228
    refine d_v (v := v1229) rfl rfl rfl (zap rfl rfl r1229) (.inl g1229) <| qd0 (i := 8) (v := .agg #[v1229, .slice none 0 0, v1215, v1131, .bool false]) rfl (by decide +kernel) rfl rfl (zav (pv := [(0, v1229), (2, v1215), (3, v1131)]) rfl (zae pl27 ty27 rfl (cs := [v1229, .slice none 0 0, v1215, v1131, .bool false]) (zag (vc := [v1229]) rfl (zac S1230 (j := 40) rfl) rfl rfl (zag (vc := [v1215]) rfl (zac S1230 (j := 39) rfl) rfl rfl (zag (vc := [v1131]) rfl (zac S1230 (j := 38) rfl) rfl rfl (zar rfl)))))) (zau rfl) <| za0 (i := 9) (by decide +kernel) ?_
    intro wd1236 gd1236
    have S1237 := S1230.keep gd1236
    have hf1238 := spUp gd1236 hf1231
    have hf1239 := spUp gd1236 hf1232
    have hf1240 := spUp gd1236 hf1233
    have hf1241 := spUp gd1236 hf1234
    have hf1242 := spUp gd1236 hf1235
    obtain ⟨v1243, w1243, r1243, g1243, T1243⟩ := zaq (kk := .i64) (kk' := .i64) (kd := (Kd.int .i64).slice) (q := (1 : Int)) (z := ([] : List Int)) (zc := [.slice none 0 0]) S1237 u24 ty23 rfl rfl (zal _ _) (by first|omega|(simp;omega)|assumption) (by first|omega|(simp;omega)|assumption) (by first|omega|(simp;omega)|assumption)
    have S1244 := T1243
    dsimp only [lAa, lAn, lA0, lAs] at S1244
    have hf1245 := spUp g1243 hf1238
    have hf1246 := spUp g1243 hf1239
    have hf1247 := spUp g1243 hf1240
    have hf1248 := spUp g1243 hf1241
    have hf1249 := spUp g1243 hf1242
    refine d_v (v := v1243) rfl rfl rfl (zap rfl rfl r1243) (.inl g1243) <| qd0 (i := 10) (v := .agg #[.slice none 0 0, .slice none 0 0, v1243, .slice none 0 0, .bool false]) rfl (by decide +kernel) rfl rfl (zav (pv := [(2, v1243)]) rfl (zae pl27 ty27 rfl (cs := [.slice none 0 0, .slice none 0 0, v1243, .slice none 0 0, .bool false]) (zag (vc := [v1243]) rfl (zac S1244 (j := 41) rfl) rfl rfl (zar rfl)))) (zau rfl) ?_
    exact jn247 _ _ _ (by decide +kernel) ⟨h177, v1229, v1215, v1131, v1243, (Le.refl _), S1244.sub [40, 39, 38, 41] (by decide) rfl _ rfl, rfl, rfl, rfl, rfl, rfl, rfl, rfl, rfl, rfl, rfl, rfl, rfl, hf1245, hf1246, hf1247, hf1248, hf1249⟩
   intro wd1250 gd1250
   have S1251 := S1216.keep gd1250
   have hf1252 := spUp gd1250 hf1217
   have hf1253 := spUp gd1250 hf1218
   have hf1254 := spUp gd1250 hf1219
   have hf1255 := spUp gd1250 hf1220
   have hf1256 := spUp gd1250 hf1221
   obtain ⟨v1257, w1257, r1257, g1257, T1257⟩ := zaq (kk := .i64) (kk' := .i64) (kd := (Kd.int .i64).slice) (q := (1 : Int)) (z := ([] : List Int)) (zc := [.slice none 0 0]) S1251 u24 ty23 rfl rfl (zal _ _) (by first|omega|(simp;omega)|assumption) (by first|omega|(simp;omega)|assumption) (by first|omega|(simp;omega)|assumption)
   have S1258 := T1257
   dsimp only [lAa, lAn, lA0, lAs] at S1258
   have hf1259 := spUp g1257 hf1252
   have hf1260 := spUp g1257 hf1253
   have hf1261 := spUp g1257 hf1254
   have hf1262 := spUp g1257 hf1255
   have hf1263 := spUp g1257 hf1256
   refine d_v (v := v1257) rfl rfl rfl (zap rfl rfl r1257) (.inl g1257) <| qd0 (i := 10) (v := .agg #[.slice none 0 0, .slice none 0 0, v1257, .slice none 0 0, .bool false]) rfl (by decide +kernel) rfl rfl (zav (pv := [(2, v1257)]) rfl (zae pl27 ty27 rfl (cs := [.slice none 0 0, .slice none 0 0, v1257, .slice none 0 0, .bool false]) (zag (vc := [v1257]) rfl (zac S1258 (j := 40) rfl) rfl rfl (zar rfl)))) (zau rfl) <| za0 (i := 5) (by decide +kernel) ?_
   intro wd1264 gd1264
   have S1265 := S1258.keep gd1264
   have hf1266 := spUp gd1264 hf1259
   have hf1267 := spUp gd1264 hf1260
   have hf1268 := spUp gd1264 hf1261
   have hf1269 := spUp gd1264 hf1262
   have hf1270 := spUp gd1264 hf1263
   obtain ⟨v1271, w1271, r1271, g1271, T1271⟩ := zaq (kk := .i64) (kk' := .i64) (kd := zax) (q := (251 : Int)) (z := (⟨0, 0⟩ : Spot)) (zc := (zak (⟨0, 0⟩ : Spot))) S1265 u22 ty38 rfl rfl ⟨rfl, by constructor <;> decide⟩ (by first|omega|(simp;omega)|assumption) (by first|omega|(simp;omega)|assumption) (by first|omega|(simp;omega)|assumption)
   have S1272 := T1271
   dsimp only [lAa, lAn, lA0, lAs] at S1272
   have hf1273 := spUp g1271 hf1266
   have hf1274 := spUp g1271 hf1267
   have hf1275 := spUp g1271 hf1268
   have hf1276 := spUp g1271 hf1269
   have hf1277 := spUp g1271 hf1270
   refine d_v (v := v1271) rfl rfl rfl (zap rfl rfl r1271) (.inl g1271) <| qd0 (i := 8) (v := .agg #[v1271, .slice none 0 0, v1215, v1131, .bool false]) rfl (by decide +kernel) rfl rfl (zav (pv := [(0, v1271), (2, v1215), (3, v1131)]) rfl (zae pl27 ty27 rfl (cs := [v1271, .slice none 0 0, v1215, v1131, .bool false]) (zag (vc := [v1271]) rfl (zac S1272 (j := 41) rfl) rfl rfl (zag (vc := [v1215]) rfl (zac S1272 (j := 39) rfl) rfl rfl (zag (vc := [v1131]) rfl (zac S1272 (j := 38) rfl) rfl rfl (zar rfl)))))) (zau rfl) ?_
   exact jn247 _ _ _ (by decide +kernel) ⟨h177, v1271, v1215, v1131, v1257, (Le.refl _), S1272.sub [41, 39, 38, 40] (by decide) rfl _ rfl, rfl, rfl, rfl, rfl, rfl, rfl, rfl, rfl, rfl, rfl, rfl, rfl, hf1273, hf1274, hf1275, hf1276, hf1277⟩
  intro wd1278 gd1278
  have S1279 := S1132.keep gd1278
  have hf1280 := spUp gd1278 hf1133
  have hf1281 := spUp gd1278 hf1134
  have hf1282 := spUp gd1278 hf1135
  have hf1283 := spUp gd1278 hf1136
  have hf1284 := spUp gd1278 hf1137
  obtain ⟨v1285, w1285, r1285, g1285, T1285⟩ := zaq (kk := .i64) (kk' := .i64) (kd := (Kd.int .i64).slice) (q := (1 : Int)) (z := ([] : List Int)) (zc := [.slice none 0 0]) S1279 u24 ty23 rfl rfl (zal _ _) (by first|omega|(simp;omega)|assumption) (by first|omega|(simp;omega)|assumption) (by first|omega|(simp;omega)|assumption)
  have S1286 := T1285
  dsimp only [lAa, lAn, lA0, lAs] at S1286
  have hf1287 := spUp g1285 hf1280
  have hf1288 := spUp g1285 hf1281
  have hf1289 := spUp g1285 hf1282
  have hf1290 := spUp g1285 hf1283
  have hf1291 := spUp g1285 hf1284
  refine d_v (v := v1285) rfl rfl rfl (zap rfl rfl r1285) (.inl g1285) <| qd0 (i := 10) (v := .agg #[.slice none 0 0, .slice none 0 0, v1285, .slice none 0 0, .bool false]) rfl (by decide +kernel) rfl rfl (zav (pv := [(2, v1285)]) rfl (zae pl27 ty27 rfl (cs := [.slice none 0 0, .slice none 0 0, v1285, .slice none 0 0, .bool false]) (zag (vc := [v1285]) rfl (zac S1286 (j := 39) rfl) rfl rfl (zar rfl)))) (zau rfl) ?_
  refine zcn (i := 5) (i2 := 6) (by decide +kernel) ?_ ?_
  ·skip
   intro wd1292 gd1292
   have S1293 := S1286.keep gd1292
   have hf1294 := spUp gd1292 hf1287
   have hf1295 := spUp gd1292 hf1288
   have hf1296 := spUp gd1292 hf1289
   have hf1297 := spUp gd1292 hf1290
   have hf1298 := spUp gd1292 hf1291
   obtain ⟨v1299, w1299, r1299, g1299, T1299⟩ := zaq (kk := .i64) (kk' := .i64) (kd := zax) (q := (251 : Int)) (z := (⟨0, 0⟩ : Spot)) (zc := (zak (⟨0, 0⟩ : Spot))) S1293 u22 ty38 rfl rfl ⟨rfl, by constructor <;> decide⟩ (by first|omega|(simp;omega)|assumption) (by first|omega|(simp;omega)|assumption) (by first|omega|(simp;omega)|assumption)
   have S1300 := T1299
   dsimp only [lAa, lAn, lA0, lAs] at S1300
   have hf1301 := spUp g1299 hf1294
   have hf1302 := spUp g1299 hf1295
   have hf1303 := spUp g1299 hf1296
   have hf1304 := spUp g1299 hf1297
   have hf1305 := spUp g1299 hf1298
   refine d_v (v := v1299) rfl rfl rfl (zap rfl rfl r1299) (.inl g1299) <| za0 (i := 6) (by decide +kernel) ?_
   intro wd1306 gd1306
   have S1307 := S1300.keep gd1306
   have hf1308 := spUp gd1306 hf1301
   have hf1309 := spUp gd1306 hf1302
   have hf1310 := spUp gd1306 hf1303
   have hf1311 := spUp gd1306 hf1304
   have hf1312 := spUp gd1306 hf1305
   obtain ⟨v1313, w1313, r1313, g1313, T1313⟩ := zaq (kk := .i64) (kk' := .i64) (kd := (Kd.int .i64).slice) (q := (251 : Int)) (z := ([] : List Int)) (zc := [.slice none 0 0]) S1307 u24 ty23 rfl rfl (zal _ _) (by first|omega|(simp;omega)|assumption) (by first|omega|(simp;omega)|assumption) (by first|omega|(simp;omega)|assumption)
   have S1314 := T1313
   dsimp only [lAa, lAn, lA0, lAs] at S1314
   have hf1315 := spUp g1313 hf1308
   have hf1316 := spUp g1313 hf1309
   have hf1317 := spUp g1313 hf1310
   have hf1318 := spUp g1313 hf1311
   have hf1319 := spUp g1313 hf1312
   refine d_v (v := v1313) rfl rfl rfl (zap rfl rfl r1313) (.inl g1313) <| qd0 (i := 8) (v := .agg #[v1299, .slice none 0 0, v1313, v1131, .bool false]) rfl (by decide +kernel) rfl rfl (zav (pv := [(0, v1299), (2, v1313), (3, v1131)]) rfl (zae pl27 ty27 rfl (cs := [v1299, .slice none 0 0, v1313, v1131, .bool false]) (zag (vc := [v1299]) rfl (zac S1314 (j := 40) rfl) rfl rfl (zag (vc := [v1313]) rfl (zac S1314 (j := 41) rfl) rfl rfl (zag (vc := [v1131]) rfl (zac S1314 (j := 38) rfl) rfl rfl (zar rfl)))))) (zau rfl) ?_
   exact jn247 _ _ _ (by decide +kernel) ⟨h177, v1299, v1313, v1131, v1285, (Le.refl _), S1314.sub [40, 41, 38, 39] (by decide) rfl _ rfl, rfl, rfl, rfl, rfl, rfl, rfl, rfl, rfl, rfl, rfl, rfl, rfl, hf1315, hf1316, hf1317, hf1318, hf1319⟩
  intro wd1320 gd1320
  have S1321 := S1286.keep gd1320
  have hf1322 := spUp gd1320 hf1287
  have hf1323 := spUp gd1320 hf1288
  have hf1324 := spUp gd1320 hf1289
  have hf1325 := spUp gd1320 hf1290
  have hf1326 := spUp gd1320 hf1291
  obtain ⟨v1327, w1327, r1327, g1327, T1327⟩ := zaq (kk := .i64) (kk' := .i64) (kd := (Kd.int .i64).slice) (q := (251 : Int)) (z := ([] : List Int)) (zc := [.slice none 0 0]) S1321 u24 ty23 rfl rfl (zal _ _) (by first|omega|(simp;omega)|assumption) (by first|omega|(simp;omega)|assumption) (by first|omega|(simp;omega)|assumption)
  have S1328 := T1327
  dsimp only [lAa, lAn, lA0, lAs] at S1328
  have hf1329 := spUp g1327 hf1322
  have hf1330 := spUp g1327 hf1323
  have hf1331 := spUp g1327 hf1324
  have hf1332 := spUp g1327 hf1325
  have hf1333 := spUp g1327 hf1326
  refine d_v (v := v1327) rfl rfl rfl (zap rfl rfl r1327) (.inl g1327) <| za0 (i := 5) (by decide +kernel) ?_
  intro wd1334 gd1334
  have S1335 := S1328.keep gd1334
  have hf1336 := spUp gd1334 hf1329
  have hf1337 := spUp gd1334 hf1330
  have hf1338 := spUp gd1334 hf1331
  have hf1339 := spUp gd1334 hf1332
  have hf1340 := spUp gd1334 hf1333
  obtain ⟨v1341, w1341, r1341, g1341, T1341⟩ := zaq (kk := .i64) (kk' := .i64) (kd := zax) (q := (251 : Int)) (z := (⟨0, 0⟩ : Spot)) (zc := (zak (⟨0, 0⟩ : Spot))) S1335 u22 ty38 rfl rfl ⟨rfl, by constructor <;> decide⟩ (by first|omega|(simp;omega)|assumption) (by first|omega|(simp;omega)|assumption) (by first|omega|(simp;omega)|assumption)
  have S1342 := T1341
  dsimp only [lAa, lAn, lA0, lAs] at S1342
  have hf1343 := spUp g1341 hf1336
  have hf1344 := spUp g1341 hf1337
  have hf1345 := spUp g1341 hf1338
  have hf1346 := spUp g1341 hf1339
  have hf1347 := spUp g1341 hf1340
  refine d_v (v := v1341) rfl rfl rfl (zap rfl rfl r1341) (.inl g1341) <| qd0 (i := 8) (v := .agg #[v1341, .slice none 0 0, v1327, v1131, .bool false]) rfl (by decide +kernel) rfl rfl (zav (pv := [(0, v1341), (2, v1327), (3, v1131)]) rfl (zae pl27 ty27 rfl (cs := [v1341, .slice none 0 0, v1327, v1131, .bool false]) (zag (vc := [v1341]) rfl (zac S1342 (j := 41) rfl) rfl rfl (zag (vc := [v1327]) rfl (zac S1342 (j := 40) rfl) rfl rfl (zag (vc := [v1131]) rfl (zac S1342 (j := 38) rfl) rfl rfl (zar rfl)))))) (zau rfl) ?_
  exact jn247 _ _ _ (by decide +kernel) ⟨h177, v1341, v1327, v1131, v1285, (Le.refl _), S1342.sub [41, 40, 38, 39] (by decide) rfl _ rfl, rfl, rfl, rfl, rfl, rfl, rfl, rfl, rfl, rfl, rfl, rfl, rfl, hf1343, hf1344, hf1345, hf1346, hf1347⟩
 intro wd1348 gd1348
 have S1349 := S185.keep gd1348
 have hf1350 := spUp gd1348 hf186
 have hf1351 := spUp gd1348 hf187
 have hf1352 := spUp gd1348 hf188
 have hf1353 := spUp gd1348 hf189
 have hf1354 := spUp gd1348 hf190
 obtain ⟨v1355, w1355, r1355, g1355, T1355⟩ := zaq (kk := .i64) (kk' := .i64) (kd := (Kd.int .i64).slice) (q := (1 : Int)) (z := ([] : List Int)) (zc := [.slice none 0 0]) S1349 u24 ty23 rfl rfl (zal _ _) (by first|omega|(simp;omega)|assumption) (by first|omega|(simp;omega)|assumption) (by first|omega|(simp;omega)|assumption)
 have S1356 := T1355
 dsimp only [lAa, lAn, lA0, lAs] at S1356
 have hf1357 := spUp g1355 hf1350
 have hf1358 := spUp g1355 hf1351
 have hf1359 := spUp g1355 hf1352
 have hf1360 := spUp g1355 hf1353
 have hf1361 := spUp g1355 hf1354
 refine d_v (v := v1355) rfl rfl rfl (zap rfl rfl r1355) (.inl g1355) <| qd0 (i := 10) (v := .agg #[.slice none 0 0, .slice none 0 0, v1355, .slice none 0 0, .bool false]) rfl (by decide +kernel) rfl rfl (zav (pv := [(2, v1355)]) rfl (zae pl27 ty27 rfl (cs := [.slice none 0 0, .slice none 0 0, v1355, .slice none 0 0, .bool false]) (zag (vc := [v1355]) rfl (zac S1356 (j := 38) rfl) rfl rfl (zar rfl)))) (zau rfl) ?_
 refine ra_three (i := 5) (i2 := 6) (i3 := 7) (by decide +kernel) ?_ ?_ ?_
 ·skip
  intro wd1362 gd1362
  have S1363 := S1356.keep gd1362
  have hf1364 := spUp gd1362 hf1357
  have hf1365 := spUp gd1362 hf1358
  have hf1366 := spUp gd1362 hf1359
  have hf1367 := spUp gd1362 hf1360
  have hf1368 := spUp gd1362 hf1361
  obtain ⟨v1369, w1369, r1369, g1369, T1369⟩ := zaq (kk := .i64) (kk' := .i64) (kd := zax) (q := (251 : Int)) (z := (⟨0, 0⟩ : Spot)) (zc := (zak (⟨0, 0⟩ : Spot))) S1363 u22 ty38 rfl rfl ⟨rfl, by constructor <;> decide⟩ (by first|omega|(simp;omega)|assumption) (by first|omega|(simp;omega)|assumption) (by first|omega|(simp;omega)|assumption)
  have S1370 := T1369
  dsimp only [lAa, lAn, lA0, lAs] at S1370
  have hf1371 := spUp g1369 hf1364
  have hf1372 := spUp g1369 hf1365
  have hf1373 := spUp g1369 hf1366
  have hf1374 := spUp g1369 hf1367
  have hf1375 := spUp g1369 hf1368
  refine d_v (v := v1369) rfl rfl rfl (zap rfl rfl r1369) (.inl g1369) ?_
  refine zcn (i := 6) (i2 := 7) (by decide +kernel) ?_ ?_
  ·skip
   intro wd1376 gd1376
   have S1377 := S1370.keep gd1376
   have hf1378 := spUp gd1376 hf1371
   have hf1379 := spUp gd1376 hf1372
   have hf1380 := spUp gd1376 hf1373
   have hf1381 := spUp gd1376 hf1374
   have hf1382 := spUp gd1376 hf1375
   obtain ⟨v1383, w1383, r1383, g1383, T1383⟩ := zaq (kk := .i64) (kk' := .i64) (kd := (Kd.int .i64).slice) (q := (251 : Int)) (z := ([] : List Int)) (zc := [.slice none 0 0]) S1377 u24 ty23 rfl rfl (zal _ _) (by first|omega|(simp;omega)|assumption) (by first|omega|(simp;omega)|assumption) (by first|omega|(simp;omega)|assumption)
   have S1384 := T1383
   dsimp only [lAa, lAn, lA0, lAs] at S1384
   have hf1385 := spUp g1383 hf1378
   have hf1386 := spUp g1383 hf1379
   have hf1387 := spUp g1383 hf1380
   have hf1388 := spUp g1383 hf1381
   have hf1389 := spUp g1383 hf1382
   refine d_v (v := v1383) rfl rfl rfl (zap rfl rfl r1383) (.inl g1383) <| za0 (i := 7) (by decide +kernel) ?_
   intro wd1390 gd1390
   have S1391 := S1384.keep gd1390
   have hf1392 := spUp gd1390 hf1385
   have hf1393 := spUp gd1390 hf1386
   have hf1394 := spUp gd1390 hf1387
   have hf1395 := spUp gd1390 hf1388
   have hf1396 := spUp gd1390 hf1389
   obtain ⟨v1397, w1397, r1397, g1397, T1397⟩ := zaq (kk := .i64) (kk' := .i64) (kd := Kd.bool) (q := (251 : Int)) (z := false) (zc := [.bool false]) S1391 u25 ty4 rfl rfl ⟨rfl, trivial⟩ (by first|omega|(simp;omega)|assumption) (by first|omega|(simp;omega)|assumption) (by first|omega|(simp;omega)|assumption)
   have S1398 := T1397
   dsimp only [lAa, lAn, lA0, lAs] at S1398
   have hf1399 := spUp g1397 hf1392
   have hf1400 := spUp g1397 hf1393
   have hf1401 := spUp g1397 hf1394
   have hf1402 := spUp g1397 hf1395
   have hf1403 := spUp g1397 hf1396
   refine d_v (v := v1397) rfl rfl rfl (zap rfl rfl r1397) (.inl g1397) <| qd0 (i := 8) (v := .agg #[v1369, .slice none 0 0, v1383, v1397, .bool false]) rfl (by decide +kernel) rfl rfl (zav (pv := [(0, v1369), (2, v1383), (3, v1397)]) rfl (zae pl27 ty27 rfl (cs := [v1369, .slice none 0 0, v1383, v1397, .bool false]) (zag (vc := [v1369]) rfl (zac S1398 (j := 39) rfl) rfl rfl (zag (vc := [v1383]) rfl (zac S1398 (j := 40) rfl) rfl rfl (zag (vc := [v1397]) rfl (zac S1398 (j := 41) rfl) rfl rfl (zar rfl)))))) (zau rfl) ?_
   exact jn247 _ _ _ (by decide +kernel) ⟨h177, v1369, v1383, v1397, v1355, (Le.refl _), S1398.sub [39, 40, 41, 38] (by decide) rfl _ rfl, rfl, rfl, rfl, rfl, rfl, rfl, rfl, rfl, rfl, rfl, rfl, rfl, hf1399, hf1400, hf1401, hf1402, hf1403⟩
  intro wd1404 gd1404
  have S1405 := S1370.keep gd1404
  have hf1406 := spUp gd1404 hf1371
  have hf1407 := spUp gd1404 hf1372
  have hf1408 := spUp gd1404 hf1373
  have hf1409 := spUp gd1404 hf1374
  have hf1410 := spUp gd1404 hf1375
  obtain ⟨v1411, w1411, r1411, g1411, T1411⟩ := zaq (kk := .i64) (kk' := .i64) (kd := Kd.bool) (q := (251 : Int)) (z := false) (zc := [.bool false]) S1405 u25 ty4 rfl rfl ⟨rfl, trivial⟩ (by first|omega|(simp;omega)|assumption) (by first|omega|(simp;omega)|assumption) (by first|omega|(simp;omega)|assumption)
  have S1412 := T1411
  dsimp only [lAa, lAn, lA0, lAs] at S1412
  have hf1413 := spUp g1411 hf1406
  have hf1414 := spUp g1411 hf1407
  have hf1415 := spUp g1411 hf1408
  have hf1416 := spUp g1411 hf1409
  have hf1417 := spUp g1411 hf1410
  refine d_v (v := v1411) rfl rfl rfl (zap rfl rfl r1411) (.inl g1411) <| za0 (i := 6) (by decide +kernel) ?_
  intro wd1418 gd1418
  have S1419 := S1412.keep gd1418
  have hf1420 := spUp gd1418 hf1413
  have hf1421 := spUp gd1418 hf1414
  have hf1422 := spUp gd1418 hf1415
  have hf1423 := spUp gd1418 hf1416
  have hf1424 := spUp gd1418 hf1417
  obtain ⟨v1425, w1425, r1425, g1425, T1425⟩ := zaq (kk := .i64) (kk' := .i64) (kd := (Kd.int .i64).slice) (q := (251 : Int)) (z := ([] : List Int)) (zc := [.slice none 0 0]) S1419 u24 ty23 rfl rfl (zal _ _) (by first|omega|(simp;omega)|assumption) (by first|omega|(simp;omega)|assumption) (by first|omega|(simp;omega)|assumption)
  have S1426 := T1425
  dsimp only [lAa, lAn, lA0, lAs] at S1426
  have hf1427 := spUp g1425 hf1420
  have hf1428 := spUp g1425 hf1421
  have hf1429 := spUp g1425 hf1422
  have hf1430 := spUp g1425 hf1423
  have hf1431 := spUp g1425 hf1424
  refine d_v (v := v1425) rfl rfl rfl (zap rfl rfl r1425) (.inl g1425) <| qd0 (i := 8) (v := .agg #[v1369, .slice none 0 0, v1425, v1411, .bool false]) rfl (by decide +kernel) rfl rfl (zav (pv := [(0, v1369), (2, v1425), (3, v1411)]) rfl (zae pl27 ty27 rfl (cs := [v1369, .slice none 0 0, v1425, v1411, .bool false]) (zag (vc := [v1369]) rfl (zac S1426 (j := 39) rfl) rfl rfl (zag (vc := [v1425]) rfl (zac S1426 (j := 41) rfl) rfl rfl (zag (vc := [v1411]) rfl (zac S1426 (j := 40) rfl) rfl rfl (zar rfl)))))) (zau rfl) ?_
  exact jn247 _ _ _ (by decide +kernel) ⟨h177, v1369, v1425, v1411, v1355, (Le.refl _), S1426.sub [39, 41, 40, 38] (by decide) rfl _ rfl, rfl, rfl, rfl, rfl, rfl, rfl, rfl, rfl, rfl, rfl, rfl, rfl, hf1427, hf1428, hf1429, hf1430, hf1431⟩
 ·skip
  intro wd1432 gd1432
  have S1433 := S1356.keep gd1432
  have hf1434 := spUp gd1432 hf1357
  have hf1435 := spUp gd1432 hf1358
  have hf1436 := spUp gd1432 hf1359
  have hf1437 := spUp gd1432 hf1360
  have hf1438 := spUp gd1432 hf1361
  obtain ⟨v1439, w1439, r1439, g1439, T1439⟩ := zaq (kk := .i64) (kk' := .i64) (kd := (Kd.int .i64).slice) (q := (251 : Int)) (z := ([] : List Int)) (zc := [.slice none 0 0]) S1433 u24 ty23 rfl rfl (zal _ _) (by first|omega|(simp;omega)|assumption) (by first|omega|(simp;omega)|assumption) (by first|omega|(simp;omega)|assumption)
  have S1440 := T1439
  dsimp only [lAa, lAn, lA0, lAs] at S1440
  have hf1441 := spUp g1439 hf1434
  have hf1442 := spUp g1439 hf1435
  have hf1443 := spUp g1439 hf1436
  have hf1444 := spUp g1439 hf1437
  have hf1445 := spUp g1439 hf1438
  refine d_v (v := v1439) rfl rfl rfl (zap rfl rfl r1439) (.inl g1439) ?_
  refine zcn (i := 5) (i2 := 7) (by decide +kernel) ?_ ?_
  ·skip
   intro wd1446 gd1446
   have S1447 := S1440.keep gd1446
   have hf1448 := spUp gd1446 hf1441
   have hf1449 := spUp gd1446 hf1442
   have hf1450 := spUp gd1446 hf1443
   have hf1451 := spUp gd1446 hf1444
   have hf1452 := spUp gd1446 hf1445
   obtain ⟨v1453, w1453, r1453, g1453, T1453⟩ := zaq (kk := .i64) (kk' := .i64) (kd := zax) (q := (251 : Int)) (z := (⟨0, 0⟩ : Spot)) (zc := (zak (⟨0, 0⟩ : Spot))) S1447 u22 ty38 rfl rfl ⟨rfl, by constructor <;> decide⟩ (by first|omega|(simp;omega)|assumption) (by first|omega|(simp;omega)|assumption) (by first|omega|(simp;omega)|assumption)
   have S1454 := T1453
   dsimp only [lAa, lAn, lA0, lAs] at S1454
   have hf1455 := spUp g1453 hf1448
   have hf1456 := spUp g1453 hf1449
   have hf1457 := spUp g1453 hf1450
   have hf1458 := spUp g1453 hf1451
   have hf1459 := spUp g1453 hf1452
   refine d_v (v := v1453) rfl rfl rfl (zap rfl rfl r1453) (.inl g1453) <| za0 (i := 7) (by decide +kernel) ?_
   intro wd1460 gd1460
   have S1461 := S1454.keep gd1460
   have hf1462 := spUp gd1460 hf1455
   have hf1463 := spUp gd1460 hf1456
   have hf1464 := spUp gd1460 hf1457
   have hf1465 := spUp gd1460 hf1458
   have hf1466 := spUp gd1460 hf1459
   obtain ⟨v1467, w1467, r1467, g1467, T1467⟩ := zaq (kk := .i64) (kk' := .i64) (kd := Kd.bool) (q := (251 : Int)) (z := false) (zc := [.bool false]) S1461 u25 ty4 rfl rfl ⟨rfl, trivial⟩ (by first|omega|(simp;omega)|assumption) (by first|omega|(simp;omega)|assumption) (by first|omega|(simp;omega)|assumption)
   have S1468 := T1467
   dsimp only [lAa, lAn, lA0, lAs] at S1468
   have hf1469 := spUp g1467 hf1462
   have hf1470 := spUp g1467 hf1463
   have hf1471 := spUp g1467 hf1464
   have hf1472 := spUp g1467 hf1465
   have hf1473 := spUp g1467 hf1466
   refine d_v (v := v1467) rfl rfl rfl (zap rfl rfl r1467) (.inl g1467) <| qd0 (i := 8) (v := .agg #[v1453, .slice none 0 0, v1439, v1467, .bool false]) rfl (by decide +kernel) rfl rfl (zav (pv := [(0, v1453), (2, v1439), (3, v1467)]) rfl (zae pl27 ty27 rfl (cs := [v1453, .slice none 0 0, v1439, v1467, .bool false]) (zag (vc := [v1453]) rfl (zac S1468 (j := 40) rfl) rfl rfl (zag (vc := [v1439]) rfl (zac S1468 (j := 39) rfl) rfl rfl (zag (vc := [v1467]) rfl (zac S1468 (j := 41) rfl) rfl rfl (zar rfl)))))) (zau rfl) ?_
   exact jn247 _ _ _ (by decide +kernel) ⟨h177, v1453, v1439, v1467, v1355, (Le.refl _), S1468.sub [40, 39, 41, 38] (by decide) rfl _ rfl, rfl, rfl, rfl, rfl, rfl, rfl, rfl, rfl, rfl, rfl, rfl, rfl, hf1469, hf1470, hf1471, hf1472, hf1473⟩
  intro wd1474 gd1474
  have S1475 := S1440.keep gd1474
  have hf1476 := spUp gd1474 hf1441
  have hf1477 := spUp gd1474 hf1442
  have hf1478 := spUp gd1474 hf1443
  have hf1479 := spUp gd1474 hf1444
  have hf1480 := spUp gd1474 hf1445
  obtain ⟨v1481, w1481, r1481, g1481, T1481⟩ := zaq (kk := .i64) (kk' := .i64) (kd := Kd.bool) (q := (251 : Int)) (z := false) (zc := [.bool false]) S1475 u25 ty4 rfl rfl ⟨rfl, trivial⟩ (by first|omega|(simp;omega)|assumption) (by first|omega|(simp;omega)|assumption) (by first|omega|(simp;omega)|assumption)
  have S1482 := T1481
  dsimp only [lAa, lAn, lA0, lAs] at S1482
  have hf1483 := spUp g1481 hf1476
  have hf1484 := spUp g1481 hf1477
  have hf1485 := spUp g1481 hf1478
  have hf1486 := spUp g1481 hf1479
  have hf1487 := spUp g1481 hf1480
  refine d_v (v := v1481) rfl rfl rfl (zap rfl rfl r1481) (.inl g1481) <| za0 (i := 5) (by decide +kernel) ?_
  intro wd1488 gd1488
  have S1489 := S1482.keep gd1488
  have hf1490 := spUp gd1488 hf1483
  have hf1491 := spUp gd1488 hf1484
  have hf1492 := spUp gd1488 hf1485
  have hf1493 := spUp gd1488 hf1486
  have hf1494 := spUp gd1488 hf1487
  obtain ⟨v1495, w1495, r1495, g1495, T1495⟩ := zaq (kk := .i64) (kk' := .i64) (kd := zax) (q := (251 : Int)) (z := (⟨0, 0⟩ : Spot)) (zc := (zak (⟨0, 0⟩ : Spot))) S1489 u22 ty38 rfl rfl ⟨rfl, by constructor <;> decide⟩ (by first|omega|(simp;omega)|assumption) (by first|omega|(simp;omega)|assumption) (by first|omega|(simp;omega)|assumption)
  have S1496 := T1495
  dsimp only [lAa, lAn, lA0, lAs] at S1496
  have hf1497 := spUp g1495 hf1490
  have hf1498 := spUp g1495 hf1491
  have hf1499 := spUp g1495 hf1492
  have hf1500 := spUp g1495 hf1493
  have hf1501 := spUp g1495 hf1494
  refine d_v (v := v1495) rfl rfl rfl (zap rfl rfl r1495) (.inl g1495) <| qd0 (i := 8) (v := .agg #[v1495, .slice none 0 0, v1439, v1481, .bool false]) rfl (by decide +kernel) rfl rfl (zav (pv := [(0, v1495), (2, v1439), (3, v1481)]) rfl (zae pl27 ty27 rfl (cs := [v1495, .slice none 0 0, v1439, v1481, .bool false]) (zag (vc := [v1495]) rfl (zac S1496 (j := 41) rfl) rfl rfl (zag (vc := [v1439]) rfl (zac S1496 (j := 39) rfl) rfl rfl (zag (vc := [v1481]) rfl (zac S1496 (j := 40) rfl) rfl rfl (zar rfl)))))) (zau rfl) ?_
  exact jn247 _ _ _ (by decide +kernel) ⟨h177, v1495, v1439, v1481, v1355, (Le.refl _), S1496.sub [41, 39, 40, 38] (by decide) rfl _ rfl, rfl, rfl, rfl, rfl, rfl, rfl, rfl, rfl, rfl, rfl, rfl, rfl, hf1497, hf1498, hf1499, hf1500, hf1501⟩
 intro wd1502 gd1502
 have S1503 := S1356.keep gd1502
 have hf1504 := spUp gd1502 hf1357
 have hf1505 := spUp gd1502 hf1358
 have hf1506 := spUp gd1502 hf1359
 have hf1507 := spUp gd1502 hf1360
 have hf1508 := spUp gd1502 hf1361
 obtain ⟨v1509, w1509, r1509, g1509, T1509⟩ := zaq (kk := .i64) (kk' := .i64) (kd := Kd.bool) (q := (251 : Int)) (z := false) (zc := [.bool false]) S1503 u25 ty4 rfl rfl ⟨rfl, trivial⟩ (by first|omega|(simp;omega)|assumption) (by first|omega|(simp;omega)|assumption) (by first|omega|(simp;omega)|assumption)
 have S1510 := T1509
 dsimp only [lAa, lAn, lA0, lAs] at S1510
 have hf1511 := spUp g1509 hf1504
 have hf1512 := spUp g1509 hf1505
 have hf1513 := spUp g1509 hf1506
 have hf1514 := spUp g1509 hf1507
 have hf1515 := spUp g1509 hf1508
 refine d_v (v := v1509) rfl rfl rfl (zap rfl rfl r1509) (.inl g1509) ?_
 refine zcn (i := 5) (i2 := 6) (by decide +kernel) ?_ ?_
 ·skip
  intro wd1516 gd1516
  have S1517 := S1510.keep gd1516
  have hf1518 := spUp gd1516 hf1511
  have hf1519 := spUp gd1516 hf1512
  have hf1520 := spUp gd1516 hf1513
  have hf1521 := spUp gd1516 hf1514
  have hf1522 := spUp gd1516 hf1515
  obtain ⟨v1523, w1523, r1523, g1523, T1523⟩ := zaq (kk := .i64) (kk' := .i64) (kd := zax) (q := (251 : Int)) (z := (⟨0, 0⟩ : Spot)) (zc := (zak (⟨0, 0⟩ : Spot))) S1517 u22 ty38 rfl rfl ⟨rfl, by constructor <;> decide⟩ (by first|omega|(simp;omega)|assumption) (by first|omega|(simp;omega)|assumption) (by first|omega|(simp;omega)|assumption)
  have S1524 := T1523
  dsimp only [lAa, lAn, lA0, lAs] at S1524
  have hf1525 := spUp g1523 hf1518
  have hf1526 := spUp g1523 hf1519
  have hf1527 := spUp g1523 hf1520
  have hf1528 := spUp g1523 hf1521
  have hf1529 := spUp g1523 hf1522
  refine d_v (v := v1523) rfl rfl rfl (zap rfl rfl r1523) (.inl g1523) <| za0 (i := 6) (by decide +kernel) ?_
  intro wd1530 gd1530
  have S1531 := S1524.keep gd1530
  have hf1532 := spUp gd1530 hf1525
  have hf1533 := spUp gd1530 hf1526
  have hf1534 := spUp gd1530 hf1527
  have hf1535 := spUp gd1530 hf1528
  have hf1536 := spUp gd1530 hf1529
  obtain ⟨v1537, w1537, r1537, g1537, T1537⟩ := zaq (kk := .i64) (kk' := .i64) (kd := (Kd.int .i64).slice) (q := (251 : Int)) (z := ([] : List Int)) (zc := [.slice none 0 0]) S1531 u24 ty23 rfl rfl (zal _ _) (by first|omega|(simp;omega)|assumption) (by first|omega|(simp;omega)|assumption) (by first|omega|(simp;omega)|assumption)
  have S1538 := T1537
  dsimp only [lAa, lAn, lA0, lAs] at S1538
  have hf1539 := spUp g1537 hf1532
  have hf1540 := spUp g1537 hf1533
  have hf1541 := spUp g1537 hf1534
  have hf1542 := spUp g1537 hf1535
  have hf1543 := spUp g1537 hf1536
  refine d_v (v := v1537) rfl rfl rfl (zap rfl rfl r1537) (.inl g1537) <| qd0 (i := 8) (v := .agg #[v1523, .slice none 0 0, v1537, v1509, .bool false]) rfl (by decide +kernel) rfl rfl (zav (pv := [(0, v1523), (2, v1537), (3, v1509)]) rfl (zae pl27 ty27 rfl (cs := [v1523, .slice none 0 0, v1537, v1509, .bool false]) (zag (vc := [v1523]) rfl (zac S1538 (j := 40) rfl) rfl rfl (zag (vc := [v1537]) rfl (zac S1538 (j := 41) rfl) rfl rfl (zag (vc := [v1509]) rfl (zac S1538 (j := 39) rfl) rfl rfl (zar rfl)))))) (zau rfl) ?_
  exact jn247 _ _ _ (by decide +kernel) ⟨h177, v1523, v1537, v1509, v1355, (Le.refl _), S1538.sub [40, 41, 39, 38] (by decide) rfl _ rfl, rfl, rfl, rfl, rfl, rfl, rfl, rfl, rfl, rfl, rfl, rfl, rfl, hf1539, hf1540, hf1541, hf1542, hf1543⟩
 intro wd1544 gd1544
 have S1545 := S1510.keep gd1544
 have hf1546 := spUp gd1544 hf1511
 have hf1547 := spUp gd1544 hf1512
 have hf1548 := spUp gd1544 hf1513
 have hf1549 := spUp gd1544 hf1514
 have hf1550 := spUp gd1544 hf1515
 obtain ⟨v1551, w1551, r1551, g1551, T1551⟩ := zaq (kk := .i64) (kk' := .i64) (kd := (Kd.int .i64).slice) (q := (251 : Int)) (z := ([] : List Int)) (zc := [.slice none 0 0]) S1545 u24 ty23 rfl rfl (zal _ _) (by first|omega|(simp;omega)|assumption) (by first|omega|(simp;omega)|assumption) (by first|omega|(simp;omega)|assumption)
 have S1552 := T1551
 dsimp only [lAa, lAn, lA0, lAs] at S1552
 have hf1553 := spUp g1551 hf1546
 have hf1554 := spUp g1551 hf1547
 have hf1555 := spUp g1551 hf1548
 have hf1556 := spUp g1551 hf1549
 have hf1557 := spUp g1551 hf1550
 refine d_v (v := v1551) rfl rfl rfl (zap rfl rfl r1551) (.inl g1551) <| za0 (i := 5) (by decide +kernel) ?_
 intro wd1558 gd1558
 have S1559 := S1552.keep gd1558
 have hf1560 := spUp gd1558 hf1553
 have hf1561 := spUp gd1558 hf1554
 have hf1562 := spUp gd1558 hf1555
 have hf1563 := spUp gd1558 hf1556
 have hf1564 := spUp gd1558 hf1557
 obtain ⟨v1565, w1565, r1565, g1565, T1565⟩ := zaq (kk := .i64) (kk' := .i64) (kd := zax) (q := (251 : Int)) (z := (⟨0, 0⟩ : Spot)) (zc := (zak (⟨0, 0⟩ : Spot))) S1559 u22 ty38 rfl rfl ⟨rfl, by constructor <;> decide⟩ (by first|omega|(simp;omega)|assumption) (by first|omega|(simp;omega)|assumption) (by first|omega|(simp;omega)|assumption)
 have S1566 := T1565
 dsimp only [lAa, lAn, lA0, lAs] at S1566
 have hf1567 := spUp g1565 hf1560
 have hf1568 := spUp g1565 hf1561
 have hf1569 := spUp g1565 hf1562
 have hf1570 := spUp g1565 hf1563
 have hf1571 := spUp g1565 hf1564
 refine d_v (v := v1565) rfl rfl rfl (zap rfl rfl r1565) (.inl g1565) <| qd0 (i := 8) (v := .agg #[v1565, .slice none 0 0, v1551, v1509, .bool false]) rfl (by decide +kernel) rfl rfl (zav (pv := [(0, v1565), (2, v1551), (3, v1509)]) rfl (zae pl27 ty27 rfl (cs := [v1565, .slice none 0 0, v1551, v1509, .bool false]) (zag (vc := [v1565]) rfl (zac S1566 (j := 41) rfl) rfl rfl (zag (vc := [v1551]) rfl (zac S1566 (j := 40) rfl) rfl rfl (zag (vc := [v1509]) rfl (zac S1566 (j := 39) rfl) rfl rfl (zar rfl)))))) (zau rfl) ?_
 exact jn247 _ _ _ (by decide +kernel) ⟨h177, v1565, v1551, v1509, v1355, (Le.refl _), S1566.sub [41, 40, 39, 38] (by decide) rfl _ rfl, rfl, rfl, rfl, rfl, rfl, rfl, rfl, rfl, rfl, rfl, rfl, rfl, hf1567, hf1568, hf1569, hf1570, hf1571⟩
end Go.Proofs.Ythpdebieagaghaa
