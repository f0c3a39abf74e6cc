/- Functions of this translation, each walked once; no conditions but those that each contract tells. -/
import Derived.Test.YtdfkpjchnndniaaDoorTB
import Derived.Test.YtdfkpjchnndniaaDoorM6
import Derived.Test.YtdfkpjchnndniaaDoorM7
import Derived.Test.YtdfkpjchnndniaaDoorQB
import Derived.Test.YtdfkpjchnndniaaDoorTzB
import Derived.Test.YtdfkpjchnndniaaDoorN2
import Derived.Test.YtdfkpjchnndniaaDoorK1B
import Derived.Test.YtdfkpjchnndniaaDoorN3
import Derived.Test.YtdfkpjchnndniaaDoorM11
import Derived.Test.YtdfkpjchnndniaaDoorN5
import Derived.Test.YtdfkpjchnndniaaDoorN6
import Derived.Test.YtdfkpjchnndniaaDoorN7
import Derived.Test.YtdfkpjchnndniaaDoorUB
namespace Go.Proofs.YtdfkpjchnndniaaDoor
open Go Go.RowKit Gx
set_option maxHeartbeats 1000000
set_option linter.unusedVariables false
set_option linter.unusedSimpArgs false
attribute [local irreducible] members pack listOf count first someIn has setOf setRange wbits Lib.ctz rises rightM rowOk tab markP intoP intoTo behindP behindTo behindIn runTo endsIn endTo runM posTo mayP stepIf stepP mayTo atP lastTo greatM greatTo docAt anyTo allTo numAt numsL numsIn leftN kept lefts spotsTo lastTp followTo trimM errM comeM goesM keepM lfp seekN seekB fullS placeF okC okG clC clG clC2 clG2 firstC lastG andTo useN trues addS setsOfTo setsM

theorem awake10_calls (w : World) :
    Calls Tryd.prog 6 #[] w fun e w' => ∃ v, e = .returned v ∧ ∃ (hn : Ghost), St w.heap.size w hn w' [] ∧ v = .bool true := by
  refine calls_of_run Tryd.func6 rfl Tryd.ntmps6 rfl ?_
  have S0 := St.init w
  refine run_seq ?_
  refine run_reg (l := [0]) rfl ?_
  refine p_v (v := .bool false) rfl rfl rfl (x_assign rfl) ?_
  refine run_region_end ?_
  refine run_seq ?_
  refine run_reg (l := [0, 1, 2]) rfl ?_
  refine p_c rfl rfl rfl (y_call (args := []) ca17 rfl rfl) (some10_calls w ) ?_
  rintro _ w1 ⟨h1, v1_0, v1_1, v1_2, v1_3, T1, rfl⟩
  obtain ⟨k1, lk1, ll1, U1⟩ := call_joins S0 T1
  have S2 : St w.heap.size w k1 w1 [row 55 kSpot v1_0 someM.spots, row 3 (Kd.int .i64) v1_1 someM.first, row 23 (Kd.int .i64).slice v1_2 someM.follow, row 4 Kd.bool v1_3 someM.last] := U1
  obtain ⟨h3, le3, T3, rp3⟩ := S2.freeze (i := 0) rfl
  have lf3_0 := (lk1).trans le3
  have S4 : St w.heap.size w h3 w1 [emp, row 3 (Kd.int .i64) v1_1 someM.first, row 23 (Kd.int .i64).slice v1_2 someM.follow, row 4 Kd.bool v1_3 someM.last] := T3
  obtain ⟨A3, c3, e3, lc3, cm3, ld3⟩ := rp3
  injection e3 with e3 _; subst e3
  have cn3 := cm3; simp only [maxLen] at cn3
  obtain ⟨h5, le5, T5, rp5⟩ := S4.freeze (i := 1) rfl
  have lf5_0 := (lf3_0).trans le5
  have lf5_1 := (le3).trans le5
  have S6 : St w.heap.size w h5 w1 [emp, emp, row 23 (Kd.int .i64).slice v1_2 someM.follow, row 4 Kd.bool v1_3 someM.last] := T5
  obtain ⟨A5, c5, e5, lc5, cm5, ld5⟩ := rp5
  injection e5 with e5 _; subst e5
  have cn5 := cm5; simp only [maxLen] at cn5
  obtain ⟨h7, le7, T7, rp7⟩ := S6.freeze (i := 2) rfl
  have lf7_0 := (lf5_0).trans le7
  have lf7_1 := (lf5_1).trans le7
  have lf7_2 := (le5).trans le7
  have S8 : St w.heap.size w h7 w1 [emp, emp, emp, row 4 Kd.bool v1_3 someM.last] := T7
  obtain ⟨A7, c7, e7, lc7, cm7, ld7⟩ := rp7
  injection e7 with e7 _; subst e7
  have cn7 := cm7; simp only [maxLen] at cn7
  obtain ⟨h9, le9, T9, rp9⟩ := S8.freeze (i := 3) rfl
  have lf9_0 := (lf7_0).trans le9
  have lf9_1 := (lf7_1).trans le9
  have lf9_2 := (lf7_2).trans le9
  have lf9_3 := (le7).trans le9
  have S10 : St w.heap.size w h9 w1 [emp, emp, emp, emp] := T9
  obtain ⟨A9, c9, e9, lc9, cm9, ld9⟩ := rp9
  injection e9 with e9 _; subst e9
  have cn9 := cm9; simp only [maxLen] at cn9
  obtain ⟨b11, w11, r11, g11, T11⟩ := e_box (P := Tryd.prog) S10 27 (v := (.agg #[.slice none 0 0, .slice none 0 0, .slice none 0 0, .slice none 0 0, .bool false])) [.slice none 0 0, .slice none 0 0, .slice none 0 0, .slice none 0 0, .bool false] rfl
  have S12 : St w.heap.size w h9 w11 [emp, emp, emp, emp, box b11 27 [.slice none 0 0, .slice none 0 0, .slice none 0 0, .slice none 0 0, .bool false]] := T11
  refine p_v (v := .pointer (some ⟨b11, 0, none⟩)) rfl rfl rfl (x_alloc ty27 r11) ?_
  obtain ⟨w13, r13, g13, T13⟩ := e_store (P := Tryd.prog) (off := 0) (v := .agg #[.slice A3 someM.spots.length c3, .slice A5 someM.first.length c5, .slice A7 someM.follow.length c7, .slice A9 someM.last.length c9, .bool someM.empty]) (vs := [.slice A3 someM.spots.length c3, .slice A5 someM.first.length c5, .slice A7 someM.follow.length c7, .slice A9 someM.last.length c9, .bool someM.empty]) S12 ty27 rfl rfl (j := 4) rfl (by first | decide | exact Nat.le_of_ble_eq_true rfl) (by simp [Value.oneCell'])
  have S14 : St w.heap.size w h9 w13 [emp, emp, emp, emp, box b11 27 [.slice A3 someM.spots.length c3, .slice A5 someM.first.length c5, .slice A7 someM.follow.length c7, .slice A9 someM.last.length c9, .bool someM.empty]] := T13
  refine p_s rfl rfl (x_store rfl rfl r13) ?_
  refine run_region_end ?_
  refine run_seq ?_
  refine run_reg (l := [0, 1, 2, 3, 4, 5, 6, 7]) rfl ?_
  refine p_v (v := .agg #[.slice A3 someM.spots.length c3, .slice A5 someM.first.length c5, .slice A7 someM.follow.length c7, .slice A9 someM.last.length c9, .bool someM.empty]) rfl rfl rfl (x_load (seg := [.slice A3 someM.spots.length c3, .slice A5 someM.first.length c5, .slice A7 someM.follow.length c7, .slice A9 someM.last.length c9, .bool someM.empty]) ty27 rfl (by simp) rfl (CF.box (m := 5) (S14.box_at (j := 4) rfl) rfl)) ?_
  refine p_c rfl rfl rfl (y_call (args := [.agg #[.slice A3 someM.spots.length c3, .slice A5 someM.first.length c5, .slice A7 someM.follow.length c7, .slice A9 someM.last.length c9, .bool someM.empty]]) ca7 rfl rfl) (trimN_calls w13 someM A3 c3 (And.intro lc3 cm3) (ld3.mono (lf9_2.trans S14.ghost)) A5 c5 (And.intro lc5 cm5) (ld5.mono (lf9_3.trans S14.ghost)) A7 c7 (And.intro lc7 cm7) (ld7.mono (le9.trans S14.ghost)) A9 c9 (And.intro lc9 cm9) (ld9.mono ((Le.refl _).trans S14.ghost))) ?_
  rintro _ w15 ⟨h15, v15_0, v15_1, v15_2, v15_3, T15, rfl, in15_0⟩
  obtain ⟨k15, lk15, ll15, U15⟩ := call_joins S14 T15
  have lc15_0 := (lf9_0).trans lk15
  have lc15_1 := (lf9_1).trans lk15
  have lc15_2 := (lf9_2).trans lk15
  have lc15_3 := (lf9_3).trans lk15
  have lc15_4 := (le9).trans lk15
  have S16 : St w.heap.size w k15 w15 [emp, emp, emp, emp, box b11 27 [.slice A3 someM.spots.length c3, .slice A5 someM.first.length c5, .slice A7 someM.follow.length c7, .slice A9 someM.last.length c9, .bool someM.empty], row 55 kSpot v15_0 ((trimM someM).spots), row 3 (Kd.int .i64) v15_1 ((trimM someM).first), row 23 (Kd.int .i64).slice v15_2 ((trimM someM).follow), row 4 Kd.bool v15_3 ((trimM someM).last)] := U15
  have lo_in15_0 := i64_lo in15_0; have hi_in15_0 := i64_hi in15_0
  obtain ⟨h17, le17, T17, rp17⟩ := S16.freeze (i := 5) rfl
  have lf17_0 := (lc15_0).trans le17
  have lf17_1 := (lc15_1).trans le17
  have lf17_2 := (lc15_2).trans le17
  have lf17_3 := (lc15_3).trans le17
  have lf17_4 := (lc15_4).trans le17
  have lf17_5 := (lk15).trans le17
  have S18 : St w.heap.size w h17 w15 [emp, emp, emp, emp, box b11 27 [.slice A3 someM.spots.length c3, .slice A5 someM.first.length c5, .slice A7 someM.follow.length c7, .slice A9 someM.last.length c9, .bool someM.empty], emp, row 3 (Kd.int .i64) v15_1 ((trimM someM).first), row 23 (Kd.int .i64).slice v15_2 ((trimM someM).follow), row 4 Kd.bool v15_3 ((trimM someM).last)] := T17
  obtain ⟨A17, c17, e17, lc17, cm17, ld17⟩ := rp17
  injection e17 with e17 _; subst e17
  have cn17 := cm17; simp only [maxLen] at cn17
  obtain ⟨h19, le19, T19, rp19⟩ := S18.freeze (i := 6) rfl
  have lf19_0 := (lf17_0).trans le19
  have lf19_1 := (lf17_1).trans le19
  have lf19_2 := (lf17_2).trans le19
  have lf19_3 := (lf17_3).trans le19
  have lf19_4 := (lf17_4).trans le19
  have lf19_5 := (lf17_5).trans le19
  have lf19_6 := (le17).trans le19
  have S20 : St w.heap.size w h19 w15 [emp, emp, emp, emp, box b11 27 [.slice A3 someM.spots.length c3, .slice A5 someM.first.length c5, .slice A7 someM.follow.length c7, .slice A9 someM.last.length c9, .bool someM.empty], emp, emp, row 23 (Kd.int .i64).slice v15_2 ((trimM someM).follow), row 4 Kd.bool v15_3 ((trimM someM).last)] := T19
  obtain ⟨A19, c19, e19, lc19, cm19, ld19⟩ := rp19
  injection e19 with e19 _; subst e19
  have cn19 := cm19; simp only [maxLen] at cn19
  obtain ⟨h21, le21, T21, rp21⟩ := S20.freeze (i := 7) rfl
  have lf21_0 := (lf19_0).trans le21
  have lf21_1 := (lf19_1).trans le21
  have lf21_2 := (lf19_2).trans le21
  have lf21_3 := (lf19_3).trans le21
  have lf21_4 := (lf19_4).trans le21
  have lf21_5 := (lf19_5).trans le21
  have lf21_6 := (lf19_6).trans le21
  have lf21_7 := (le19).trans le21
  have S22 : St w.heap.size w h21 w15 [emp, emp, emp, emp, box b11 27 [.slice A3 someM.spots.length c3, .slice A5 someM.first.length c5, .slice A7 someM.follow.length c7, .slice A9 someM.last.length c9, .bool someM.empty], emp, emp, emp, row 4 Kd.bool v15_3 ((trimM someM).last)] := T21
  obtain ⟨A21, c21, e21, lc21, cm21, ld21⟩ := rp21
  injection e21 with e21 _; subst e21
  have cn21 := cm21; simp only [maxLen] at cn21
  obtain ⟨h23, le23, T23, rp23⟩ := S22.freeze (i := 8) rfl
  have lf23_0 := (lf21_0).trans le23
  have lf23_1 := (lf21_1).trans le23
  have lf23_2 := (lf21_2).trans le23
  have lf23_3 := (lf21_3).trans le23
  have lf23_4 := (lf21_4).trans le23
  have lf23_5 := (lf21_5).trans le23
  have lf23_6 := (lf21_6).trans le23
  have lf23_7 := (lf21_7).trans le23
  have lf23_8 := (le21).trans le23
  have S24 : St w.heap.size w h23 w15 [emp, emp, emp, emp, box b11 27 [.slice A3 someM.spots.length c3, .slice A5 someM.first.length c5, .slice A7 someM.follow.length c7, .slice A9 someM.last.length c9, .bool someM.empty], emp, emp, emp, emp] := T23
  obtain ⟨A23, c23, e23, lc23, cm23, ld23⟩ := rp23
  injection e23 with e23 _; subst e23
  have cn23 := cm23; simp only [maxLen] at cn23
  refine p_v (v := .tuple #[.agg #[.slice A17 ((trimM someM).spots).length c17, .slice A19 ((trimM someM).first).length c19, .slice A21 ((trimM someM).follow).length c21, .slice A23 ((trimM someM).last).length c23, .bool ((trimM someM).empty)], .int .i64 (errM someM)]) rfl rfl rfl (x_move rfl) ?_
  refine p_v (v := .agg #[.slice A17 ((trimM someM).spots).length c17, .slice A19 ((trimM someM).first).length c19, .slice A21 ((trimM someM).follow).length c21, .slice A23 ((trimM someM).last).length c23, .bool ((trimM someM).empty)]) rfl rfl rfl (x_extract (vs := [.agg #[.slice A17 ((trimM someM).spots).length c17, .slice A19 ((trimM someM).first).length c19, .slice A21 ((trimM someM).follow).length c21, .slice A23 ((trimM someM).last).length c23, .bool ((trimM someM).empty)], .int .i64 (errM someM)]) rfl rfl) ?_
  refine p_v (v := .int .i64 (errM someM)) rfl rfl rfl (x_extract (vs := [.agg #[.slice A17 ((trimM someM).spots).length c17, .slice A19 ((trimM someM).first).length c19, .slice A21 ((trimM someM).follow).length c21, .slice A23 ((trimM someM).last).length c23, .bool ((trimM someM).empty)], .int .i64 (errM someM)]) rfl rfl) ?_
  obtain ⟨b25, w25, r25, g25, T25⟩ := e_box (P := Tryd.prog) S24 27 (v := (.agg #[.slice none 0 0, .slice none 0 0, .slice none 0 0, .slice none 0 0, .bool false])) [.slice none 0 0, .slice none 0 0, .slice none 0 0, .slice none 0 0, .bool false] rfl
  have S26 : St w.heap.size w h23 w25 [emp, emp, emp, emp, box b11 27 [.slice A3 someM.spots.length c3, .slice A5 someM.first.length c5, .slice A7 someM.follow.length c7, .slice A9 someM.last.length c9, .bool someM.empty], emp, emp, emp, emp, box b25 27 [.slice none 0 0, .slice none 0 0, .slice none 0 0, .slice none 0 0, .bool false]] := T25
  refine p_v (v := .pointer (some ⟨b25, 0, none⟩)) rfl rfl rfl (x_alloc ty27 r25) ?_
  obtain ⟨w27, r27, g27, T27⟩ := e_store (P := Tryd.prog) (off := 0) (v := .agg #[.slice A17 ((trimM someM).spots).length c17, .slice A19 ((trimM someM).first).length c19, .slice A21 ((trimM someM).follow).length c21, .slice A23 ((trimM someM).last).length c23, .bool ((trimM someM).empty)]) (vs := [.slice A17 ((trimM someM).spots).length c17, .slice A19 ((trimM someM).first).length c19, .slice A21 ((trimM someM).follow).length c21, .slice A23 ((trimM someM).last).length c23, .bool ((trimM someM).empty)]) S26 ty27 rfl rfl (j := 9) rfl (by first | decide | exact Nat.le_of_ble_eq_true rfl) (by simp [Value.oneCell'])
  have S28 : St w.heap.size w h23 w27 [emp, emp, emp, emp, box b11 27 [.slice A3 someM.spots.length c3, .slice A5 someM.first.length c5, .slice A7 someM.follow.length c7, .slice A9 someM.last.length c9, .bool someM.empty], emp, emp, emp, emp, box b25 27 [.slice A17 ((trimM someM).spots).length c17, .slice A19 ((trimM someM).first).length c19, .slice A21 ((trimM someM).follow).length c21, .slice A23 ((trimM someM).last).length c23, .bool ((trimM someM).empty)]] := T27
  refine p_s rfl rfl (x_store rfl rfl r27) ?_
  refine p_v (v := .int .i64 (errM someM)) rfl rfl rfl (x_assign rfl) ?_
  refine run_region_end ?_
  refine run_seq ?_
  refine run_reg (l := [0, 1, 2, 3, 4, 5, 6, 7, 8, 9, 10, 11, 12, 13, 14, 15, 16, 17, 18, 19, 20, 21, 22, 23, 24, 25]) rfl ?_
  refine p_v (v := .agg #[.slice A3 someM.spots.length c3, .slice A5 someM.first.length c5, .slice A7 someM.follow.length c7, .slice A9 someM.last.length c9, .bool someM.empty]) rfl rfl rfl (x_load (seg := [.slice A3 someM.spots.length c3, .slice A5 someM.first.length c5, .slice A7 someM.follow.length c7, .slice A9 someM.last.length c9, .bool someM.empty]) ty27 rfl (by simp) rfl (CF.box (m := 5) (S28.box_at (j := 4) rfl) rfl)) ?_
  refine p_c rfl rfl rfl (y_call (args := [.agg #[.slice A3 someM.spots.length c3, .slice A5 someM.first.length c5, .slice A7 someM.follow.length c7, .slice A9 someM.last.length c9, .bool someM.empty]]) ca8 rfl rfl) (rightN_calls w27 someM A3 c3 (And.intro lc3 cm3) (ld3.mono (lf23_2.trans S28.ghost)) A5 c5 (And.intro lc5 cm5) (ld5.mono (lf23_3.trans S28.ghost)) A7 c7 (And.intro lc7 cm7) (ld7.mono (lf23_4.trans S28.ghost)) A9 c9 (And.intro lc9 cm9) (ld9.mono (lf23_5.trans S28.ghost))) ?_
  rintro _ w29 ⟨h29, T29, rfl⟩
  have S30 := S28.keep (Chg.of_below T29.below)
  refine p_v (v := .bool (rightM someM)) rfl rfl rfl (x_move rfl) ?_
  have hc31 : (rightM someM) = true := by
    decide +kernel
  refine p_v (v := .agg #[.slice A3 someM.spots.length c3, .slice A5 someM.first.length c5, .slice A7 someM.follow.length c7, .slice A9 someM.last.length c9, .bool someM.empty]) rfl (wanted_of (j := 2) (want := true) (d := 12) (b := true) rfl rfl (congrArg Value.bool hc31) rfl) rfl (x_load (seg := [.slice A3 someM.spots.length c3, .slice A5 someM.first.length c5, .slice A7 someM.follow.length c7, .slice A9 someM.last.length c9, .bool someM.empty]) ty27 rfl (by simp) rfl (CF.box (m := 5) (S30.box_at (j := 4) rfl) rfl)) ?_
  refine p_c rfl (wanted_of (j := 2) (want := true) (d := 12) (b := true) rfl rfl (congrArg Value.bool hc31) rfl) rfl (y_call (args := [.agg #[.slice A3 someM.spots.length c3, .slice A5 someM.first.length c5, .slice A7 someM.follow.length c7, .slice A9 someM.last.length c9, .bool someM.empty], .string (⟨#[]⟩ : ByteArray)]) ca10 rfl rfl) (runN_calls w29 someM A3 c3 (And.intro lc3 cm3) (ld3.mono (lf23_2.trans S30.ghost)) A5 c5 (And.intro lc5 cm5) (ld5.mono (lf23_3.trans S30.ghost)) A7 c7 (And.intro lc7 cm7) (ld7.mono (lf23_4.trans S30.ghost)) A9 c9 (And.intro lc9 cm9) (ld9.mono (lf23_5.trans S30.ghost)) (⟨#[]⟩ : ByteArray) (by decide)) ?_
  rintro _ w32 ⟨h32, T32, rfl⟩
  have S33 := S30.keep (Chg.of_below T32.below)
  refine p_v (v := .bool (runM someM (⟨#[]⟩ : ByteArray))) rfl rfl rfl (x_pick_t (congrArg Value.bool hc31) rfl) ?_
  refine p_v (v := .bool (runM someM (⟨#[]⟩ : ByteArray))) rfl rfl rfl (x_move rfl) ?_
  have hc34 : (runM someM (⟨#[]⟩ : ByteArray)) = true := by
    decide +kernel
  refine p_v (v := .agg #[.slice A3 someM.spots.length c3, .slice A5 someM.first.length c5, .slice A7 someM.follow.length c7, .slice A9 someM.last.length c9, .bool someM.empty]) rfl (wanted_of (j := 6) (want := true) (d := 16) (b := true) rfl rfl (congrArg Value.bool hc34) rfl) rfl (x_load (seg := [.slice A3 someM.spots.length c3, .slice A5 someM.first.length c5, .slice A7 someM.follow.length c7, .slice A9 someM.last.length c9, .bool someM.empty]) ty27 rfl (by simp) rfl (CF.box (m := 5) (S33.box_at (j := 4) rfl) rfl)) ?_
  refine p_c rfl (wanted_of (j := 6) (want := true) (d := 16) (b := true) rfl rfl (congrArg Value.bool hc34) rfl) rfl (y_call (args := [.agg #[.slice A3 someM.spots.length c3, .slice A5 someM.first.length c5, .slice A7 someM.follow.length c7, .slice A9 someM.last.length c9, .bool someM.empty], .string (⟨#[97, 98]⟩ : ByteArray)]) ca10 rfl rfl) (runN_calls w32 someM A3 c3 (And.intro lc3 cm3) (ld3.mono (lf23_2.trans S33.ghost)) A5 c5 (And.intro lc5 cm5) (ld5.mono (lf23_3.trans S33.ghost)) A7 c7 (And.intro lc7 cm7) (ld7.mono (lf23_4.trans S33.ghost)) A9 c9 (And.intro lc9 cm9) (ld9.mono (lf23_5.trans S33.ghost)) (⟨#[97, 98]⟩ : ByteArray) (by decide)) ?_
  rintro _ w35 ⟨h35, T35, rfl⟩
  have S36 := S33.keep (Chg.of_below T35.below)
  refine p_v (v := .bool (runM someM (⟨#[97, 98]⟩ : ByteArray))) rfl rfl rfl (x_pick_t (congrArg Value.bool hc34) rfl) ?_
  refine p_v (v := .bool (runM someM (⟨#[97, 98]⟩ : ByteArray))) rfl rfl rfl (x_move rfl) ?_
  have hc37 : (runM someM (⟨#[97, 98]⟩ : ByteArray)) = true := by
    decide +kernel
  refine p_v (v := .agg #[.slice A3 someM.spots.length c3, .slice A5 someM.first.length c5, .slice A7 someM.follow.length c7, .slice A9 someM.last.length c9, .bool someM.empty]) rfl (wanted_of (j := 10) (want := true) (d := 20) (b := true) rfl rfl (congrArg Value.bool hc37) rfl) rfl (x_load (seg := [.slice A3 someM.spots.length c3, .slice A5 someM.first.length c5, .slice A7 someM.follow.length c7, .slice A9 someM.last.length c9, .bool someM.empty]) ty27 rfl (by simp) rfl (CF.box (m := 5) (S36.box_at (j := 4) rfl) rfl)) ?_
  refine p_c rfl (wanted_of (j := 10) (want := true) (d := 20) (b := true) rfl rfl (congrArg Value.bool hc37) rfl) rfl (y_call (args := [.agg #[.slice A3 someM.spots.length c3, .slice A5 someM.first.length c5, .slice A7 someM.follow.length c7, .slice A9 someM.last.length c9, .bool someM.empty], .string (⟨#[97, 99]⟩ : ByteArray)]) ca10 rfl rfl) (runN_calls w35 someM A3 c3 (And.intro lc3 cm3) (ld3.mono (lf23_2.trans S36.ghost)) A5 c5 (And.intro lc5 cm5) (ld5.mono (lf23_3.trans S36.ghost)) A7 c7 (And.intro lc7 cm7) (ld7.mono (lf23_4.trans S36.ghost)) A9 c9 (And.intro lc9 cm9) (ld9.mono (lf23_5.trans S36.ghost)) (⟨#[97, 99]⟩ : ByteArray) (by decide)) ?_
  rintro _ w38 ⟨h38, T38, rfl⟩
  have S39 := S36.keep (Chg.of_below T38.below)
  refine p_v (v := .bool (!(runM someM (⟨#[97, 99]⟩ : ByteArray)))) rfl (wanted_of (j := 10) (want := true) (d := 20) (b := true) rfl rfl (congrArg Value.bool hc37) rfl) rfl (x_not rfl) ?_
  refine p_v (v := .bool (!(runM someM (⟨#[97, 99]⟩ : ByteArray)))) rfl rfl rfl (x_pick_t (congrArg Value.bool hc37) rfl) ?_
  refine p_v (v := .bool (!(runM someM (⟨#[97, 99]⟩ : ByteArray)))) rfl rfl rfl (x_move rfl) ?_
  have hc40 : (runM someM (⟨#[97, 99]⟩ : ByteArray)) = false := by
    decide +kernel
  refine p_v (v := .int .i64 (errM someM)) rfl (wanted_of (j := 15) (want := true) (d := 25) (b := true) rfl rfl (congrArg (fun z => Value.bool (!z)) hc40) rfl) rfl (x_move rfl) ?_
  refine p_v (v := .bool (decide ((errM someM) = 0))) rfl (wanted_of (j := 15) (want := true) (d := 25) (b := true) rfl rfl (congrArg (fun z => Value.bool (!z)) hc40) rfl) rfl (x_eql rfl rfl) ?_
  refine p_v (v := .bool (decide ((errM someM) = 0))) rfl rfl rfl (x_pick_t (congrArg (fun z => Value.bool (!z)) hc40) rfl) ?_
  refine p_v (v := .bool (decide ((errM someM) = 0))) rfl rfl rfl (x_move rfl) ?_
  have hc41 : ((errM someM) = 0) := by
    decide +kernel
  refine p_v (v := .pointer (some ⟨b25, 0, none⟩)) rfl (wanted_of (j := 19) (want := true) (d := 29) (b := true) rfl rfl (congrArg Value.bool (decide_eq_true hc41)) rfl) rfl (x_fieldAt fd27_0 ty22 rfl rfl) ?_
  refine p_v (v := .slice A17 ((trimM someM).spots).length c17) rfl (wanted_of (j := 19) (want := true) (d := 29) (b := true) rfl rfl (congrArg Value.bool (decide_eq_true hc41)) rfl) rfl (x_load (seg := [.slice A17 ((trimM someM).spots).length c17]) ty22 rfl (by simp) rfl (CF.box (m := 1) (S39.box_at (j := 9) rfl) rfl)) ?_
  refine p_v (v := .int .i64 (((trimM someM).spots).length : Int)) rfl (wanted_of (j := 19) (want := true) (d := 29) (b := true) rfl rfl (congrArg Value.bool (decide_eq_true hc41)) rfl) rfl (x_len_slice u22 rfl) ?_
  refine p_v (v := .bool (decide ((((trimM someM).spots).length : Int) = 2))) rfl (wanted_of (j := 19) (want := true) (d := 29) (b := true) rfl rfl (congrArg Value.bool (decide_eq_true hc41)) rfl) rfl (x_eql rfl rfl) ?_
  refine p_v (v := .bool (decide ((((trimM someM).spots).length : Int) = 2))) rfl rfl rfl (x_pick_t (congrArg Value.bool (decide_eq_true hc41)) rfl) ?_
  refine p_v (v := .bool (decide ((((trimM someM).spots).length : Int) = 2))) rfl rfl rfl (x_assign rfl) ?_
  refine run_region_end ?_
  have hc42 : ((((trimM someM).spots).length : Int) = 2) := by
    decide +kernel
  refine run_ret Tryd.func6 (res1 rfl (res_tmp (v := .bool true) (congrArg Value.bool (decide_eq_true hc42)))) ?_
  have q0 : (true : Bool) = true := rfl
  refine ⟨_, rfl, h23, ?_, ?_⟩
  · exact S39.sub [] (by decide) rfl _ rfl
  · rfl
end Go.Proofs.YtdfkpjchnndniaaDoor
