/- Functions of this translation, each walked once; no conditions but those that each contract tells. -/
import Derived.Test.YtdfkpjchnndniaaDoorTB
import Derived.Test.YtdfkpjchnndniaaDoorM6
import Derived.Test.YtdfkpjchnndniaaDoorM7
import Derived.Test.YtdfkpjchnndniaaDoorQB
import Derived.Test.YtdfkpjchnndniaaDoorTzB
import Derived.Test.YtdfkpjchnndniaaDoorN2
import Derived.Test.YtdfkpjchnndniaaDoorK1B
import Derived.Test.YtdfkpjchnndniaaDoorN3
import Derived.Test.YtdfkpjchnndniaaDoorM11
import Derived.Test.YtdfkpjchnndniaaDoorN5
import Derived.Test.YtdfkpjchnndniaaDoorN6
import Derived.Test.YtdfkpjchnndniaaDoorN7
import Derived.Test.YtdfkpjchnndniaaDoorRB
namespace Go.Proofs.YtdfkpjchnndniaaDoor
open Go Go.RowKit Gx
set_option maxHeartbeats 1000000
set_option linter.unusedVariables false
set_option linter.unusedSimpArgs false
attribute [local irreducible] members pack listOf count first someIn has setOf setRange wbits Lib.ctz rises rightM rowOk tab markP intoP intoTo behindP behindTo behindIn runTo endsIn endTo runM posTo mayP stepIf stepP mayTo atP lastTo greatM greatTo docAt anyTo allTo numAt numsL numsIn leftN kept lefts spotsTo lastTp followTo trimM errM comeM goesM keepM lfp seekN seekB fullS placeF okC okG clC clG clC2 clG2 firstC lastG andTo useN trues addS setsOfTo setsM

theorem some10_calls (w : World) :
    Calls Tryd.prog 17 #[] w fun e w' => ∃ v, e = .returned v ∧ ∃ (hn : Ghost) (r0 : Value) (r1 : Value) (r2 : Value) (r3 : Value), St w.heap.size w hn w' [row 55 kSpot r0 someM.spots, row 3 (Kd.int .i64) r1 someM.first, row 23 (Kd.int .i64).slice r2 someM.follow, row 4 Kd.bool r3 someM.last] ∧ v = .agg #[r0, r1, r2, r3, .bool someM.empty] := by
  refine calls_of_run Tryd.func17 rfl Tryd.ntmps17 rfl ?_
  have S0 := St.init w
  refine run_seq ?_
  refine run_reg (l := [0]) rfl ?_
  obtain ⟨b1, w1, r1, g1, T1⟩ := e_box (P := Tryd.prog) S0 27 (v := (.agg #[.slice none 0 0, .slice none 0 0, .slice none 0 0, .slice none 0 0, .bool false])) [.slice none 0 0, .slice none 0 0, .slice none 0 0, .slice none 0 0, .bool false] rfl
  have S2 : St w.heap.size w (fun _ => none) w1 [box b1 27 [.slice none 0 0, .slice none 0 0, .slice none 0 0, .slice none 0 0, .bool false]] := T1
  refine p_v (v := .pointer (some ⟨b1, 0, none⟩)) rfl rfl rfl (x_alloc ty27 r1) ?_
  refine run_region_end ?_
  refine run_seq ?_
  refine run_reg (l := [0, 1, 2, 3, 4, 5, 6, 7, 8, 9, 10, 11, 12, 13, 14, 15, 16, 17]) rfl ?_
  obtain ⟨v3, w3, r3, g3, T3⟩ := e_build_ones (kd := (Kd.int .u8)) (xs := ([97] : List Int)) (len := 1) [.int .u8 97] S2 u38 ty5 rfl rfl rfl rfl rfl (ones_cons rfl ones_nil) [.int .u8 97] (Elems.single (k := (Kd.int .u8)) (h := (fun _ => none)) (x := 97) (cs := [.int .u8 97]) ⟨rfl, (in_u8 (by first|omega|(simp;omega)|assumption) (by first|omega|(simp;omega)|assumption))⟩) rfl
  have S4 : St w.heap.size w (fun _ => none) w3 [box b1 27 [.slice none 0 0, .slice none 0 0, .slice none 0 0, .slice none 0 0, .bool false], row 5 (Kd.int .u8) v3 ([97] : List Int)] := T3
  refine p_v (v := v3) rfl rfl rfl (y_build_slice (pv := [(0, .int .u8 97)]) rfl r3) ?_
  obtain ⟨A5, c5, ev5, lc5, cm5⟩ := S4.row_val (j := 1) rfl
  refine p_c rfl rfl rfl (y_call (args := [.slice A5 ([97] : List Int).length c5]) ca32 rfl (cons_eq ev5 rfl)) (of_calls w3 ([97] : List Int) A5 c5 (And.intro lc5 cm5) (row_leads_eq S4 (j := 1) rfl ev5)) ?_
  rintro _ w6 ⟨h6, T6, rfl⟩
  have S7 := S4.keep (Chg.of_below T6.below)
  refine p_v (v := .agg (encSpot (⟨setOf ([97] : List Int), 0⟩ : Spot)).toArray) rfl rfl rfl (y_build (pv := [(0, .agg (encSet (setOf ([97] : List Int))).toArray)]) rfl (run_build_struct pl55 ty55 rfl (cs := (encSpot (⟨setOf ([97] : List Int), 0⟩ : Spot))) rfl)) ?_
  obtain ⟨v8, w8, r8, g8, T8⟩ := e_build_ones (kd := (Kd.int .u8)) (xs := ([98] : List Int)) (len := 1) [.int .u8 98] S7 u38 ty5 rfl rfl rfl rfl rfl (ones_cons rfl ones_nil) [.int .u8 98] (Elems.single (k := (Kd.int .u8)) (h := (fun _ => none)) (x := 98) (cs := [.int .u8 98]) ⟨rfl, (in_u8 (by first|omega|(simp;omega)|assumption) (by first|omega|(simp;omega)|assumption))⟩) rfl
  have S9 : St w.heap.size w (fun _ => none) w8 [box b1 27 [.slice none 0 0, .slice none 0 0, .slice none 0 0, .slice none 0 0, .bool false], row 5 (Kd.int .u8) v3 ([97] : List Int), row 5 (Kd.int .u8) v8 ([98] : List Int)] := T8
  refine p_v (v := v8) rfl rfl rfl (y_build_slice (pv := [(0, .int .u8 98)]) rfl r8) ?_
  obtain ⟨A10, c10, ev10, lc10, cm10⟩ := S9.row_val (j := 2) rfl
  refine p_c rfl rfl rfl (y_call (args := [.slice A10 ([98] : List Int).length c10]) ca32 rfl (cons_eq ev10 rfl)) (of_calls w8 ([98] : List Int) A10 c10 (And.intro lc10 cm10) (row_leads_eq S9 (j := 2) rfl ev10)) ?_
  rintro _ w11 ⟨h11, T11, rfl⟩
  have S12 := S9.keep (Chg.of_below T11.below)
  refine p_v (v := .agg (encSpot (⟨setOf ([98] : List Int), 0⟩ : Spot)).toArray) rfl rfl rfl (y_build (pv := [(0, .agg (encSet (setOf ([98] : List Int))).toArray)]) rfl (run_build_struct pl55 ty55 rfl (cs := (encSpot (⟨setOf ([98] : List Int), 0⟩ : Spot))) rfl)) ?_
  obtain ⟨v13, w13, r13, g13, T13⟩ := e_build_ones (kd := (Kd.int .u8)) (xs := ([99] : List Int)) (len := 1) [.int .u8 99] S12 u38 ty5 rfl rfl rfl rfl rfl (ones_cons rfl ones_nil) [.int .u8 99] (Elems.single (k := (Kd.int .u8)) (h := (fun _ => none)) (x := 99) (cs := [.int .u8 99]) ⟨rfl, (in_u8 (by first|omega|(simp;omega)|assumption) (by first|omega|(simp;omega)|assumption))⟩) rfl
  have S14 : St w.heap.size w (fun _ => none) w13 [box b1 27 [.slice none 0 0, .slice none 0 0, .slice none 0 0, .slice none 0 0, .bool false], row 5 (Kd.int .u8) v3 ([97] : List Int), row 5 (Kd.int .u8) v8 ([98] : List Int), row 5 (Kd.int .u8) v13 ([99] : List Int)] := T13
  refine p_v (v := v13) rfl rfl rfl (y_build_slice (pv := [(0, .int .u8 99)]) rfl r13) ?_
  obtain ⟨A15, c15, ev15, lc15, cm15⟩ := S14.row_val (j := 3) rfl
  refine p_c rfl rfl rfl (y_call (args := [.slice A15 ([99] : List Int).length c15]) ca32 rfl (cons_eq ev15 rfl)) (of_calls w13 ([99] : List Int) A15 c15 (And.intro lc15 cm15) (row_leads_eq S14 (j := 3) rfl ev15)) ?_
  rintro _ w16 ⟨h16, T16, rfl⟩
  have S17 := S14.keep (Chg.of_below T16.below)
  refine p_v (v := .agg (encSpot (⟨setOf ([99] : List Int), 0⟩ : Spot)).toArray) rfl rfl rfl (y_build (pv := [(0, .agg (encSet (setOf ([99] : List Int))).toArray)]) rfl (run_build_struct pl55 ty55 rfl (cs := (encSpot (⟨setOf ([99] : List Int), 0⟩ : Spot))) rfl)) ?_
  obtain ⟨v18, w18, r18, g18, T18⟩ := e_build_segs (kd := kSpot) (xs := ([(⟨setOf ([97] : List Int), 0⟩ : Spot), (⟨setOf ([98] : List Int), 0⟩ : Spot), (⟨setOf ([99] : List Int), 0⟩ : Spot)] : List Spot)) (len := 3) (m := 5) [(.agg (encSpot (⟨setOf ([97] : List Int), 0⟩ : Spot)).toArray, (encSpot (⟨setOf ([97] : List Int), 0⟩ : Spot))), (.agg (encSpot (⟨setOf ([98] : List Int), 0⟩ : Spot)).toArray, (encSpot (⟨setOf ([98] : List Int), 0⟩ : Spot))), (.agg (encSpot (⟨setOf ([99] : List Int), 0⟩ : Spot)).toArray, (encSpot (⟨setOf ([99] : List Int), 0⟩ : Spot)))] S17 u22 ty55 rfl rfl rfl rfl (segs_cons rfl rfl (segs_cons rfl rfl (segs_cons rfl rfl segs_nil))) (cs := ((encSpot (⟨setOf ([97] : List Int), 0⟩ : Spot)) ++ (encSpot (⟨setOf ([98] : List Int), 0⟩ : Spot)) ++ (encSpot (⟨setOf ([99] : List Int), 0⟩ : Spot)))) (Elems.cons (k := kSpot) (h := (fun _ => none)) (x := (⟨setOf ([97] : List Int), 0⟩ : Spot)) (cs := (encSpot (⟨setOf ([97] : List Int), 0⟩ : Spot))) ⟨rfl, (by first | assumption | (show inK .u8 _; constructor <;> decide) | (constructor <;> simp [IntKind.min, IntKind.max] <;> omega))⟩ (Elems.cons (k := kSpot) (h := (fun _ => none)) (x := (⟨setOf ([98] : List Int), 0⟩ : Spot)) (cs := (encSpot (⟨setOf ([98] : List Int), 0⟩ : Spot))) ⟨rfl, (by first | assumption | (show inK .u8 _; constructor <;> decide) | (constructor <;> simp [IntKind.min, IntKind.max] <;> omega))⟩ (Elems.single (k := kSpot) (h := (fun _ => none)) (x := (⟨setOf ([99] : List Int), 0⟩ : Spot)) (cs := (encSpot (⟨setOf ([99] : List Int), 0⟩ : Spot))) ⟨rfl, (by first | assumption | (show inK .u8 _; constructor <;> decide) | (constructor <;> simp [IntKind.min, IntKind.max] <;> omega))⟩))) (by simp)
  have S19 : St w.heap.size w (fun _ => none) w18 [box b1 27 [.slice none 0 0, .slice none 0 0, .slice none 0 0, .slice none 0 0, .bool false], row 5 (Kd.int .u8) v3 ([97] : List Int), row 5 (Kd.int .u8) v8 ([98] : List Int), row 5 (Kd.int .u8) v13 ([99] : List Int), row 55 kSpot v18 ([(⟨setOf ([97] : List Int), 0⟩ : Spot), (⟨setOf ([98] : List Int), 0⟩ : Spot), (⟨setOf ([99] : List Int), 0⟩ : Spot)] : List Spot)] := T18
  refine p_v (v := v18) rfl rfl rfl (y_build_slice (pv := [(0, .agg (encSpot (⟨setOf ([97] : List Int), 0⟩ : Spot)).toArray), (1, .agg (encSpot (⟨setOf ([98] : List Int), 0⟩ : Spot)).toArray), (2, .agg (encSpot (⟨setOf ([99] : List Int), 0⟩ : Spot)).toArray)]) rfl r18) ?_
  obtain ⟨v20, w20, r20, g20, T20⟩ := e_build_ones (kd := (Kd.int .i64)) (xs := ([0] : List Int)) (len := 1) [.int .i64 0] S19 u23 ty3 rfl rfl rfl rfl rfl (ones_cons rfl ones_nil) [.int .i64 0] (Elems.single (k := (Kd.int .i64)) (h := (fun _ => none)) (x := 0) (cs := [.int .i64 0]) ⟨rfl, (in_i64 (by first|omega|(simp;omega)|assumption) (by first|omega|(simp;omega)|assumption))⟩) rfl
  have S21 : St w.heap.size w (fun _ => none) w20 [box b1 27 [.slice none 0 0, .slice none 0 0, .slice none 0 0, .slice none 0 0, .bool false], row 5 (Kd.int .u8) v3 ([97] : List Int), row 5 (Kd.int .u8) v8 ([98] : List Int), row 5 (Kd.int .u8) v13 ([99] : List Int), row 55 kSpot v18 ([(⟨setOf ([97] : List Int), 0⟩ : Spot), (⟨setOf ([98] : List Int), 0⟩ : Spot), (⟨setOf ([99] : List Int), 0⟩ : Spot)] : List Spot), row 3 (Kd.int .i64) v20 ([0] : List Int)] := T20
  refine p_v (v := v20) rfl rfl rfl (y_build_slice (pv := [(0, .int .i64 0)]) rfl r20) ?_
  obtain ⟨v22, w22, r22, g22, T22⟩ := e_build_ones (kd := (Kd.int .i64)) (xs := ([1, 2] : List Int)) (len := 2) [.int .i64 1, .int .i64 2] S21 u23 ty3 rfl rfl rfl rfl rfl (ones_cons rfl (ones_cons rfl ones_nil)) ([.int .i64 1] ++ [.int .i64 2]) (Elems.cons (k := (Kd.int .i64)) (h := (fun _ => none)) (x := 1) (cs := [.int .i64 1]) ⟨rfl, (in_i64 (by first|omega|(simp;omega)|assumption) (by first|omega|(simp;omega)|assumption))⟩ (Elems.single (k := (Kd.int .i64)) (h := (fun _ => none)) (x := 2) (cs := [.int .i64 2]) ⟨rfl, (in_i64 (by first|omega|(simp;omega)|assumption) (by first|omega|(simp;omega)|assumption))⟩)) rfl
  have S23 : St w.heap.size w (fun _ => none) w22 [box b1 27 [.slice none 0 0, .slice none 0 0, .slice none 0 0, .slice none 0 0, .bool false], row 5 (Kd.int .u8) v3 ([97] : List Int), row 5 (Kd.int .u8) v8 ([98] : List Int), row 5 (Kd.int .u8) v13 ([99] : List Int), row 55 kSpot v18 ([(⟨setOf ([97] : List Int), 0⟩ : Spot), (⟨setOf ([98] : List Int), 0⟩ : Spot), (⟨setOf ([99] : List Int), 0⟩ : Spot)] : List Spot), row 3 (Kd.int .i64) v20 ([0] : List Int), row 3 (Kd.int .i64) v22 ([1, 2] : List Int)] := T22
  refine p_v (v := v22) rfl rfl rfl (y_build_slice (pv := [(0, .int .i64 1), (1, .int .i64 2)]) rfl r22) ?_
  obtain ⟨v24, w24, r24, g24, T24⟩ := e_build_ones (kd := (Kd.int .i64)) (xs := ([] : List Int)) (len := 0) [] S23 u23 ty3 rfl rfl rfl rfl rfl ones_nil [] (Elems.nil _ _) rfl
  have S25 : St w.heap.size w (fun _ => none) w24 [box b1 27 [.slice none 0 0, .slice none 0 0, .slice none 0 0, .slice none 0 0, .bool false], row 5 (Kd.int .u8) v3 ([97] : List Int), row 5 (Kd.int .u8) v8 ([98] : List Int), row 5 (Kd.int .u8) v13 ([99] : List Int), row 55 kSpot v18 ([(⟨setOf ([97] : List Int), 0⟩ : Spot), (⟨setOf ([98] : List Int), 0⟩ : Spot), (⟨setOf ([99] : List Int), 0⟩ : Spot)] : List Spot), row 3 (Kd.int .i64) v20 ([0] : List Int), row 3 (Kd.int .i64) v22 ([1, 2] : List Int), row 3 (Kd.int .i64) v24 ([] : List Int)] := T24
  refine p_v (v := v24) rfl rfl rfl (y_build_slice (pv := []) rfl r24) ?_
  obtain ⟨v26, w26, r26, g26, T26⟩ := e_build_ones (kd := (Kd.int .i64)) (xs := ([] : List Int)) (len := 0) [] S25 u23 ty3 rfl rfl rfl rfl rfl ones_nil [] (Elems.nil _ _) rfl
  have S27 : St w.heap.size w (fun _ => none) w26 [box b1 27 [.slice none 0 0, .slice none 0 0, .slice none 0 0, .slice none 0 0, .bool false], row 5 (Kd.int .u8) v3 ([97] : List Int), row 5 (Kd.int .u8) v8 ([98] : List Int), row 5 (Kd.int .u8) v13 ([99] : List Int), row 55 kSpot v18 ([(⟨setOf ([97] : List Int), 0⟩ : Spot), (⟨setOf ([98] : List Int), 0⟩ : Spot), (⟨setOf ([99] : List Int), 0⟩ : Spot)] : List Spot), row 3 (Kd.int .i64) v20 ([0] : List Int), row 3 (Kd.int .i64) v22 ([1, 2] : List Int), row 3 (Kd.int .i64) v24 ([] : List Int), row 3 (Kd.int .i64) v26 ([] : List Int)] := T26
  refine p_v (v := v26) rfl rfl rfl (y_build_slice (pv := []) rfl r26) ?_
  obtain ⟨h29, le29, T29, rp29⟩ := S27.freeze (i := 6) rfl
  have S30 : St w.heap.size w h29 w26 [box b1 27 [.slice none 0 0, .slice none 0 0, .slice none 0 0, .slice none 0 0, .bool false], row 5 (Kd.int .u8) v3 ([97] : List Int), row 5 (Kd.int .u8) v8 ([98] : List Int), row 5 (Kd.int .u8) v13 ([99] : List Int), row 55 kSpot v18 ([(⟨setOf ([97] : List Int), 0⟩ : Spot), (⟨setOf ([98] : List Int), 0⟩ : Spot), (⟨setOf ([99] : List Int), 0⟩ : Spot)] : List Spot), row 3 (Kd.int .i64) v20 ([0] : List Int), emp, row 3 (Kd.int .i64) v24 ([] : List Int), row 3 (Kd.int .i64) v26 ([] : List Int)] := T29
  obtain ⟨A29, c29, e29, lc29, cm29, ld29⟩ := rp29
  injection e29 with e29 _; subst e29
  have cn29 := cm29; simp only [maxLen] at cn29
  obtain ⟨h31, le31, T31, rp31⟩ := S30.freeze (i := 7) rfl
  have lf31_0 := (le29).trans le31
  have S32 : St w.heap.size w h31 w26 [box b1 27 [.slice none 0 0, .slice none 0 0, .slice none 0 0, .slice none 0 0, .bool false], row 5 (Kd.int .u8) v3 ([97] : List Int), row 5 (Kd.int .u8) v8 ([98] : List Int), row 5 (Kd.int .u8) v13 ([99] : List Int), row 55 kSpot v18 ([(⟨setOf ([97] : List Int), 0⟩ : Spot), (⟨setOf ([98] : List Int), 0⟩ : Spot), (⟨setOf ([99] : List Int), 0⟩ : Spot)] : List Spot), row 3 (Kd.int .i64) v20 ([0] : List Int), emp, emp, row 3 (Kd.int .i64) v26 ([] : List Int)] := T31
  obtain ⟨A31, c31, e31, lc31, cm31, ld31⟩ := rp31
  injection e31 with e31 _; subst e31
  have cn31 := cm31; simp only [maxLen] at cn31
  obtain ⟨h33, le33, T33, rp33⟩ := S32.freeze (i := 8) rfl
  have lf33_0 := (lf31_0).trans le33
  have lf33_1 := (le31).trans le33
  have S34 : St w.heap.size w h33 w26 [box b1 27 [.slice none 0 0, .slice none 0 0, .slice none 0 0, .slice none 0 0, .bool false], row 5 (Kd.int .u8) v3 ([97] : List Int), row 5 (Kd.int .u8) v8 ([98] : List Int), row 5 (Kd.int .u8) v13 ([99] : List Int), row 55 kSpot v18 ([(⟨setOf ([97] : List Int), 0⟩ : Spot), (⟨setOf ([98] : List Int), 0⟩ : Spot), (⟨setOf ([99] : List Int), 0⟩ : Spot)] : List Spot), row 3 (Kd.int .i64) v20 ([0] : List Int), emp, emp, emp] := T33
  obtain ⟨A33, c33, e33, lc33, cm33, ld33⟩ := rp33
  injection e33 with e33 _; subst e33
  have cn33 := cm33; simp only [maxLen] at cn33
  obtain ⟨v28, w28, r28, g28, T28⟩ := e_build_ones (kd := (Kd.int .i64).slice) (xs := ([([1, 2] : List Int), ([] : List Int), ([] : List Int)] : List (List Int))) (len := 3) [.slice A29 ([1, 2] : List Int).length c29, .slice A31 ([] : List Int).length c31, .slice A33 ([] : List Int).length c33] S34 u24 ty23 rfl rfl rfl rfl rfl (ones_cons rfl (ones_cons rfl (ones_cons rfl ones_nil))) ([.slice A29 ([1, 2] : List Int).length c29] ++ [.slice A31 ([] : List Int).length c31] ++ [.slice A33 ([] : List Int).length c33]) (Elems.cons (k := (Kd.int .i64).slice) (h := h33) (x := ([1, 2] : List Int)) (cs := [.slice A29 ([1, 2] : List Int).length c29]) ⟨_, _, rfl, (And.intro lc29 cm29).1, (And.intro lc29 cm29).2, ld29.mono lf33_1⟩ (Elems.cons (k := (Kd.int .i64).slice) (h := h33) (x := ([] : List Int)) (cs := [.slice A31 ([] : List Int).length c31]) ⟨_, _, rfl, (And.intro lc31 cm31).1, (And.intro lc31 cm31).2, ld31.mono le33⟩ (Elems.single (k := (Kd.int .i64).slice) (h := h33) (x := ([] : List Int)) (cs := [.slice A33 ([] : List Int).length c33]) ⟨_, _, rfl, (And.intro lc33 cm33).1, (And.intro lc33 cm33).2, ld33.mono (Le.refl _)⟩))) rfl
  have S35 : St w.heap.size w h33 w28 [box b1 27 [.slice none 0 0, .slice none 0 0, .slice none 0 0, .slice none 0 0, .bool false], row 5 (Kd.int .u8) v3 ([97] : List Int), row 5 (Kd.int .u8) v8 ([98] : List Int), row 5 (Kd.int .u8) v13 ([99] : List Int), row 55 kSpot v18 ([(⟨setOf ([97] : List Int), 0⟩ : Spot), (⟨setOf ([98] : List Int), 0⟩ : Spot), (⟨setOf ([99] : List Int), 0⟩ : Spot)] : List Spot), row 3 (Kd.int .i64) v20 ([0] : List Int), emp, emp, emp, row 23 (Kd.int .i64).slice v28 ([([1, 2] : List Int), ([] : List Int), ([] : List Int)] : List (List Int))] := T28
  refine p_v (v := v28) rfl rfl rfl (y_build_slice (pv := [(0, .slice A29 ([1, 2] : List Int).length c29), (1, .slice A31 ([] : List Int).length c31), (2, .slice A33 ([] : List Int).length c33)]) rfl r28) ?_
  obtain ⟨v36, w36, r36, g36, T36⟩ := e_build_ones (kd := Kd.bool) (xs := ([false, true, false] : List Bool)) (len := 3) [.bool false, .bool true, .bool false] S35 u25 ty4 rfl rfl rfl rfl rfl (ones_cons rfl (ones_cons rfl (ones_cons rfl ones_nil))) ([.bool false] ++ [.bool true] ++ [.bool false]) (Elems.cons (k := Kd.bool) (h := h33) (x := false) (cs := [.bool false]) ⟨rfl, trivial⟩ (Elems.cons (k := Kd.bool) (h := h33) (x := true) (cs := [.bool true]) ⟨rfl, trivial⟩ (Elems.single (k := Kd.bool) (h := h33) (x := false) (cs := [.bool false]) ⟨rfl, trivial⟩))) rfl
  have S37 : St w.heap.size w h33 w36 [box b1 27 [.slice none 0 0, .slice none 0 0, .slice none 0 0, .slice none 0 0, .bool false], row 5 (Kd.int .u8) v3 ([97] : List Int), row 5 (Kd.int .u8) v8 ([98] : List Int), row 5 (Kd.int .u8) v13 ([99] : List Int), row 55 kSpot v18 ([(⟨setOf ([97] : List Int), 0⟩ : Spot), (⟨setOf ([98] : List Int), 0⟩ : Spot), (⟨setOf ([99] : List Int), 0⟩ : Spot)] : List Spot), row 3 (Kd.int .i64) v20 ([0] : List Int), emp, emp, emp, row 23 (Kd.int .i64).slice v28 ([([1, 2] : List Int), ([] : List Int), ([] : List Int)] : List (List Int)), row 4 Kd.bool v36 ([false, true, false] : List Bool)] := T36
  refine p_v (v := v36) rfl rfl rfl (y_build_slice (pv := [(0, .bool false), (1, .bool true), (2, .bool false)]) rfl r36) ?_
  refine p_v (v := .agg #[v18, v20, v28, v36, .bool true]) rfl rfl rfl (y_build (pv := [(0, v18), (1, v20), (2, v28), (3, v36), (4, .bool true)]) rfl (run_build_struct pl27 ty27 rfl (cs := [v18, v20, v28, v36, .bool true]) (fill_any (vc := [v18]) rfl (row_cells S37 (j := 4) rfl) rfl rfl (fill_any (vc := [v20]) rfl (row_cells S37 (j := 5) rfl) rfl rfl (fill_any (vc := [v28]) rfl (row_cells S37 (j := 9) rfl) rfl rfl (fill_any (vc := [v36]) rfl (row_cells S37 (j := 10) rfl) rfl rfl (fill_any (vc := [.bool true]) rfl rfl rfl rfl (fill_end rfl)))))))) ?_
  have oc39 := row_one S37 (j := 4) rfl
  have oc40 := row_one S37 (j := 5) rfl
  have oc41 := row_one S37 (j := 9) rfl
  have oc42 := row_one S37 (j := 10) rfl
  obtain ⟨w38, r38, g38, T38⟩ := e_store (P := Tryd.prog) (off := 0) (v := .agg #[v18, v20, v28, v36, .bool true]) (vs := [v18, v20, v28, v36, .bool true]) S37 ty27 rfl rfl (j := 0) rfl (by first | decide | exact Nat.le_of_ble_eq_true rfl) (one_cons oc39 (one_cons oc40 (one_cons oc41 (one_cons oc42 (one_cons rfl one_nil)))))
  have S43 : St w.heap.size w h33 w38 [box b1 27 [v18, v20, v28, v36, .bool true], row 5 (Kd.int .u8) v3 ([97] : List Int), row 5 (Kd.int .u8) v8 ([98] : List Int), row 5 (Kd.int .u8) v13 ([99] : List Int), row 55 kSpot v18 ([(⟨setOf ([97] : List Int), 0⟩ : Spot), (⟨setOf ([98] : List Int), 0⟩ : Spot), (⟨setOf ([99] : List Int), 0⟩ : Spot)] : List Spot), row 3 (Kd.int .i64) v20 ([0] : List Int), emp, emp, emp, row 23 (Kd.int .i64).slice v28 ([([1, 2] : List Int), ([] : List Int), ([] : List Int)] : List (List Int)), row 4 Kd.bool v36 ([false, true, false] : List Bool)] := T38
  refine p_s rfl rfl (x_store rfl rfl r38) ?_
  refine run_region_end ?_
  refine run_ret Tryd.func17 (res1 rfl (res_cell S43 ty27 rfl (j := 0) rfl rfl (by simp) rfl)) ?_
  have q0 : (someM.spots : List Spot) = ([(⟨setOf ([97] : List Int), 0⟩ : Spot), (⟨setOf ([98] : List Int), 0⟩ : Spot), (⟨setOf ([99] : List Int), 0⟩ : Spot)] : List Spot) := by
    rfl
  have q1 : (someM.first : List Int) = ([0] : List Int) := by
    rfl
  have q2 : (someM.follow : List (List Int)) = ([([1, 2] : List Int), ([] : List Int), ([] : List Int)] : List (List Int)) := by
    rfl
  have q3 : (someM.last : List Bool) = ([false, true, false] : List Bool) := by
    rfl
  have q4 : (someM.empty : Bool) = true := by
    rfl
  refine ⟨_, rfl, h33, v18, v20, v28, v36, ?_, ?_⟩
  · rw [q0]; rw [q1]; rw [q2]; rw [q3]; exact S43.sub [4, 5, 9, 10] (by decide) rfl _ rfl
  · first | rfl | (simp only [q0, q1, q2, q3, q4]; rfl) | (simp only [q0, q1, q2, q3, q4])
end Go.Proofs.YtdfkpjchnndniaaDoor
