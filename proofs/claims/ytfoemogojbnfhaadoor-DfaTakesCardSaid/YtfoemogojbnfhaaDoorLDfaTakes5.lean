/- My own library for walks through the translated code, and the walks of the functions that the law DfaTakes comes to, part 6; no conditions but those that each contract tells. -/
import Derived.ProofKit
import Derived.OpenShut
import Derived.ShutString
import Derived.ChangeOld
import Derived.Below
import Derived.DataElems
import Derived.Test.YtfoemogojbnfhaaDoorTie
import Derived.Test.YtfoemogojbnfhaaDoorCards
import Derived.LaidMore
import Derived.Stop.Joined
import Derived.MakeChecks
import Derived.Test.YtfoemogojbnfhaaDoorLDfaTakes4
namespace Go.Proofs.YtfoemogojbnfhaaDoor
open Go Go.RowKit Gx
set_option maxHeartbeats 1000000
set_option linter.unusedVariables false
set_option linter.unusedSimpArgs false
set_option maxRecDepth 8000
attribute [local irreducible] listOf count first has setOf wbits Lib.ctz badQ badRow rightD goD runD notD errD notTo nextP finalP howB okBoth bothM errO nextB nextC outTo readTo rowIn finalB lastB leastB leastBTo buildM errB fitsP madeM allM bfs numbered putB beginB okB smallM smallTo overM lettersP partP
theorem letters_calls (w : World) :
    Calls Tryd.prog 47 #[] w fun e w' => ∃ v, e = .returned v ∧ ∃ (hn : Ghost), St w.heap.size w hn w' [] ∧ v = .agg (encPart lettersP).toArray ∧ okPart lettersP := by
 refine calls_of_run Tryd.func47 rfl Tryd.ntmps47 rfl ?_
 have S0 := St.init w
 refine run_seq ?_
 refine run_reg (l := [0]) rfl ?_
 obtain ⟨b1, w1, r1, g1, T1⟩ := e_box (P := Tryd.prog) S0 32 (v := zv32) (encPart zPart) (by kernel_rfl)
 have S2 := T1
 dsimp only [lAa, lAn, lA0, lAs] at S2
 refine p_v (v := .pointer (some ⟨b1, 0, none⟩)) rfl rfl rfl (x_alloc ty32 r1) ?_
 refine run_region_end ?_
 refine run_seq ?_
 refine run_reg (l := [0, 1, 2, 3, 4, 5, 6, 7, 8]) rfl ?_
 obtain ⟨v3, w3, r3, g3, T3⟩ := e_build_ones (kd := (Kd.int .u8)) (xs := ([97] : List Int)) (len := 1) [.int .u8 97] S2 u39 ty5 rfl rfl rfl rfl rfl (ones_cons rfl ones_nil) [.int .u8 97] (Elems.single (k := (Kd.int .u8)) (h := (fun _ => none)) (x := 97) (cs := [.int .u8 97]) ⟨rfl, (in_u8 (by first|omega|(simp;omega)|assumption|simp) (by first|omega|(simp;omega)|assumption|simp))⟩) rfl
 have S4 := T3
 dsimp only [lAa, lAn, lA0, lAs] at S4
 refine p_v (v := v3) rfl rfl rfl (y_build_slice (pv := [(0, .int .u8 97)]) rfl r3) ?_
 obtain ⟨A5, c5, ev5, lc5, cm5⟩ := S4.row_val (j := 1) rfl
 refine p_c rfl rfl rfl (y_call (args := [.slice A5 ([97] : List Int).length c5]) ca64 rfl (cons_eq ev5 rfl)) (of_calls w3 ([97] : List Int) A5 c5 (And.intro lc5 cm5) (row_leads_eq S4 (j := 1) rfl ev5)) ?_
 rintro _ w6 ⟨h6, T6, rfl⟩
 have S7 := S4.keep (Chg.of_below T6.below)
 obtain ⟨v8, w8, r8, g8, T8⟩ := e_build_ones (kd := (Kd.int .u8)) (xs := ([98] : List Int)) (len := 1) [.int .u8 98] S7 u39 ty5 rfl rfl rfl rfl rfl (ones_cons rfl ones_nil) [.int .u8 98] (Elems.single (k := (Kd.int .u8)) (h := (fun _ => none)) (x := 98) (cs := [.int .u8 98]) ⟨rfl, (in_u8 (by first|omega|(simp;omega)|assumption|simp) (by first|omega|(simp;omega)|assumption|simp))⟩) rfl
 have S9 := T8
 dsimp only [lAa, lAn, lA0, lAs] at S9
 refine p_v (v := v8) rfl rfl rfl (y_build_slice (pv := [(0, .int .u8 98)]) rfl r8) ?_
 obtain ⟨A10, c10, ev10, lc10, cm10⟩ := S9.row_val (j := 2) rfl
 refine p_c rfl rfl rfl (y_call (args := [.slice A10 ([98] : List Int).length c10]) ca64 rfl (cons_eq ev10 rfl)) (of_calls w8 ([98] : List Int) A10 c10 (And.intro lc10 cm10) (row_leads_eq S9 (j := 2) rfl ev10)) ?_
 rintro _ w11 ⟨h11, T11, rfl⟩
 have S12 := S9.keep (Chg.of_below T11.below)
 obtain ⟨v13, w13, r13, g13, T13⟩ := e_build_ones (kd := (Kd.int .u8)) (xs := ([99] : List Int)) (len := 1) [.int .u8 99] S12 u39 ty5 rfl rfl rfl rfl rfl (ones_cons rfl ones_nil) [.int .u8 99] (Elems.single (k := (Kd.int .u8)) (h := (fun _ => none)) (x := 99) (cs := [.int .u8 99]) ⟨rfl, (in_u8 (by first|omega|(simp;omega)|assumption|simp) (by first|omega|(simp;omega)|assumption|simp))⟩) rfl
 have S14 := T13
 dsimp only [lAa, lAn, lA0, lAs] at S14
 refine p_v (v := v13) rfl rfl rfl (y_build_slice (pv := [(0, .int .u8 99)]) rfl r13) ?_
 obtain ⟨A15, c15, ev15, lc15, cm15⟩ := S14.row_val (j := 3) rfl
 refine p_c rfl rfl rfl (y_call (args := [.slice A15 ([99] : List Int).length c15]) ca64 rfl (cons_eq ev15 rfl)) (of_calls w13 ([99] : List Int) A15 c15 (And.intro lc15 cm15) (row_leads_eq S14 (j := 3) rfl ev15)) ?_
 rintro _ w16 ⟨h16, T16, rfl⟩
 have S17 := S14.keep (Chg.of_below T16.below)
 obtain ⟨v18, w18, r18, g18, T18⟩ := e_build_segs (kd := kSet) (xs := ([setOf ([97] : List Int), setOf ([98] : List Int), setOf ([99] : List Int)] : List BSet)) (len := 3) (m := 4) [(.agg (encSet (setOf ([97] : List Int))).toArray, (encSet (setOf ([97] : List Int)))), (.agg (encSet (setOf ([98] : List Int))).toArray, (encSet (setOf ([98] : List Int)))), (.agg (encSet (setOf ([99] : List Int))).toArray, (encSet (setOf ([99] : List Int))))] S17 u62 ty74 rfl rfl rfl rfl (segs_cons rfl rfl (segs_cons rfl rfl (segs_cons rfl rfl segs_nil))) (cs := ((encSet (setOf ([97] : List Int))) ++ (encSet (setOf ([98] : List Int))) ++ (encSet (setOf ([99] : List Int))))) (Elems.cons (k := kSet) (h := (fun _ => none)) (x := setOf ([97] : List Int)) (cs := (encSet (setOf ([97] : List Int)))) ⟨rfl, trivial⟩ (Elems.cons (k := kSet) (h := (fun _ => none)) (x := setOf ([98] : List Int)) (cs := (encSet (setOf ([98] : List Int)))) ⟨rfl, trivial⟩ (Elems.single (k := kSet) (h := (fun _ => none)) (x := setOf ([99] : List Int)) (cs := (encSet (setOf ([99] : List Int)))) ⟨rfl, trivial⟩))) (by simp)
 have S19 := T18
 dsimp only [lAa, lAn, lA0, lAs] at S19
 refine p_v (v := v18) rfl rfl rfl (y_build_slice (pv := [(0, .agg (encSet (setOf ([97] : List Int))).toArray), (1, .agg (encSet (setOf ([98] : List Int))).toArray), (2, .agg (encSet (setOf ([99] : List Int))).toArray)]) rfl r18) ?_
 obtain ⟨A20, c20, ev20, lc20, cm20⟩ := S19.row_val (j := 4) rfl
 refine p_c rfl rfl rfl (y_call (args := [.slice A20 ([setOf ([97] : List Int), setOf ([98] : List Int), setOf ([99] : List Int)] : List BSet).length c20]) ca49 rfl (cons_eq ev20 rfl)) (refine_calls w18 ([setOf ([97] : List Int), setOf ([98] : List Int), setOf ([99] : List Int)] : List BSet) A20 c20 (And.intro lc20 cm20) (row_leads_eq S19 (j := 4) rfl ev20)) ?_
 rintro _ w21 ⟨h21, T21, rfl, ok21_0⟩
 have S22 := S19.keep (Chg.of_below T21.below)
 obtain ⟨w23, r23, g23, T23⟩ := e_store (P := Tryd.prog) (off := 0) (v := .agg (encPart (refineP ([setOf ([97] : List Int), setOf ([98] : List Int), setOf ([99] : List Int)] : List BSet))).toArray) (vs := (encPart (refineP ([setOf ([97] : List Int), setOf ([98] : List Int), setOf ([99] : List Int)] : List BSet)))) S22 ty32 rfl (encPart_len ok21_0) (j := 0) rfl (by rw [encPart_len (okPart_zero)]; decide) (encPart_one _)
 rw [lput_all (by rw [encPart_len ok21_0, encPart_len (okPart_zero)])] at T23
 have S24 := T23.fx 0 (box b1 32 (encPart (refineP ([setOf ([97] : List Int), setOf ([98] : List Int), setOf ([99] : List Int)] : List BSet)))) rfl
 dsimp only [lAa, lAn, lA0, lAs] at S24
 refine p_s rfl rfl (x_store rfl rfl r23) ?_
 refine run_region_end ?_
 refine run_ret Tryd.func47 (res1 rfl (res_cell S24 ty32 rfl (j := 0) rfl (encPart_len ok21_0) (by simp) rfl)) ?_
 have q0 : (lettersP : PartM) = refineP ([setOf ([97] : List Int), setOf ([98] : List Int), setOf ([99] : List Int)] : List BSet) := by
  unfold lettersP; rfl
 refine ⟨_, rfl, (fun _ => none), ?_, ?_, ?_⟩
 · exact S24.sub [] (by decide) rfl _ rfl
 · first | rfl | (simp only [q0]; rfl) | (simp only [q0])
 · rw [q0]; first | assumption | exact okPart_zero
theorem small11_calls (w : World) (m : Mach) (A0_0 : Option Addr) (c0_0 : Nat) (b0_0 : m.spots.length ≤ c0_0 ∧ c0_0 ≤ maxLen) (l0_0 : Leads kSpot (hp w) A0_0 m.spots) (A0_1 : Option Addr) (c0_1 : Nat) (b0_1 : m.first.length ≤ c0_1 ∧ c0_1 ≤ maxLen) (l0_1 : Leads (Kd.int .i64) (hp w) A0_1 m.first) (A0_2 : Option Addr) (c0_2 : Nat) (b0_2 : m.follow.length ≤ c0_2 ∧ c0_2 ≤ maxLen) (l0_2 : Leads (Kd.int .i64).slice (hp w) A0_2 m.follow) (A0_3 : Option Addr) (c0_3 : Nat) (b0_3 : m.last.length ≤ c0_3 ∧ c0_3 ≤ maxLen) (l0_3 : Leads Kd.bool (hp w) A0_3 m.last) :
    Calls Tryd.prog 18 #[.agg #[.slice A0_0 m.spots.length c0_0, .slice A0_1 m.first.length c0_1, .slice A0_2 m.follow.length c0_2, .slice A0_3 m.last.length c0_3, .bool m.empty]] w fun e w' => ∃ v, e = .returned v ∧ ∃ (hn : Ghost), St w.heap.size w hn w' [] ∧ v = .bool (smallM m) := by
 refine calls_of_run Tryd.func18 rfl Tryd.ntmps18 rfl ?_
 have S0 := St.init w
 have bb0_0 := b0_0.1; have bc0_0 := b0_0.2; simp only [maxLen] at bc0_0
 have bb0_1 := b0_1.1; have bc0_1 := b0_1.2; simp only [maxLen] at bc0_1
 have bb0_2 := b0_2.1; have bc0_2 := b0_2.2; simp only [maxLen] at bc0_2
 have bb0_3 := b0_3.1; have bc0_3 := b0_3.2; simp only [maxLen] at bc0_3
 refine run_seq ?_
 refine run_reg (l := [0, 1]) rfl ?_
 obtain ⟨b1, w1, r1, g1, T1⟩ := e_box (P := Tryd.prog) S0 27 (v := .agg #[.slice A0_0 m.spots.length c0_0, .slice A0_1 m.first.length c0_1, .slice A0_2 m.follow.length c0_2, .slice A0_3 m.last.length c0_3, .bool m.empty]) [.slice A0_0 m.spots.length c0_0, .slice A0_1 m.first.length c0_1, .slice A0_2 m.follow.length c0_2, .slice A0_3 m.last.length c0_3, .bool m.empty] rfl
 have S2 := T1
 dsimp only [lAa, lAn, lA0, lAs] at S2
 refine p_v (v := .pointer (some ⟨b1, 0, none⟩)) rfl rfl rfl (x_box rfl r1) ?_
 refine p_v (v := .bool false) rfl rfl rfl (x_assign rfl) ?_
 refine run_region_end ?_
 refine run_seq ?_
 refine run_seq ?_
 refine run_reg (l := [0, 1, 2, 3, 4, 5, 6, 7, 8, 9, 10, 11, 12, 13, 14, 15, 16, 17, 18, 19, 20, 21]) rfl ?_
 refine p_v (v := .pointer (some ⟨b1, 0, none⟩)) rfl rfl rfl (x_fieldAt fd27_0 ty22 rfl rfl) ?_
 refine p_v (v := .slice A0_0 m.spots.length c0_0) rfl rfl rfl (x_load (seg := [.slice A0_0 m.spots.length c0_0]) ty22 rfl (by simp) rfl (CF.box (m := 1) (S2.box_at (j := 0) rfl) rfl)) ?_
 refine p_v (v := .int .i64 (m.spots.length : Int)) rfl rfl rfl (x_len_slice u22 rfl) ?_
 refine p_v (v := .bool (decide (8 < (m.spots.length : Int)))) rfl rfl rfl (x_gtr rfl rfl) ?_
 refine p_v (v := .bool (decide (8 < (m.spots.length : Int)))) rfl rfl rfl (x_move rfl) ?_
 by_cases hc3 : 8 < (m.spots.length : Int)
 ·skip
  refine p_off rfl (wanted_of (j := 4) (want := false) (d := 8) (b := true) rfl rfl (congrArg Value.bool (decide_eq_true hc3)) rfl) rfl ?_
  refine p_off rfl (wanted_of (j := 4) (want := false) (d := 8) (b := true) rfl rfl (congrArg Value.bool (decide_eq_true hc3)) rfl) rfl ?_
  refine p_off rfl (wanted_of (j := 4) (want := false) (d := 8) (b := true) rfl rfl (congrArg Value.bool (decide_eq_true hc3)) rfl) rfl ?_
  refine p_off rfl (wanted_of (j := 4) (want := false) (d := 8) (b := true) rfl rfl (congrArg Value.bool (decide_eq_true hc3)) rfl) rfl ?_
  refine p_v (v := .bool true) rfl rfl rfl (x_pick_t (congrArg Value.bool (decide_eq_true hc3)) rfl) ?_
  refine p_v (v := .bool true) rfl rfl rfl (x_move rfl) ?_
  refine p_off rfl rfl rfl ?_
  refine p_off rfl rfl rfl ?_
  refine p_off rfl rfl rfl ?_
  refine p_off rfl rfl rfl ?_
  refine p_v (v := .bool true) rfl rfl rfl (x_pick_t rfl rfl) ?_
  refine p_v (v := .bool true) rfl rfl rfl (x_move rfl) ?_
  refine p_off rfl rfl rfl ?_
  refine p_off rfl rfl rfl ?_
  refine p_off rfl rfl rfl ?_
  refine p_off rfl rfl rfl ?_
  refine p_v (v := .bool true) rfl rfl rfl (x_pick_t rfl rfl) ?_
  refine run_region_end ?_
  refine run_cond (b := true) rfl ?_
  simp only [if_true, if_false, Bool.false_eq_true]
  refine run_seq ?_
  refine run_reg (l := [0]) rfl ?_
  refine p_v (v := .bool false) rfl rfl rfl (x_assign rfl) ?_
  refine run_region_end ?_
  refine run_ret Tryd.func18 (res1 rfl (res_tmp (v := .bool false) rfl)) ?_
  have q0 : (smallM m : Bool) = false := by
   first | exact small_1 m (by assumption) | exact small_2 m (by assumption) | exact small_3 m (by assumption) | exact small_4 m (by assumption) | exact small_5 m hI_.1 (by omega) (by assumption) | exact small_6 m (by omega) (by assumption) (by assumption) (by assumption) (by assumption) hI_.2.2
  refine ⟨_, rfl, (fun _ => none), ?_, ?_⟩
  · exact S2.sub [] (by decide) rfl _ rfl
  · first | rfl | (simp only [q0]; rfl) | (simp only [q0])
 ·skip
  refine p_v (v := .pointer (some ⟨b1, 2, none⟩)) rfl (wanted_of (j := 4) (want := false) (d := 8) (b := false) rfl rfl (congrArg Value.bool (decide_eq_false hc3)) rfl) rfl (x_fieldAt fd27_2 ty24 rfl rfl) ?_
  refine p_v (v := .slice A0_2 m.follow.length c0_2) rfl (wanted_of (j := 4) (want := false) (d := 8) (b := false) rfl rfl (congrArg Value.bool (decide_eq_false hc3)) rfl) rfl (x_load (seg := [.slice A0_2 m.follow.length c0_2]) ty24 rfl (by simp) rfl (CF.box (m := 1) (S2.box_at (j := 0) rfl) rfl)) ?_
  refine p_v (v := .int .i64 (m.follow.length : Int)) rfl (wanted_of (j := 4) (want := false) (d := 8) (b := false) rfl rfl (congrArg Value.bool (decide_eq_false hc3)) rfl) rfl (x_len_slice u24 rfl) ?_
  refine p_v (v := .bool (decide (8 < (m.follow.length : Int)))) rfl (wanted_of (j := 4) (want := false) (d := 8) (b := false) rfl rfl (congrArg Value.bool (decide_eq_false hc3)) rfl) rfl (x_gtr rfl rfl) ?_
  refine p_v (v := .bool (decide (8 < (m.follow.length : Int)))) rfl rfl rfl (x_pick_f (congrArg Value.bool (decide_eq_false hc3)) rfl) ?_
  refine p_v (v := .bool (decide (8 < (m.follow.length : Int)))) rfl rfl rfl (x_move rfl) ?_
  by_cases hc4 : 8 < (m.follow.length : Int)
  ·skip
   refine p_off rfl (wanted_of (j := 10) (want := false) (d := 14) (b := true) rfl rfl (congrArg Value.bool (decide_eq_true hc4)) rfl) rfl ?_
   refine p_off rfl (wanted_of (j := 10) (want := false) (d := 14) (b := true) rfl rfl (congrArg Value.bool (decide_eq_true hc4)) rfl) rfl ?_
   refine p_off rfl (wanted_of (j := 10) (want := false) (d := 14) (b := true) rfl rfl (congrArg Value.bool (decide_eq_true hc4)) rfl) rfl ?_
   refine p_off rfl (wanted_of (j := 10) (want := false) (d := 14) (b := true) rfl rfl (congrArg Value.bool (decide_eq_true hc4)) rfl) rfl ?_
   refine p_v (v := .bool true) rfl rfl rfl (x_pick_t (congrArg Value.bool (decide_eq_true hc4)) rfl) ?_
   refine p_v (v := .bool true) rfl rfl rfl (x_move rfl) ?_
   refine p_off rfl rfl rfl ?_
   refine p_off rfl rfl rfl ?_
   refine p_off rfl rfl rfl ?_
   refine p_off rfl rfl rfl ?_
   refine p_v (v := .bool true) rfl rfl rfl (x_pick_t rfl rfl) ?_
   refine run_region_end ?_
   refine run_cond (b := true) rfl ?_
   simp only [if_true, if_false, Bool.false_eq_true]
   refine run_seq ?_
   refine run_reg (l := [0]) rfl ?_
   refine p_v (v := .bool false) rfl rfl rfl (x_assign rfl) ?_
   refine run_region_end ?_
   refine run_ret Tryd.func18 (res1 rfl (res_tmp (v := .bool false) rfl)) ?_
   have q0 : (smallM m : Bool) = false := by
    first | exact small_1 m (by assumption) | exact small_2 m (by assumption) | exact small_3 m (by assumption) | exact small_4 m (by assumption) | exact small_5 m hI_.1 (by omega) (by assumption) | exact small_6 m (by omega) (by assumption) (by assumption) (by assumption) (by assumption) hI_.2.2
   refine ⟨_, rfl, (fun _ => none), ?_, ?_⟩
   · exact S2.sub [] (by decide) rfl _ rfl
   · first | rfl | (simp only [q0]; rfl) | (simp only [q0])
  ·skip
   refine p_v (v := .pointer (some ⟨b1, 3, none⟩)) rfl (wanted_of (j := 10) (want := false) (d := 14) (b := false) rfl rfl (congrArg Value.bool (decide_eq_false hc4)) rfl) rfl (x_fieldAt fd27_3 ty25 rfl rfl) ?_
   refine p_v (v := .slice A0_3 m.last.length c0_3) rfl (wanted_of (j := 10) (want := false) (d := 14) (b := false) rfl rfl (congrArg Value.bool (decide_eq_false hc4)) rfl) rfl (x_load (seg := [.slice A0_3 m.last.length c0_3]) ty25 rfl (by simp) rfl (CF.box (m := 1) (S2.box_at (j := 0) rfl) rfl)) ?_
   refine p_v (v := .int .i64 (m.last.length : Int)) rfl (wanted_of (j := 10) (want := false) (d := 14) (b := false) rfl rfl (congrArg Value.bool (decide_eq_false hc4)) rfl) rfl (x_len_slice u25 rfl) ?_
   refine p_v (v := .bool (decide (8 < (m.last.length : Int)))) rfl (wanted_of (j := 10) (want := false) (d := 14) (b := false) rfl rfl (congrArg Value.bool (decide_eq_false hc4)) rfl) rfl (x_gtr rfl rfl) ?_
   refine p_v (v := .bool (decide (8 < (m.last.length : Int)))) rfl rfl rfl (x_pick_f (congrArg Value.bool (decide_eq_false hc4)) rfl) ?_
   refine p_v (v := .bool (decide (8 < (m.last.length : Int)))) rfl rfl rfl (x_move rfl) ?_
   by_cases hc5 : 8 < (m.last.length : Int)
   ·skip
    refine p_off rfl (wanted_of (j := 16) (want := false) (d := 20) (b := true) rfl rfl (congrArg Value.bool (decide_eq_true hc5)) rfl) rfl ?_
    refine p_off rfl (wanted_of (j := 16) (want := false) (d := 20) (b := true) rfl rfl (congrArg Value.bool (decide_eq_true hc5)) rfl) rfl ?_
    refine p_off rfl (wanted_of (j := 16) (want := false) (d := 20) (b := true) rfl rfl (congrArg Value.bool (decide_eq_true hc5)) rfl) rfl ?_
    refine p_off rfl (wanted_of (j := 16) (want := false) (d := 20) (b := true) rfl rfl (congrArg Value.bool (decide_eq_true hc5)) rfl) rfl ?_
    refine p_v (v := .bool true) rfl rfl rfl (x_pick_t (congrArg Value.bool (decide_eq_true hc5)) rfl) ?_
    refine run_region_end ?_
    refine run_cond (b := true) rfl ?_
    simp only [if_true, if_false, Bool.false_eq_true]
    refine run_seq ?_
    refine run_reg (l := [0]) rfl ?_
    refine p_v (v := .bool false) rfl rfl rfl (x_assign rfl) ?_
    refine run_region_end ?_
    refine run_ret Tryd.func18 (res1 rfl (res_tmp (v := .bool false) rfl)) ?_
    have q0 : (smallM m : Bool) = false := by
     first | exact small_1 m (by assumption) | exact small_2 m (by assumption) | exact small_3 m (by assumption) | exact small_4 m (by assumption) | exact small_5 m hI_.1 (by omega) (by assumption) | exact small_6 m (by omega) (by assumption) (by assumption) (by assumption) (by assumption) hI_.2.2
    refine ⟨_, rfl, (fun _ => none), ?_, ?_⟩
    · exact S2.sub [] (by decide) rfl _ rfl
    · first | rfl | (simp only [q0]; rfl) | (simp only [q0])
   ·skip
    refine p_v (v := .pointer (some ⟨b1, 1, none⟩)) rfl (wanted_of (j := 16) (want := false) (d := 20) (b := false) rfl rfl (congrArg Value.bool (decide_eq_false hc5)) rfl) rfl (x_fieldAt fd27_1 ty23 rfl rfl) ?_
    refine p_v (v := .slice A0_1 m.first.length c0_1) rfl (wanted_of (j := 16) (want := false) (d := 20) (b := false) rfl rfl (congrArg Value.bool (decide_eq_false hc5)) rfl) rfl (x_load (seg := [.slice A0_1 m.first.length c0_1]) ty23 rfl (by simp) rfl (CF.box (m := 1) (S2.box_at (j := 0) rfl) rfl)) ?_
    refine p_v (v := .int .i64 (m.first.length : Int)) rfl (wanted_of (j := 16) (want := false) (d := 20) (b := false) rfl rfl (congrArg Value.bool (decide_eq_false hc5)) rfl) rfl (x_len_slice u23 rfl) ?_
    refine p_v (v := .bool (decide (8 < (m.first.length : Int)))) rfl (wanted_of (j := 16) (want := false) (d := 20) (b := false) rfl rfl (congrArg Value.bool (decide_eq_false hc5)) rfl) rfl (x_gtr rfl rfl) ?_
    refine p_v (v := .bool (decide (8 < (m.first.length : Int)))) rfl rfl rfl (x_pick_f (congrArg Value.bool (decide_eq_false hc5)) rfl) ?_
    refine run_region_end ?_
    refine run_cond_prop (p := 8 < (m.first.length : Int)) rfl (fun hc6 => ?_) (fun hc6 => ?_)
    ·skip
     refine run_seq ?_
     refine run_reg (l := [0]) rfl ?_
     refine p_v (v := .bool false) rfl rfl rfl (x_assign rfl) ?_
     refine run_region_end ?_
     refine run_ret Tryd.func18 (res1 rfl (res_tmp (v := .bool false) rfl)) ?_
     have q0 : (smallM m : Bool) = false := by
      first | exact small_1 m (by assumption) | exact small_2 m (by assumption) | exact small_3 m (by assumption) | exact small_4 m (by assumption) | exact small_5 m hI_.1 (by omega) (by assumption) | exact small_6 m (by omega) (by assumption) (by assumption) (by assumption) (by assumption) hI_.2.2
     refine ⟨_, rfl, (fun _ => none), ?_, ?_⟩
     · exact S2.sub [] (by decide) rfl _ rfl
     · first | rfl | (simp only [q0]; rfl) | (simp only [q0])
    ·skip
     refine run_skip ?_
     refine run_seq ?_
     refine run_seq ?_
     refine run_reg (l := [0]) rfl ?_
     refine p_v (v := .int .i64 0) rfl rfl rfl (x_assign rfl) ?_
     refine run_region_end ?_
     refine run_block ?_
     refine run_loop (S := Int) (fun (q_ : Int) ρ w' => match q_ with | i => ∃ (h : Ghost), Le (fun _ => none) h ∧ St w.heap.size w h w' [box b1 27 [.slice A0_0 m.spots.length c0_0, .slice A0_1 m.first.length c0_1, .slice A0_2 m.follow.length c0_2, .slice A0_3 m.last.length c0_3, .bool m.empty]] ∧ ρ 1 = .pointer (some ⟨b1, 0, none⟩) ∧ ρ 3 = .int .i64 i ∧ inK .i64 i ∧ (0 ≤ i ∧ i ≤ (m.follow.length : Int) ∧ smallTo m i = false)) (fun q_ => match q_ with | i => (m.follow.length - i).toNat) (0) ⟨(fun _ => none), Le.refl _, S2.sub [0] (by decide) rfl _ rfl, rfl, rfl, (in_i64 (by first|omega|(simp;omega)|assumption|simp) (by first|omega|(simp;omega)|assumption|simp)), (by exact ⟨by omega, by omega, smallTo_0 _⟩)⟩ ?_
     rintro i ih7 ρ7 w7 ⟨h7, le7, S7, r7_1, r7_3, f7_0, hI7⟩
     have lf7_0 := i64_lo f7_0; have hf7_0 := i64_hi f7_0
     refine run_seq ?_
     refine run_seq ?_
     refine run_reg (l := [0, 1, 2, 3, 4]) rfl ?_
     refine p_v (v := .int .i64 i) rfl rfl rfl (x_move r7_3) ?_
     refine p_v (v := .pointer (some ⟨b1, 2, none⟩)) rfl rfl rfl (x_fieldAt fd27_2 ty24 rfl r7_1) ?_
     refine p_v (v := .slice A0_2 m.follow.length c0_2) rfl rfl rfl (x_load (seg := [.slice A0_2 m.follow.length c0_2]) ty24 rfl (by simp) rfl (CF.box (m := 1) (S7.box_at (j := 0) rfl) rfl)) ?_
     refine p_v (v := .int .i64 (m.follow.length : Int)) rfl rfl rfl (x_len_slice u24 rfl) ?_
     refine p_v (v := .bool (decide (i < (m.follow.length : Int)))) rfl rfl rfl (x_lss rfl rfl) ?_
     refine run_region_end ?_
     refine run_cond_prop (p := i < (m.follow.length : Int)) rfl (fun hc8 => ?_) (fun hc8 => ?_)
     ·skip
      refine run_skip ?_
      refine run_seq ?_
      refine run_block ?_
      refine run_seq ?_
      refine run_reg (l := [0, 1, 2, 3, 4, 5, 6]) rfl ?_
      refine p_v (v := .pointer (some ⟨b1, 2, none⟩)) rfl rfl rfl (x_fieldAt fd27_2 ty24 rfl r7_1) ?_
      refine p_v (v := .slice A0_2 m.follow.length c0_2) rfl rfl rfl (x_load (seg := [.slice A0_2 m.follow.length c0_2]) ty24 rfl (by simp) rfl (CF.box (m := 1) (S7.box_at (j := 0) rfl) rfl)) ?_
      refine p_v (v := .int .i64 i) rfl rfl rfl (x_move r7_3) ?_
      obtain ⟨ad9, seg9, a9, rp9, ce9⟩ := e_index_ro (q := i) (m := 1) l0_2 rfl (by first|omega|(simp;omega)|assumption|simp) (by first|omega|(simp;omega)|assumption|simp)
      refine p_v (v := .pointer (some ad9)) rfl rfl rfl (x_index_ro u24 ty23 rfl rfl a9 (by first|omega|(simp;omega)|assumption|simp) (by first|omega|(simp;omega)|assumption|simp)) ?_
      obtain ⟨A9, c9, rfl, lc9, cm9, ld9⟩ := rp9
      have cn9 := cm9; simp only [maxLen] at cn9
      refine p_v (v := .slice A9 (at_ m.follow i).length c9) rfl rfl rfl (x_load (seg := [.slice A9 (at_ m.follow i).length c9]) ty23 rfl (by simp) rfl (CF.ghost ce9 (St.le0 S7))) ?_
      refine p_v (v := .int .i64 ((at_ m.follow i).length : Int)) rfl rfl rfl (x_len_slice u23 rfl) ?_
      refine p_v (v := .bool (decide (8 < ((at_ m.follow i).length : Int)))) rfl rfl rfl (x_gtr rfl rfl) ?_
      refine run_region_end ?_
      refine run_cond_prop (p := 8 < ((at_ m.follow i).length : Int)) rfl (fun hc10 => ?_) (fun hc10 => ?_)
      ·skip
       refine run_seq ?_
       refine run_reg (l := [0]) rfl ?_
       refine p_v (v := .bool false) rfl rfl rfl (x_assign rfl) ?_
       refine run_region_end ?_
       refine run_ret Tryd.func18 (res1 rfl (res_tmp (v := .bool false) rfl)) ?_
       have q0 : (smallM m : Bool) = false := by
        first | exact small_1 m (by assumption) | exact small_2 m (by assumption) | exact small_3 m (by assumption) | exact small_4 m (by assumption) | exact small_5 m hI7.1 (by omega) (by assumption) | exact small_6 m (by omega) (by assumption) (by assumption) (by assumption) (by assumption) hI7.2.2
       refine ⟨_, rfl, h7, ?_, ?_⟩
       · exact S7.sub [] (by decide) rfl _ rfl
       · first | rfl | (simp only [q0]; rfl) | (simp only [q0])
      ·skip
       refine run_skip ?_
       refine run_inBlock ?_
       refine run_reg (l := [0, 1, 2]) rfl ?_
       refine p_v (v := .int .i64 i) rfl rfl rfl (x_move r7_3) ?_
       refine p_v (v := .int .i64 (i + 1)) rfl rfl rfl (x_add rfl rfl (in_i64 (by first|omega|(simp;omega)|assumption|simp) (by first|omega|(simp;omega)|assumption|simp))) ?_
       refine p_v (v := .int .i64 (i + 1)) rfl rfl rfl (x_assign rfl) ?_
       refine run_region_end ?_
       refine ih7 (i + 1) _ _ (by dsimp only; omega) ⟨h7, le7, S7.sub [0] (by decide) rfl _ rfl, r7_1, rfl, (in_i64 (by first|omega|(simp;omega)|assumption|simp) (by first|omega|(simp;omega)|assumption|simp)), (by exact ⟨by omega, by omega, smallTo_step m hI7.1 (by omega) hI7.2.2 (by assumption)⟩)⟩
     ·skip
      refine run_exit rfl ?_
      refine run_seq ?_
      refine run_reg (l := [0]) rfl ?_
      refine p_v (v := .bool true) rfl rfl rfl (x_assign rfl) ?_
      refine run_region_end ?_
      refine run_ret Tryd.func18 (res1 rfl (res_tmp (v := .bool true) rfl)) ?_
      have q0 : (smallM m : Bool) = true := by
       first | exact small_1 m (by assumption) | exact small_2 m (by assumption) | exact small_3 m (by assumption) | exact small_4 m (by assumption) | exact small_5 m hI7.1 (by omega) (by assumption) | exact small_6 m (by omega) (by assumption) (by assumption) (by assumption) (by assumption) hI7.2.2
      refine ⟨_, rfl, h7, ?_, ?_⟩
      · exact S7.sub [] (by decide) rfl _ rfl
      · first | rfl | (simp only [q0]; rfl) | (simp only [q0])
theorem parted_calls (w : World) (xa : Mach) (A0_0 : Option Addr) (c0_0 : Nat) (b0_0 : xa.spots.length ≤ c0_0 ∧ c0_0 ≤ maxLen) (l0_0 : Leads kSpot (hp w) A0_0 xa.spots) (A0_1 : Option Addr) (c0_1 : Nat) (b0_1 : xa.first.length ≤ c0_1 ∧ c0_1 ≤ maxLen) (l0_1 : Leads (Kd.int .i64) (hp w) A0_1 xa.first) (A0_2 : Option Addr) (c0_2 : Nat) (b0_2 : xa.follow.length ≤ c0_2 ∧ c0_2 ≤ maxLen) (l0_2 : Leads (Kd.int .i64).slice (hp w) A0_2 xa.follow) (A0_3 : Option Addr) (c0_3 : Nat) (b0_3 : xa.last.length ≤ c0_3 ∧ c0_3 ≤ maxLen) (l0_3 : Leads Kd.bool (hp w) A0_3 xa.last) (xb : Mach) (A1_0 : Option Addr) (c1_0 : Nat) (b1_0 : xb.spots.length ≤ c1_0 ∧ c1_0 ≤ maxLen) (l1_0 : Leads kSpot (hp w) A1_0 xb.spots) (A1_1 : Option Addr) (c1_1 : Nat) (b1_1 : xb.first.length ≤ c1_1 ∧ c1_1 ≤ maxLen) (l1_1 : Leads (Kd.int .i64) (hp w) A1_1 xb.first) (A1_2 : Option Addr) (c1_2 : Nat) (b1_2 : xb.follow.length ≤ c1_2 ∧ c1_2 ≤ maxLen) (l1_2 : Leads (Kd.int .i64).slice (hp w) A1_2 xb.follow) (A1_3 : Option Addr) (c1_3 : Nat) (b1_3 : xb.last.length ≤ c1_3 ∧ c1_3 ≤ maxLen) (l1_3 : Leads Kd.bool (hp w) A1_3 xb.last) (pre0 : (xa.spots.length : Int) ≤ 1000 ∧ (xb.spots.length : Int) ≤ 1000) :
    Calls Tryd.prog 20 #[.agg #[.slice A0_0 xa.spots.length c0_0, .slice A0_1 xa.first.length c0_1, .slice A0_2 xa.follow.length c0_2, .slice A0_3 xa.last.length c0_3, .bool xa.empty], .agg #[.slice A1_0 xb.spots.length c1_0, .slice A1_1 xb.first.length c1_1, .slice A1_2 xb.follow.length c1_2, .slice A1_3 xb.last.length c1_3, .bool xb.empty]] w fun e w' => ∃ v, e = .returned v ∧ ∃ (hn : Ghost), St w.heap.size w hn w' [] ∧ v = .agg (encPart (partP xa xb)).toArray ∧ okPart (partP xa xb) := by
 refine calls_of_run Tryd.func20 rfl Tryd.ntmps20 rfl ?_
 have S0 := St.init w
 have bb0_0 := b0_0.1; have bc0_0 := b0_0.2; simp only [maxLen] at bc0_0
 have bb0_1 := b0_1.1; have bc0_1 := b0_1.2; simp only [maxLen] at bc0_1
 have bb0_2 := b0_2.1; have bc0_2 := b0_2.2; simp only [maxLen] at bc0_2
 have bb0_3 := b0_3.1; have bc0_3 := b0_3.2; simp only [maxLen] at bc0_3
 have bb1_0 := b1_0.1; have bc1_0 := b1_0.2; simp only [maxLen] at bc1_0
 have bb1_1 := b1_1.1; have bc1_1 := b1_1.2; simp only [maxLen] at bc1_1
 have bb1_2 := b1_2.1; have bc1_2 := b1_2.2; simp only [maxLen] at bc1_2
 have bb1_3 := b1_3.1; have bc1_3 := b1_3.2; simp only [maxLen] at bc1_3
 have hla_ := sets_le xa; have hlb_ := sets_le xb
 refine run_seq ?_
 refine run_reg (l := [0, 1, 2]) rfl ?_
 obtain ⟨b1, w1, r1, g1, T1⟩ := e_box (P := Tryd.prog) S0 27 (v := .agg #[.slice A0_0 xa.spots.length c0_0, .slice A0_1 xa.first.length c0_1, .slice A0_2 xa.follow.length c0_2, .slice A0_3 xa.last.length c0_3, .bool xa.empty]) [.slice A0_0 xa.spots.length c0_0, .slice A0_1 xa.first.length c0_1, .slice A0_2 xa.follow.length c0_2, .slice A0_3 xa.last.length c0_3, .bool xa.empty] rfl
 have S2 := T1
 dsimp only [lAa, lAn, lA0, lAs] at S2
 refine p_v (v := .pointer (some ⟨b1, 0, none⟩)) rfl rfl rfl (x_box rfl r1) ?_
 obtain ⟨b3, w3, r3, g3, T3⟩ := e_box (P := Tryd.prog) S2 27 (v := .agg #[.slice A1_0 xb.spots.length c1_0, .slice A1_1 xb.first.length c1_1, .slice A1_2 xb.follow.length c1_2, .slice A1_3 xb.last.length c1_3, .bool xb.empty]) [.slice A1_0 xb.spots.length c1_0, .slice A1_1 xb.first.length c1_1, .slice A1_2 xb.follow.length c1_2, .slice A1_3 xb.last.length c1_3, .bool xb.empty] rfl
 have S4 := T3
 dsimp only [lAa, lAn, lA0, lAs] at S4
 refine p_v (v := .pointer (some ⟨b3, 0, none⟩)) rfl rfl rfl (x_box rfl r3) ?_
 obtain ⟨b5, w5, r5, g5, T5⟩ := e_box (P := Tryd.prog) S4 32 (v := zv32) (encPart zPart) (by kernel_rfl)
 have S6 := T5
 dsimp only [lAa, lAn, lA0, lAs] at S6
 refine p_v (v := .pointer (some ⟨b5, 0, none⟩)) rfl rfl rfl (x_alloc ty32 r5) ?_
 refine run_region_end ?_
 refine run_seq ?_
 have hf7 : (CFs ⟨b1, 0, none⟩ [.slice A0_0 xa.spots.length c0_0, .slice A0_1 xa.first.length c0_1, .slice A0_2 xa.follow.length c0_2, .slice A0_3 xa.last.length c0_3, .bool xa.empty]).1 w5 := (CF.box (m := 5) (S6.box_at (j := 0) rfl) rfl)
 have hf8 : (CFs ⟨b3, 0, none⟩ [.slice A1_0 xb.spots.length c1_0, .slice A1_1 xb.first.length c1_1, .slice A1_2 xb.follow.length c1_2, .slice A1_3 xb.last.length c1_3, .bool xb.empty]).1 w5 := (CF.box (m := 5) (S6.box_at (j := 1) rfl) rfl)
 refine daS (hkC 0 hf7 (hkC 2 hf8 (hkN (w := w5)))) 7 rfl mixed ?_
 intro wd9 gd9 hd9
 have S10 := S6.keep gd9
 have hf11 := spUp gd9 hf7
 have hf12 := spUp gd9 hf8
 refine qd1 0 (i := 0) (v := .agg #[.slice A0_0 xa.spots.length c0_0, .slice A0_1 xa.first.length c0_1, .slice A0_2 xa.follow.length c0_2, .slice A0_3 xa.last.length c0_3, .bool xa.empty]) rfl rfl (by decide +kernel) rfl rfl (fun wq hq => (x_load (seg := [.slice A0_0 xa.spots.length c0_0, .slice A0_1 xa.first.length c0_1, .slice A0_2 xa.follow.length c0_2, .slice A0_3 xa.last.length c0_3, .bool xa.empty]) ty27 rfl (by simp) rfl hq)) (of_eq hf11 (of_no rfl)) ?_
 refine qd1 1 (i := 2) (v := .agg #[.slice A1_0 xb.spots.length c1_0, .slice A1_1 xb.first.length c1_1, .slice A1_2 xb.follow.length c1_2, .slice A1_3 xb.last.length c1_3, .bool xb.empty]) rfl rfl (by decide +kernel) rfl rfl (fun wq hq => (x_load (seg := [.slice A1_0 xb.spots.length c1_0, .slice A1_1 xb.first.length c1_1, .slice A1_2 xb.follow.length c1_2, .slice A1_3 xb.last.length c1_3, .bool xb.empty]) ty27 rfl (by simp) rfl hq)) (of_ne rfl (of_eq hf12 (of_no rfl))) ?_
 refine ra_one (i := 1) (by decide +kernel) ?_
 intro wd13 gd13
 have S14 := S10.keep gd13
 have hf15 := spUp gd13 hf11
 have hf16 := spUp gd13 hf12
 refine d_c rfl rfl rfl (y_call (args := [.agg #[.slice A0_0 xa.spots.length c0_0, .slice A0_1 xa.first.length c0_1, .slice A0_2 xa.follow.length c0_2, .slice A0_3 xa.last.length c0_3, .bool xa.empty]]) ca63 rfl rfl) (setsN_calls wd13 xa A0_0 c0_0 b0_0 (l0_0.mono (St.le0 S14)) A0_1 c0_1 b0_1 (l0_1.mono (St.le0 S14)) A0_2 c0_2 b0_2 (l0_2.mono (St.le0 S14)) A0_3 c0_3 b0_3 (l0_3.mono (St.le0 S14)) (by first | assumption | omega | decide)) ?_
 rintro v17_0 w17 ⟨h17, _, T17, rfl⟩
 obtain ⟨k17, lk17, ll17, U17⟩ := call_joins S14 T17
 have S18 := U17
 dsimp only [lAa, lAn, lA0, lAs] at S18
 have hf19 := spUp (Chg.of_below T17.below) hf15
 have hf20 := spUp (Chg.of_below T17.below) hf16
 refine ⟨.inl (Chg.of_below T17.below), ?_⟩
 refine ra_one (i := 3) (by decide +kernel) ?_
 intro wd21 gd21
 have S22 := S18.keep gd21
 have hf23 := spUp gd21 hf19
 have hf24 := spUp gd21 hf20
 refine d_c rfl rfl rfl (y_call (args := [.agg #[.slice A1_0 xb.spots.length c1_0, .slice A1_1 xb.first.length c1_1, .slice A1_2 xb.follow.length c1_2, .slice A1_3 xb.last.length c1_3, .bool xb.empty]]) ca63 rfl rfl) (setsN_calls wd21 xb A1_0 c1_0 b1_0 (l1_0.mono (St.le0 S22)) A1_1 c1_1 b1_1 (l1_1.mono (St.le0 S22)) A1_2 c1_2 b1_2 (l1_2.mono (St.le0 S22)) A1_3 c1_3 b1_3 (l1_3.mono (St.le0 S22)) (by first | assumption | omega | decide)) ?_
 rintro v25_0 w25 ⟨h25, _, T25, rfl⟩
 obtain ⟨k25, lk25, ll25, U25⟩ := call_joins S22 T25
 have lc25_0 := (lk17).trans lk25
 have S26 := U25
 dsimp only [lAa, lAn, lA0, lAs] at S26
 have hf27 := spUp (Chg.of_below T25.below) hf23
 have hf28 := spUp (Chg.of_below T25.below) hf24
 refine ⟨.inl (Chg.of_below T25.below), ?_⟩
 refine ra_one (i := 4) (by decide +kernel) ?_
 intro wd29 gd29
 have S30 := S26.keep gd29
 have hf31 := spUp gd29 hf27
 have hf32 := spUp gd29 hf28
 obtain ⟨A34, c34, ev34, lc34, cm34⟩ := S30.row_val (j := 4) rfl
 obtain ⟨v35, w35, r35, g35, T35⟩ := e_append (kd := kSet) (A := A34) (c := c34) (ys := (setsM xb)) (len := (setsM xb).length) 62 S30 u62 ty74 rfl rfl (j := 3) rfl rfl (news_own S30 (j := 4) rfl ev34) (by first|omega|(simp;omega)|assumption|simp) (by first|omega|(simp;omega)|assumption|simp)
 have S36 := T35.fx 3 (row 74 kSet v35 ((setsM xa) ++ (setsM xb))) rfl
 dsimp only [lAa, lAn, lA0, lAs] at S36
 have hf37 : (CFs ⟨b1, 0, none⟩ [.slice A0_0 xa.spots.length c0_0, .slice A0_1 xa.first.length c0_1, .slice A0_2 xa.follow.length c0_2, .slice A0_3 xa.last.length c0_3, .bool xa.empty]).1 w35 := (CF.box (m := 5) (S36.box_at (j := 0) rfl) rfl)
 have hf38 : (CFs ⟨b3, 0, none⟩ [.slice A1_0 xb.spots.length c1_0, .slice A1_1 xb.first.length c1_1, .slice A1_2 xb.follow.length c1_2, .slice A1_3 xb.last.length c1_3, .bool xb.empty]).1 w35 := (CF.box (m := 5) (S36.box_at (j := 1) rfl) rfl)
 refine d_v (v := v35) rfl rfl rfl (x_append rfl ev34 r35) (.inr (keep_v hf37 (keep_v hf38 trivial))) ?_
 refine ra_one (i := 5) (by decide +kernel) ?_
 intro wd39 gd39
 have S40 := S36.keep gd39
 have hf41 := spUp gd39 hf37
 have hf42 := spUp gd39 hf38
 obtain ⟨A43, c43, ev43, lc43, cm43⟩ := S40.row_val (j := 3) rfl
 refine d_c rfl rfl rfl (y_call (args := [.slice A43 ((setsM xa) ++ (setsM xb)).length c43]) ca49 rfl (cons_eq ev43 rfl)) (refine_calls wd39 ((setsM xa) ++ (setsM xb)) A43 c43 (And.intro lc43 cm43) (row_leads_eq S40 (j := 3) rfl ev43)) ?_
 rintro _ w44 ⟨h44, T44, rfl, ok44_0⟩
 have S45 := S40.keep (Chg.of_below T44.below)
 have hf46 := spUp (Chg.of_below T44.below) hf41
 have hf47 := spUp (Chg.of_below T44.below) hf42
 refine ⟨.inl (Chg.of_below T44.below), ?_⟩
 refine ra_one (i := 6) (by decide +kernel) ?_
 intro wd48 gd48
 have S49 := S45.keep gd48
 have hf50 := spUp gd48 hf46
 have hf51 := spUp gd48 hf47
 obtain ⟨w52, r52, g52, T52⟩ := e_store (P := Tryd.prog) (off := 0) (v := .agg (encPart (refineP ((setsM xa) ++ (setsM xb)))).toArray) (vs := (encPart (refineP ((setsM xa) ++ (setsM xb))))) S49 ty32 rfl (encPart_len ok44_0) (j := 2) rfl (by rw [encPart_len (okPart_zero)]; decide) (encPart_one _)
 rw [lput_all (by rw [encPart_len ok44_0, encPart_len (okPart_zero)])] at T52
 have S53 := T52.fx 2 (box b5 32 (encPart (refineP ((setsM xa) ++ (setsM xb))))) rfl
 dsimp only [lAa, lAn, lA0, lAs] at S53
 have hf54 : (CFs ⟨b1, 0, none⟩ [.slice A0_0 xa.spots.length c0_0, .slice A0_1 xa.first.length c0_1, .slice A0_2 xa.follow.length c0_2, .slice A0_3 xa.last.length c0_3, .bool xa.empty]).1 w52 := (CF.box (m := 5) (S53.box_at (j := 0) rfl) rfl)
 have hf55 : (CFs ⟨b3, 0, none⟩ [.slice A1_0 xb.spots.length c1_0, .slice A1_1 xb.first.length c1_1, .slice A1_2 xb.follow.length c1_2, .slice A1_3 xb.last.length c1_3, .bool xb.empty]).1 w52 := (CF.box (m := 5) (S53.box_at (j := 1) rfl) rfl)
 refine d_s rfl rfl (x_store rfl rfl r52) (.inr (keep_w (by decide +kernel) (keep_w (by decide +kernel) trivial))) ?_
 refine ra_done (by decide +kernel) ?_
 intro wd56 gd56
 have S57 := S53.keep gd56
 refine run_ret Tryd.func20 (res1 rfl (res_cell S57 ty32 rfl (j := 2) rfl (encPart_len ok44_0) (by simp) rfl)) ?_
 have q0 : (partP xa xb : PartM) = refineP ((setsM xa) ++ (setsM xb)) := by
  exact (partP_eq _ _).symm
 refine ⟨_, rfl, k25, ?_, ?_, ?_⟩
 · exact S57.sub [] (by decide) rfl _ rfl
 · first | rfl | (simp only [q0]; rfl) | (simp only [q0])
 · rw [q0]; first | assumption | exact okPart_zero
theorem awake11_calls (w : World) (tb : Block 0 tzTab w) :
    Calls Tryd.prog 19 #[] w fun e w' => ∃ v, e = .returned v ∧ ∃ (hn : Ghost), St w.heap.size w hn w' [] ∧ v = .bool true := by
 refine calls_of_run Tryd.func19 rfl Tryd.ntmps19 rfl ?_
 have S0 := St.init w
 refine run_seq ?_
 refine run_reg (l := [0]) rfl ?_
 refine p_v (v := .bool false) rfl rfl rfl (x_assign rfl) ?_
 refine run_region_end ?_
 refine run_seq ?_
 refine run_reg (l := [0, 1, 2, 3, 4, 5, 6, 7, 8]) rfl ?_
 refine p_c rfl rfl rfl (y_call (args := []) ca46 rfl rfl) (some10_calls w ) ?_
 rintro _ w1 ⟨h1, v1_0, v1_1, v1_2, v1_3, T1, rfl⟩
 obtain ⟨k1, lk1, ll1, U1⟩ := call_joins S0 T1
 have S2 := U1
 dsimp only [lAa, lAn, lA0, lAs] at S2
 obtain ⟨h3, le3, T3, rp3⟩ := S2.freeze (i := 0) rfl
 have lf3_0 := (lk1).trans le3
 have S4 := T3.fx 0 (emp) rfl
 dsimp only [lAa, lAn, lA0, lAs] at S4
 obtain ⟨A3, c3, e3, lc3, cm3, ld3⟩ := rp3
 injection e3 with e3 _; subst e3
 have cn3 := cm3; simp only [maxLen] at cn3
 obtain ⟨h5, le5, T5, rp5⟩ := S4.freeze (i := 1) rfl
 have lf5_0 := (lf3_0).trans le5
 have lf5_1 := (le3).trans le5
 have S6 := T5.fx 1 (emp) rfl
 dsimp only [lAa, lAn, lA0, lAs] at S6
 obtain ⟨A5, c5, e5, lc5, cm5, ld5⟩ := rp5
 injection e5 with e5 _; subst e5
 have cn5 := cm5; simp only [maxLen] at cn5
 obtain ⟨h7, le7, T7, rp7⟩ := S6.freeze (i := 2) rfl
 have lf7_0 := (lf5_0).trans le7
 have lf7_1 := (lf5_1).trans le7
 have lf7_2 := (le5).trans le7
 have S8 := T7.fx 2 (emp) rfl
 dsimp only [lAa, lAn, lA0, lAs] at S8
 obtain ⟨A7, c7, e7, lc7, cm7, ld7⟩ := rp7
 injection e7 with e7 _; subst e7
 have cn7 := cm7; simp only [maxLen] at cn7
 obtain ⟨h9, le9, T9, rp9⟩ := S8.freeze (i := 3) rfl
 have lf9_0 := (lf7_0).trans le9
 have lf9_1 := (lf7_1).trans le9
 have lf9_2 := (lf7_2).trans le9
 have lf9_3 := (le7).trans le9
 have S10 := T9.fx 3 (emp) rfl
 dsimp only [lAa, lAn, lA0, lAs] at S10
 obtain ⟨A9, c9, e9, lc9, cm9, ld9⟩ := rp9
 injection e9 with e9 _; subst e9
 have cn9 := cm9; simp only [maxLen] at cn9
 refine p_c rfl rfl rfl (y_call (args := []) ca47 rfl rfl) (letters_calls w1 ) ?_
 rintro _ w11 ⟨h11, T11, rfl, ok11_0⟩
 have S12 := S10.keep (Chg.of_below T11.below)
 refine p_c rfl rfl rfl (y_call (args := [.agg #[.slice A3 someM.spots.length c3, .slice A5 someM.first.length c5, .slice A7 someM.follow.length c7, .slice A9 someM.last.length c9, .bool someM.empty], .agg (encPart lettersP).toArray, .pointer none]) ca21 rfl rfl) (build_calls w11 someM A3 c3 (And.intro lc3 cm3) (ld3.mono (lf9_2.trans S12.ghost)) A5 c5 (And.intro lc5 cm5) (ld5.mono (lf9_3.trans S12.ghost)) A7 c7 (And.intro lc7 cm7) (ld7.mono (le9.trans S12.ghost)) A9 c9 (And.intro lc9 cm9) (ld9.mono ((Le.refl _).trans S12.ghost)) lettersP ok11_0 () (by first | assumption | omega | decide) (Block.st S12 tb)) ?_
 rintro _ w13 ⟨h13, v13_0, v13_1, T13, rfl, ok13_0, in13_1⟩
 obtain ⟨k13, lk13, ll13, U13⟩ := call_joins S12 T13
 have lc13_0 := (lf9_0).trans lk13
 have lc13_1 := (lf9_1).trans lk13
 have lc13_2 := (lf9_2).trans lk13
 have lc13_3 := (lf9_3).trans lk13
 have lc13_4 := (le9).trans lk13
 have S14 := U13
 dsimp only [lAa, lAn, lA0, lAs] at S14
 have lo_in13_1 := i64_lo in13_1; have hi_in13_1 := i64_hi in13_1
 obtain ⟨h15, le15, T15, rp15⟩ := S14.freeze (i := 4) rfl
 have lf15_0 := (lc13_0).trans le15
 have lf15_1 := (lc13_1).trans le15
 have lf15_2 := (lc13_2).trans le15
 have lf15_3 := (lc13_3).trans le15
 have lf15_4 := (lc13_4).trans le15
 have lf15_5 := (lk13).trans le15
 have S16 := T15.fx 4 (emp) rfl
 dsimp only [lAa, lAn, lA0, lAs] at S16
 obtain ⟨A15, c15, e15, lc15, cm15, ld15⟩ := rp15
 injection e15 with e15 _; subst e15
 have cn15 := cm15; simp only [maxLen] at cn15
 obtain ⟨h17, le17, T17, rp17⟩ := S16.freeze (i := 5) rfl
 have lf17_0 := (lf15_0).trans le17
 have lf17_1 := (lf15_1).trans le17
 have lf17_2 := (lf15_2).trans le17
 have lf17_3 := (lf15_3).trans le17
 have lf17_4 := (lf15_4).trans le17
 have lf17_5 := (lf15_5).trans le17
 have lf17_6 := (le15).trans le17
 have S18 := T17.fx 5 (emp) rfl
 dsimp only [lAa, lAn, lA0, lAs] at S18
 obtain ⟨A17, c17, e17, lc17, cm17, ld17⟩ := rp17
 injection e17 with e17 _; subst e17
 have cn17 := cm17; simp only [maxLen] at cn17
 refine p_v (v := .tuple #[.agg ((encPart ((buildM someM lettersP).part)) ++ ([.slice A15 ((buildM someM lettersP).next).length c15, .slice A17 ((buildM someM lettersP).final).length c17] : List Value)).toArray, .int .i64 (errB someM lettersP)]) rfl rfl rfl (x_move rfl) ?_
 refine p_v (v := .agg ((encPart ((buildM someM lettersP).part)) ++ ([.slice A15 ((buildM someM lettersP).next).length c15, .slice A17 ((buildM someM lettersP).final).length c17] : List Value)).toArray) rfl rfl rfl (x_extract (vs := [.agg ((encPart ((buildM someM lettersP).part)) ++ ([.slice A15 ((buildM someM lettersP).next).length c15, .slice A17 ((buildM someM lettersP).final).length c17] : List Value)).toArray, .int .i64 (errB someM lettersP)]) rfl rfl) ?_
 refine p_v (v := .int .i64 (errB someM lettersP)) rfl rfl rfl (x_extract (vs := [.agg ((encPart ((buildM someM lettersP).part)) ++ ([.slice A15 ((buildM someM lettersP).next).length c15, .slice A17 ((buildM someM lettersP).final).length c17] : List Value)).toArray, .int .i64 (errB someM lettersP)]) rfl rfl) ?_
 obtain ⟨b19, w19, r19, g19, T19⟩ := e_box (P := Tryd.prog) S18 35 (v := zv35) ((encPart zPart) ++ ([.slice none 0 0, .slice none 0 0] : List Value)) (by kernel_rfl)
 have S20 := T19
 dsimp only [lAa, lAn, lA0, lAs] at S20
 refine p_v (v := .pointer (some ⟨b19, 0, none⟩)) rfl rfl rfl (x_alloc ty35 r19) ?_
 obtain ⟨w21, r21, g21, T21⟩ := e_store_all (P := Tryd.prog) (v := .agg ((encPart ((buildM someM lettersP).part)) ++ ([.slice A15 ((buildM someM lettersP).next).length c15, .slice A17 ((buildM someM lettersP).final).length c17] : List Value)).toArray) (vs := ((encPart ((buildM someM lettersP).part)) ++ ([.slice A15 ((buildM someM lettersP).next).length c15, .slice A17 ((buildM someM lettersP).final).length c17] : List Value))) (cs := ((encPart zPart) ++ ([.slice none 0 0, .slice none 0 0] : List Value))) S20 ty35 rfl (len_app (encPart_len ok13_0) rfl) (len_app (encPart_len (okPart_zero)) rfl) (j := 6) rfl (one_app (encPart_one _) (by simp [Value.oneCell']))
 have S22 := T21.fx 6 (box b19 35 ((encPart ((buildM someM lettersP).part)) ++ ([.slice A15 ((buildM someM lettersP).next).length c15, .slice A17 ((buildM someM lettersP).final).length c17] : List Value))) rfl
 dsimp only [lAa, lAn, lA0, lAs] at S22
 refine p_s rfl rfl (x_store rfl rfl r21) ?_
 refine p_v (v := .int .i64 (errB someM lettersP)) rfl rfl rfl (x_assign rfl) ?_
 refine run_region_end ?_
 refine run_seq ?_
 refine run_reg (l := [0, 1, 2, 3, 4, 5, 6, 7, 8, 9, 10, 11, 12, 13, 14, 15, 16, 17, 18, 19, 20, 21, 22, 23, 24, 25]) rfl ?_
 refine p_v (v := .int .i64 (errB someM lettersP)) rfl rfl rfl (x_move rfl) ?_
 refine p_v (v := .bool (decide ((errB someM lettersP) = 0))) rfl rfl rfl (x_eql rfl rfl) ?_
 refine p_v (v := .bool (decide ((errB someM lettersP) = 0))) rfl rfl rfl (x_move rfl) ?_
 have hc23 : ((errB someM lettersP) = 0) := by
  exact some_1
 refine p_v (v := .agg ((encPart ((buildM someM lettersP).part)) ++ ([.slice A15 ((buildM someM lettersP).next).length c15, .slice A17 ((buildM someM lettersP).final).length c17] : List Value)).toArray) rfl (wanted_of (j := 2) (want := true) (d := 11) (b := true) rfl rfl (congrArg Value.bool (decide_eq_true hc23)) rfl) rfl (x_load (seg := ((encPart ((buildM someM lettersP).part)) ++ ([.slice A15 ((buildM someM lettersP).next).length c15, .slice A17 ((buildM someM lettersP).final).length c17] : List Value))) ty35 (len_app (encPart_len ok13_0) rfl) (by simp) rfl (CF.box (m := 259) (S22.box_at (j := 6) rfl) (take_all (len_app (encPart_len ok13_0) rfl)))) ?_
 refine p_c rfl (wanted_of (j := 2) (want := true) (d := 11) (b := true) rfl rfl (congrArg Value.bool (decide_eq_true hc23)) rfl) rfl (y_call (args := [.agg ((encPart ((buildM someM lettersP).part)) ++ ([.slice A15 ((buildM someM lettersP).next).length c15, .slice A17 ((buildM someM lettersP).final).length c17] : List Value)).toArray]) ca48 rfl rfl) (rightD_calls w21 (buildM someM lettersP) ok13_0 A15 c15 (And.intro lc15 cm15) (ld15.mono (le17.trans S22.ghost)) A17 c17 (And.intro lc17 cm17) (ld17.mono ((Le.refl _).trans S22.ghost))) ?_
 rintro _ w24 ⟨h24, T24, rfl⟩
 have S25 := S22.keep (Chg.of_below T24.below)
 refine p_v (v := .bool (rightD (buildM someM lettersP))) rfl rfl rfl (x_pick_t (congrArg Value.bool (decide_eq_true hc23)) rfl) ?_
 refine p_v (v := .bool (rightD (buildM someM lettersP))) rfl rfl rfl (x_move rfl) ?_
 have hc26 : (rightD (buildM someM lettersP)) = true := by
  exact some_2
 refine p_v (v := .pointer (some ⟨b19, 257, none⟩)) rfl (wanted_of (j := 6) (want := true) (d := 15) (b := true) rfl rfl (congrArg Value.bool hc26) rfl) rfl (x_fieldAt fd35_1 ty24 rfl rfl) ?_
 refine p_v (v := .slice A15 ((buildM someM lettersP).next).length c15) rfl (wanted_of (j := 6) (want := true) (d := 15) (b := true) rfl rfl (congrArg Value.bool hc26) rfl) rfl (x_load (seg := [.slice A15 ((buildM someM lettersP).next).length c15]) ty24 rfl (by simp) rfl (CF.box (m := 1) (S25.box_at (j := 6) rfl) (seg_mid2 (a := (encPart ((buildM someM lettersP).part))) (pre := []) (seg := [.slice A15 ((buildM someM lettersP).next).length c15]) (post := [.slice A17 ((buildM someM lettersP).final).length c17]) (encPart_len ok13_0) rfl rfl))) ?_
 refine p_v (v := .int .i64 (((buildM someM lettersP).next).length : Int)) rfl (wanted_of (j := 6) (want := true) (d := 15) (b := true) rfl rfl (congrArg Value.bool hc26) rfl) rfl (x_len_slice u24 rfl) ?_
 refine p_v (v := .bool (decide ((((buildM someM lettersP).next).length : Int) = 5))) rfl (wanted_of (j := 6) (want := true) (d := 15) (b := true) rfl rfl (congrArg Value.bool hc26) rfl) rfl (x_eql rfl rfl) ?_
 refine p_v (v := .bool (decide ((((buildM someM lettersP).next).length : Int) = 5))) rfl rfl rfl (x_pick_t (congrArg Value.bool hc26) rfl) ?_
 refine p_v (v := .bool (decide ((((buildM someM lettersP).next).length : Int) = 5))) rfl rfl rfl (x_move rfl) ?_
 have hc27 : ((((buildM someM lettersP).next).length : Int) = 5) := by
  exact some_3
 refine p_v (v := .agg ((encPart ((buildM someM lettersP).part)) ++ ([.slice A15 ((buildM someM lettersP).next).length c15, .slice A17 ((buildM someM lettersP).final).length c17] : List Value)).toArray) rfl (wanted_of (j := 12) (want := true) (d := 21) (b := true) rfl rfl (congrArg Value.bool (decide_eq_true hc27)) rfl) rfl (x_load (seg := ((encPart ((buildM someM lettersP).part)) ++ ([.slice A15 ((buildM someM lettersP).next).length c15, .slice A17 ((buildM someM lettersP).final).length c17] : List Value))) ty35 (len_app (encPart_len ok13_0) rfl) (by simp) rfl (CF.box (m := 259) (S25.box_at (j := 6) rfl) (take_all (len_app (encPart_len ok13_0) rfl)))) ?_
 refine p_c rfl (wanted_of (j := 12) (want := true) (d := 21) (b := true) rfl rfl (congrArg Value.bool (decide_eq_true hc27)) rfl) rfl (y_call (args := [.agg ((encPart ((buildM someM lettersP).part)) ++ ([.slice A15 ((buildM someM lettersP).next).length c15, .slice A17 ((buildM someM lettersP).final).length c17] : List Value)).toArray, .string (⟨#[]⟩ : ByteArray)]) ca24 rfl rfl) (runD_calls w24 (buildM someM lettersP) ok13_0 A15 c15 (And.intro lc15 cm15) (ld15.mono (le17.trans S25.ghost)) A17 c17 (And.intro lc17 cm17) (ld17.mono ((Le.refl _).trans S25.ghost)) (⟨#[]⟩ : ByteArray) (by decide)) ?_
 rintro _ w28 ⟨h28, T28, rfl⟩
 have S29 := S25.keep (Chg.of_below T28.below)
 refine p_v (v := .bool (runD (buildM someM lettersP) (⟨#[]⟩ : ByteArray))) rfl rfl rfl (x_pick_t (congrArg Value.bool (decide_eq_true hc27)) rfl) ?_
 refine p_v (v := .bool (runD (buildM someM lettersP) (⟨#[]⟩ : ByteArray))) rfl rfl rfl (x_move rfl) ?_
 have hc30 : (runD (buildM someM lettersP) (⟨#[]⟩ : ByteArray)) = true := by
  exact some_4
 refine p_v (v := .agg ((encPart ((buildM someM lettersP).part)) ++ ([.slice A15 ((buildM someM lettersP).next).length c15, .slice A17 ((buildM someM lettersP).final).length c17] : List Value)).toArray) rfl (wanted_of (j := 16) (want := true) (d := 25) (b := true) rfl rfl (congrArg Value.bool hc30) rfl) rfl (x_load (seg := ((encPart ((buildM someM lettersP).part)) ++ ([.slice A15 ((buildM someM lettersP).next).length c15, .slice A17 ((buildM someM lettersP).final).length c17] : List Value))) ty35 (len_app (encPart_len ok13_0) rfl) (by simp) rfl (CF.box (m := 259) (S29.box_at (j := 6) rfl) (take_all (len_app (encPart_len ok13_0) rfl)))) ?_
 refine p_c rfl (wanted_of (j := 16) (want := true) (d := 25) (b := true) rfl rfl (congrArg Value.bool hc30) rfl) rfl (y_call (args := [.agg ((encPart ((buildM someM lettersP).part)) ++ ([.slice A15 ((buildM someM lettersP).next).length c15, .slice A17 ((buildM someM lettersP).final).length c17] : List Value)).toArray, .string (⟨#[97, 98]⟩ : ByteArray)]) ca24 rfl rfl) (runD_calls w28 (buildM someM lettersP) ok13_0 A15 c15 (And.intro lc15 cm15) (ld15.mono (le17.trans S29.ghost)) A17 c17 (And.intro lc17 cm17) (ld17.mono ((Le.refl _).trans S29.ghost)) (⟨#[97, 98]⟩ : ByteArray) (by decide)) ?_
 rintro _ w31 ⟨h31, T31, rfl⟩
 have S32 := S29.keep (Chg.of_below T31.below)
 refine p_v (v := .bool (runD (buildM someM lettersP) (⟨#[97, 98]⟩ : ByteArray))) rfl rfl rfl (x_pick_t (congrArg Value.bool hc30) rfl) ?_
 refine p_v (v := .bool (runD (buildM someM lettersP) (⟨#[97, 98]⟩ : ByteArray))) rfl rfl rfl (x_move rfl) ?_
 have hc33 : (runD (buildM someM lettersP) (⟨#[97, 98]⟩ : ByteArray)) = true := by
  exact some_5
 refine p_v (v := .agg ((encPart ((buildM someM lettersP).part)) ++ ([.slice A15 ((buildM someM lettersP).next).length c15, .slice A17 ((buildM someM lettersP).final).length c17] : List Value)).toArray) rfl (wanted_of (j := 20) (want := true) (d := 29) (b := true) rfl rfl (congrArg Value.bool hc33) rfl) rfl (x_load (seg := ((encPart ((buildM someM lettersP).part)) ++ ([.slice A15 ((buildM someM lettersP).next).length c15, .slice A17 ((buildM someM lettersP).final).length c17] : List Value))) ty35 (len_app (encPart_len ok13_0) rfl) (by simp) rfl (CF.box (m := 259) (S32.box_at (j := 6) rfl) (take_all (len_app (encPart_len ok13_0) rfl)))) ?_
 refine p_c rfl (wanted_of (j := 20) (want := true) (d := 29) (b := true) rfl rfl (congrArg Value.bool hc33) rfl) rfl (y_call (args := [.agg ((encPart ((buildM someM lettersP).part)) ++ ([.slice A15 ((buildM someM lettersP).next).length c15, .slice A17 ((buildM someM lettersP).final).length c17] : List Value)).toArray, .string (⟨#[97, 99]⟩ : ByteArray)]) ca24 rfl rfl) (runD_calls w31 (buildM someM lettersP) ok13_0 A15 c15 (And.intro lc15 cm15) (ld15.mono (le17.trans S32.ghost)) A17 c17 (And.intro lc17 cm17) (ld17.mono ((Le.refl _).trans S32.ghost)) (⟨#[97, 99]⟩ : ByteArray) (by decide)) ?_
 rintro _ w34 ⟨h34, T34, rfl⟩
 have S35 := S32.keep (Chg.of_below T34.below)
 refine p_v (v := .bool (!(runD (buildM someM lettersP) (⟨#[97, 99]⟩ : ByteArray)))) rfl (wanted_of (j := 20) (want := true) (d := 29) (b := true) rfl rfl (congrArg Value.bool hc33) rfl) rfl (x_not rfl) ?_
 refine p_v (v := .bool (!(runD (buildM someM lettersP) (⟨#[97, 99]⟩ : ByteArray)))) rfl rfl rfl (x_pick_t (congrArg Value.bool hc33) rfl) ?_
 refine p_v (v := .bool (!(runD (buildM someM lettersP) (⟨#[97, 99]⟩ : ByteArray)))) rfl rfl rfl (x_assign rfl) ?_
 refine run_region_end ?_
 have hc36 : (runD (buildM someM lettersP) (⟨#[97, 99]⟩ : ByteArray)) = false := by
  exact some_6
 refine run_ret Tryd.func19 (res1 rfl (res_tmp (v := .bool true) (congrArg (fun z => Value.bool (!z)) hc36))) ?_
 have q0 : (true : Bool) = true := rfl
 refine ⟨_, rfl, h17, ?_, ?_⟩
 · exact S35.sub [] (by decide) rfl _ rfl
 · rfl
end Go.Proofs.YtfoemogojbnfhaaDoor
namespace Go.Proofs.YtfoemogojbnfhaaDoor
open Go Go.RowKit Gx
set_option maxHeartbeats 1000000
set_option linter.unusedVariables false
set_option linter.unusedSimpArgs false
set_option maxRecDepth 8000
attribute [local irreducible] listOf count first has setOf wbits Lib.ctz badQ badRow rightD goD runD notD errD notTo nextP finalP howB okBoth bothM errO nextB nextC outTo readTo rowIn finalB lastB leastB leastBTo buildM errB fitsP madeM allM bfs numbered putB beginB okB smallM smallTo overM lettersP partP
theorem dfaTakes_calls (w : World) (m : Mach) (A0_0 : Option Addr) (c0_0 : Nat) (b0_0 : m.spots.length ≤ c0_0 ∧ c0_0 ≤ maxLen) (l0_0 : Leads kSpot (hp w) A0_0 m.spots) (A0_1 : Option Addr) (c0_1 : Nat) (b0_1 : m.first.length ≤ c0_1 ∧ c0_1 ≤ maxLen) (l0_1 : Leads (Kd.int .i64) (hp w) A0_1 m.first) (A0_2 : Option Addr) (c0_2 : Nat) (b0_2 : m.follow.length ≤ c0_2 ∧ c0_2 ≤ maxLen) (l0_2 : Leads (Kd.int .i64).slice (hp w) A0_2 m.follow) (A0_3 : Option Addr) (c0_3 : Nat) (b0_3 : m.last.length ≤ c0_3 ∧ c0_3 ≤ maxLen) (l0_3 : Leads Kd.bool (hp w) A0_3 m.last) (other : Mach) (A1_0 : Option Addr) (c1_0 : Nat) (b1_0 : other.spots.length ≤ c1_0 ∧ c1_0 ≤ maxLen) (l1_0 : Leads kSpot (hp w) A1_0 other.spots) (A1_1 : Option Addr) (c1_1 : Nat) (b1_1 : other.first.length ≤ c1_1 ∧ c1_1 ≤ maxLen) (l1_1 : Leads (Kd.int .i64) (hp w) A1_1 other.first) (A1_2 : Option Addr) (c1_2 : Nat) (b1_2 : other.follow.length ≤ c1_2 ∧ c1_2 ≤ maxLen) (l1_2 : Leads (Kd.int .i64).slice (hp w) A1_2 other.follow) (A1_3 : Option Addr) (c1_3 : Nat) (b1_3 : other.last.length ≤ c1_3 ∧ c1_3 ≤ maxLen) (l1_3 : Leads Kd.bool (hp w) A1_3 other.last) (xw : ByteArray) (s2 : xw.size ≤ maxLen) (tb : Block 0 tzTab w) :
    Calls Tryd.prog 6 #[.agg #[.slice A0_0 m.spots.length c0_0, .slice A0_1 m.first.length c0_1, .slice A0_2 m.follow.length c0_2, .slice A0_3 m.last.length c0_3, .bool m.empty], .agg #[.slice A1_0 other.spots.length c1_0, .slice A1_1 other.first.length c1_1, .slice A1_2 other.follow.length c1_2, .slice A1_3 other.last.length c1_3, .bool other.empty], .string xw] w fun e w' => ∃ v, e = .returned v ∧ ∃ (hn : Ghost), St w.heap.size w hn w' [] ∧ v = .bool true := by
 refine calls_of_run Tryd.func6 rfl Tryd.ntmps6 rfl ?_
 have S0 := St.init w
 have bb0_0 := b0_0.1; have bc0_0 := b0_0.2; simp only [maxLen] at bc0_0
 have bb0_1 := b0_1.1; have bc0_1 := b0_1.2; simp only [maxLen] at bc0_1
 have bb0_2 := b0_2.1; have bc0_2 := b0_2.2; simp only [maxLen] at bc0_2
 have bb0_3 := b0_3.1; have bc0_3 := b0_3.2; simp only [maxLen] at bc0_3
 have bb1_0 := b1_0.1; have bc1_0 := b1_0.2; simp only [maxLen] at bc1_0
 have bb1_1 := b1_1.1; have bc1_1 := b1_1.2; simp only [maxLen] at bc1_1
 have bb1_2 := b1_2.1; have bc1_2 := b1_2.2; simp only [maxLen] at bc1_2
 have bb1_3 := b1_3.1; have bc1_3 := b1_3.2; simp only [maxLen] at bc1_3
 have sz2 := s2; simp only [maxLen] at sz2
 refine run_seq ?_
 refine run_reg (l := [0, 1, 2]) rfl ?_
 obtain ⟨b1, w1, r1, g1, T1⟩ := e_box (P := Tryd.prog) S0 27 (v := .agg #[.slice A0_0 m.spots.length c0_0, .slice A0_1 m.first.length c0_1, .slice A0_2 m.follow.length c0_2, .slice A0_3 m.last.length c0_3, .bool m.empty]) [.slice A0_0 m.spots.length c0_0, .slice A0_1 m.first.length c0_1, .slice A0_2 m.follow.length c0_2, .slice A0_3 m.last.length c0_3, .bool m.empty] rfl
 have S2 := T1
 dsimp only [lAa, lAn, lA0, lAs] at S2
 refine p_v (v := .pointer (some ⟨b1, 0, none⟩)) rfl rfl rfl (x_box rfl r1) ?_
 obtain ⟨b3, w3, r3, g3, T3⟩ := e_box (P := Tryd.prog) S2 27 (v := .agg #[.slice A1_0 other.spots.length c1_0, .slice A1_1 other.first.length c1_1, .slice A1_2 other.follow.length c1_2, .slice A1_3 other.last.length c1_3, .bool other.empty]) [.slice A1_0 other.spots.length c1_0, .slice A1_1 other.first.length c1_1, .slice A1_2 other.follow.length c1_2, .slice A1_3 other.last.length c1_3, .bool other.empty] rfl
 have S4 := T3
 dsimp only [lAa, lAn, lA0, lAs] at S4
 refine p_v (v := .pointer (some ⟨b3, 0, none⟩)) rfl rfl rfl (x_box rfl r3) ?_
 refine p_v (v := .bool false) rfl rfl rfl (x_assign rfl) ?_
 refine run_region_end ?_
 refine run_seq ?_
 refine run_seq ?_
 refine run_reg (l := [0, 1, 2, 3, 4, 5, 6, 7, 8, 9, 10, 11, 12]) rfl ?_
 refine p_v (v := .agg #[.slice A0_0 m.spots.length c0_0, .slice A0_1 m.first.length c0_1, .slice A0_2 m.follow.length c0_2, .slice A0_3 m.last.length c0_3, .bool m.empty]) rfl rfl rfl (x_load (seg := [.slice A0_0 m.spots.length c0_0, .slice A0_1 m.first.length c0_1, .slice A0_2 m.follow.length c0_2, .slice A0_3 m.last.length c0_3, .bool m.empty]) ty27 rfl (by simp) rfl (CF.box (m := 5) (S4.box_at (j := 0) rfl) rfl)) ?_
 refine p_c rfl rfl rfl (y_call (args := [.agg #[.slice A0_0 m.spots.length c0_0, .slice A0_1 m.first.length c0_1, .slice A0_2 m.follow.length c0_2, .slice A0_3 m.last.length c0_3, .bool m.empty]]) ca18 rfl rfl) (small11_calls w3 m A0_0 c0_0 b0_0 (l0_0.mono (St.le0 S4)) A0_1 c0_1 b0_1 (l0_1.mono (St.le0 S4)) A0_2 c0_2 b0_2 (l0_2.mono (St.le0 S4)) A0_3 c0_3 b0_3 (l0_3.mono (St.le0 S4))) ?_
 rintro _ w5 ⟨h5, T5, rfl⟩
 have S6 := S4.keep (Chg.of_below T5.below)
 refine p_v (v := .bool (!(smallM m))) rfl rfl rfl (x_not rfl) ?_
 refine p_v (v := .bool (!(smallM m))) rfl rfl rfl (x_move rfl) ?_
 rcases Bool.eq_false_or_eq_true (smallM m) with hc7 | hc7
 ·skip
  have hs1_ := smallM_of hc7
  refine p_v (v := .agg #[.slice A1_0 other.spots.length c1_0, .slice A1_1 other.first.length c1_1, .slice A1_2 other.follow.length c1_2, .slice A1_3 other.last.length c1_3, .bool other.empty]) rfl (wanted_of (j := 3) (want := false) (d := 23) (b := false) rfl rfl (congrArg (fun z => Value.bool (!z)) hc7) rfl) rfl (x_load (seg := [.slice A1_0 other.spots.length c1_0, .slice A1_1 other.first.length c1_1, .slice A1_2 other.follow.length c1_2, .slice A1_3 other.last.length c1_3, .bool other.empty]) ty27 rfl (by simp) rfl (CF.box (m := 5) (S6.box_at (j := 1) rfl) rfl)) ?_
  refine p_c rfl (wanted_of (j := 3) (want := false) (d := 23) (b := false) rfl rfl (congrArg (fun z => Value.bool (!z)) hc7) rfl) rfl (y_call (args := [.agg #[.slice A1_0 other.spots.length c1_0, .slice A1_1 other.first.length c1_1, .slice A1_2 other.follow.length c1_2, .slice A1_3 other.last.length c1_3, .bool other.empty]]) ca18 rfl rfl) (small11_calls w5 other A1_0 c1_0 b1_0 (l1_0.mono (St.le0 S6)) A1_1 c1_1 b1_1 (l1_1.mono (St.le0 S6)) A1_2 c1_2 b1_2 (l1_2.mono (St.le0 S6)) A1_3 c1_3 b1_3 (l1_3.mono (St.le0 S6))) ?_
  rintro _ w8 ⟨h8, T8, rfl⟩
  have S9 := S6.keep (Chg.of_below T8.below)
  refine p_v (v := .bool (!(smallM other))) rfl (wanted_of (j := 3) (want := false) (d := 23) (b := false) rfl rfl (congrArg (fun z => Value.bool (!z)) hc7) rfl) rfl (x_not rfl) ?_
  refine p_v (v := .bool (!(smallM other))) rfl rfl rfl (x_pick_f (congrArg (fun z => Value.bool (!z)) hc7) rfl) ?_
  refine p_v (v := .bool (!(smallM other))) rfl rfl rfl (x_move rfl) ?_
  rcases Bool.eq_false_or_eq_true (smallM other) with hc10 | hc10
  ·skip
   have hs2_ := smallM_of hc10
   refine p_v (v := .string xw) rfl (wanted_of (j := 8) (want := false) (d := 28) (b := false) rfl rfl (congrArg (fun z => Value.bool (!z)) hc10) rfl) rfl (x_move rfl) ?_
   refine p_v (v := .int .i64 (xw.size : Int)) rfl (wanted_of (j := 8) (want := false) (d := 28) (b := false) rfl rfl (congrArg (fun z => Value.bool (!z)) hc10) rfl) rfl (x_len_string u9 rfl) ?_
   refine p_v (v := .bool (decide (100 < (xw.size : Int)))) rfl (wanted_of (j := 8) (want := false) (d := 28) (b := false) rfl rfl (congrArg (fun z => Value.bool (!z)) hc10) rfl) rfl (x_gtr rfl rfl) ?_
   refine p_v (v := .bool (decide (100 < (xw.size : Int)))) rfl rfl rfl (x_pick_f (congrArg (fun z => Value.bool (!z)) hc10) rfl) ?_
   refine run_region_end ?_
   refine run_cond_prop (p := 100 < (xw.size : Int)) rfl (fun hc11 => ?_) (fun hc11 => ?_)
   ·skip
    refine run_seq ?_
    refine run_reg (l := [0, 1]) rfl ?_
    refine p_c rfl rfl rfl (y_call (args := []) ca19 rfl rfl) (awake11_calls w8  (Block.st S9 tb)) ?_
    rintro _ w12 ⟨h12, T12, rfl⟩
    have S13 := S9.keep (Chg.of_below T12.below)
    refine p_v (v := .bool true) rfl rfl rfl (x_assign rfl) ?_
    refine run_region_end ?_
    refine run_ret Tryd.func6 (res1 rfl (res_tmp (v := .bool true) rfl)) ?_
    have q0 : (true : Bool) = true := rfl
    refine ⟨_, rfl, (fun _ => none), ?_, ?_⟩
    · exact S13.sub [] (by decide) rfl _ rfl
    · rfl
   ·skip
    refine run_skip ?_
    refine run_seq ?_
    refine run_reg (l := [0, 1, 2, 3, 4]) rfl ?_
    refine p_v (v := .agg #[.slice A0_0 m.spots.length c0_0, .slice A0_1 m.first.length c0_1, .slice A0_2 m.follow.length c0_2, .slice A0_3 m.last.length c0_3, .bool m.empty]) rfl rfl rfl (x_load (seg := [.slice A0_0 m.spots.length c0_0, .slice A0_1 m.first.length c0_1, .slice A0_2 m.follow.length c0_2, .slice A0_3 m.last.length c0_3, .bool m.empty]) ty27 rfl (by simp) rfl (CF.box (m := 5) (S9.box_at (j := 0) rfl) rfl)) ?_
    refine p_v (v := .agg #[.slice A1_0 other.spots.length c1_0, .slice A1_1 other.first.length c1_1, .slice A1_2 other.follow.length c1_2, .slice A1_3 other.last.length c1_3, .bool other.empty]) rfl rfl rfl (x_load (seg := [.slice A1_0 other.spots.length c1_0, .slice A1_1 other.first.length c1_1, .slice A1_2 other.follow.length c1_2, .slice A1_3 other.last.length c1_3, .bool other.empty]) ty27 rfl (by simp) rfl (CF.box (m := 5) (S9.box_at (j := 1) rfl) rfl)) ?_
    refine p_c rfl rfl rfl (y_call (args := [.agg #[.slice A0_0 m.spots.length c0_0, .slice A0_1 m.first.length c0_1, .slice A0_2 m.follow.length c0_2, .slice A0_3 m.last.length c0_3, .bool m.empty], .agg #[.slice A1_0 other.spots.length c1_0, .slice A1_1 other.first.length c1_1, .slice A1_2 other.follow.length c1_2, .slice A1_3 other.last.length c1_3, .bool other.empty]]) ca20 rfl rfl) (parted_calls w8 m A0_0 c0_0 b0_0 (l0_0.mono (St.le0 S9)) A0_1 c0_1 b0_1 (l0_1.mono (St.le0 S9)) A0_2 c0_2 b0_2 (l0_2.mono (St.le0 S9)) A0_3 c0_3 b0_3 (l0_3.mono (St.le0 S9)) other A1_0 c1_0 b1_0 (l1_0.mono (St.le0 S9)) A1_1 c1_1 b1_1 (l1_1.mono (St.le0 S9)) A1_2 c1_2 b1_2 (l1_2.mono (St.le0 S9)) A1_3 c1_3 b1_3 (l1_3.mono (St.le0 S9)) (by first | assumption | exact ⟨by omega, by omega⟩)) ?_
    rintro _ w15 ⟨h15, T15, rfl, ok15_0⟩
    have S16 := S9.keep (Chg.of_below T15.below)
    obtain ⟨b17, w17, r17, g17, T17⟩ := e_box (P := Tryd.prog) S16 32 (v := zv32) (encPart zPart) (by kernel_rfl)
    have S18 := T17
    dsimp only [lAa, lAn, lA0, lAs] at S18
    refine p_v (v := .pointer (some ⟨b17, 0, none⟩)) rfl rfl rfl (x_alloc ty32 r17) ?_
    obtain ⟨w19, r19, g19, T19⟩ := e_store (P := Tryd.prog) (off := 0) (v := .agg (encPart (partP m other)).toArray) (vs := (encPart (partP m other))) S18 ty32 rfl (encPart_len ok15_0) (j := 2) rfl (by rw [encPart_len (okPart_zero)]; decide) (encPart_one _)
    rw [lput_all (by rw [encPart_len ok15_0, encPart_len (okPart_zero)])] at T19
    have S20 := T19.fx 2 (box b17 32 (encPart (partP m other))) rfl
    dsimp only [lAa, lAn, lA0, lAs] at S20
    refine p_s rfl rfl (x_store rfl rfl r19) ?_
    refine run_region_end ?_
    refine run_seq ?_
    refine run_reg (l := [0, 1, 2, 3, 4, 5, 6, 7, 8]) rfl ?_
    refine p_v (v := .agg #[.slice A0_0 m.spots.length c0_0, .slice A0_1 m.first.length c0_1, .slice A0_2 m.follow.length c0_2, .slice A0_3 m.last.length c0_3, .bool m.empty]) rfl rfl rfl (x_load (seg := [.slice A0_0 m.spots.length c0_0, .slice A0_1 m.first.length c0_1, .slice A0_2 m.follow.length c0_2, .slice A0_3 m.last.length c0_3, .bool m.empty]) ty27 rfl (by simp) rfl (CF.box (m := 5) (S20.box_at (j := 0) rfl) rfl)) ?_
    refine p_v (v := .agg (encPart (partP m other)).toArray) rfl rfl rfl (x_load (seg := (encPart (partP m other))) ty32 (encPart_len ok15_0) (by simp) rfl (CF.box (m := 257) (S20.box_at (j := 2) rfl) (by rw [List.drop_zero, List.take_of_length_le (by rw [encPart_len ok15_0]; exact Nat.le_refl _)]))) ?_
    refine p_c rfl rfl rfl (y_call (args := [.agg #[.slice A0_0 m.spots.length c0_0, .slice A0_1 m.first.length c0_1, .slice A0_2 m.follow.length c0_2, .slice A0_3 m.last.length c0_3, .bool m.empty], .agg (encPart (partP m other)).toArray, .pointer none]) ca21 rfl rfl) (build_calls w19 m A0_0 c0_0 b0_0 (l0_0.mono (St.le0 S20)) A0_1 c0_1 b0_1 (l0_1.mono (St.le0 S20)) A0_2 c0_2 b0_2 (l0_2.mono (St.le0 S20)) A0_3 c0_3 b0_3 (l0_3.mono (St.le0 S20)) (partP m other) ok15_0 () (by first | assumption | omega | decide) (Block.st S20 tb)) ?_
    rintro _ w21 ⟨h21, v21_0, v21_1, T21, rfl, ok21_0, in21_1⟩
    obtain ⟨k21, lk21, ll21, U21⟩ := call_joins S20 T21
    have S22 := U21
    dsimp only [lAa, lAn, lA0, lAs] at S22
    have lo_in21_1 := i64_lo in21_1; have hi_in21_1 := i64_hi in21_1
    obtain ⟨h23, le23, T23, rp23⟩ := S22.freeze (i := 3) rfl
    have lf23_0 := (lk21).trans le23
    have S24 := T23.fx 3 (emp) rfl
    dsimp only [lAa, lAn, lA0, lAs] at S24
    obtain ⟨A23, c23, e23, lc23, cm23, ld23⟩ := rp23
    injection e23 with e23 _; subst e23
    have cn23 := cm23; simp only [maxLen] at cn23
    obtain ⟨h25, le25, T25, rp25⟩ := S24.freeze (i := 4) rfl
    have lf25_0 := (lf23_0).trans le25
    have lf25_1 := (le23).trans le25
    have S26 := T25.fx 4 (emp) rfl
    dsimp only [lAa, lAn, lA0, lAs] at S26
    obtain ⟨A25, c25, e25, lc25, cm25, ld25⟩ := rp25
    injection e25 with e25 _; subst e25
    have cn25 := cm25; simp only [maxLen] at cn25
    refine p_v (v := .tuple #[.agg ((encPart ((buildM m (partP m other)).part)) ++ ([.slice A23 ((buildM m (partP m other)).next).length c23, .slice A25 ((buildM m (partP m other)).final).length c25] : List Value)).toArray, .int .i64 (errB m (partP m other))]) rfl rfl rfl (x_move rfl) ?_
    refine p_v (v := .agg ((encPart ((buildM m (partP m other)).part)) ++ ([.slice A23 ((buildM m (partP m other)).next).length c23, .slice A25 ((buildM m (partP m other)).final).length c25] : List Value)).toArray) rfl rfl rfl (x_extract (vs := [.agg ((encPart ((buildM m (partP m other)).part)) ++ ([.slice A23 ((buildM m (partP m other)).next).length c23, .slice A25 ((buildM m (partP m other)).final).length c25] : List Value)).toArray, .int .i64 (errB m (partP m other))]) rfl rfl) ?_
    refine p_v (v := .int .i64 (errB m (partP m other))) rfl rfl rfl (x_extract (vs := [.agg ((encPart ((buildM m (partP m other)).part)) ++ ([.slice A23 ((buildM m (partP m other)).next).length c23, .slice A25 ((buildM m (partP m other)).final).length c25] : List Value)).toArray, .int .i64 (errB m (partP m other))]) rfl rfl) ?_
    obtain ⟨b27, w27, r27, g27, T27⟩ := e_box (P := Tryd.prog) S26 35 (v := zv35) ((encPart zPart) ++ ([.slice none 0 0, .slice none 0 0] : List Value)) (by kernel_rfl)
    have S28 := T27
    dsimp only [lAa, lAn, lA0, lAs] at S28
    refine p_v (v := .pointer (some ⟨b27, 0, none⟩)) rfl rfl rfl (x_alloc ty35 r27) ?_
    obtain ⟨w29, r29, g29, T29⟩ := e_store_all (P := Tryd.prog) (v := .agg ((encPart ((buildM m (partP m other)).part)) ++ ([.slice A23 ((buildM m (partP m other)).next).length c23, .slice A25 ((buildM m (partP m other)).final).length c25] : List Value)).toArray) (vs := ((encPart ((buildM m (partP m other)).part)) ++ ([.slice A23 ((buildM m (partP m other)).next).length c23, .slice A25 ((buildM m (partP m other)).final).length c25] : List Value))) (cs := ((encPart zPart) ++ ([.slice none 0 0, .slice none 0 0] : List Value))) S28 ty35 rfl (len_app (encPart_len ok21_0) rfl) (len_app (encPart_len (okPart_zero)) rfl) (j := 5) rfl (one_app (encPart_one _) (by simp [Value.oneCell']))
    have S30 := T29.fx 5 (box b27 35 ((encPart ((buildM m (partP m other)).part)) ++ ([.slice A23 ((buildM m (partP m other)).next).length c23, .slice A25 ((buildM m (partP m other)).final).length c25] : List Value))) rfl
    dsimp only [lAa, lAn, lA0, lAs] at S30
    refine p_s rfl rfl (x_store rfl rfl r29) ?_
    refine p_v (v := .int .i64 (errB m (partP m other))) rfl rfl rfl (x_assign rfl) ?_
    refine run_region_end ?_
    refine run_seq ?_
    refine run_reg (l := [0, 1, 2, 3, 4, 5, 6, 7, 8]) rfl ?_
    refine p_v (v := .agg #[.slice A1_0 other.spots.length c1_0, .slice A1_1 other.first.length c1_1, .slice A1_2 other.follow.length c1_2, .slice A1_3 other.last.length c1_3, .bool other.empty]) rfl rfl rfl (x_load (seg := [.slice A1_0 other.spots.length c1_0, .slice A1_1 other.first.length c1_1, .slice A1_2 other.follow.length c1_2, .slice A1_3 other.last.length c1_3, .bool other.empty]) ty27 rfl (by simp) rfl (CF.box (m := 5) (S30.box_at (j := 1) rfl) rfl)) ?_
    refine p_v (v := .agg (encPart (partP m other)).toArray) rfl rfl rfl (x_load (seg := (encPart (partP m other))) ty32 (encPart_len ok15_0) (by simp) rfl (CF.box (m := 257) (S30.box_at (j := 2) rfl) (by rw [List.drop_zero, List.take_of_length_le (by rw [encPart_len ok15_0]; exact Nat.le_refl _)]))) ?_
    refine p_c rfl rfl rfl (y_call (args := [.agg #[.slice A1_0 other.spots.length c1_0, .slice A1_1 other.first.length c1_1, .slice A1_2 other.follow.length c1_2, .slice A1_3 other.last.length c1_3, .bool other.empty], .agg (encPart (partP m other)).toArray, .pointer none]) ca21 rfl rfl) (build_calls w29 other A1_0 c1_0 b1_0 (l1_0.mono (St.le0 S30)) A1_1 c1_1 b1_1 (l1_1.mono (St.le0 S30)) A1_2 c1_2 b1_2 (l1_2.mono (St.le0 S30)) A1_3 c1_3 b1_3 (l1_3.mono (St.le0 S30)) (partP m other) ok15_0 () (by first | assumption | omega | decide) (Block.st S30 tb)) ?_
    rintro _ w31 ⟨h31, v31_0, v31_1, T31, rfl, ok31_0, in31_1⟩
    obtain ⟨k31, lk31, ll31, U31⟩ := call_joins S30 T31
    have lc31_0 := (lf25_0).trans lk31
    have lc31_1 := (lf25_1).trans lk31
    have lc31_2 := (le25).trans lk31
    have S32 := U31
    dsimp only [lAa, lAn, lA0, lAs] at S32
    have lo_in31_1 := i64_lo in31_1; have hi_in31_1 := i64_hi in31_1
    obtain ⟨h33, le33, T33, rp33⟩ := S32.freeze (i := 6) rfl
    have lf33_0 := (lc31_0).trans le33
    have lf33_1 := (lc31_1).trans le33
    have lf33_2 := (lc31_2).trans le33
    have lf33_3 := (lk31).trans le33
    have S34 := T33.fx 6 (emp) rfl
    dsimp only [lAa, lAn, lA0, lAs] at S34
    obtain ⟨A33, c33, e33, lc33, cm33, ld33⟩ := rp33
    injection e33 with e33 _; subst e33
    have cn33 := cm33; simp only [maxLen] at cn33
    obtain ⟨h35, le35, T35, rp35⟩ := S34.freeze (i := 7) rfl
    have lf35_0 := (lf33_0).trans le35
    have lf35_1 := (lf33_1).trans le35
    have lf35_2 := (lf33_2).trans le35
    have lf35_3 := (lf33_3).trans le35
    have lf35_4 := (le33).trans le35
    have S36 := T35.fx 7 (emp) rfl
    dsimp only [lAa, lAn, lA0, lAs] at S36
    obtain ⟨A35, c35, e35, lc35, cm35, ld35⟩ := rp35
    injection e35 with e35 _; subst e35
    have cn35 := cm35; simp only [maxLen] at cn35
    refine p_v (v := .tuple #[.agg ((encPart ((buildM other (partP m other)).part)) ++ ([.slice A33 ((buildM other (partP m other)).next).length c33, .slice A35 ((buildM other (partP m other)).final).length c35] : List Value)).toArray, .int .i64 (errB other (partP m other))]) rfl rfl rfl (x_move rfl) ?_
    refine p_v (v := .agg ((encPart ((buildM other (partP m other)).part)) ++ ([.slice A33 ((buildM other (partP m other)).next).length c33, .slice A35 ((buildM other (partP m other)).final).length c35] : List Value)).toArray) rfl rfl rfl (x_extract (vs := [.agg ((encPart ((buildM other (partP m other)).part)) ++ ([.slice A33 ((buildM other (partP m other)).next).length c33, .slice A35 ((buildM other (partP m other)).final).length c35] : List Value)).toArray, .int .i64 (errB other (partP m other))]) rfl rfl) ?_
    refine p_v (v := .int .i64 (errB other (partP m other))) rfl rfl rfl (x_extract (vs := [.agg ((encPart ((buildM other (partP m other)).part)) ++ ([.slice A33 ((buildM other (partP m other)).next).length c33, .slice A35 ((buildM other (partP m other)).final).length c35] : List Value)).toArray, .int .i64 (errB other (partP m other))]) rfl rfl) ?_
    obtain ⟨b37, w37, r37, g37, T37⟩ := e_box (P := Tryd.prog) S36 35 (v := zv35) ((encPart zPart) ++ ([.slice none 0 0, .slice none 0 0] : List Value)) (by kernel_rfl)
    have S38 := T37
    dsimp only [lAa, lAn, lA0, lAs] at S38
    refine p_v (v := .pointer (some ⟨b37, 0, none⟩)) rfl rfl rfl (x_alloc ty35 r37) ?_
    obtain ⟨w39, r39, g39, T39⟩ := e_store_all (P := Tryd.prog) (v := .agg ((encPart ((buildM other (partP m other)).part)) ++ ([.slice A33 ((buildM other (partP m other)).next).length c33, .slice A35 ((buildM other (partP m other)).final).length c35] : List Value)).toArray) (vs := ((encPart ((buildM other (partP m other)).part)) ++ ([.slice A33 ((buildM other (partP m other)).next).length c33, .slice A35 ((buildM other (partP m other)).final).length c35] : List Value))) (cs := ((encPart zPart) ++ ([.slice none 0 0, .slice none 0 0] : List Value))) S38 ty35 rfl (len_app (encPart_len ok31_0) rfl) (len_app (encPart_len (okPart_zero)) rfl) (j := 8) rfl (one_app (encPart_one _) (by simp [Value.oneCell']))
    have S40 := T39.fx 8 (box b37 35 ((encPart ((buildM other (partP m other)).part)) ++ ([.slice A33 ((buildM other (partP m other)).next).length c33, .slice A35 ((buildM other (partP m other)).final).length c35] : List Value))) rfl
    dsimp only [lAa, lAn, lA0, lAs] at S40
    refine p_s rfl rfl (x_store rfl rfl r39) ?_
    refine p_v (v := .int .i64 (errB other (partP m other))) rfl rfl rfl (x_assign rfl) ?_
    refine run_region_end ?_
    refine run_seq ?_
    refine run_seq ?_
    refine run_reg (l := [0, 1, 2, 3, 4, 5]) rfl ?_
    refine p_v (v := .int .i64 (errB m (partP m other))) rfl rfl rfl (x_move rfl) ?_
    refine p_v (v := .bool (decide ((errB m (partP m other)) ≠ 0))) rfl rfl rfl (x_neq rfl rfl) ?_
    refine p_v (v := .bool (decide ((errB m (partP m other)) ≠ 0))) rfl rfl rfl (x_move rfl) ?_
    by_cases hc41 : (errB m (partP m other)) ≠ 0
    ·skip
     have hn1_ : rightM m = false := errB_p1 hc41
     refine p_off rfl (wanted_of (j := 2) (want := false) (d := 51) (b := true) rfl rfl (congrArg Value.bool (decide_eq_true hc41)) rfl) rfl ?_
     refine p_off rfl (wanted_of (j := 2) (want := false) (d := 51) (b := true) rfl rfl (congrArg Value.bool (decide_eq_true hc41)) rfl) rfl ?_
     refine p_v (v := .bool true) rfl rfl rfl (x_pick_t (congrArg Value.bool (decide_eq_true hc41)) rfl) ?_
     refine run_region_end ?_
     refine run_cond (b := true) rfl ?_
     simp only [if_true, if_false, Bool.false_eq_true]
     refine run_seq ?_
     refine run_reg (l := [0, 1, 2, 3, 4, 5, 6, 7, 8, 9, 10]) rfl ?_
     refine p_v (v := .agg #[.slice A0_0 m.spots.length c0_0, .slice A0_1 m.first.length c0_1, .slice A0_2 m.follow.length c0_2, .slice A0_3 m.last.length c0_3, .bool m.empty]) rfl rfl rfl (x_load (seg := [.slice A0_0 m.spots.length c0_0, .slice A0_1 m.first.length c0_1, .slice A0_2 m.follow.length c0_2, .slice A0_3 m.last.length c0_3, .bool m.empty]) ty27 rfl (by simp) rfl (CF.box (m := 5) (S40.box_at (j := 0) rfl) rfl)) ?_
     refine p_c rfl rfl rfl (y_call (args := [.agg #[.slice A0_0 m.spots.length c0_0, .slice A0_1 m.first.length c0_1, .slice A0_2 m.follow.length c0_2, .slice A0_3 m.last.length c0_3, .bool m.empty]]) ca37 rfl rfl) (rightN_calls w39 m A0_0 c0_0 b0_0 (l0_0.mono (St.le0 S40)) A0_1 c0_1 b0_1 (l0_1.mono (St.le0 S40)) A0_2 c0_2 b0_2 (l0_2.mono (St.le0 S40)) A0_3 c0_3 b0_3 (l0_3.mono (St.le0 S40))) ?_
     rintro _ w42 ⟨h42, T42, rfl⟩
     have S43 := S40.keep (Chg.of_below T42.below)
     refine p_v (v := .bool (rightM m)) rfl rfl rfl (x_move rfl) ?_
     have hc44 : (rightM m) = false := by
      exact hn1_
     refine p_off rfl (wanted_of (j := 2) (want := true) (d := 57) (b := false) rfl rfl (congrArg Value.bool hc44) rfl) rfl ?_
     refine p_off rfl (wanted_of (j := 2) (want := true) (d := 57) (b := false) rfl rfl (congrArg Value.bool hc44) rfl) rfl ?_
     refine p_v (v := .bool false) rfl rfl rfl (x_pick_f (congrArg Value.bool hc44) rfl) ?_
     refine p_v (v := .bool true) rfl rfl rfl (x_not (b := false) rfl) ?_
     refine p_v (v := .bool true) rfl rfl rfl (x_move rfl) ?_
     refine p_c rfl rfl rfl (y_call (args := []) ca19 rfl rfl) (awake11_calls w42  (Block.st S43 tb)) ?_
     rintro _ w45 ⟨h45, T45, rfl⟩
     have S46 := S43.keep (Chg.of_below T45.below)
     refine p_v (v := .bool true) rfl rfl rfl (x_pick_t rfl rfl) ?_
     refine p_v (v := .bool true) rfl rfl rfl (x_assign rfl) ?_
     refine run_region_end ?_
     refine run_ret Tryd.func6 (res1 rfl (res_tmp (v := .bool true) rfl)) ?_
     have q0 : (true : Bool) = true := rfl
     refine ⟨_, rfl, h35, ?_, ?_⟩
     · exact S46.sub [] (by decide) rfl _ rfl
     · rfl
    ·skip
     have ha_ := errB_iff.1 (Decidable.not_not.1 hc41); have har_ := build_right (okPart_pP m other) ha_; have hap_ := build_part ha_; have hal_ := build_len (p := (partP m other)) (m := m) (by omega)
     refine p_v (v := .int .i64 (errB other (partP m other))) rfl (wanted_of (j := 2) (want := false) (d := 51) (b := false) rfl rfl (congrArg Value.bool (decide_eq_false hc41)) rfl) rfl (x_move rfl) ?_
     refine p_v (v := .bool (decide ((errB other (partP m other)) ≠ 0))) rfl (wanted_of (j := 2) (want := false) (d := 51) (b := false) rfl rfl (congrArg Value.bool (decide_eq_false hc41)) rfl) rfl (x_neq rfl rfl) ?_
     refine p_v (v := .bool (decide ((errB other (partP m other)) ≠ 0))) rfl rfl rfl (x_pick_f (congrArg Value.bool (decide_eq_false hc41)) rfl) ?_
     refine run_region_end ?_
     refine run_cond_prop (p := (errB other (partP m other)) ≠ 0) rfl (fun hc48 => ?_) (fun hc48 => ?_)
     ·skip
      have hn2_ : rightM other = false := errB_p2 hc48
      refine run_seq ?_
      refine run_reg (l := [0, 1, 2, 3, 4, 5, 6, 7, 8, 9, 10]) rfl ?_
      refine p_v (v := .agg #[.slice A0_0 m.spots.length c0_0, .slice A0_1 m.first.length c0_1, .slice A0_2 m.follow.length c0_2, .slice A0_3 m.last.length c0_3, .bool m.empty]) rfl rfl rfl (x_load (seg := [.slice A0_0 m.spots.length c0_0, .slice A0_1 m.first.length c0_1, .slice A0_2 m.follow.length c0_2, .slice A0_3 m.last.length c0_3, .bool m.empty]) ty27 rfl (by simp) rfl (CF.box (m := 5) (S40.box_at (j := 0) rfl) rfl)) ?_
      refine p_c rfl rfl rfl (y_call (args := [.agg #[.slice A0_0 m.spots.length c0_0, .slice A0_1 m.first.length c0_1, .slice A0_2 m.follow.length c0_2, .slice A0_3 m.last.length c0_3, .bool m.empty]]) ca37 rfl rfl) (rightN_calls w39 m A0_0 c0_0 b0_0 (l0_0.mono (St.le0 S40)) A0_1 c0_1 b0_1 (l0_1.mono (St.le0 S40)) A0_2 c0_2 b0_2 (l0_2.mono (St.le0 S40)) A0_3 c0_3 b0_3 (l0_3.mono (St.le0 S40))) ?_
      rintro _ w49 ⟨h49, T49, rfl⟩
      have S50 := S40.keep (Chg.of_below T49.below)
      refine p_v (v := .bool (rightM m)) rfl rfl rfl (x_move rfl) ?_
      rcases Bool.eq_false_or_eq_true (rightM m) with hc51 | hc51
      ·skip
       refine p_v (v := .agg #[.slice A1_0 other.spots.length c1_0, .slice A1_1 other.first.length c1_1, .slice A1_2 other.follow.length c1_2, .slice A1_3 other.last.length c1_3, .bool other.empty]) rfl (wanted_of (j := 2) (want := true) (d := 57) (b := true) rfl rfl (congrArg Value.bool hc51) rfl) rfl (x_load (seg := [.slice A1_0 other.spots.length c1_0, .slice A1_1 other.first.length c1_1, .slice A1_2 other.follow.length c1_2, .slice A1_3 other.last.length c1_3, .bool other.empty]) ty27 rfl (by simp) rfl (CF.box (m := 5) (S50.box_at (j := 1) rfl) rfl)) ?_
       refine p_c rfl (wanted_of (j := 2) (want := true) (d := 57) (b := true) rfl rfl (congrArg Value.bool hc51) rfl) rfl (y_call (args := [.agg #[.slice A1_0 other.spots.length c1_0, .slice A1_1 other.first.length c1_1, .slice A1_2 other.follow.length c1_2, .slice A1_3 other.last.length c1_3, .bool other.empty]]) ca37 rfl rfl) (rightN_calls w49 other A1_0 c1_0 b1_0 (l1_0.mono (St.le0 S50)) A1_1 c1_1 b1_1 (l1_1.mono (St.le0 S50)) A1_2 c1_2 b1_2 (l1_2.mono (St.le0 S50)) A1_3 c1_3 b1_3 (l1_3.mono (St.le0 S50))) ?_
       rintro _ w52 ⟨h52, T52, rfl⟩
       have S53 := S50.keep (Chg.of_below T52.below)
       refine p_v (v := .bool (rightM other)) rfl rfl rfl (x_pick_t (congrArg Value.bool hc51) rfl) ?_
       refine p_v (v := .bool (!(rightM other))) rfl rfl rfl (x_not rfl) ?_
       refine p_v (v := .bool (!(rightM other))) rfl rfl rfl (x_move rfl) ?_
       have hc54 : (rightM other) = false := by
        exact hn2_
       refine p_c rfl (wanted_of (j := 7) (want := true) (d := 62) (b := true) rfl rfl (congrArg (fun z => Value.bool (!z)) hc54) rfl) rfl (y_call (args := []) ca19 rfl rfl) (awake11_calls w52  (Block.st S53 tb)) ?_
       rintro _ w55 ⟨h55, T55, rfl⟩
       have S56 := S53.keep (Chg.of_below T55.below)
       refine p_v (v := .bool true) rfl rfl rfl (x_pick_t (congrArg (fun z => Value.bool (!z)) hc54) rfl) ?_
       refine p_v (v := .bool true) rfl rfl rfl (x_assign rfl) ?_
       refine run_region_end ?_
       refine run_ret Tryd.func6 (res1 rfl (res_tmp (v := .bool true) rfl)) ?_
       have q0 : (true : Bool) = true := rfl
       refine ⟨_, rfl, h35, ?_, ?_⟩
       · exact S56.sub [] (by decide) rfl _ rfl
       · rfl
      ·skip
       refine p_off rfl (wanted_of (j := 2) (want := true) (d := 57) (b := false) rfl rfl (congrArg Value.bool hc51) rfl) rfl ?_
       refine p_off rfl (wanted_of (j := 2) (want := true) (d := 57) (b := false) rfl rfl (congrArg Value.bool hc51) rfl) rfl ?_
       refine p_v (v := .bool false) rfl rfl rfl (x_pick_f (congrArg Value.bool hc51) rfl) ?_
       refine p_v (v := .bool true) rfl rfl rfl (x_not (b := false) rfl) ?_
       refine p_v (v := .bool true) rfl rfl rfl (x_move rfl) ?_
       refine p_c rfl rfl rfl (y_call (args := []) ca19 rfl rfl) (awake11_calls w49  (Block.st S50 tb)) ?_
       rintro _ w58 ⟨h58, T58, rfl⟩
       have S59 := S50.keep (Chg.of_below T58.below)
       refine p_v (v := .bool true) rfl rfl rfl (x_pick_t rfl rfl) ?_
       refine p_v (v := .bool true) rfl rfl rfl (x_assign rfl) ?_
       refine run_region_end ?_
       refine run_ret Tryd.func6 (res1 rfl (res_tmp (v := .bool true) rfl)) ?_
       have q0 : (true : Bool) = true := rfl
       refine ⟨_, rfl, h35, ?_, ?_⟩
       · exact S59.sub [] (by decide) rfl _ rfl
       · rfl
     ·skip
      have hb_ := errB_iff.1 (Decidable.not_not.1 hc48); have hbr_ := build_right (okPart_pP m other) hb_; have hbp_ := build_part hb_; have hbl_ := build_len (p := (partP m other)) (m := other) (by omega)
      refine run_skip ?_
      refine run_seq ?_
      refine run_reg (l := [0, 1, 2, 3]) rfl ?_
      refine p_v (v := .agg #[.slice A0_0 m.spots.length c0_0, .slice A0_1 m.first.length c0_1, .slice A0_2 m.follow.length c0_2, .slice A0_3 m.last.length c0_3, .bool m.empty]) rfl rfl rfl (x_load (seg := [.slice A0_0 m.spots.length c0_0, .slice A0_1 m.first.length c0_1, .slice A0_2 m.follow.length c0_2, .slice A0_3 m.last.length c0_3, .bool m.empty]) ty27 rfl (by simp) rfl (CF.box (m := 5) (S40.box_at (j := 0) rfl) rfl)) ?_
      refine p_v (v := .string xw) rfl rfl rfl (x_move rfl) ?_
      refine p_c rfl rfl rfl (y_call (args := [.agg #[.slice A0_0 m.spots.length c0_0, .slice A0_1 m.first.length c0_1, .slice A0_2 m.follow.length c0_2, .slice A0_3 m.last.length c0_3, .bool m.empty], .string xw]) ca38 rfl rfl) (runN_calls w39 m A0_0 c0_0 b0_0 (l0_0.mono (St.le0 S40)) A0_1 c0_1 b0_1 (l0_1.mono (St.le0 S40)) A0_2 c0_2 b0_2 (l0_2.mono (St.le0 S40)) A0_3 c0_3 b0_3 (l0_3.mono (St.le0 S40)) xw s2) ?_
      rintro _ w61 ⟨h61, T61, rfl⟩
      have S62 := S40.keep (Chg.of_below T61.below)
      refine p_v (v := .bool (runM m xw)) rfl rfl rfl (x_assign rfl) ?_
      refine run_region_end ?_
      refine run_seq ?_
      refine run_reg (l := [0, 1, 2, 3]) rfl ?_
      refine p_v (v := .agg #[.slice A1_0 other.spots.length c1_0, .slice A1_1 other.first.length c1_1, .slice A1_2 other.follow.length c1_2, .slice A1_3 other.last.length c1_3, .bool other.empty]) rfl rfl rfl (x_load (seg := [.slice A1_0 other.spots.length c1_0, .slice A1_1 other.first.length c1_1, .slice A1_2 other.follow.length c1_2, .slice A1_3 other.last.length c1_3, .bool other.empty]) ty27 rfl (by simp) rfl (CF.box (m := 5) (S62.box_at (j := 1) rfl) rfl)) ?_
      refine p_v (v := .string xw) rfl rfl rfl (x_move rfl) ?_
      refine p_c rfl rfl rfl (y_call (args := [.agg #[.slice A1_0 other.spots.length c1_0, .slice A1_1 other.first.length c1_1, .slice A1_2 other.follow.length c1_2, .slice A1_3 other.last.length c1_3, .bool other.empty], .string xw]) ca38 rfl rfl) (runN_calls w61 other A1_0 c1_0 b1_0 (l1_0.mono (St.le0 S62)) A1_1 c1_1 b1_1 (l1_1.mono (St.le0 S62)) A1_2 c1_2 b1_2 (l1_2.mono (St.le0 S62)) A1_3 c1_3 b1_3 (l1_3.mono (St.le0 S62)) xw s2) ?_
      rintro _ w63 ⟨h63, T63, rfl⟩
      have S64 := S62.keep (Chg.of_below T63.below)
      refine p_v (v := .bool (runM other xw)) rfl rfl rfl (x_assign rfl) ?_
      refine run_region_end ?_
      refine run_seq ?_
      refine run_reg (l := [0, 1, 2, 3, 4, 5, 6, 7]) rfl ?_
      refine p_v (v := .agg ((encPart ((buildM m (partP m other)).part)) ++ ([.slice A23 ((buildM m (partP m other)).next).length c23, .slice A25 ((buildM m (partP m other)).final).length c25] : List Value)).toArray) rfl rfl rfl (x_load (seg := ((encPart ((buildM m (partP m other)).part)) ++ ([.slice A23 ((buildM m (partP m other)).next).length c23, .slice A25 ((buildM m (partP m other)).final).length c25] : List Value))) ty35 (len_app (encPart_len ok21_0) rfl) (by simp) rfl (CF.box (m := 259) (S64.box_at (j := 5) rfl) (take_all (len_app (encPart_len ok21_0) rfl)))) ?_
      refine p_c rfl rfl rfl (y_call (args := [.agg ((encPart ((buildM m (partP m other)).part)) ++ ([.slice A23 ((buildM m (partP m other)).next).length c23, .slice A25 ((buildM m (partP m other)).final).length c25] : List Value)).toArray]) ca23 rfl rfl) (notD_calls w63 (buildM m (partP m other)) ok21_0 A23 c23 (And.intro lc23 cm23) (ld23.mono (lf35_2.trans S64.ghost)) A25 c25 (And.intro lc25 cm25) (ld25.mono (lf35_3.trans S64.ghost)) (by first | assumption | omega)) ?_
      rintro _ w65 ⟨h65, v65_0, v65_1, T65, rfl, ok65_0, in65_1⟩
      obtain ⟨k65, lk65, ll65, U65⟩ := call_joins S64 T65
      have lc65_0 := (lf35_0).trans lk65
      have lc65_1 := (lf35_1).trans lk65
      have lc65_2 := (lf35_2).trans lk65
      have lc65_3 := (lf35_3).trans lk65
      have lc65_4 := (lf35_4).trans lk65
      have lc65_5 := (le35).trans lk65
      have S66 := U65
      dsimp only [lAa, lAn, lA0, lAs] at S66
      have lo_in65_1 := i64_lo in65_1; have hi_in65_1 := i64_hi in65_1
      obtain ⟨h67, le67, T67, rp67⟩ := S66.freeze (i := 9) rfl
      have lf67_0 := (lc65_0).trans le67
      have lf67_1 := (lc65_1).trans le67
      have lf67_2 := (lc65_2).trans le67
      have lf67_3 := (lc65_3).trans le67
      have lf67_4 := (lc65_4).trans le67
      have lf67_5 := (lc65_5).trans le67
      have lf67_6 := (lk65).trans le67
      have S68 := T67.fx 9 (emp) rfl
      dsimp only [lAa, lAn, lA0, lAs] at S68
      obtain ⟨A67, c67, e67, lc67, cm67, ld67⟩ := rp67
      injection e67 with e67 _; subst e67
      have cn67 := cm67; simp only [maxLen] at cn67
      obtain ⟨h69, le69, T69, rp69⟩ := S68.freeze (i := 10) rfl
      have lf69_0 := (lf67_0).trans le69
      have lf69_1 := (lf67_1).trans le69
      have lf69_2 := (lf67_2).trans le69
      have lf69_3 := (lf67_3).trans le69
      have lf69_4 := (lf67_4).trans le69
      have lf69_5 := (lf67_5).trans le69
      have lf69_6 := (lf67_6).trans le69
      have lf69_7 := (le67).trans le69
      have S70 := T69.fx 10 (emp) rfl
      dsimp only [lAa, lAn, lA0, lAs] at S70
      obtain ⟨A69, c69, e69, lc69, cm69, ld69⟩ := rp69
      injection e69 with e69 _; subst e69
      have cn69 := cm69; simp only [maxLen] at cn69
      refine p_v (v := .tuple #[.agg ((encPart ((notD (buildM m (partP m other))).part)) ++ ([.slice A67 ((notD (buildM m (partP m other))).next).length c67, .slice A69 ((notD (buildM m (partP m other))).final).length c69] : List Value)).toArray, .int .i64 (errD (buildM m (partP m other)))]) rfl rfl rfl (x_move rfl) ?_
      refine p_v (v := .agg ((encPart ((notD (buildM m (partP m other))).part)) ++ ([.slice A67 ((notD (buildM m (partP m other))).next).length c67, .slice A69 ((notD (buildM m (partP m other))).final).length c69] : List Value)).toArray) rfl rfl rfl (x_extract (vs := [.agg ((encPart ((notD (buildM m (partP m other))).part)) ++ ([.slice A67 ((notD (buildM m (partP m other))).next).length c67, .slice A69 ((notD (buildM m (partP m other))).final).length c69] : List Value)).toArray, .int .i64 (errD (buildM m (partP m other)))]) rfl rfl) ?_
      refine p_v (v := .int .i64 (errD (buildM m (partP m other)))) rfl rfl rfl (x_extract (vs := [.agg ((encPart ((notD (buildM m (partP m other))).part)) ++ ([.slice A67 ((notD (buildM m (partP m other))).next).length c67, .slice A69 ((notD (buildM m (partP m other))).final).length c69] : List Value)).toArray, .int .i64 (errD (buildM m (partP m other)))]) rfl rfl) ?_
      obtain ⟨b71, w71, r71, g71, T71⟩ := e_box (P := Tryd.prog) S70 35 (v := zv35) ((encPart zPart) ++ ([.slice none 0 0, .slice none 0 0] : List Value)) (by kernel_rfl)
      have S72 := T71
      dsimp only [lAa, lAn, lA0, lAs] at S72
      refine p_v (v := .pointer (some ⟨b71, 0, none⟩)) rfl rfl rfl (x_alloc ty35 r71) ?_
      obtain ⟨w73, r73, g73, T73⟩ := e_store_all (P := Tryd.prog) (v := .agg ((encPart ((notD (buildM m (partP m other))).part)) ++ ([.slice A67 ((notD (buildM m (partP m other))).next).length c67, .slice A69 ((notD (buildM m (partP m other))).final).length c69] : List Value)).toArray) (vs := ((encPart ((notD (buildM m (partP m other))).part)) ++ ([.slice A67 ((notD (buildM m (partP m other))).next).length c67, .slice A69 ((notD (buildM m (partP m other))).final).length c69] : List Value))) (cs := ((encPart zPart) ++ ([.slice none 0 0, .slice none 0 0] : List Value))) S72 ty35 rfl (len_app (encPart_len ok65_0) rfl) (len_app (encPart_len (okPart_zero)) rfl) (j := 11) rfl (one_app (encPart_one _) (by simp [Value.oneCell']))
      have S74 := T73.fx 11 (box b71 35 ((encPart ((notD (buildM m (partP m other))).part)) ++ ([.slice A67 ((notD (buildM m (partP m other))).next).length c67, .slice A69 ((notD (buildM m (partP m other))).final).length c69] : List Value))) rfl
      dsimp only [lAa, lAn, lA0, lAs] at S74
      refine p_s rfl rfl (x_store rfl rfl r73) ?_
      refine p_v (v := .int .i64 (errD (buildM m (partP m other)))) rfl rfl rfl (x_assign rfl) ?_
      refine run_region_end ?_
      refine run_seq ?_
      refine run_reg (l := [0, 1, 2, 3, 4, 5, 6, 7, 8]) rfl ?_
      refine p_v (v := .agg ((encPart ((buildM m (partP m other)).part)) ++ ([.slice A23 ((buildM m (partP m other)).next).length c23, .slice A25 ((buildM m (partP m other)).final).length c25] : List Value)).toArray) rfl rfl rfl (x_load (seg := ((encPart ((buildM m (partP m other)).part)) ++ ([.slice A23 ((buildM m (partP m other)).next).length c23, .slice A25 ((buildM m (partP m other)).final).length c25] : List Value))) ty35 (len_app (encPart_len ok21_0) rfl) (by simp) rfl (CF.box (m := 259) (S74.box_at (j := 5) rfl) (take_all (len_app (encPart_len ok21_0) rfl)))) ?_
      refine p_v (v := .agg ((encPart ((buildM other (partP m other)).part)) ++ ([.slice A33 ((buildM other (partP m other)).next).length c33, .slice A35 ((buildM other (partP m other)).final).length c35] : List Value)).toArray) rfl rfl rfl (x_load (seg := ((encPart ((buildM other (partP m other)).part)) ++ ([.slice A33 ((buildM other (partP m other)).next).length c33, .slice A35 ((buildM other (partP m other)).final).length c35] : List Value))) ty35 (len_app (encPart_len ok31_0) rfl) (by simp) rfl (CF.box (m := 259) (S74.box_at (j := 8) rfl) (take_all (len_app (encPart_len ok31_0) rfl)))) ?_
      refine p_c rfl rfl rfl (y_call (args := [.agg ((encPart ((buildM m (partP m other)).part)) ++ ([.slice A23 ((buildM m (partP m other)).next).length c23, .slice A25 ((buildM m (partP m other)).final).length c25] : List Value)).toArray, .agg ((encPart ((buildM other (partP m other)).part)) ++ ([.slice A33 ((buildM other (partP m other)).next).length c33, .slice A35 ((buildM other (partP m other)).final).length c35] : List Value)).toArray, .int .u8 1, .pointer none]) ca28 rfl rfl) (both_calls w73 (buildM m (partP m other)) ok21_0 A23 c23 (And.intro lc23 cm23) (ld23.mono (lf69_2.trans S74.ghost)) A25 c25 (And.intro lc25 cm25) (ld25.mono (lf69_3.trans S74.ghost)) (buildM other (partP m other)) ok31_0 A33 c33 (And.intro lc33 cm33) (ld33.mono (lf69_5.trans S74.ghost)) A35 c35 (And.intro lc35 cm35) (ld35.mono (lf69_6.trans S74.ghost)) 1 (in_u8 (by first|omega|(simp;omega)|assumption|simp) (by first|omega|(simp;omega)|assumption|simp)) () (by first | assumption | exact ⟨by assumption, by assumption⟩)) ?_
      rintro _ w75 ⟨h75, v75_0, v75_1, T75, rfl, ok75_0, in75_1⟩
      obtain ⟨k75, lk75, ll75, U75⟩ := call_joins S74 T75
      have lc75_0 := (lf69_0).trans lk75
      have lc75_1 := (lf69_1).trans lk75
      have lc75_2 := (lf69_2).trans lk75
      have lc75_3 := (lf69_3).trans lk75
      have lc75_4 := (lf69_4).trans lk75
      have lc75_5 := (lf69_5).trans lk75
      have lc75_6 := (lf69_6).trans lk75
      have lc75_7 := (lf69_7).trans lk75
      have lc75_8 := (le69).trans lk75
      have S76 := U75
      dsimp only [lAa, lAn, lA0, lAs] at S76
      have lo_in75_1 := i64_lo in75_1; have hi_in75_1 := i64_hi in75_1
      obtain ⟨h77, le77, T77, rp77⟩ := S76.freeze (i := 12) rfl
      have lf77_0 := (lc75_0).trans le77
      have lf77_1 := (lc75_1).trans le77
      have lf77_2 := (lc75_2).trans le77
      have lf77_3 := (lc75_3).trans le77
      have lf77_4 := (lc75_4).trans le77
      have lf77_5 := (lc75_5).trans le77
      have lf77_6 := (lc75_6).trans le77
      have lf77_7 := (lc75_7).trans le77
      have lf77_8 := (lc75_8).trans le77
      have lf77_9 := (lk75).trans le77
      have S78 := T77.fx 12 (emp) rfl
      dsimp only [lAa, lAn, lA0, lAs] at S78
      obtain ⟨A77, c77, e77, lc77, cm77, ld77⟩ := rp77
      injection e77 with e77 _; subst e77
      have cn77 := cm77; simp only [maxLen] at cn77
      obtain ⟨h79, le79, T79, rp79⟩ := S78.freeze (i := 13) rfl
      have lf79_0 := (lf77_0).trans le79
      have lf79_1 := (lf77_1).trans le79
      have lf79_2 := (lf77_2).trans le79
      have lf79_3 := (lf77_3).trans le79
      have lf79_4 := (lf77_4).trans le79
      have lf79_5 := (lf77_5).trans le79
      have lf79_6 := (lf77_6).trans le79
      have lf79_7 := (lf77_7).trans le79
      have lf79_8 := (lf77_8).trans le79
      have lf79_9 := (lf77_9).trans le79
      have lf79_10 := (le77).trans le79
      have S80 := T79.fx 13 (emp) rfl
      dsimp only [lAa, lAn, lA0, lAs] at S80
      obtain ⟨A79, c79, e79, lc79, cm79, ld79⟩ := rp79
      injection e79 with e79 _; subst e79
      have cn79 := cm79; simp only [maxLen] at cn79
      refine p_v (v := .tuple #[.agg ((encPart ((bothM (buildM m (partP m other)) (buildM other (partP m other)) 1).part)) ++ ([.slice A77 ((bothM (buildM m (partP m other)) (buildM other (partP m other)) 1).next).length c77, .slice A79 ((bothM (buildM m (partP m other)) (buildM other (partP m other)) 1).final).length c79] : List Value)).toArray, .int .i64 (errO (buildM m (partP m other)) (buildM other (partP m other)) 1)]) rfl rfl rfl (x_move rfl) ?_
      refine p_v (v := .agg ((encPart ((bothM (buildM m (partP m other)) (buildM other (partP m other)) 1).part)) ++ ([.slice A77 ((bothM (buildM m (partP m other)) (buildM other (partP m other)) 1).next).length c77, .slice A79 ((bothM (buildM m (partP m other)) (buildM other (partP m other)) 1).final).length c79] : List Value)).toArray) rfl rfl rfl (x_extract (vs := [.agg ((encPart ((bothM (buildM m (partP m other)) (buildM other (partP m other)) 1).part)) ++ ([.slice A77 ((bothM (buildM m (partP m other)) (buildM other (partP m other)) 1).next).length c77, .slice A79 ((bothM (buildM m (partP m other)) (buildM other (partP m other)) 1).final).length c79] : List Value)).toArray, .int .i64 (errO (buildM m (partP m other)) (buildM other (partP m other)) 1)]) rfl rfl) ?_
      refine p_v (v := .int .i64 (errO (buildM m (partP m other)) (buildM other (partP m other)) 1)) rfl rfl rfl (x_extract (vs := [.agg ((encPart ((bothM (buildM m (partP m other)) (buildM other (partP m other)) 1).part)) ++ ([.slice A77 ((bothM (buildM m (partP m other)) (buildM other (partP m other)) 1).next).length c77, .slice A79 ((bothM (buildM m (partP m other)) (buildM other (partP m other)) 1).final).length c79] : List Value)).toArray, .int .i64 (errO (buildM m (partP m other)) (buildM other (partP m other)) 1)]) rfl rfl) ?_
      obtain ⟨b81, w81, r81, g81, T81⟩ := e_box (P := Tryd.prog) S80 35 (v := zv35) ((encPart zPart) ++ ([.slice none 0 0, .slice none 0 0] : List Value)) (by kernel_rfl)
      have S82 := T81
      dsimp only [lAa, lAn, lA0, lAs] at S82
      refine p_v (v := .pointer (some ⟨b81, 0, none⟩)) rfl rfl rfl (x_alloc ty35 r81) ?_
      obtain ⟨w83, r83, g83, T83⟩ := e_store_all (P := Tryd.prog) (v := .agg ((encPart ((bothM (buildM m (partP m other)) (buildM other (partP m other)) 1).part)) ++ ([.slice A77 ((bothM (buildM m (partP m other)) (buildM other (partP m other)) 1).next).length c77, .slice A79 ((bothM (buildM m (partP m other)) (buildM other (partP m other)) 1).final).length c79] : List Value)).toArray) (vs := ((encPart ((bothM (buildM m (partP m other)) (buildM other (partP m other)) 1).part)) ++ ([.slice A77 ((bothM (buildM m (partP m other)) (buildM other (partP m other)) 1).next).length c77, .slice A79 ((bothM (buildM m (partP m other)) (buildM other (partP m other)) 1).final).length c79] : List Value))) (cs := ((encPart zPart) ++ ([.slice none 0 0, .slice none 0 0] : List Value))) S82 ty35 rfl (len_app (encPart_len ok75_0) rfl) (len_app (encPart_len (okPart_zero)) rfl) (j := 14) rfl (one_app (encPart_one _) (by simp [Value.oneCell']))
      have S84 := T83.fx 14 (box b81 35 ((encPart ((bothM (buildM m (partP m other)) (buildM other (partP m other)) 1).part)) ++ ([.slice A77 ((bothM (buildM m (partP m other)) (buildM other (partP m other)) 1).next).length c77, .slice A79 ((bothM (buildM m (partP m other)) (buildM other (partP m other)) 1).final).length c79] : List Value))) rfl
      dsimp only [lAa, lAn, lA0, lAs] at S84
      refine p_s rfl rfl (x_store rfl rfl r83) ?_
      refine p_v (v := .int .i64 (errO (buildM m (partP m other)) (buildM other (partP m other)) 1)) rfl rfl rfl (x_assign rfl) ?_
      refine run_region_end ?_
      refine run_seq ?_
      refine run_reg (l := [0, 1, 2, 3, 4, 5, 6, 7, 8]) rfl ?_
      refine p_v (v := .agg ((encPart ((buildM m (partP m other)).part)) ++ ([.slice A23 ((buildM m (partP m other)).next).length c23, .slice A25 ((buildM m (partP m other)).final).length c25] : List Value)).toArray) rfl rfl rfl (x_load (seg := ((encPart ((buildM m (partP m other)).part)) ++ ([.slice A23 ((buildM m (partP m other)).next).length c23, .slice A25 ((buildM m (partP m other)).final).length c25] : List Value))) ty35 (len_app (encPart_len ok21_0) rfl) (by simp) rfl (CF.box (m := 259) (S84.box_at (j := 5) rfl) (take_all (len_app (encPart_len ok21_0) rfl)))) ?_
      refine p_v (v := .agg ((encPart ((buildM other (partP m other)).part)) ++ ([.slice A33 ((buildM other (partP m other)).next).length c33, .slice A35 ((buildM other (partP m other)).final).length c35] : List Value)).toArray) rfl rfl rfl (x_load (seg := ((encPart ((buildM other (partP m other)).part)) ++ ([.slice A33 ((buildM other (partP m other)).next).length c33, .slice A35 ((buildM other (partP m other)).final).length c35] : List Value))) ty35 (len_app (encPart_len ok31_0) rfl) (by simp) rfl (CF.box (m := 259) (S84.box_at (j := 8) rfl) (take_all (len_app (encPart_len ok31_0) rfl)))) ?_
      refine p_c rfl rfl rfl (y_call (args := [.agg ((encPart ((buildM m (partP m other)).part)) ++ ([.slice A23 ((buildM m (partP m other)).next).length c23, .slice A25 ((buildM m (partP m other)).final).length c25] : List Value)).toArray, .agg ((encPart ((buildM other (partP m other)).part)) ++ ([.slice A33 ((buildM other (partP m other)).next).length c33, .slice A35 ((buildM other (partP m other)).final).length c35] : List Value)).toArray, .int .u8 2, .pointer none]) ca28 rfl rfl) (both_calls w83 (buildM m (partP m other)) ok21_0 A23 c23 (And.intro lc23 cm23) (ld23.mono (lf79_2.trans S84.ghost)) A25 c25 (And.intro lc25 cm25) (ld25.mono (lf79_3.trans S84.ghost)) (buildM other (partP m other)) ok31_0 A33 c33 (And.intro lc33 cm33) (ld33.mono (lf79_5.trans S84.ghost)) A35 c35 (And.intro lc35 cm35) (ld35.mono (lf79_6.trans S84.ghost)) 2 (in_u8 (by first|omega|(simp;omega)|assumption|simp) (by first|omega|(simp;omega)|assumption|simp)) () (by first | assumption | exact ⟨by assumption, by assumption⟩)) ?_
      rintro _ w85 ⟨h85, v85_0, v85_1, T85, rfl, ok85_0, in85_1⟩
      obtain ⟨k85, lk85, ll85, U85⟩ := call_joins S84 T85
      have lc85_0 := (lf79_0).trans lk85
      have lc85_1 := (lf79_1).trans lk85
      have lc85_2 := (lf79_2).trans lk85
      have lc85_3 := (lf79_3).trans lk85
      have lc85_4 := (lf79_4).trans lk85
      have lc85_5 := (lf79_5).trans lk85
      have lc85_6 := (lf79_6).trans lk85
      have lc85_7 := (lf79_7).trans lk85
      have lc85_8 := (lf79_8).trans lk85
      have lc85_9 := (lf79_9).trans lk85
      have lc85_10 := (lf79_10).trans lk85
      have lc85_11 := (le79).trans lk85
      have S86 := U85
      dsimp only [lAa, lAn, lA0, lAs] at S86
      have lo_in85_1 := i64_lo in85_1; have hi_in85_1 := i64_hi in85_1
      obtain ⟨h87, le87, T87, rp87⟩ := S86.freeze (i := 15) rfl
      have lf87_0 := (lc85_0).trans le87
      have lf87_1 := (lc85_1).trans le87
      have lf87_2 := (lc85_2).trans le87
      have lf87_3 := (lc85_3).trans le87
      have lf87_4 := (lc85_4).trans le87
      have lf87_5 := (lc85_5).trans le87
      have lf87_6 := (lc85_6).trans le87
      have lf87_7 := (lc85_7).trans le87
      have lf87_8 := (lc85_8).trans le87
      have lf87_9 := (lc85_9).trans le87
      have lf87_10 := (lc85_10).trans le87
      have lf87_11 := (lc85_11).trans le87
      have lf87_12 := (lk85).trans le87
      have S88 := T87.fx 15 (emp) rfl
      dsimp only [lAa, lAn, lA0, lAs] at S88
      obtain ⟨A87, c87, e87, lc87, cm87, ld87⟩ := rp87
      injection e87 with e87 _; subst e87
      have cn87 := cm87; simp only [maxLen] at cn87
      obtain ⟨h89, le89, T89, rp89⟩ := S88.freeze (i := 16) rfl
      have lf89_0 := (lf87_0).trans le89
      have lf89_1 := (lf87_1).trans le89
      have lf89_2 := (lf87_2).trans le89
      have lf89_3 := (lf87_3).trans le89
      have lf89_4 := (lf87_4).trans le89
      have lf89_5 := (lf87_5).trans le89
      have lf89_6 := (lf87_6).trans le89
      have lf89_7 := (lf87_7).trans le89
      have lf89_8 := (lf87_8).trans le89
      have lf89_9 := (lf87_9).trans le89
      have lf89_10 := (lf87_10).trans le89
      have lf89_11 := (lf87_11).trans le89
      have lf89_12 := (lf87_12).trans le89
      have lf89_13 := (le87).trans le89
      have S90 := T89.fx 16 (emp) rfl
      dsimp only [lAa, lAn, lA0, lAs] at S90
      obtain ⟨A89, c89, e89, lc89, cm89, ld89⟩ := rp89
      injection e89 with e89 _; subst e89
      have cn89 := cm89; simp only [maxLen] at cn89
      refine p_v (v := .tuple #[.agg ((encPart ((bothM (buildM m (partP m other)) (buildM other (partP m other)) 2).part)) ++ ([.slice A87 ((bothM (buildM m (partP m other)) (buildM other (partP m other)) 2).next).length c87, .slice A89 ((bothM (buildM m (partP m other)) (buildM other (partP m other)) 2).final).length c89] : List Value)).toArray, .int .i64 (errO (buildM m (partP m other)) (buildM other (partP m other)) 2)]) rfl rfl rfl (x_move rfl) ?_
      refine p_v (v := .agg ((encPart ((bothM (buildM m (partP m other)) (buildM other (partP m other)) 2).part)) ++ ([.slice A87 ((bothM (buildM m (partP m other)) (buildM other (partP m other)) 2).next).length c87, .slice A89 ((bothM (buildM m (partP m other)) (buildM other (partP m other)) 2).final).length c89] : List Value)).toArray) rfl rfl rfl (x_extract (vs := [.agg ((encPart ((bothM (buildM m (partP m other)) (buildM other (partP m other)) 2).part)) ++ ([.slice A87 ((bothM (buildM m (partP m other)) (buildM other (partP m other)) 2).next).length c87, .slice A89 ((bothM (buildM m (partP m other)) (buildM other (partP m other)) 2).final).length c89] : List Value)).toArray, .int .i64 (errO (buildM m (partP m other)) (buildM other (partP m other)) 2)]) rfl rfl) ?_
      refine p_v (v := .int .i64 (errO (buildM m (partP m other)) (buildM other (partP m other)) 2)) rfl rfl rfl (x_extract (vs := [.agg ((encPart ((bothM (buildM m (partP m other)) (buildM other (partP m other)) 2).part)) ++ ([.slice A87 ((bothM (buildM m (partP m other)) (buildM other (partP m other)) 2).next).length c87, .slice A89 ((bothM (buildM m (partP m other)) (buildM other (partP m other)) 2).final).length c89] : List Value)).toArray, .int .i64 (errO (buildM m (partP m other)) (buildM other (partP m other)) 2)]) rfl rfl) ?_
      obtain ⟨b91, w91, r91, g91, T91⟩ := e_box (P := Tryd.prog) S90 35 (v := zv35) ((encPart zPart) ++ ([.slice none 0 0, .slice none 0 0] : List Value)) (by kernel_rfl)
      have S92 := T91
      dsimp only [lAa, lAn, lA0, lAs] at S92
      refine p_v (v := .pointer (some ⟨b91, 0, none⟩)) rfl rfl rfl (x_alloc ty35 r91) ?_
      obtain ⟨w93, r93, g93, T93⟩ := e_store_all (P := Tryd.prog) (v := .agg ((encPart ((bothM (buildM m (partP m other)) (buildM other (partP m other)) 2).part)) ++ ([.slice A87 ((bothM (buildM m (partP m other)) (buildM other (partP m other)) 2).next).length c87, .slice A89 ((bothM (buildM m (partP m other)) (buildM other (partP m other)) 2).final).length c89] : List Value)).toArray) (vs := ((encPart ((bothM (buildM m (partP m other)) (buildM other (partP m other)) 2).part)) ++ ([.slice A87 ((bothM (buildM m (partP m other)) (buildM other (partP m other)) 2).next).length c87, .slice A89 ((bothM (buildM m (partP m other)) (buildM other (partP m other)) 2).final).length c89] : List Value))) (cs := ((encPart zPart) ++ ([.slice none 0 0, .slice none 0 0] : List Value))) S92 ty35 rfl (len_app (encPart_len ok85_0) rfl) (len_app (encPart_len (okPart_zero)) rfl) (j := 17) rfl (one_app (encPart_one _) (by simp [Value.oneCell']))
      have S94 := T93.fx 17 (box b91 35 ((encPart ((bothM (buildM m (partP m other)) (buildM other (partP m other)) 2).part)) ++ ([.slice A87 ((bothM (buildM m (partP m other)) (buildM other (partP m other)) 2).next).length c87, .slice A89 ((bothM (buildM m (partP m other)) (buildM other (partP m other)) 2).final).length c89] : List Value))) rfl
      dsimp only [lAa, lAn, lA0, lAs] at S94
      refine p_s rfl rfl (x_store rfl rfl r93) ?_
      refine p_v (v := .int .i64 (errO (buildM m (partP m other)) (buildM other (partP m other)) 2)) rfl rfl rfl (x_assign rfl) ?_
      refine run_region_end ?_
      refine run_seq ?_
      refine run_reg (l := [0, 1, 2, 3, 4, 5, 6, 7, 8]) rfl ?_
      refine p_v (v := .agg ((encPart ((buildM m (partP m other)).part)) ++ ([.slice A23 ((buildM m (partP m other)).next).length c23, .slice A25 ((buildM m (partP m other)).final).length c25] : List Value)).toArray) rfl rfl rfl (x_load (seg := ((encPart ((buildM m (partP m other)).part)) ++ ([.slice A23 ((buildM m (partP m other)).next).length c23, .slice A25 ((buildM m (partP m other)).final).length c25] : List Value))) ty35 (len_app (encPart_len ok21_0) rfl) (by simp) rfl (CF.box (m := 259) (S94.box_at (j := 5) rfl) (take_all (len_app (encPart_len ok21_0) rfl)))) ?_
      refine p_v (v := .agg ((encPart ((buildM other (partP m other)).part)) ++ ([.slice A33 ((buildM other (partP m other)).next).length c33, .slice A35 ((buildM other (partP m other)).final).length c35] : List Value)).toArray) rfl rfl rfl (x_load (seg := ((encPart ((buildM other (partP m other)).part)) ++ ([.slice A33 ((buildM other (partP m other)).next).length c33, .slice A35 ((buildM other (partP m other)).final).length c35] : List Value))) ty35 (len_app (encPart_len ok31_0) rfl) (by simp) rfl (CF.box (m := 259) (S94.box_at (j := 8) rfl) (take_all (len_app (encPart_len ok31_0) rfl)))) ?_
      refine p_c rfl rfl rfl (y_call (args := [.agg ((encPart ((buildM m (partP m other)).part)) ++ ([.slice A23 ((buildM m (partP m other)).next).length c23, .slice A25 ((buildM m (partP m other)).final).length c25] : List Value)).toArray, .agg ((encPart ((buildM other (partP m other)).part)) ++ ([.slice A33 ((buildM other (partP m other)).next).length c33, .slice A35 ((buildM other (partP m other)).final).length c35] : List Value)).toArray, .int .u8 3, .pointer none]) ca28 rfl rfl) (both_calls w93 (buildM m (partP m other)) ok21_0 A23 c23 (And.intro lc23 cm23) (ld23.mono (lf89_2.trans S94.ghost)) A25 c25 (And.intro lc25 cm25) (ld25.mono (lf89_3.trans S94.ghost)) (buildM other (partP m other)) ok31_0 A33 c33 (And.intro lc33 cm33) (ld33.mono (lf89_5.trans S94.ghost)) A35 c35 (And.intro lc35 cm35) (ld35.mono (lf89_6.trans S94.ghost)) 3 (in_u8 (by first|omega|(simp;omega)|assumption|simp) (by first|omega|(simp;omega)|assumption|simp)) () (by first | assumption | exact ⟨by assumption, by assumption⟩)) ?_
      rintro _ w95 ⟨h95, v95_0, v95_1, T95, rfl, ok95_0, in95_1⟩
      obtain ⟨k95, lk95, ll95, U95⟩ := call_joins S94 T95
      have lc95_0 := (lf89_0).trans lk95
      have lc95_1 := (lf89_1).trans lk95
      have lc95_2 := (lf89_2).trans lk95
      have lc95_3 := (lf89_3).trans lk95
      have lc95_4 := (lf89_4).trans lk95
      have lc95_5 := (lf89_5).trans lk95
      have lc95_6 := (lf89_6).trans lk95
      have lc95_7 := (lf89_7).trans lk95
      have lc95_8 := (lf89_8).trans lk95
      have lc95_9 := (lf89_9).trans lk95
      have lc95_10 := (lf89_10).trans lk95
      have lc95_11 := (lf89_11).trans lk95
      have lc95_12 := (lf89_12).trans lk95
      have lc95_13 := (lf89_13).trans lk95
      have lc95_14 := (le89).trans lk95
      have S96 := U95
      dsimp only [lAa, lAn, lA0, lAs] at S96
      have lo_in95_1 := i64_lo in95_1; have hi_in95_1 := i64_hi in95_1
      obtain ⟨h97, le97, T97, rp97⟩ := S96.freeze (i := 18) rfl
      have lf97_0 := (lc95_0).trans le97
      have lf97_1 := (lc95_1).trans le97
      have lf97_2 := (lc95_2).trans le97
      have lf97_3 := (lc95_3).trans le97
      have lf97_4 := (lc95_4).trans le97
      have lf97_5 := (lc95_5).trans le97
      have lf97_6 := (lc95_6).trans le97
      have lf97_7 := (lc95_7).trans le97
      have lf97_8 := (lc95_8).trans le97
      have lf97_9 := (lc95_9).trans le97
      have lf97_10 := (lc95_10).trans le97
      have lf97_11 := (lc95_11).trans le97
      have lf97_12 := (lc95_12).trans le97
      have lf97_13 := (lc95_13).trans le97
      have lf97_14 := (lc95_14).trans le97
      have lf97_15 := (lk95).trans le97
      have S98 := T97.fx 18 (emp) rfl
      dsimp only [lAa, lAn, lA0, lAs] at S98
      obtain ⟨A97, c97, e97, lc97, cm97, ld97⟩ := rp97
      injection e97 with e97 _; subst e97
      have cn97 := cm97; simp only [maxLen] at cn97
      obtain ⟨h99, le99, T99, rp99⟩ := S98.freeze (i := 19) rfl
      have lf99_0 := (lf97_0).trans le99
      have lf99_1 := (lf97_1).trans le99
      have lf99_2 := (lf97_2).trans le99
      have lf99_3 := (lf97_3).trans le99
      have lf99_4 := (lf97_4).trans le99
      have lf99_5 := (lf97_5).trans le99
      have lf99_6 := (lf97_6).trans le99
      have lf99_7 := (lf97_7).trans le99
      have lf99_8 := (lf97_8).trans le99
      have lf99_9 := (lf97_9).trans le99
      have lf99_10 := (lf97_10).trans le99
      have lf99_11 := (lf97_11).trans le99
      have lf99_12 := (lf97_12).trans le99
      have lf99_13 := (lf97_13).trans le99
      have lf99_14 := (lf97_14).trans le99
      have lf99_15 := (lf97_15).trans le99
      have lf99_16 := (le97).trans le99
      have S100 := T99.fx 19 (emp) rfl
      dsimp only [lAa, lAn, lA0, lAs] at S100
      obtain ⟨A99, c99, e99, lc99, cm99, ld99⟩ := rp99
      injection e99 with e99 _; subst e99
      have cn99 := cm99; simp only [maxLen] at cn99
      refine p_v (v := .tuple #[.agg ((encPart ((bothM (buildM m (partP m other)) (buildM other (partP m other)) 3).part)) ++ ([.slice A97 ((bothM (buildM m (partP m other)) (buildM other (partP m other)) 3).next).length c97, .slice A99 ((bothM (buildM m (partP m other)) (buildM other (partP m other)) 3).final).length c99] : List Value)).toArray, .int .i64 (errO (buildM m (partP m other)) (buildM other (partP m other)) 3)]) rfl rfl rfl (x_move rfl) ?_
      refine p_v (v := .agg ((encPart ((bothM (buildM m (partP m other)) (buildM other (partP m other)) 3).part)) ++ ([.slice A97 ((bothM (buildM m (partP m other)) (buildM other (partP m other)) 3).next).length c97, .slice A99 ((bothM (buildM m (partP m other)) (buildM other (partP m other)) 3).final).length c99] : List Value)).toArray) rfl rfl rfl (x_extract (vs := [.agg ((encPart ((bothM (buildM m (partP m other)) (buildM other (partP m other)) 3).part)) ++ ([.slice A97 ((bothM (buildM m (partP m other)) (buildM other (partP m other)) 3).next).length c97, .slice A99 ((bothM (buildM m (partP m other)) (buildM other (partP m other)) 3).final).length c99] : List Value)).toArray, .int .i64 (errO (buildM m (partP m other)) (buildM other (partP m other)) 3)]) rfl rfl) ?_
      refine p_v (v := .int .i64 (errO (buildM m (partP m other)) (buildM other (partP m other)) 3)) rfl rfl rfl (x_extract (vs := [.agg ((encPart ((bothM (buildM m (partP m other)) (buildM other (partP m other)) 3).part)) ++ ([.slice A97 ((bothM (buildM m (partP m other)) (buildM other (partP m other)) 3).next).length c97, .slice A99 ((bothM (buildM m (partP m other)) (buildM other (partP m other)) 3).final).length c99] : List Value)).toArray, .int .i64 (errO (buildM m (partP m other)) (buildM other (partP m other)) 3)]) rfl rfl) ?_
      obtain ⟨b101, w101, r101, g101, T101⟩ := e_box (P := Tryd.prog) S100 35 (v := zv35) ((encPart zPart) ++ ([.slice none 0 0, .slice none 0 0] : List Value)) (by kernel_rfl)
      have S102 := T101
      dsimp only [lAa, lAn, lA0, lAs] at S102
      refine p_v (v := .pointer (some ⟨b101, 0, none⟩)) rfl rfl rfl (x_alloc ty35 r101) ?_
      obtain ⟨w103, r103, g103, T103⟩ := e_store_all (P := Tryd.prog) (v := .agg ((encPart ((bothM (buildM m (partP m other)) (buildM other (partP m other)) 3).part)) ++ ([.slice A97 ((bothM (buildM m (partP m other)) (buildM other (partP m other)) 3).next).length c97, .slice A99 ((bothM (buildM m (partP m other)) (buildM other (partP m other)) 3).final).length c99] : List Value)).toArray) (vs := ((encPart ((bothM (buildM m (partP m other)) (buildM other (partP m other)) 3).part)) ++ ([.slice A97 ((bothM (buildM m (partP m other)) (buildM other (partP m other)) 3).next).length c97, .slice A99 ((bothM (buildM m (partP m other)) (buildM other (partP m other)) 3).final).length c99] : List Value))) (cs := ((encPart zPart) ++ ([.slice none 0 0, .slice none 0 0] : List Value))) S102 ty35 rfl (len_app (encPart_len ok95_0) rfl) (len_app (encPart_len (okPart_zero)) rfl) (j := 20) rfl (one_app (encPart_one _) (by simp [Value.oneCell']))
      have S104 := T103.fx 20 (box b101 35 ((encPart ((bothM (buildM m (partP m other)) (buildM other (partP m other)) 3).part)) ++ ([.slice A97 ((bothM (buildM m (partP m other)) (buildM other (partP m other)) 3).next).length c97, .slice A99 ((bothM (buildM m (partP m other)) (buildM other (partP m other)) 3).final).length c99] : List Value))) rfl
      dsimp only [lAa, lAn, lA0, lAs] at S104
      refine p_s rfl rfl (x_store rfl rfl r103) ?_
      refine p_v (v := .int .i64 (errO (buildM m (partP m other)) (buildM other (partP m other)) 3)) rfl rfl rfl (x_assign rfl) ?_
      refine run_region_end ?_
      refine run_seq ?_
      refine run_seq ?_
      refine run_reg (l := [0, 1, 2, 3, 4, 5, 6, 7, 8, 9, 10, 11, 12, 13, 14, 15, 16, 17, 18, 19, 20, 21, 22, 23, 24, 25, 26, 27]) rfl ?_
      refine p_v (v := .int .i64 (errD (buildM m (partP m other)))) rfl rfl rfl (x_move rfl) ?_
      refine p_v (v := .bool (decide ((errD (buildM m (partP m other))) ≠ 0))) rfl rfl rfl (x_neq rfl rfl) ?_
      refine p_v (v := .bool (decide ((errD (buildM m (partP m other))) ≠ 0))) rfl rfl rfl (x_move rfl) ?_
      have hc105 : ¬ ((errD (buildM m (partP m other))) ≠ 0) := by
       rw [errD_yes har_]; simp
      refine p_v (v := .int .i64 (errO (buildM m (partP m other)) (buildM other (partP m other)) 1)) rfl (wanted_of (j := 2) (want := false) (d := 96) (b := false) rfl rfl (congrArg Value.bool (decide_eq_false hc105)) rfl) rfl (x_move rfl) ?_
      refine p_v (v := .bool (decide ((errO (buildM m (partP m other)) (buildM other (partP m other)) 1) ≠ 0))) rfl (wanted_of (j := 2) (want := false) (d := 96) (b := false) rfl rfl (congrArg Value.bool (decide_eq_false hc105)) rfl) rfl (x_neq rfl rfl) ?_
      refine p_v (v := .bool (decide ((errO (buildM m (partP m other)) (buildM other (partP m other)) 1) ≠ 0))) rfl rfl rfl (x_pick_f (congrArg Value.bool (decide_eq_false hc105)) rfl) ?_
      refine p_v (v := .bool (decide ((errO (buildM m (partP m other)) (buildM other (partP m other)) 1) ≠ 0))) rfl rfl rfl (x_move rfl) ?_
      have hc106 : ¬ ((errO (buildM m (partP m other)) (buildM other (partP m other)) 1) ≠ 0) := by
       exact fun h => h (errO_iff.2 (okb_y har_ hbr_ (hap_.trans hbp_.symm) (by decide) (by decide)))
      refine p_v (v := .int .i64 (errO (buildM m (partP m other)) (buildM other (partP m other)) 2)) rfl (wanted_of (j := 6) (want := false) (d := 100) (b := false) rfl rfl (congrArg Value.bool (decide_eq_false hc106)) rfl) rfl (x_move rfl) ?_
      refine p_v (v := .bool (decide ((errO (buildM m (partP m other)) (buildM other (partP m other)) 2) ≠ 0))) rfl (wanted_of (j := 6) (want := false) (d := 100) (b := false) rfl rfl (congrArg Value.bool (decide_eq_false hc106)) rfl) rfl (x_neq rfl rfl) ?_
      refine p_v (v := .bool (decide ((errO (buildM m (partP m other)) (buildM other (partP m other)) 2) ≠ 0))) rfl rfl rfl (x_pick_f (congrArg Value.bool (decide_eq_false hc106)) rfl) ?_
      refine p_v (v := .bool (decide ((errO (buildM m (partP m other)) (buildM other (partP m other)) 2) ≠ 0))) rfl rfl rfl (x_move rfl) ?_
      have hc107 : ¬ ((errO (buildM m (partP m other)) (buildM other (partP m other)) 2) ≠ 0) := by
       exact fun h => h (errO_iff.2 (okb_y har_ hbr_ (hap_.trans hbp_.symm) (by decide) (by decide)))
      refine p_v (v := .int .i64 (errO (buildM m (partP m other)) (buildM other (partP m other)) 3)) rfl (wanted_of (j := 10) (want := false) (d := 104) (b := false) rfl rfl (congrArg Value.bool (decide_eq_false hc107)) rfl) rfl (x_move rfl) ?_
      refine p_v (v := .bool (decide ((errO (buildM m (partP m other)) (buildM other (partP m other)) 3) ≠ 0))) rfl (wanted_of (j := 10) (want := false) (d := 104) (b := false) rfl rfl (congrArg Value.bool (decide_eq_false hc107)) rfl) rfl (x_neq rfl rfl) ?_
      refine p_v (v := .bool (decide ((errO (buildM m (partP m other)) (buildM other (partP m other)) 3) ≠ 0))) rfl rfl rfl (x_pick_f (congrArg Value.bool (decide_eq_false hc107)) rfl) ?_
      refine p_v (v := .bool (decide ((errO (buildM m (partP m other)) (buildM other (partP m other)) 3) ≠ 0))) rfl rfl rfl (x_move rfl) ?_
      have hc108 : ¬ ((errO (buildM m (partP m other)) (buildM other (partP m other)) 3) ≠ 0) := by
       exact fun h => h (errO_iff.2 (okb_y har_ hbr_ (hap_.trans hbp_.symm) (by decide) (by decide)))
      refine p_v (v := .agg ((encPart ((buildM m (partP m other)).part)) ++ ([.slice A23 ((buildM m (partP m other)).next).length c23, .slice A25 ((buildM m (partP m other)).final).length c25] : List Value)).toArray) rfl (wanted_of (j := 14) (want := false) (d := 108) (b := false) rfl rfl (congrArg Value.bool (decide_eq_false hc108)) rfl) rfl (x_load (seg := ((encPart ((buildM m (partP m other)).part)) ++ ([.slice A23 ((buildM m (partP m other)).next).length c23, .slice A25 ((buildM m (partP m other)).final).length c25] : List Value))) ty35 (len_app (encPart_len ok21_0) rfl) (by simp) rfl (CF.box (m := 259) (S104.box_at (j := 5) rfl) (take_all (len_app (encPart_len ok21_0) rfl)))) ?_
      refine p_v (v := .string xw) rfl (wanted_of (j := 14) (want := false) (d := 108) (b := false) rfl rfl (congrArg Value.bool (decide_eq_false hc108)) rfl) rfl (x_move rfl) ?_
      refine p_c rfl (wanted_of (j := 14) (want := false) (d := 108) (b := false) rfl rfl (congrArg Value.bool (decide_eq_false hc108)) rfl) rfl (y_call (args := [.agg ((encPart ((buildM m (partP m other)).part)) ++ ([.slice A23 ((buildM m (partP m other)).next).length c23, .slice A25 ((buildM m (partP m other)).final).length c25] : List Value)).toArray, .string xw]) ca24 rfl rfl) (runD_calls w103 (buildM m (partP m other)) ok21_0 A23 c23 (And.intro lc23 cm23) (ld23.mono (lf99_2.trans S104.ghost)) A25 c25 (And.intro lc25 cm25) (ld25.mono (lf99_3.trans S104.ghost)) xw s2) ?_
      rintro _ w109 ⟨h109, T109, rfl⟩
      have S110 := S104.keep (Chg.of_below T109.below)
      refine p_v (v := .bool (runM m xw)) rfl (wanted_of (j := 14) (want := false) (d := 108) (b := false) rfl rfl (congrArg Value.bool (decide_eq_false hc108)) rfl) rfl (x_move rfl) ?_
      refine p_v (v := .bool (decide ((runD (buildM m (partP m other)) xw) ≠ (runM m xw)))) rfl (wanted_of (j := 14) (want := false) (d := 108) (b := false) rfl rfl (congrArg Value.bool (decide_eq_false hc108)) rfl) rfl (x_neq_bool u4 rfl rfl) ?_
      refine p_v (v := .bool (decide ((runD (buildM m (partP m other)) xw) ≠ (runM m xw)))) rfl rfl rfl (x_pick_f (congrArg Value.bool (decide_eq_false hc108)) rfl) ?_
      refine p_v (v := .bool (decide ((runD (buildM m (partP m other)) xw) ≠ (runM m xw)))) rfl rfl rfl (x_move rfl) ?_
      have hc111 : ¬ ((runD (buildM m (partP m other)) xw) ≠ (runM m xw)) := by
       rw [build_run (okPart_pP m other) ha_]; simp
      refine p_v (v := .agg ((encPart ((notD (buildM m (partP m other))).part)) ++ ([.slice A67 ((notD (buildM m (partP m other))).next).length c67, .slice A69 ((notD (buildM m (partP m other))).final).length c69] : List Value)).toArray) rfl (wanted_of (j := 21) (want := false) (d := 115) (b := false) rfl rfl (congrArg Value.bool (decide_eq_false hc111)) rfl) rfl (x_load (seg := ((encPart ((notD (buildM m (partP m other))).part)) ++ ([.slice A67 ((notD (buildM m (partP m other))).next).length c67, .slice A69 ((notD (buildM m (partP m other))).final).length c69] : List Value))) ty35 (len_app (encPart_len ok65_0) rfl) (by simp) rfl (CF.box (m := 259) (S110.box_at (j := 11) rfl) (take_all (len_app (encPart_len ok65_0) rfl)))) ?_
      refine p_v (v := .string xw) rfl (wanted_of (j := 21) (want := false) (d := 115) (b := false) rfl rfl (congrArg Value.bool (decide_eq_false hc111)) rfl) rfl (x_move rfl) ?_
      refine p_c rfl (wanted_of (j := 21) (want := false) (d := 115) (b := false) rfl rfl (congrArg Value.bool (decide_eq_false hc111)) rfl) rfl (y_call (args := [.agg ((encPart ((notD (buildM m (partP m other))).part)) ++ ([.slice A67 ((notD (buildM m (partP m other))).next).length c67, .slice A69 ((notD (buildM m (partP m other))).final).length c69] : List Value)).toArray, .string xw]) ca24 rfl rfl) (runD_calls w109 (notD (buildM m (partP m other))) ok65_0 A67 c67 (And.intro lc67 cm67) (ld67.mono (lf99_8.trans S110.ghost)) A69 c69 (And.intro lc69 cm69) (ld69.mono (lf99_9.trans S110.ghost)) xw s2) ?_
      rintro _ w112 ⟨h112, T112, rfl⟩
      have S113 := S110.keep (Chg.of_below T112.below)
      refine p_v (v := .bool (runM m xw)) rfl (wanted_of (j := 21) (want := false) (d := 115) (b := false) rfl rfl (congrArg Value.bool (decide_eq_false hc111)) rfl) rfl (x_move rfl) ?_
      refine p_v (v := .bool (decide ((runD (notD (buildM m (partP m other))) xw) = (runM m xw)))) rfl (wanted_of (j := 21) (want := false) (d := 115) (b := false) rfl rfl (congrArg Value.bool (decide_eq_false hc111)) rfl) rfl (x_eql_bool u4 rfl rfl) ?_
      refine p_v (v := .bool (decide ((runD (notD (buildM m (partP m other))) xw) = (runM m xw)))) rfl rfl rfl (x_pick_f (congrArg Value.bool (decide_eq_false hc111)) rfl) ?_
      refine run_region_end ?_
      have hc114 : ¬ ((runD (notD (buildM m (partP m other))) xw) = (runM m xw)) := by
       rw [not_run har_ (by rw [hap_]; exact (okPart_pP m other)), build_run (okPart_pP m other) ha_]; simp
      refine run_cond (b := false) (congrArg Value.bool (decide_eq_false hc114)) ?_
      simp only [if_true, if_false, Bool.false_eq_true]
      refine run_skip ?_
      refine run_seq ?_
      refine run_reg (l := [0, 1, 2, 3, 4, 5, 6, 7, 8, 9, 10, 11, 12, 13, 14, 15, 16, 17, 18, 19, 20, 21, 22, 23, 24, 25, 26, 27, 28, 29, 30]) rfl ?_
      refine p_v (v := .agg ((encPart ((bothM (buildM m (partP m other)) (buildM other (partP m other)) 1).part)) ++ ([.slice A77 ((bothM (buildM m (partP m other)) (buildM other (partP m other)) 1).next).length c77, .slice A79 ((bothM (buildM m (partP m other)) (buildM other (partP m other)) 1).final).length c79] : List Value)).toArray) rfl rfl rfl (x_load (seg := ((encPart ((bothM (buildM m (partP m other)) (buildM other (partP m other)) 1).part)) ++ ([.slice A77 ((bothM (buildM m (partP m other)) (buildM other (partP m other)) 1).next).length c77, .slice A79 ((bothM (buildM m (partP m other)) (buildM other (partP m other)) 1).final).length c79] : List Value))) ty35 (len_app (encPart_len ok75_0) rfl) (by simp) rfl (CF.box (m := 259) (S113.box_at (j := 14) rfl) (take_all (len_app (encPart_len ok75_0) rfl)))) ?_
      refine p_v (v := .string xw) rfl rfl rfl (x_move rfl) ?_
      refine p_c rfl rfl rfl (y_call (args := [.agg ((encPart ((bothM (buildM m (partP m other)) (buildM other (partP m other)) 1).part)) ++ ([.slice A77 ((bothM (buildM m (partP m other)) (buildM other (partP m other)) 1).next).length c77, .slice A79 ((bothM (buildM m (partP m other)) (buildM other (partP m other)) 1).final).length c79] : List Value)).toArray, .string xw]) ca24 rfl rfl) (runD_calls w112 (bothM (buildM m (partP m other)) (buildM other (partP m other)) 1) ok75_0 A77 c77 (And.intro lc77 cm77) (ld77.mono (lf99_11.trans S113.ghost)) A79 c79 (And.intro lc79 cm79) (ld79.mono (lf99_12.trans S113.ghost)) xw s2) ?_
      rintro _ w115 ⟨h115, T115, rfl⟩
      have S116 := S113.keep (Chg.of_below T115.below)
      refine p_v (v := .bool (runM m xw)) rfl rfl rfl (x_move rfl) ?_
      refine p_v (v := .bool (runM m xw)) rfl rfl rfl (x_move rfl) ?_
      rcases Bool.eq_false_or_eq_true (runM m xw) with hc117 | hc117
      ·skip
       refine p_v (v := .bool (runM other xw)) rfl (wanted_of (j := 4) (want := true) (d := 126) (b := true) rfl rfl (congrArg Value.bool hc117) rfl) rfl (x_move rfl) ?_
       refine p_v (v := .bool (runM other xw)) rfl rfl rfl (x_pick_t (congrArg Value.bool hc117) rfl) ?_
       refine p_v (v := .bool (decide ((runD (bothM (buildM m (partP m other)) (buildM other (partP m other)) 1) xw) = (runM other xw)))) rfl rfl rfl (x_eql_bool u4 rfl rfl) ?_
       refine p_v (v := .bool (decide ((runD (bothM (buildM m (partP m other)) (buildM other (partP m other)) 1) xw) = (runM other xw)))) rfl rfl rfl (x_move rfl) ?_
       have hc118 : ((runD (bothM (buildM m (partP m other)) (buildM other (partP m other)) 1) xw) = (runM other xw)) := by
        rw [both_run (by rw [hap_]; exact (okPart_pP m other)) (okb_y (how := 1) har_ hbr_ (hap_.trans hbp_.symm) (by decide) (by decide)), build_run (okPart_pP m other) ha_, build_run (okPart_pP m other) hb_]; unfold howB; first | (rw [(by assumption : runM m xw = true)]; simp; done) | (rw [(by assumption : runM m xw = false)]; simp)
       refine p_v (v := .agg ((encPart ((bothM (buildM m (partP m other)) (buildM other (partP m other)) 2).part)) ++ ([.slice A87 ((bothM (buildM m (partP m other)) (buildM other (partP m other)) 2).next).length c87, .slice A89 ((bothM (buildM m (partP m other)) (buildM other (partP m other)) 2).final).length c89] : List Value)).toArray) rfl (wanted_of (j := 8) (want := true) (d := 130) (b := true) rfl rfl (congrArg Value.bool (decide_eq_true hc118)) rfl) rfl (x_load (seg := ((encPart ((bothM (buildM m (partP m other)) (buildM other (partP m other)) 2).part)) ++ ([.slice A87 ((bothM (buildM m (partP m other)) (buildM other (partP m other)) 2).next).length c87, .slice A89 ((bothM (buildM m (partP m other)) (buildM other (partP m other)) 2).final).length c89] : List Value))) ty35 (len_app (encPart_len ok85_0) rfl) (by simp) rfl (CF.box (m := 259) (S116.box_at (j := 17) rfl) (take_all (len_app (encPart_len ok85_0) rfl)))) ?_
       refine p_v (v := .string xw) rfl (wanted_of (j := 8) (want := true) (d := 130) (b := true) rfl rfl (congrArg Value.bool (decide_eq_true hc118)) rfl) rfl (x_move rfl) ?_
       refine p_c rfl (wanted_of (j := 8) (want := true) (d := 130) (b := true) rfl rfl (congrArg Value.bool (decide_eq_true hc118)) rfl) rfl (y_call (args := [.agg ((encPart ((bothM (buildM m (partP m other)) (buildM other (partP m other)) 2).part)) ++ ([.slice A87 ((bothM (buildM m (partP m other)) (buildM other (partP m other)) 2).next).length c87, .slice A89 ((bothM (buildM m (partP m other)) (buildM other (partP m other)) 2).final).length c89] : List Value)).toArray, .string xw]) ca24 rfl rfl) (runD_calls w115 (bothM (buildM m (partP m other)) (buildM other (partP m other)) 2) ok85_0 A87 c87 (And.intro lc87 cm87) (ld87.mono (lf99_14.trans S116.ghost)) A89 c89 (And.intro lc89 cm89) (ld89.mono (lf99_15.trans S116.ghost)) xw s2) ?_
       rintro _ w119 ⟨h119, T119, rfl⟩
       have S120 := S116.keep (Chg.of_below T119.below)
       refine p_v (v := .bool true) rfl (wanted_of (j := 8) (want := true) (d := 130) (b := true) rfl rfl (congrArg Value.bool (decide_eq_true hc118)) rfl) rfl (x_move (congrArg Value.bool hc117)) ?_
       refine p_v (v := .bool true) rfl (wanted_of (j := 8) (want := true) (d := 130) (b := true) rfl rfl (congrArg Value.bool (decide_eq_true hc118)) rfl) rfl (x_move rfl) ?_
       refine p_off rfl rfl rfl ?_
       refine p_v (v := .bool true) rfl (wanted_of (j := 8) (want := true) (d := 130) (b := true) rfl rfl (congrArg Value.bool (decide_eq_true hc118)) rfl) rfl (x_pick_t rfl rfl) ?_
       refine p_v (v := .bool (decide ((runD (bothM (buildM m (partP m other)) (buildM other (partP m other)) 2) xw) = true))) rfl (wanted_of (j := 8) (want := true) (d := 130) (b := true) rfl rfl (congrArg Value.bool (decide_eq_true hc118)) rfl) rfl (x_eql_bool u4 rfl rfl) ?_
       refine p_v (v := .bool (decide ((runD (bothM (buildM m (partP m other)) (buildM other (partP m other)) 2) xw) = true))) rfl rfl rfl (x_pick_t (congrArg Value.bool (decide_eq_true hc118)) rfl) ?_
       refine p_v (v := .bool (decide ((runD (bothM (buildM m (partP m other)) (buildM other (partP m other)) 2) xw) = true))) rfl rfl rfl (x_move rfl) ?_
       have hc121 : ((runD (bothM (buildM m (partP m other)) (buildM other (partP m other)) 2) xw) = true) := by
        rw [both_run (by rw [hap_]; exact (okPart_pP m other)) (okb_y (how := 2) har_ hbr_ (hap_.trans hbp_.symm) (by decide) (by decide)), build_run (okPart_pP m other) ha_, build_run (okPart_pP m other) hb_]; unfold howB; first | (rw [(by assumption : runM m xw = true)]; simp; done) | (rw [(by assumption : runM m xw = false)]; simp)
       refine p_v (v := .agg ((encPart ((bothM (buildM m (partP m other)) (buildM other (partP m other)) 3).part)) ++ ([.slice A97 ((bothM (buildM m (partP m other)) (buildM other (partP m other)) 3).next).length c97, .slice A99 ((bothM (buildM m (partP m other)) (buildM other (partP m other)) 3).final).length c99] : List Value)).toArray) rfl (wanted_of (j := 18) (want := true) (d := 140) (b := true) rfl rfl (congrArg Value.bool (decide_eq_true hc121)) rfl) rfl (x_load (seg := ((encPart ((bothM (buildM m (partP m other)) (buildM other (partP m other)) 3).part)) ++ ([.slice A97 ((bothM (buildM m (partP m other)) (buildM other (partP m other)) 3).next).length c97, .slice A99 ((bothM (buildM m (partP m other)) (buildM other (partP m other)) 3).final).length c99] : List Value))) ty35 (len_app (encPart_len ok95_0) rfl) (by simp) rfl (CF.box (m := 259) (S120.box_at (j := 20) rfl) (take_all (len_app (encPart_len ok95_0) rfl)))) ?_
       refine p_v (v := .string xw) rfl (wanted_of (j := 18) (want := true) (d := 140) (b := true) rfl rfl (congrArg Value.bool (decide_eq_true hc121)) rfl) rfl (x_move rfl) ?_
       refine p_c rfl (wanted_of (j := 18) (want := true) (d := 140) (b := true) rfl rfl (congrArg Value.bool (decide_eq_true hc121)) rfl) rfl (y_call (args := [.agg ((encPart ((bothM (buildM m (partP m other)) (buildM other (partP m other)) 3).part)) ++ ([.slice A97 ((bothM (buildM m (partP m other)) (buildM other (partP m other)) 3).next).length c97, .slice A99 ((bothM (buildM m (partP m other)) (buildM other (partP m other)) 3).final).length c99] : List Value)).toArray, .string xw]) ca24 rfl rfl) (runD_calls w119 (bothM (buildM m (partP m other)) (buildM other (partP m other)) 3) ok95_0 A97 c97 (And.intro lc97 cm97) (ld97.mono (le99.trans S120.ghost)) A99 c99 (And.intro lc99 cm99) (ld99.mono ((Le.refl _).trans S120.ghost)) xw s2) ?_
       rintro _ w122 ⟨h122, T122, rfl⟩
       have S123 := S120.keep (Chg.of_below T122.below)
       refine p_v (v := .bool true) rfl (wanted_of (j := 18) (want := true) (d := 140) (b := true) rfl rfl (congrArg Value.bool (decide_eq_true hc121)) rfl) rfl (x_move (congrArg Value.bool hc117)) ?_
       refine p_v (v := .bool (runM other xw)) rfl (wanted_of (j := 18) (want := true) (d := 140) (b := true) rfl rfl (congrArg Value.bool (decide_eq_true hc121)) rfl) rfl (x_move rfl) ?_
       refine p_v (v := .bool (decide (true ≠ (runM other xw)))) rfl (wanted_of (j := 18) (want := true) (d := 140) (b := true) rfl rfl (congrArg Value.bool (decide_eq_true hc121)) rfl) rfl (x_neq_bool u4 rfl rfl) ?_
       refine p_v (v := .bool (decide ((runD (bothM (buildM m (partP m other)) (buildM other (partP m other)) 3) xw) = (decide (true ≠ (runM other xw)))))) rfl (wanted_of (j := 18) (want := true) (d := 140) (b := true) rfl rfl (congrArg Value.bool (decide_eq_true hc121)) rfl) rfl (x_eql_bool u4 rfl rfl) ?_
       refine p_v (v := .bool (decide ((runD (bothM (buildM m (partP m other)) (buildM other (partP m other)) 3) xw) = (decide (true ≠ (runM other xw)))))) rfl rfl rfl (x_pick_t (congrArg Value.bool (decide_eq_true hc121)) rfl) ?_
       refine p_v (v := .bool (decide ((runD (bothM (buildM m (partP m other)) (buildM other (partP m other)) 3) xw) = (decide (true ≠ (runM other xw)))))) rfl rfl rfl (x_move rfl) ?_
       have hc124 : ((runD (bothM (buildM m (partP m other)) (buildM other (partP m other)) 3) xw) = (decide (true ≠ (runM other xw)))) := by
        rw [both_run (by rw [hap_]; exact (okPart_pP m other)) (okb_y (how := 3) har_ hbr_ (hap_.trans hbp_.symm) (by decide) (by decide)), build_run (okPart_pP m other) ha_, build_run (okPart_pP m other) hb_]; unfold howB; first | (rw [(by assumption : runM m xw = true)]; simp; done) | (rw [(by assumption : runM m xw = false)]; simp)
       refine p_c rfl (wanted_of (j := 27) (want := true) (d := 149) (b := true) rfl rfl (congrArg Value.bool (decide_eq_true hc124)) rfl) rfl (y_call (args := []) ca19 rfl rfl) (awake11_calls w122  (Block.st S123 tb)) ?_
       rintro _ w125 ⟨h125, T125, rfl⟩
       have S126 := S123.keep (Chg.of_below T125.below)
       refine p_v (v := .bool true) rfl rfl rfl (x_pick_t (congrArg Value.bool (decide_eq_true hc124)) rfl) ?_
       refine p_v (v := .bool true) rfl rfl rfl (x_assign rfl) ?_
       refine run_region_end ?_
       refine run_ret Tryd.func6 (res1 rfl (res_tmp (v := .bool true) rfl)) ?_
       have q0 : (true : Bool) = true := rfl
       refine ⟨_, rfl, h99, ?_, ?_⟩
       · exact S126.sub [] (by decide) rfl _ rfl
       · rfl
      ·skip
       refine p_off rfl (wanted_of (j := 4) (want := true) (d := 126) (b := false) rfl rfl (congrArg Value.bool hc117) rfl) rfl ?_
       refine p_v (v := .bool false) rfl rfl rfl (x_pick_f (congrArg Value.bool hc117) rfl) ?_
       refine p_v (v := .bool (decide ((runD (bothM (buildM m (partP m other)) (buildM other (partP m other)) 1) xw) = false))) rfl rfl rfl (x_eql_bool u4 rfl rfl) ?_
       refine p_v (v := .bool (decide ((runD (bothM (buildM m (partP m other)) (buildM other (partP m other)) 1) xw) = false))) rfl rfl rfl (x_move rfl) ?_
       have hc128 : ((runD (bothM (buildM m (partP m other)) (buildM other (partP m other)) 1) xw) = false) := by
        rw [both_run (by rw [hap_]; exact (okPart_pP m other)) (okb_y (how := 1) har_ hbr_ (hap_.trans hbp_.symm) (by decide) (by decide)), build_run (okPart_pP m other) ha_, build_run (okPart_pP m other) hb_]; unfold howB; first | (rw [(by assumption : runM m xw = true)]; simp; done) | (rw [(by assumption : runM m xw = false)]; simp)
       refine p_v (v := .agg ((encPart ((bothM (buildM m (partP m other)) (buildM other (partP m other)) 2).part)) ++ ([.slice A87 ((bothM (buildM m (partP m other)) (buildM other (partP m other)) 2).next).length c87, .slice A89 ((bothM (buildM m (partP m other)) (buildM other (partP m other)) 2).final).length c89] : List Value)).toArray) rfl (wanted_of (j := 8) (want := true) (d := 130) (b := true) rfl rfl (congrArg Value.bool (decide_eq_true hc128)) rfl) rfl (x_load (seg := ((encPart ((bothM (buildM m (partP m other)) (buildM other (partP m other)) 2).part)) ++ ([.slice A87 ((bothM (buildM m (partP m other)) (buildM other (partP m other)) 2).next).length c87, .slice A89 ((bothM (buildM m (partP m other)) (buildM other (partP m other)) 2).final).length c89] : List Value))) ty35 (len_app (encPart_len ok85_0) rfl) (by simp) rfl (CF.box (m := 259) (S116.box_at (j := 17) rfl) (take_all (len_app (encPart_len ok85_0) rfl)))) ?_
       refine p_v (v := .string xw) rfl (wanted_of (j := 8) (want := true) (d := 130) (b := true) rfl rfl (congrArg Value.bool (decide_eq_true hc128)) rfl) rfl (x_move rfl) ?_
       refine p_c rfl (wanted_of (j := 8) (want := true) (d := 130) (b := true) rfl rfl (congrArg Value.bool (decide_eq_true hc128)) rfl) rfl (y_call (args := [.agg ((encPart ((bothM (buildM m (partP m other)) (buildM other (partP m other)) 2).part)) ++ ([.slice A87 ((bothM (buildM m (partP m other)) (buildM other (partP m other)) 2).next).length c87, .slice A89 ((bothM (buildM m (partP m other)) (buildM other (partP m other)) 2).final).length c89] : List Value)).toArray, .string xw]) ca24 rfl rfl) (runD_calls w115 (bothM (buildM m (partP m other)) (buildM other (partP m other)) 2) ok85_0 A87 c87 (And.intro lc87 cm87) (ld87.mono (lf99_14.trans S116.ghost)) A89 c89 (And.intro lc89 cm89) (ld89.mono (lf99_15.trans S116.ghost)) xw s2) ?_
       rintro _ w129 ⟨h129, T129, rfl⟩
       have S130 := S116.keep (Chg.of_below T129.below)
       refine p_v (v := .bool false) rfl (wanted_of (j := 8) (want := true) (d := 130) (b := true) rfl rfl (congrArg Value.bool (decide_eq_true hc128)) rfl) rfl (x_move (congrArg Value.bool hc117)) ?_
       refine p_v (v := .bool false) rfl (wanted_of (j := 8) (want := true) (d := 130) (b := true) rfl rfl (congrArg Value.bool (decide_eq_true hc128)) rfl) rfl (x_move rfl) ?_
       refine p_v (v := .bool (runM other xw)) rfl rfl rfl (x_move rfl) ?_
       refine p_v (v := .bool (runM other xw)) rfl (wanted_of (j := 8) (want := true) (d := 130) (b := true) rfl rfl (congrArg Value.bool (decide_eq_true hc128)) rfl) rfl (x_pick_f rfl rfl) ?_
       refine p_v (v := .bool (decide ((runD (bothM (buildM m (partP m other)) (buildM other (partP m other)) 2) xw) = (runM other xw)))) rfl (wanted_of (j := 8) (want := true) (d := 130) (b := true) rfl rfl (congrArg Value.bool (decide_eq_true hc128)) rfl) rfl (x_eql_bool u4 rfl rfl) ?_
       refine p_v (v := .bool (decide ((runD (bothM (buildM m (partP m other)) (buildM other (partP m other)) 2) xw) = (runM other xw)))) rfl rfl rfl (x_pick_t (congrArg Value.bool (decide_eq_true hc128)) rfl) ?_
       refine p_v (v := .bool (decide ((runD (bothM (buildM m (partP m other)) (buildM other (partP m other)) 2) xw) = (runM other xw)))) rfl rfl rfl (x_move rfl) ?_
       have hc131 : ((runD (bothM (buildM m (partP m other)) (buildM other (partP m other)) 2) xw) = (runM other xw)) := by
        rw [both_run (by rw [hap_]; exact (okPart_pP m other)) (okb_y (how := 2) har_ hbr_ (hap_.trans hbp_.symm) (by decide) (by decide)), build_run (okPart_pP m other) ha_, build_run (okPart_pP m other) hb_]; unfold howB; first | (rw [(by assumption : runM m xw = true)]; simp; done) | (rw [(by assumption : runM m xw = false)]; simp)
       refine p_v (v := .agg ((encPart ((bothM (buildM m (partP m other)) (buildM other (partP m other)) 3).part)) ++ ([.slice A97 ((bothM (buildM m (partP m other)) (buildM other (partP m other)) 3).next).length c97, .slice A99 ((bothM (buildM m (partP m other)) (buildM other (partP m other)) 3).final).length c99] : List Value)).toArray) rfl (wanted_of (j := 18) (want := true) (d := 140) (b := true) rfl rfl (congrArg Value.bool (decide_eq_true hc131)) rfl) rfl (x_load (seg := ((encPart ((bothM (buildM m (partP m other)) (buildM other (partP m other)) 3).part)) ++ ([.slice A97 ((bothM (buildM m (partP m other)) (buildM other (partP m other)) 3).next).length c97, .slice A99 ((bothM (buildM m (partP m other)) (buildM other (partP m other)) 3).final).length c99] : List Value))) ty35 (len_app (encPart_len ok95_0) rfl) (by simp) rfl (CF.box (m := 259) (S130.box_at (j := 20) rfl) (take_all (len_app (encPart_len ok95_0) rfl)))) ?_
       refine p_v (v := .string xw) rfl (wanted_of (j := 18) (want := true) (d := 140) (b := true) rfl rfl (congrArg Value.bool (decide_eq_true hc131)) rfl) rfl (x_move rfl) ?_
       refine p_c rfl (wanted_of (j := 18) (want := true) (d := 140) (b := true) rfl rfl (congrArg Value.bool (decide_eq_true hc131)) rfl) rfl (y_call (args := [.agg ((encPart ((bothM (buildM m (partP m other)) (buildM other (partP m other)) 3).part)) ++ ([.slice A97 ((bothM (buildM m (partP m other)) (buildM other (partP m other)) 3).next).length c97, .slice A99 ((bothM (buildM m (partP m other)) (buildM other (partP m other)) 3).final).length c99] : List Value)).toArray, .string xw]) ca24 rfl rfl) (runD_calls w129 (bothM (buildM m (partP m other)) (buildM other (partP m other)) 3) ok95_0 A97 c97 (And.intro lc97 cm97) (ld97.mono (le99.trans S130.ghost)) A99 c99 (And.intro lc99 cm99) (ld99.mono ((Le.refl _).trans S130.ghost)) xw s2) ?_
       rintro _ w132 ⟨h132, T132, rfl⟩
       have S133 := S130.keep (Chg.of_below T132.below)
       refine p_v (v := .bool false) rfl (wanted_of (j := 18) (want := true) (d := 140) (b := true) rfl rfl (congrArg Value.bool (decide_eq_true hc131)) rfl) rfl (x_move (congrArg Value.bool hc117)) ?_
       refine p_v (v := .bool (runM other xw)) rfl (wanted_of (j := 18) (want := true) (d := 140) (b := true) rfl rfl (congrArg Value.bool (decide_eq_true hc131)) rfl) rfl (x_move rfl) ?_
       refine p_v (v := .bool (decide (false ≠ (runM other xw)))) rfl (wanted_of (j := 18) (want := true) (d := 140) (b := true) rfl rfl (congrArg Value.bool (decide_eq_true hc131)) rfl) rfl (x_neq_bool u4 rfl rfl) ?_
       refine p_v (v := .bool (decide ((runD (bothM (buildM m (partP m other)) (buildM other (partP m other)) 3) xw) = (decide (false ≠ (runM other xw)))))) rfl (wanted_of (j := 18) (want := true) (d := 140) (b := true) rfl rfl (congrArg Value.bool (decide_eq_true hc131)) rfl) rfl (x_eql_bool u4 rfl rfl) ?_
       refine p_v (v := .bool (decide ((runD (bothM (buildM m (partP m other)) (buildM other (partP m other)) 3) xw) = (decide (false ≠ (runM other xw)))))) rfl rfl rfl (x_pick_t (congrArg Value.bool (decide_eq_true hc131)) rfl) ?_
       refine p_v (v := .bool (decide ((runD (bothM (buildM m (partP m other)) (buildM other (partP m other)) 3) xw) = (decide (false ≠ (runM other xw)))))) rfl rfl rfl (x_move rfl) ?_
       have hc134 : ((runD (bothM (buildM m (partP m other)) (buildM other (partP m other)) 3) xw) = (decide (false ≠ (runM other xw)))) := by
        rw [both_run (by rw [hap_]; exact (okPart_pP m other)) (okb_y (how := 3) har_ hbr_ (hap_.trans hbp_.symm) (by decide) (by decide)), build_run (okPart_pP m other) ha_, build_run (okPart_pP m other) hb_]; unfold howB; first | (rw [(by assumption : runM m xw = true)]; simp; done) | (rw [(by assumption : runM m xw = false)]; simp)
       refine p_c rfl (wanted_of (j := 27) (want := true) (d := 149) (b := true) rfl rfl (congrArg Value.bool (decide_eq_true hc134)) rfl) rfl (y_call (args := []) ca19 rfl rfl) (awake11_calls w132  (Block.st S133 tb)) ?_
       rintro _ w135 ⟨h135, T135, rfl⟩
       have S136 := S133.keep (Chg.of_below T135.below)
       refine p_v (v := .bool true) rfl rfl rfl (x_pick_t (congrArg Value.bool (decide_eq_true hc134)) rfl) ?_
       refine p_v (v := .bool true) rfl rfl rfl (x_assign rfl) ?_
       refine run_region_end ?_
       refine run_ret Tryd.func6 (res1 rfl (res_tmp (v := .bool true) rfl)) ?_
       have q0 : (true : Bool) = true := rfl
       refine ⟨_, rfl, h99, ?_, ?_⟩
       · exact S136.sub [] (by decide) rfl _ rfl
       · rfl
  ·skip
   refine p_off rfl (wanted_of (j := 8) (want := false) (d := 28) (b := true) rfl rfl (congrArg (fun z => Value.bool (!z)) hc10) rfl) rfl ?_
   refine p_off rfl (wanted_of (j := 8) (want := false) (d := 28) (b := true) rfl rfl (congrArg (fun z => Value.bool (!z)) hc10) rfl) rfl ?_
   refine p_off rfl (wanted_of (j := 8) (want := false) (d := 28) (b := true) rfl rfl (congrArg (fun z => Value.bool (!z)) hc10) rfl) rfl ?_
   refine p_v (v := .bool true) rfl rfl rfl (x_pick_t (congrArg (fun z => Value.bool (!z)) hc10) rfl) ?_
   refine run_region_end ?_
   refine run_cond (b := true) rfl ?_
   simp only [if_true, if_false, Bool.false_eq_true]
   refine run_seq ?_
   refine run_reg (l := [0, 1]) rfl ?_
   refine p_c rfl rfl rfl (y_call (args := []) ca19 rfl rfl) (awake11_calls w8  (Block.st S9 tb)) ?_
   rintro _ w138 ⟨h138, T138, rfl⟩
   have S139 := S9.keep (Chg.of_below T138.below)
   refine p_v (v := .bool true) rfl rfl rfl (x_assign rfl) ?_
   refine run_region_end ?_
   refine run_ret Tryd.func6 (res1 rfl (res_tmp (v := .bool true) rfl)) ?_
   have q0 : (true : Bool) = true := rfl
   refine ⟨_, rfl, (fun _ => none), ?_, ?_⟩
   · exact S139.sub [] (by decide) rfl _ rfl
   · rfl
 ·skip
  refine p_off rfl (wanted_of (j := 3) (want := false) (d := 23) (b := true) rfl rfl (congrArg (fun z => Value.bool (!z)) hc7) rfl) rfl ?_
  refine p_off rfl (wanted_of (j := 3) (want := false) (d := 23) (b := true) rfl rfl (congrArg (fun z => Value.bool (!z)) hc7) rfl) rfl ?_
  refine p_off rfl (wanted_of (j := 3) (want := false) (d := 23) (b := true) rfl rfl (congrArg (fun z => Value.bool (!z)) hc7) rfl) rfl ?_
  refine p_v (v := .bool true) rfl rfl rfl (x_pick_t (congrArg (fun z => Value.bool (!z)) hc7) rfl) ?_
  refine p_v (v := .bool true) rfl rfl rfl (x_move rfl) ?_
  refine p_off rfl rfl rfl ?_
  refine p_off rfl rfl rfl ?_
  refine p_off rfl rfl rfl ?_
  refine p_v (v := .bool true) rfl rfl rfl (x_pick_t rfl rfl) ?_
  refine run_region_end ?_
  refine run_cond (b := true) rfl ?_
  simp only [if_true, if_false, Bool.false_eq_true]
  refine run_seq ?_
  refine run_reg (l := [0, 1]) rfl ?_
  refine p_c rfl rfl rfl (y_call (args := []) ca19 rfl rfl) (awake11_calls w5  (Block.st S6 tb)) ?_
  rintro _ w141 ⟨h141, T141, rfl⟩
  have S142 := S6.keep (Chg.of_below T141.below)
  refine p_v (v := .bool true) rfl rfl rfl (x_assign rfl) ?_
  refine run_region_end ?_
  refine run_ret Tryd.func6 (res1 rfl (res_tmp (v := .bool true) rfl)) ?_
  have q0 : (true : Bool) = true := rfl
  refine ⟨_, rfl, (fun _ => none), ?_, ?_⟩
  · exact S142.sub [] (by decide) rfl _ rfl
  · rfl
end Go.Proofs.YtfoemogojbnfhaaDoor
namespace Gx
open Go Go.RowKit
set_option linter.unusedSimpArgs false
set_option linter.unusedSectionVars false
set_option linter.unusedVariables false
def Opens {α : Type} (P : Program) (k : Kd α) (t : TypeId) : Prop :=
  ∀ {H : Type} {enc : TypeId × Value → H} {w : World} {spare : Nat → Bool} {held : Bool} {fuel : Nat} {cs : List Value} {x : DataW H × List MemPlace}, DataW.trod enc P w 0 spare held fuel t cs = some x → ∃ m, k.rep (hp w) m cs
section
variable {P : Program} {t e : TypeId}
theorem inK_wf {k : IntKind} {n : Int} (h : (Lit.int k n).wf = true) : inK k n := by
  simp only [Lit.wf, Bool.and_eq_true, decide_eq_true_eq] at h
  exact h
theorem Opens.int {k : IntKind} (ht : P.underlying t = some (.int k)) : Opens P (Kd.int k) t := fun h => by
  obtain ⟨n, rfl, _, hw⟩ := DataW.trod_int ht h
  exact ⟨n, rfl, inK_wf hw⟩
theorem Opens.bool (ht : P.underlying t = some .bool) : Opens P Kd.bool t := fun h => by
  obtain ⟨b, rfl, _⟩ := DataW.trod_bool ht h
  exact ⟨b, rfl, trivial⟩
theorem Opens.string (ht : P.underlying t = some .string) : Opens P Kd.string t := fun h => by
  obtain ⟨s, rfl, _, hs⟩ := DataW.trod_string ht h
  exact ⟨s, rfl, hs⟩
theorem exists_list {α : Type} {Q : Nat → α → Prop} : ∀ (n : Nat), (∀ i, i < n → ∃ m, Q i m) → ∃ l : List α, l.length = n ∧ ∀ i m, l[i]? = some m → Q i m
  | 0, _ => ⟨[], rfl, fun i m h => by simp at h⟩
  | n + 1, h => by
    obtain ⟨l, hl, hq⟩ := exists_list n fun i hi => h i (by omega)
    obtain ⟨m, hm⟩ := h n (by omega)
    refine ⟨l ++ [m], by simp [hl], fun i y hy => ?_⟩
    rw [List.getElem?_append] at hy
    split at hy
    · exact hq i y hy
    · rename_i hi
      have e : i - l.length = 0 := by
        rcases Nat.eq_zero_or_pos (i - l.length) with h0 | h0
        · exact h0
        · rw [List.getElem?_eq_none (by simp; omega)] at hy; cases hy
      rw [e] at hy
      simp at hy
      subst hy
      have : i = n := by omega
      rw [this]; exact hm
theorem Opens.ints {k : IntKind} {n : Nat} (hn : 0 < n) (ht : P.underlying t = some (.array n e)) (he : P.underlying e = some (.int k)) (hc : P.cellsOf e = 1) (hct : P.cellsOf t = n) : Opens P (kInts k n hn) t := fun {H enc w spare held fuel cs x} h => by
  obtain ⟨xs, m, _, _, hl, hx, hel⟩ := DataW.trod_array ht h
  rw [hct] at hl
  have h1 : ∀ i, i < n → ∃ z : Int, cs[i]? = some (.int k z) ∧ inK k z := fun i hi => by
    have h2 := hel i hi
    rw [hc, Nat.mul_one, List.getElem?_eq_getElem (by omega)] at h2
    obtain ⟨z, hz, _, hw⟩ := DataW.trod_int he h2
    refine ⟨z, ?_, inK_wf hw⟩
    have h3 := congrArg (fun l : List Value => l[0]?) hz
    simpa [List.getElem?_take, List.getElem?_drop] using h3
  obtain ⟨l, hll, hq⟩ := exists_list n h1
  refine ⟨l, ?_, hll, fun z hz => ?_⟩
  · apply List.ext_getElem?
    intro i
    rw [encInts, List.getElem?_map]
    by_cases hi : i < n
    · have h4 := hq i (l[i]'(by omega)) (List.getElem?_eq_getElem _)
      rw [h4.1, List.getElem?_eq_getElem (by omega)]; rfl
    · rw [List.getElem?_eq_none (by omega), List.getElem?_eq_none (by omega)]; rfl
  · obtain ⟨i, hi⟩ := List.mem_iff_getElem?.1 hz
    exact (hq i z hi).2
theorem Opens.set (ht : P.underlying t = some (.array 4 e)) (he : P.underlying e = some (.int .u64)) (hc : P.cellsOf e = 1) (hct : P.cellsOf t = 4) : Opens P kSet t := fun h => by
  obtain ⟨l, hl, hok⟩ := Opens.ints (n := 4) (by omega) ht he hc hct h
  exact ⟨ofWords l, by rw [hl, encSet_of hok], trivial⟩
theorem Opens.slice {α : Type} {k : Kd α} (ht : P.underlying t = some (.slice e)) (hc : P.cellsOf e = k.sz) (ho : Opens P k e) : Opens P k.slice t := fun {H enc w spare held fuel cs x} h => by
  rcases DataW.trod_slice ht h with ⟨rfl, _⟩ | ⟨a, len, cap, elems, rest, n, _, rfl, _, _, hl, hm, hlen, hel, _, _⟩
  · exact ⟨[], none, 0, rfl, Nat.le_refl _, by simp [maxLen], fun hne => (hne rfl).elim⟩
  · rw [hc] at hel
    have h1 : ∀ i, i < len → ∃ m, ∃ seg, k.rep (hp w) m seg ∧ ∀ j v, seg[j]? = some v → gcell (hp w) (a.add (i * k.sz + j)) = some v := fun i hi => by
      have h2 := hel i hi
      rw [List.getElem?_eq_getElem (by omega)] at h2
      obtain ⟨seg, hseg, hd⟩ := Option.bind_eq_some_iff.1 h2
      obtain ⟨m, hr⟩ := ho hd
      refine ⟨m, seg, hr, fun j v hj => ?_⟩
      obtain ⟨_, hlen2, hcell⟩ := World.cells?_some hseg
      have hjl : j < k.sz := by
        have := (List.getElem?_eq_some_iff.1 hj).1
        rw [k.len hr] at this; exact this
      have h5 := hcell j hjl
      rw [hj] at h5
      rw [Addr.add_add] at h5
      show gcell (hp w) _ = _
      unfold gcell hp
      unfold World.cell? at h5
      exact h5
    obtain ⟨l, hll, hq⟩ := exists_list len h1
    refine ⟨l, some a, cap, by rw [hll], by omega, hm, fun _ => ⟨a, rfl, hq⟩⟩
end
end Gx
namespace Gx
open Go Go.RowKit
set_option linter.unusedSimpArgs false
set_option linter.unusedSectionVars false
set_option linter.unusedVariables false
section
variable {P : Program} {t : TypeId}
theorem trod_field {H : Type} {enc : TypeId × Value → H} {w : World} {spare : Nat → Bool} {held : Bool} {fuel : Nat} {cs : List Value} {x : DataW H × List MemPlace} {α : Type} {k : Kd α} {q o ft : Nat} (hf : fieldInfo P t q = some (o, ft)) (hc : P.cellsOf ft = k.sz) (ho : Opens P k ft) (h : DataW.trod enc P w 0 spare held fuel t cs = some x) : ∃ m, k.rep (hp w) m ((cs.drop o).take k.sz) := by
  obtain ⟨fs, fd, hu, hq, rfl, rfl⟩ := fieldInfo_parts hf
  obtain ⟨xs, n, _, _, _, hl, hp⟩ := DataW.trod_struct hu h
  have h1 := hp q fd hq
  have hlt : q < fs.size := (Array.getElem?_eq_some_iff.1 hq).1
  rw [hc, List.getElem?_eq_getElem (by omega)] at h1
  exact ho h1
theorem trod_len {H : Type} {enc : TypeId × Value → H} {w : World} {spare : Nat → Bool} {held : Bool} {fuel : Nat} {cs : List Value} {x : DataW H × List MemPlace} {q o ft : Nat} (hf : fieldInfo P t q = some (o, ft)) (h : DataW.trod enc P w 0 spare held fuel t cs = some x) : cs.length = P.cellsOf t := by
  obtain ⟨fs, fd, hu, hq, rfl, rfl⟩ := fieldInfo_parts hf
  obtain ⟨xs, n, _, _, hl, _, _⟩ := DataW.trod_struct hu h
  exact hl
theorem Opens.spot {a b : TypeId} (h0 : fieldInfo P t 0 = some (0, a)) (h1 : fieldInfo P t 1 = some (4, b)) (hc : P.cellsOf t = 5) (ha : P.cellsOf a = 4) (hb : P.cellsOf b = 1) (oa : Opens P kSet a) (ob : Opens P (Kd.int .u8) b) : Opens P kSpot t := fun {H enc w spare held fuel cs x} h => by
  obtain ⟨s, e0, _⟩ := trod_field h0 ha oa h
  obtain ⟨n, e1, hn⟩ := trod_field h1 hb ob h
  have hl := trod_len h0 h
  rw [hc] at hl
  refine ⟨⟨s, n⟩, ?_, hn⟩
  have e2 : cs = (cs.drop 0).take 4 ++ (cs.drop 4).take 1 := by
    rw [List.drop_zero, List.take_of_length_le (l := cs.drop 4) (by simp; omega), List.take_append_drop]
  rw [e2]
  show (cs.drop 0).take kSet.sz ++ (cs.drop 4).take (Kd.int .u8).sz = _
  rw [e0, e1]; rfl
def kMach : Kd Mach where
  sz := 5
  pos := by omega
  rep := fun h m cs => ∃ A0 c0 A1 c1 A2 c2 A3 c3, cs = [.slice A0 m.spots.length c0, .slice A1 m.first.length c1, .slice A2 m.follow.length c2, .slice A3 m.last.length c3, .bool m.empty] ∧
    ((m.spots.length ≤ c0 ∧ c0 ≤ maxLen) ∧ Leads kSpot h A0 m.spots) ∧ ((m.first.length ≤ c1 ∧ c1 ≤ maxLen) ∧ Leads (Kd.int .i64) h A1 m.first) ∧ ((m.follow.length ≤ c2 ∧ c2 ≤ maxLen) ∧ Leads (Kd.int .i64).slice h A2 m.follow) ∧ ((m.last.length ≤ c3 ∧ c3 ≤ maxLen) ∧ Leads Kd.bool h A3 m.last)
  mono := fun hl ⟨A0, c0, A1, c1, A2, c2, A3, c3, e, h0, h1, h2, h3⟩ => ⟨A0, c0, A1, c1, A2, c2, A3, c3, e, ⟨h0.1, h0.2.mono hl⟩, ⟨h1.1, h1.2.mono hl⟩, ⟨h2.1, h2.2.mono hl⟩, ⟨h3.1, h3.2.mono hl⟩⟩
  len := fun ⟨_, _, _, _, _, _, _, _, e, _⟩ => by rw [e]; rfl
  one := fun ⟨_, _, _, _, _, _, _, _, e, _⟩ u hu => by rw [e] at hu; exact one_cons rfl (one_cons rfl (one_cons rfl (one_cons rfl (one_cons rfl one_nil)))) u hu
theorem list5 {cs : List Value} (h : cs.length = 5) {a b c d e : Value} (h0 : (cs.drop 0).take 1 = [a]) (h1 : (cs.drop 1).take 1 = [b]) (h2 : (cs.drop 2).take 1 = [c]) (h3 : (cs.drop 3).take 1 = [d]) (h4 : (cs.drop 4).take 1 = [e]) : cs = [a, b, c, d, e] := by
  match cs, h with
  | [x0, x1, x2, x3, x4], _ => simp at h0 h1 h2 h3 h4; simp [h0, h1, h2, h3, h4]
theorem Opens.mach {t0 t1 t2 t3 t4 : TypeId} (h0 : fieldInfo P t 0 = some (0, t0)) (h1 : fieldInfo P t 1 = some (1, t1)) (h2 : fieldInfo P t 2 = some (2, t2)) (h3 : fieldInfo P t 3 = some (3, t3)) (h4 : fieldInfo P t 4 = some (4, t4)) (hc : P.cellsOf t = 5) (c0 : P.cellsOf t0 = 1) (c1 : P.cellsOf t1 = 1) (c2 : P.cellsOf t2 = 1) (c3 : P.cellsOf t3 = 1) (c4 : P.cellsOf t4 = 1)
    (o0 : Opens P kSpot.slice t0) (o1 : Opens P (Kd.int .i64).slice t1) (o2 : Opens P (Kd.int .i64).slice.slice t2) (o3 : Opens P Kd.bool.slice t3) (o4 : Opens P Kd.bool t4) : Opens P kMach t := fun h => by
  obtain ⟨m0, A0, d0, e0, b0, b0', l0⟩ := trod_field h0 c0 o0 h
  obtain ⟨m1, A1, d1, e1, b1, b1', l1⟩ := trod_field h1 c1 o1 h
  obtain ⟨m2, A2, d2, e2, b2, b2', l2⟩ := trod_field h2 c2 o2 h
  obtain ⟨m3, A3, d3, e3, b3, b3', l3⟩ := trod_field h3 c3 o3 h
  obtain ⟨m4, e4, _⟩ := trod_field h4 c4 o4 h
  have hl := trod_len h0 h
  rw [hc] at hl
  exact ⟨⟨m0, m1, m2, m3, m4⟩, A0, d0, A1, d1, A2, d2, A3, d3, list5 hl e0 e1 e2 e3 e4, ⟨⟨b0, b0'⟩, l0⟩, ⟨⟨b1, b1'⟩, l1⟩, ⟨⟨b2, b2'⟩, l2⟩, ⟨b3, b3'⟩, l3⟩
end
end Gx
namespace Go.Proofs.YtfoemogojbnfhaaDoor
open Go Go.ChangeShapes Go.WideShapes Go.ChangeAt Go.RowKit Gx
set_option linter.unusedVariables false
theorem own : ownKnob Tryd.prog.godebug = none := by kernel_rfl
theorem laidOut : laidOutB Tryd.prog = true := by kernel_rfl
def laid : List (String × DataW Unit) := [("math/bits.deBruijn64tab", Rows.laid_math_bits_deBruijn64tab)]
theorem gTab : Tryd.prog.globalNamed "math/bits.deBruijn64tab" = some 0 := by kernel_rfl
theorem tTab : (Tryd.prog.globals[0]?).map (·.type) = some 222 := by kernel_rfl
theorem door_met (os : Os) (args : Array Value) : laidMetH Tryd.prog laid ((World.doorLaid Tryd.prog 4000 os).forCall (fun _ _ => 0) ⟨#[], args, []⟩).memory :=
  laidMetH_of_parts3 (fuel := 8) (laidMet_of_run' 8 (by kernel_rfl) (by kernel_rfl)) (by kernel_rfl) (by kernel_rfl)
set_option maxRecDepth 20000 in
theorem tab_of_laid {W : World} (h : laidMetH Tryd.prog laid W) : Block 0 tzTab W := by
  rw [MakeChecks.laidMetH_plain _ _ _ (by kernel_rfl)] at h
  obtain ⟨ps, ⟨g0, t0, cs0, f0, p0, q0, hg0, ht0, hv0, hd0, _⟩, _, _⟩ := h
  obtain rfl := Option.some.inj (gTab.symm.trans hg0)
  obtain rfl := Option.some.inj (tTab.symm.trans ht0)
  obtain ⟨xs, m, _, hx, hl, hn, hel⟩ := DataW.trod_array (n := 64) (e := 5) (by kernel_rfl) hd0
  have c5 : Tryd.prog.cellsOf 5 = 1 := by kernel_rfl
  have c70 : Tryd.prog.cellsOf 222 = 64 := by kernel_rfl
  rw [c70] at hl
  intro j hj
  have hj64 : j < 64 := hj
  rw [World.var?_cell hg0 hv0 j]
  have h2 := hel j hj64
  rw [c5, Nat.mul_one, List.getElem?_eq_getElem (by omega)] at h2
  obtain ⟨z, hz, hzx, _⟩ := DataW.trod_int (k := .u8) (by kernel_rfl) h2
  have h3 := congrArg (fun l : List Value => l[0]?) hz
  simp only [List.getElem?_take, List.getElem?_drop, List.getElem?_cons_zero, Nat.add_zero] at h3
  have h4 : cs0[j]? = some (.int .u8 z) := by rw [← Array.getElem?_toList]; simpa using h3
  rw [h4]
  simp only [Prod.mk.injEq] at hx
  have h6 : (xs.map (·.1))[j]? = some (.lit (.int .u8 z)) := by rw [List.getElem?_map, List.getElem?_eq_getElem (by omega), Option.map_some, hzx]
  have h7 : Rows.laid_math_bits_deBruijn64tab (H := Unit) = .agg (tzTab.map fun v => match v with | .int k n => .lit (.int k n) | _ => .nil) := by kernel_rfl
  rw [h7] at hx
  injection hx.1 with h8
  rw [← h8] at h6
  have h9 : ∀ j, j < 64 → ∃ n, tzTab[j]? = some (.int .u8 n) := fun j hj => ⟨_, by unfold tzTab; rw [List.getElem?_map, List.getElem?_eq_getElem (by exact hj)]; rfl⟩
  obtain ⟨n, hn9⟩ := h9 j hj64
  rw [List.getElem?_map, hn9] at h6
  simp at h6
  rw [hn9, h6]
end Go.Proofs.YtfoemogojbnfhaaDoor
