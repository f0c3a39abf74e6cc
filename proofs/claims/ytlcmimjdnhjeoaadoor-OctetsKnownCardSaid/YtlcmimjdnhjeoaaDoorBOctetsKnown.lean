/- The law OctetsKnown, walked: it tells true at every input, and writes nothing that was there. -/
import Derived.Test.YtlcmimjdnhjeoaaDoorB0
namespace Go.Proofs.YtlcmimjdnhjeoaaDoor
open Go Go.RowKit Gx
set_option maxHeartbeats 1000000
set_option linter.unusedVariables false
set_option linter.unusedSimpArgs false
attribute [local irreducible] members pack listOf count first someIn has setOf setRange wbits Lib.ctz

theorem octetsKnown_calls (w : World) (tb : Block 0 tzTab w) :
    Calls Tryd.prog 5 #[] w fun e w' => ∃ v, e = .returned v ∧ ∃ (hn : Ghost), St w.heap.size w hn w' [] ∧ v = .bool true := by
  refine calls_of_run Tryd.func5 rfl Tryd.ntmps5 rfl ?_
  have S0 := St.init w
  refine run_seq ?_
  refine run_reg (l := [0]) rfl ?_
  refine p_v (v := .bool false) rfl rfl rfl (x_assign rfl) ?_
  refine run_region_end ?_
  refine run_seq ?_
  refine run_reg (l := [0, 1, 2]) rfl ?_
  refine p_c rfl rfl rfl (y_call (args := [.int .u8 99, .int .u8 97]) c20 rfl rfl) (range_calls w 99 (in_u8 (by first | omega | (simp; omega) | assumption) (by first | omega | (simp; omega) | assumption)) 97 (in_u8 (by first | omega | (simp; omega) | assumption) (by first | omega | (simp; omega) | assumption))) ?_
  rintro _ w1 ⟨h1, T1, rfl⟩
  have S2 : St w.heap.size w (fun _ => none) w1 [] := S0.keep (Chg.of_below T1.below)
  obtain ⟨b3, w3, r3, g3, T3⟩ := e_box (P := Tryd.prog) S2 27 (v := (.agg #[.int .u64 0, .int .u64 0, .int .u64 0, .int .u64 0])) (encSet (0 : BSet)) rfl
  have S4 : St w.heap.size w (fun _ => none) w3 [box b3 27 (encSet (0 : BSet))] := T3
  refine p_v (v := .pointer (some ⟨b3, 0, none⟩)) rfl rfl rfl (x_alloc t27 r3) ?_
  obtain ⟨w5, r5, g5, T5⟩ := e_store (P := Tryd.prog) (off := 0) (v := .agg (encSet (setRange 99 97)).toArray) (vs := (encSet (setRange 99 97))) S4 t27 rfl rfl (j := 0) rfl (by decide) (encSet_one _)
  have S6 : St w.heap.size w (fun _ => none) w5 [box b3 27 (encSet (setRange 99 97))] := T5
  refine p_s rfl rfl (x_store rfl rfl r5) ?_
  refine run_region_end ?_
  refine run_seq ?_
  refine run_reg (l := [0, 1, 2, 3, 4, 5, 6]) rfl ?_
  refine p_v (v := .agg (encSet (setRange 99 97)).toArray) rfl rfl rfl (x_load (seg := (encSet (setRange 99 97))) t27 rfl (by simp) rfl (CF.box (m := 4) (S6.box_at (j := 0) rfl) (cs := (encSet (setRange 99 97))) rfl)) ?_
  refine p_c rfl rfl rfl (y_call (args := [.agg (encSet (setRange 99 97)).toArray]) c19 rfl rfl) (first_calls w5 (setRange 99 97) (Block.st S6 tb)) ?_
  rintro _ w7 ⟨h7, T7, rfl, in7_0⟩
  have S8 : St w.heap.size w (fun _ => none) w7 [box b3 27 (encSet (setRange 99 97))] := S6.keep (Chg.of_below T7.below)
  have lo_in7_0 := u8_lo in7_0; have hi_in7_0 := u8_hi in7_0
  refine p_v (v := .tuple #[.int .u8 (first (setRange 99 97)), .bool (someIn (setRange 99 97))]) rfl rfl rfl (x_move rfl) ?_
  refine p_v (v := .int .u8 (first (setRange 99 97))) rfl rfl rfl (x_extract (vs := [.int .u8 (first (setRange 99 97)), .bool (someIn (setRange 99 97))]) rfl rfl) ?_
  refine p_v (v := .bool (someIn (setRange 99 97))) rfl rfl rfl (x_extract (vs := [.int .u8 (first (setRange 99 97)), .bool (someIn (setRange 99 97))]) rfl rfl) ?_
  refine p_v (v := .int .u8 (first (setRange 99 97))) rfl rfl rfl (x_assign rfl) ?_
  refine p_v (v := .bool (someIn (setRange 99 97))) rfl rfl rfl (x_assign rfl) ?_
  refine run_region_end ?_
  refine run_seq ?_
  refine run_reg (l := [0, 1, 2, 3, 4, 5, 6]) rfl ?_
  refine p_c rfl rfl rfl (y_call (args := [.int .u8 200, .int .u8 255]) c20 rfl rfl) (range_calls w7 200 (in_u8 (by first | omega | (simp; omega) | assumption) (by first | omega | (simp; omega) | assumption)) 255 (in_u8 (by first | omega | (simp; omega) | assumption) (by first | omega | (simp; omega) | assumption))) ?_
  rintro _ w9 ⟨h9, T9, rfl⟩
  have S10 : St w.heap.size w (fun _ => none) w9 [box b3 27 (encSet (setRange 99 97))] := S8.keep (Chg.of_below T9.below)
  refine p_c rfl rfl rfl (y_call (args := [.agg (encSet (setRange 200 255)).toArray]) c19 rfl rfl) (first_calls w9 (setRange 200 255) (Block.st S10 tb)) ?_
  rintro _ w11 ⟨h11, T11, rfl, in11_0⟩
  have S12 : St w.heap.size w (fun _ => none) w11 [box b3 27 (encSet (setRange 99 97))] := S10.keep (Chg.of_below T11.below)
  have lo_in11_0 := u8_lo in11_0; have hi_in11_0 := u8_hi in11_0
  refine p_v (v := .tuple #[.int .u8 (first (setRange 200 255)), .bool (someIn (setRange 200 255))]) rfl rfl rfl (x_move rfl) ?_
  refine p_v (v := .int .u8 (first (setRange 200 255))) rfl rfl rfl (x_extract (vs := [.int .u8 (first (setRange 200 255)), .bool (someIn (setRange 200 255))]) rfl rfl) ?_
  refine p_v (v := .bool (someIn (setRange 200 255))) rfl rfl rfl (x_extract (vs := [.int .u8 (first (setRange 200 255)), .bool (someIn (setRange 200 255))]) rfl rfl) ?_
  refine p_v (v := .int .u8 (first (setRange 200 255))) rfl rfl rfl (x_assign rfl) ?_
  refine p_v (v := .bool (someIn (setRange 200 255))) rfl rfl rfl (x_assign rfl) ?_
  refine run_region_end ?_
  refine run_seq ?_
  have hc13 : ((setRange 99 97) = (0 : BSet)) := by
    decide +kernel
  have hc14 : ((first (setRange 99 97)) = 0) := by
    decide +kernel
  have hc15 : (someIn (setRange 99 97)) = false := by
    decide +kernel
  have hc16 : ((first (setRange 200 255)) = 200) := by
    decide +kernel
  have hc17 : (someIn (setRange 200 255)) = true := by
    decide +kernel
  have hf20 : (CFs ⟨b3, 0, none⟩ (encSet (setRange 99 97))).1 w11 := (CF.box (m := 4) (S12.box_at (j := 0) rfl) (cs := (encSet (setRange 99 97))) rfl)
  refine da_start [(0, CFs ⟨b3, 0, none⟩ (encSet (setRange 99 97)))] 50 rfl mixed ?_
  intro wd21 gd21 hd21
  have S22 : St w.heap.size w (fun _ => none) wd21 [box b3 27 (encSet (setRange 99 97))] := S12.keep gd21
  have hf23 := (CFs ⟨b3, 0, none⟩ (encSet (setRange 99 97))).2 _ _ gd21 hf20
  refine d_q (i := 0) (v := .agg (encSet (setRange 99 97)).toArray) (CF ⟨b3, 0, none⟩ (encSet (setRange 99 97))) (fun _ ho => ho _ (List.mem_of_getElem? (i := 0) rfl) rfl) rfl (by decide +kernel) (by decide +kernel) (by decide +kernel) rfl rfl (fun wq hq => (x_load (seg := (encSet (setRange 99 97))) t27 rfl (by simp) rfl hq)) (of_eq hf23 (of_nil _ _)) ?_
  refine d_q (i := 1) (v := .agg (encSet (0 : BSet)).toArray) (fun _ => True) (fun _ ho => trivial) rfl (by decide +kernel) (by decide +kernel) (by decide +kernel) rfl rfl (fun wq hq => (y_build (pv := []) rfl (run_build_array u27 t25 t27 (cs := (encSet (0 : BSet))) (by rfl)))) (of_ne rfl (of_nil _ _)) ?_
  refine d_q (i := 2) (v := .bool (decide ((setRange 99 97) = (0 : BSet)))) (fun _ => True) (fun _ ho => trivial) rfl (by decide +kernel) (by decide +kernel) (by decide +kernel) rfl rfl (fun wq hq => (x_eql_set u27 u25 t25 q27 rfl rfl)) (of_ne rfl (of_nil _ _)) ?_
  refine d_q (i := 3) (v := .bool (decide ((setRange 99 97) = (0 : BSet)))) (fun _ => True) (fun _ ho => trivial) rfl (by decide +kernel) (by decide +kernel) (by decide +kernel) rfl rfl (fun wq hq => (x_move rfl)) (of_ne rfl (of_nil _ _)) ?_
  refine d_q (i := 4) (v := .int .u8 (first (setRange 99 97))) (fun _ => True) (fun _ ho => trivial) rfl (by decide +kernel) (by decide +kernel) (by decide +kernel) (wanted_of (j := 3) (want := true) (d := 20) (b := true) rfl rfl (congrArg Value.bool (decide_eq_true hc13)) rfl) rfl (fun wq hq => (x_move rfl)) (of_ne rfl (of_nil _ _)) ?_
  refine d_q (i := 5) (v := .bool (decide ((first (setRange 99 97)) = 0))) (fun _ => True) (fun _ ho => trivial) rfl (by decide +kernel) (by decide +kernel) (by decide +kernel) (wanted_of (j := 3) (want := true) (d := 20) (b := true) rfl rfl (congrArg Value.bool (decide_eq_true hc13)) rfl) rfl (fun wq hq => (x_eql rfl rfl)) (of_ne rfl (of_nil _ _)) ?_
  refine d_q (i := 6) (v := .bool (decide ((first (setRange 99 97)) = 0))) (fun _ => True) (fun _ ho => trivial) rfl (by decide +kernel) (by decide +kernel) (by decide +kernel) rfl rfl (fun wq hq => (x_pick_t (congrArg Value.bool (decide_eq_true hc13)) rfl)) (of_ne rfl (of_nil _ _)) ?_
  refine d_q (i := 7) (v := .bool (decide ((first (setRange 99 97)) = 0))) (fun _ => True) (fun _ ho => trivial) rfl (by decide +kernel) (by decide +kernel) (by decide +kernel) rfl rfl (fun wq hq => (x_move rfl)) (of_ne rfl (of_nil _ _)) ?_
  refine d_q (i := 8) (v := .bool (someIn (setRange 99 97))) (fun _ => True) (fun _ ho => trivial) rfl (by decide +kernel) (by decide +kernel) (by decide +kernel) (wanted_of (j := 7) (want := true) (d := 24) (b := true) rfl rfl (congrArg Value.bool (decide_eq_true hc14)) rfl) rfl (fun wq hq => (x_move rfl)) (of_ne rfl (of_nil _ _)) ?_
  refine d_q (i := 9) (v := .bool (!(someIn (setRange 99 97)))) (fun _ => True) (fun _ ho => trivial) rfl (by decide +kernel) (by decide +kernel) (by decide +kernel) (wanted_of (j := 7) (want := true) (d := 24) (b := true) rfl rfl (congrArg Value.bool (decide_eq_true hc14)) rfl) rfl (fun wq hq => (x_not rfl)) (of_ne rfl (of_nil _ _)) ?_
  refine d_q (i := 10) (v := .bool (!(someIn (setRange 99 97)))) (fun _ => True) (fun _ ho => trivial) rfl (by decide +kernel) (by decide +kernel) (by decide +kernel) rfl rfl (fun wq hq => (x_pick_t (congrArg Value.bool (decide_eq_true hc14)) rfl)) (of_ne rfl (of_nil _ _)) ?_
  refine d_q (i := 11) (v := .bool (!(someIn (setRange 99 97)))) (fun _ => True) (fun _ ho => trivial) rfl (by decide +kernel) (by decide +kernel) (by decide +kernel) rfl rfl (fun wq hq => (x_move rfl)) (of_ne rfl (of_nil _ _)) ?_
  refine d_q (i := 12) (v := .int .u8 (first (setRange 200 255))) (fun _ => True) (fun _ ho => trivial) rfl (by decide +kernel) (by decide +kernel) (by decide +kernel) (wanted_of (j := 11) (want := true) (d := 28) (b := true) rfl rfl (congrArg (fun z => Value.bool (!z)) hc15) rfl) rfl (fun wq hq => (x_move rfl)) (of_ne rfl (of_nil _ _)) ?_
  refine d_q (i := 13) (v := .bool (decide ((first (setRange 200 255)) = 200))) (fun _ => True) (fun _ ho => trivial) rfl (by decide +kernel) (by decide +kernel) (by decide +kernel) (wanted_of (j := 11) (want := true) (d := 28) (b := true) rfl rfl (congrArg (fun z => Value.bool (!z)) hc15) rfl) rfl (fun wq hq => (x_eql rfl rfl)) (of_ne rfl (of_nil _ _)) ?_
  refine d_q (i := 14) (v := .bool (decide ((first (setRange 200 255)) = 200))) (fun _ => True) (fun _ ho => trivial) rfl (by decide +kernel) (by decide +kernel) (by decide +kernel) rfl rfl (fun wq hq => (x_pick_t (congrArg (fun z => Value.bool (!z)) hc15) rfl)) (of_ne rfl (of_nil _ _)) ?_
  refine d_q (i := 15) (v := .bool (decide ((first (setRange 200 255)) = 200))) (fun _ => True) (fun _ ho => trivial) rfl (by decide +kernel) (by decide +kernel) (by decide +kernel) rfl rfl (fun wq hq => (x_move rfl)) (of_ne rfl (of_nil _ _)) ?_
  refine d_q (i := 16) (v := .bool (someIn (setRange 200 255))) (fun _ => True) (fun _ ho => trivial) rfl (by decide +kernel) (by decide +kernel) (by decide +kernel) (wanted_of (j := 15) (want := true) (d := 32) (b := true) rfl rfl (congrArg Value.bool (decide_eq_true hc16)) rfl) rfl (fun wq hq => (x_move rfl)) (of_ne rfl (of_nil _ _)) ?_
  refine d_q (i := 17) (v := .bool (someIn (setRange 200 255))) (fun _ => True) (fun _ ho => trivial) rfl (by decide +kernel) (by decide +kernel) (by decide +kernel) rfl rfl (fun wq hq => (x_pick_t (congrArg Value.bool (decide_eq_true hc16)) rfl)) (of_ne rfl (of_nil _ _)) ?_
  refine d_q (i := 18) (v := .bool (someIn (setRange 200 255))) (fun _ => True) (fun _ ho => trivial) rfl (by decide +kernel) (by decide +kernel) (by decide +kernel) rfl rfl (fun wq hq => (x_move rfl)) (of_ne rfl (of_nil _ _)) ?_
  refine d_m (i := 19) (v := .agg (encSet (setRange 1 255)).toArray) (fun _ => True) (fun _ ho => trivial) rfl (by decide +kernel) (by decide +kernel) (by decide +kernel) (wanted_of (j := 18) (want := true) (d := 35) (b := true) rfl rfl (congrArg Value.bool hc17) rfl) rfl (fun wq => (y_call (args := [.int .u8 1, .int .u8 255]) c20 rfl rfl)) (fun wq hq => (range_calls wq 1 (in_u8 (by first | omega | (simp; omega) | assumption) (by first | omega | (simp; omega) | assumption)) 255 (in_u8 (by first | omega | (simp; omega) | assumption) (by first | omega | (simp; omega) | assumption))).mono fun e w2 he => by obtain ⟨_, rfl, _, T, rfl⟩ := he; exact ⟨rfl, Chg.of_below T.below⟩) (of_ne rfl (of_nil _ _)) ?_
  refine d_m (i := 20) (v := .agg (encSet (~~~ (setRange 1 255))).toArray) (fun _ => True) (fun _ ho => trivial) rfl (by decide +kernel) (by decide +kernel) (by decide +kernel) (wanted_of (j := 18) (want := true) (d := 35) (b := true) rfl rfl (congrArg Value.bool hc17) rfl) rfl (fun wq => (y_call (args := [.agg (encSet (setRange 1 255)).toArray]) c21 rfl rfl)) (fun wq hq => (not_calls wq (setRange 1 255)).mono fun e w2 he => by obtain ⟨_, rfl, _, T, rfl⟩ := he; exact ⟨rfl, Chg.of_below T.below⟩) (of_ne rfl (of_nil _ _)) ?_
  refine ra_one (i := 21) (by decide +kernel) ?_
  intro wd24 gd24
  have S25 : St w.heap.size w (fun _ => none) wd24 [box b3 27 (encSet (setRange 99 97))] := S22.keep gd24
  have hf26 := (CFs ⟨b3, 0, none⟩ (encSet (setRange 99 97))).2 _ _ gd24 hf23
  obtain ⟨v27, w27, r27, g27, T27⟩ := e_build_ones (kd := (Kd.int .u8)) (xs := ([0] : List Int)) (len := 1) [.int .u8 0] S25 u22 t5 rfl rfl rfl rfl rfl (ones_cons rfl ones_nil) [.int .u8 0] (Elems.single (k := (Kd.int .u8)) (h := (fun _ => none)) (x := 0) (cs := [.int .u8 0]) ⟨rfl, (in_u8 (by first | omega | (simp; omega) | assumption) (by first | omega | (simp; omega) | assumption))⟩) rfl
  have S28 : St w.heap.size w (fun _ => none) w27 [box b3 27 (encSet (setRange 99 97)), row 5 (Kd.int .u8) v27 ([0] : List Int)] := T27
  have hf29 := (CFs ⟨b3, 0, none⟩ (encSet (setRange 99 97))).2 _ _ g27 hf26
  refine d_v (v := v27) rfl (wanted_of (j := 18) (want := true) (d := 35) (b := true) rfl rfl (congrArg Value.bool hc17) rfl) rfl (y_build_slice (pv := [(0, .int .u8 0)]) rfl r27) (.inl g27) ?_
  refine ra_one (i := 22) (by decide +kernel) ?_
  intro wd30 gd30
  have S31 : St w.heap.size w (fun _ => none) wd30 [box b3 27 (encSet (setRange 99 97)), row 5 (Kd.int .u8) v27 ([0] : List Int)] := S28.keep gd30
  have hf32 := (CFs ⟨b3, 0, none⟩ (encSet (setRange 99 97))).2 _ _ gd30 hf29
  obtain ⟨A33, c33, ev33, lc33, cm33⟩ := S31.row_val (j := 1) rfl
  refine d_c rfl (wanted_of (j := 18) (want := true) (d := 35) (b := true) rfl rfl (congrArg Value.bool hc17) rfl) rfl (y_call (args := [.slice A33 ([0] : List Int).length c33]) c14 rfl (cons_eq ev33 rfl)) (of_calls wd30 ([0] : List Int) A33 c33 ⟨lc33, cm33⟩ (row_leads_eq S31 (j := 1) rfl ev33)) ?_
  rintro _ w34 ⟨h34, T34, rfl⟩
  have S35 : St w.heap.size w (fun _ => none) w34 [box b3 27 (encSet (setRange 99 97)), row 5 (Kd.int .u8) v27 ([0] : List Int)] := S31.keep (Chg.of_below T34.below)
  have hf36 := (CFs ⟨b3, 0, none⟩ (encSet (setRange 99 97))).2 _ _ (Chg.of_below T34.below) hf32
  refine ⟨.inl (Chg.of_below T34.below), ?_⟩
  have hc37 : ((~~~ (setRange 1 255)) = (setOf ([0] : List Int))) := by
    decide +kernel
  obtain ⟨_, _, _, _, _, _, _, in39_0⟩ := calls_some (count_calls w34 (~~~ 0 : BSet))
  have lo_in39_0 := i64_lo in39_0; have hi_in39_0 := i64_hi in39_0
  have cl39 := count_le (~~~ 0 : BSet)
  have hc40 : ((count (~~~ 0 : BSet)) = 256) := by
    decide +kernel
  have hc43 : ((setRange 0 255) = (~~~ 0 : BSet)) := by
    decide +kernel
  have hc45 : ((setOf ([] : List Int)) = (setRange 99 97)) := by
    decide +kernel
  have hf46 : (CFs ⟨b3, 0, none⟩ (encSet (setRange 99 97))).1 w34 := (CF.box (m := 4) (S35.box_at (j := 0) rfl) (cs := (encSet (setRange 99 97))) rfl)
  have hf47 : (CFs ⟨b3, 0, none⟩ (encSet (setRange 99 97))).1 w34 := (CF.box (m := 4) (S35.box_at (j := 0) rfl) (cs := (encSet (setRange 99 97))) rfl)
  refine ra_more [(37, CFs ⟨b3, 0, none⟩ (encSet (setRange 99 97))), (41, CFs ⟨b3, 0, none⟩ (encSet (setRange 99 97)))] ?_
  refine d_q (i := 23) (v := .bool (decide ((~~~ (setRange 1 255)) = (setOf ([0] : List Int))))) (fun _ => True) (fun _ ho => trivial) rfl (by decide +kernel) (by decide +kernel) (by decide +kernel) (wanted_of (j := 18) (want := true) (d := 35) (b := true) rfl rfl (congrArg Value.bool hc17) rfl) rfl (fun wq hq => (x_eql_set u27 u25 t25 q27 rfl rfl)) (of_ne rfl (of_ne rfl (of_ne rfl (of_nil _ _)))) ?_
  refine d_q (i := 24) (v := .bool (decide ((~~~ (setRange 1 255)) = (setOf ([0] : List Int))))) (fun _ => True) (fun _ ho => trivial) rfl (by decide +kernel) (by decide +kernel) (by decide +kernel) rfl rfl (fun wq hq => (x_pick_t (congrArg Value.bool hc17) rfl)) (of_ne rfl (of_ne rfl (of_ne rfl (of_nil _ _)))) ?_
  refine d_q (i := 25) (v := .bool (decide ((~~~ (setRange 1 255)) = (setOf ([0] : List Int))))) (fun _ => True) (fun _ ho => trivial) rfl (by decide +kernel) (by decide +kernel) (by decide +kernel) rfl rfl (fun wq hq => (x_move rfl)) (of_ne rfl (of_ne rfl (of_ne rfl (of_nil _ _)))) ?_
  refine d_m (i := 26) (v := .agg (encSet (~~~ 0 : BSet)).toArray) (fun _ => True) (fun _ ho => trivial) rfl (by decide +kernel) (by decide +kernel) (by decide +kernel) (wanted_of (j := 25) (want := true) (d := 42) (b := true) rfl rfl (congrArg Value.bool (decide_eq_true hc37)) rfl) rfl (fun wq => (y_call (args := []) c22 rfl rfl)) (fun wq hq => (all_calls wq ).mono fun e w2 he => by obtain ⟨_, rfl, _, T, rfl⟩ := he; exact ⟨rfl, Chg.of_below T.below⟩) (of_ne rfl (of_ne rfl (of_ne rfl (of_nil _ _)))) ?_
  refine d_m (i := 27) (v := .int .i64 (count (~~~ 0 : BSet))) (fun _ => True) (fun _ ho => trivial) rfl (by decide +kernel) (by decide +kernel) (by decide +kernel) (wanted_of (j := 25) (want := true) (d := 42) (b := true) rfl rfl (congrArg Value.bool (decide_eq_true hc37)) rfl) rfl (fun wq => (y_call (args := [.agg (encSet (~~~ 0 : BSet)).toArray]) c17 rfl rfl)) (fun wq hq => (count_calls wq (~~~ 0 : BSet)).mono fun e w2 he => by obtain ⟨_, rfl, _, T, rfl, _⟩ := he; exact ⟨rfl, Chg.of_below T.below⟩) (of_ne rfl (of_ne rfl (of_ne rfl (of_nil _ _)))) ?_
  refine d_q (i := 28) (v := .bool (decide ((count (~~~ 0 : BSet)) = 256))) (fun _ => True) (fun _ ho => trivial) rfl (by decide +kernel) (by decide +kernel) (by decide +kernel) (wanted_of (j := 25) (want := true) (d := 42) (b := true) rfl rfl (congrArg Value.bool (decide_eq_true hc37)) rfl) rfl (fun wq hq => (x_eql rfl rfl)) (of_ne rfl (of_ne rfl (of_ne rfl (of_nil _ _)))) ?_
  refine d_q (i := 29) (v := .bool (decide ((count (~~~ 0 : BSet)) = 256))) (fun _ => True) (fun _ ho => trivial) rfl (by decide +kernel) (by decide +kernel) (by decide +kernel) rfl rfl (fun wq hq => (x_pick_t (congrArg Value.bool (decide_eq_true hc37)) rfl)) (of_ne rfl (of_ne rfl (of_ne rfl (of_nil _ _)))) ?_
  refine d_q (i := 30) (v := .bool (decide ((count (~~~ 0 : BSet)) = 256))) (fun _ => True) (fun _ ho => trivial) rfl (by decide +kernel) (by decide +kernel) (by decide +kernel) rfl rfl (fun wq hq => (x_move rfl)) (of_ne rfl (of_ne rfl (of_ne rfl (of_nil _ _)))) ?_
  refine d_m (i := 31) (v := .agg (encSet (setRange 0 255)).toArray) (fun _ => True) (fun _ ho => trivial) rfl (by decide +kernel) (by decide +kernel) (by decide +kernel) (wanted_of (j := 30) (want := true) (d := 47) (b := true) rfl rfl (congrArg Value.bool (decide_eq_true hc40)) rfl) rfl (fun wq => (y_call (args := [.int .u8 0, .int .u8 255]) c20 rfl rfl)) (fun wq hq => (range_calls wq 0 (in_u8 (by first | omega | (simp; omega) | assumption) (by first | omega | (simp; omega) | assumption)) 255 (in_u8 (by first | omega | (simp; omega) | assumption) (by first | omega | (simp; omega) | assumption))).mono fun e w2 he => by obtain ⟨_, rfl, _, T, rfl⟩ := he; exact ⟨rfl, Chg.of_below T.below⟩) (of_ne rfl (of_ne rfl (of_ne rfl (of_nil _ _)))) ?_
  refine d_m (i := 32) (v := .agg (encSet (~~~ 0 : BSet)).toArray) (fun _ => True) (fun _ ho => trivial) rfl (by decide +kernel) (by decide +kernel) (by decide +kernel) (wanted_of (j := 30) (want := true) (d := 47) (b := true) rfl rfl (congrArg Value.bool (decide_eq_true hc40)) rfl) rfl (fun wq => (y_call (args := []) c22 rfl rfl)) (fun wq hq => (all_calls wq ).mono fun e w2 he => by obtain ⟨_, rfl, _, T, rfl⟩ := he; exact ⟨rfl, Chg.of_below T.below⟩) (of_ne rfl (of_ne rfl (of_ne rfl (of_nil _ _)))) ?_
  refine d_q (i := 33) (v := .bool (decide ((setRange 0 255) = (~~~ 0 : BSet)))) (fun _ => True) (fun _ ho => trivial) rfl (by decide +kernel) (by decide +kernel) (by decide +kernel) (wanted_of (j := 30) (want := true) (d := 47) (b := true) rfl rfl (congrArg Value.bool (decide_eq_true hc40)) rfl) rfl (fun wq hq => (x_eql_set u27 u25 t25 q27 rfl rfl)) (of_ne rfl (of_ne rfl (of_ne rfl (of_nil _ _)))) ?_
  refine d_q (i := 34) (v := .bool (decide ((setRange 0 255) = (~~~ 0 : BSet)))) (fun _ => True) (fun _ ho => trivial) rfl (by decide +kernel) (by decide +kernel) (by decide +kernel) rfl rfl (fun wq hq => (x_pick_t (congrArg Value.bool (decide_eq_true hc40)) rfl)) (of_ne rfl (of_ne rfl (of_ne rfl (of_nil _ _)))) ?_
  refine d_q (i := 35) (v := .bool (decide ((setRange 0 255) = (~~~ 0 : BSet)))) (fun _ => True) (fun _ ho => trivial) rfl (by decide +kernel) (by decide +kernel) (by decide +kernel) rfl rfl (fun wq hq => (x_move rfl)) (of_ne rfl (of_ne rfl (of_ne rfl (of_nil _ _)))) ?_
  refine d_m (i := 36) (v := .agg (encSet (setOf ([] : List Int))).toArray) (fun _ => True) (fun _ ho => trivial) rfl (by decide +kernel) (by decide +kernel) (by decide +kernel) (wanted_of (j := 35) (want := true) (d := 52) (b := true) rfl rfl (congrArg Value.bool (decide_eq_true hc43)) rfl) rfl (fun wq => (y_call (args := [.slice none 0 0]) c14 rfl rfl)) (fun wq hq => (of_calls wq ([] : List Int) none 0 (by simp [maxLen]) (leads_nil _ _)).mono fun e w2 he => by obtain ⟨_, rfl, _, T, rfl⟩ := he; exact ⟨rfl, Chg.of_below T.below⟩) (of_ne rfl (of_ne rfl (of_ne rfl (of_nil _ _)))) ?_
  refine d_q (i := 37) (v := .agg (encSet (setRange 99 97)).toArray) (CF ⟨b3, 0, none⟩ (encSet (setRange 99 97))) (fun _ ho => ho _ (List.mem_of_getElem? (i := 0) rfl) rfl) rfl (by decide +kernel) (by decide +kernel) (by decide +kernel) (wanted_of (j := 35) (want := true) (d := 52) (b := true) rfl rfl (congrArg Value.bool (decide_eq_true hc43)) rfl) rfl (fun wq hq => (x_load (seg := (encSet (setRange 99 97))) t27 rfl (by simp) rfl hq)) (of_eq hf46 (of_ne rfl (of_ne rfl (of_nil _ _)))) ?_
  refine d_q (i := 38) (v := .bool (decide ((setOf ([] : List Int)) = (setRange 99 97)))) (fun _ => True) (fun _ ho => trivial) rfl (by decide +kernel) (by decide +kernel) (by decide +kernel) (wanted_of (j := 35) (want := true) (d := 52) (b := true) rfl rfl (congrArg Value.bool (decide_eq_true hc43)) rfl) rfl (fun wq hq => (x_eql_set u27 u25 t25 q27 rfl rfl)) (of_ne rfl (of_ne rfl (of_ne rfl (of_nil _ _)))) ?_
  refine d_q (i := 39) (v := .bool (decide ((setOf ([] : List Int)) = (setRange 99 97)))) (fun _ => True) (fun _ ho => trivial) rfl (by decide +kernel) (by decide +kernel) (by decide +kernel) rfl rfl (fun wq hq => (x_pick_t (congrArg Value.bool (decide_eq_true hc43)) rfl)) (of_ne rfl (of_ne rfl (of_ne rfl (of_nil _ _)))) ?_
  refine d_q (i := 40) (v := .bool (decide ((setOf ([] : List Int)) = (setRange 99 97)))) (fun _ => True) (fun _ ho => trivial) rfl (by decide +kernel) (by decide +kernel) (by decide +kernel) rfl rfl (fun wq hq => (x_move rfl)) (of_ne rfl (of_ne rfl (of_ne rfl (of_nil _ _)))) ?_
  refine d_q (i := 41) (v := .agg (encSet (setRange 99 97)).toArray) (CF ⟨b3, 0, none⟩ (encSet (setRange 99 97))) (fun _ ho => ho _ (List.mem_of_getElem? (i := 1) rfl) rfl) rfl (by decide +kernel) (by decide +kernel) (by decide +kernel) (wanted_of (j := 40) (want := true) (d := 57) (b := true) rfl rfl (congrArg Value.bool (decide_eq_true hc45)) rfl) rfl (fun wq hq => (x_load (seg := (encSet (setRange 99 97))) t27 rfl (by simp) rfl hq)) (of_ne rfl (of_eq hf47 (of_ne rfl (of_nil _ _)))) ?_
  refine ra_one (i := 42) (by decide +kernel) ?_
  intro wd48 gd48
  have S49 : St w.heap.size w (fun _ => none) wd48 [box b3 27 (encSet (setRange 99 97)), row 5 (Kd.int .u8) v27 ([0] : List Int)] := S35.keep gd48
  have hf50 := (CFs ⟨b3, 0, none⟩ (encSet (setRange 99 97))).2 _ _ gd48 hf46
  have hf51 := (CFs ⟨b3, 0, none⟩ (encSet (setRange 99 97))).2 _ _ gd48 hf47
  have hf52 := (CFs ⟨b3, 0, none⟩ (encSet (setRange 99 97))).2 _ _ gd48 hf36
  refine d_c rfl (wanted_of (j := 40) (want := true) (d := 57) (b := true) rfl rfl (congrArg Value.bool (decide_eq_true hc45)) rfl) rfl (y_call (args := [.agg (encSet (setRange 99 97)).toArray]) c16 rfl rfl) (list_calls wd48 (setRange 99 97) (Block.st S49 tb)) ?_
  rintro v53_0 w53 ⟨h53, _, T53, rfl⟩
  obtain ⟨k53, lk53, ll53, U53⟩ := call_joins S49 T53
  have S54 : St w.heap.size w k53 w53 [box b3 27 (encSet (setRange 99 97)), row 5 (Kd.int .u8) v27 ([0] : List Int), row 5 (Kd.int .u8) v53_0 (listOf (setRange 99 97))] := U53
  have hf55 := (CFs ⟨b3, 0, none⟩ (encSet (setRange 99 97))).2 _ _ (Chg.of_below T53.below) hf50
  have hf56 := (CFs ⟨b3, 0, none⟩ (encSet (setRange 99 97))).2 _ _ (Chg.of_below T53.below) hf51
  have hf57 := (CFs ⟨b3, 0, none⟩ (encSet (setRange 99 97))).2 _ _ (Chg.of_below T53.below) hf52
  refine ⟨.inl (Chg.of_below T53.below), ?_⟩
  have lb58 := S54.row_le (j := 2) rfl; simp only [maxLen] at lb58
  have hc59 : (((listOf (setRange 99 97)).length : Int) = 0) := by
    decide +kernel
  have hf61 : (BlockS 0 tzTab).1 w53 := (Block.st S54 tb)
  refine ra_more [(47, BlockS 0 tzTab)] ?_
  refine d_q (i := 43) (v := .int .i64 ((listOf (setRange 99 97)).length : Int)) (fun _ => True) (fun _ ho => trivial) rfl (by decide +kernel) (by decide +kernel) (by decide +kernel) (wanted_of (j := 40) (want := true) (d := 57) (b := true) rfl rfl (congrArg Value.bool (decide_eq_true hc45)) rfl) rfl (fun wq hq => (x_len_own u22 rfl (e_len_own S54 (j := 2) rfl))) (of_ne rfl (of_ne rfl (of_ne rfl (of_ne rfl (of_nil _ _))))) ?_
  refine d_q (i := 44) (v := .bool (decide (((listOf (setRange 99 97)).length : Int) = 0))) (fun _ => True) (fun _ ho => trivial) rfl (by decide +kernel) (by decide +kernel) (by decide +kernel) (wanted_of (j := 40) (want := true) (d := 57) (b := true) rfl rfl (congrArg Value.bool (decide_eq_true hc45)) rfl) rfl (fun wq hq => (x_eql rfl rfl)) (of_ne rfl (of_ne rfl (of_ne rfl (of_ne rfl (of_nil _ _))))) ?_
  refine d_q (i := 45) (v := .bool (decide (((listOf (setRange 99 97)).length : Int) = 0))) (fun _ => True) (fun _ ho => trivial) rfl (by decide +kernel) (by decide +kernel) (by decide +kernel) rfl rfl (fun wq hq => (x_pick_t (congrArg Value.bool (decide_eq_true hc45)) rfl)) (of_ne rfl (of_ne rfl (of_ne rfl (of_ne rfl (of_nil _ _))))) ?_
  refine d_q (i := 46) (v := .bool (decide (((listOf (setRange 99 97)).length : Int) = 0))) (fun _ => True) (fun _ ho => trivial) rfl (by decide +kernel) (by decide +kernel) (by decide +kernel) rfl rfl (fun wq hq => (x_move rfl)) (of_ne rfl (of_ne rfl (of_ne rfl (of_ne rfl (of_nil _ _))))) ?_
  refine d_m (i := 47) (v := .bool true) (fun wf => Block 0 tzTab wf) (fun _ ho => ho _ (List.mem_of_getElem? (i := 0) rfl) rfl) rfl (by decide +kernel) (by decide +kernel) (by decide +kernel) (wanted_of (j := 46) (want := true) (d := 63) (b := true) rfl rfl (congrArg Value.bool (decide_eq_true hc59)) rfl) rfl (fun wq => (y_call (args := []) c13 rfl rfl)) (fun wq hq => (awake_calls wq hq).mono fun e w2 he => by obtain ⟨_, rfl, _, T, rfl⟩ := he; exact ⟨rfl, Chg.of_below T.below⟩) (of_eq hf61 (of_ne rfl (of_ne rfl (of_ne rfl (of_nil _ _))))) ?_
  refine d_q (i := 48) (v := .bool true) (fun _ => True) (fun _ ho => trivial) rfl (by decide +kernel) (by decide +kernel) (by decide +kernel) rfl rfl (fun wq hq => (x_pick_t (congrArg Value.bool (decide_eq_true hc59)) rfl)) (of_ne rfl (of_ne rfl (of_ne rfl (of_ne rfl (of_nil _ _))))) ?_
  refine d_q (i := 49) (v := .bool true) (fun _ => True) (fun _ ho => trivial) rfl (by decide +kernel) (by decide +kernel) (by decide +kernel) rfl rfl (fun wq hq => (x_assign rfl)) (of_ne rfl (of_ne rfl (of_ne rfl (of_ne rfl (of_nil _ _))))) ?_
  refine ra_done (by decide +kernel) ?_
  intro wd62 gd62
  have S63 : St w.heap.size w k53 wd62 [box b3 27 (encSet (setRange 99 97)), row 5 (Kd.int .u8) v27 ([0] : List Int), row 5 (Kd.int .u8) v53_0 (listOf (setRange 99 97))] := S54.keep gd62
  have hc64 : true = true := by
    decide +kernel
  refine run_ret Tryd.func5 (res1 rfl (res_tmp (v := .bool true) (congrArg Value.bool hc64))) ?_
  have q0 : (true : Bool) = true := rfl
  refine ⟨_, rfl, k53, ?_, ?_⟩
  · exact S63.sub [] (by decide) rfl _ rfl
  · rfl
end Go.Proofs.YtlcmimjdnhjeoaaDoor
