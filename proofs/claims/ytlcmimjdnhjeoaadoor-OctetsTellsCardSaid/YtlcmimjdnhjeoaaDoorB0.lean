/- The chapter's known sets: awake tells true, whenever the table stands where it was laid. -/
import Derived.Test.YtlcmimjdnhjeoaaDoorA
import Derived.Test.YtlcmimjdnhjeoaaDoorM7
namespace Go.Proofs.YtlcmimjdnhjeoaaDoor
open Go Go.RowKit Gx
set_option maxHeartbeats 1000000
set_option linter.unusedVariables false
set_option linter.unusedSimpArgs false
attribute [local irreducible] members pack listOf count first someIn has setOf setRange wbits Lib.ctz

theorem awake_calls (w : World) (tb : Block 0 tzTab w) :
    Calls Tryd.prog 13 #[] w fun e w' => ∃ v, e = .returned v ∧ ∃ (hn : Ghost), St w.heap.size w hn w' [] ∧ v = .bool true := by
  refine calls_of_run Tryd.func13 rfl Tryd.ntmps13 rfl ?_
  have S0 := St.init w
  refine run_seq ?_
  refine run_reg (l := [0]) rfl ?_
  refine p_v (v := .bool false) rfl rfl rfl (x_assign rfl) ?_
  refine run_region_end ?_
  refine run_seq ?_
  refine run_reg (l := [0, 1, 2]) rfl ?_
  refine p_c rfl rfl rfl (y_call (args := [.int .u8 97, .int .u8 99]) c20 rfl rfl) (range_calls w 97 (in_u8 (by first | omega | (simp; omega) | assumption) (by first | omega | (simp; omega) | assumption)) 99 (in_u8 (by first | omega | (simp; omega) | assumption) (by first | omega | (simp; omega) | assumption))) ?_
  rintro _ w1 ⟨h1, T1, rfl⟩
  have S2 : St w.heap.size w (fun _ => none) w1 [] := S0.keep (Chg.of_below T1.below)
  obtain ⟨b3, w3, r3, g3, T3⟩ := e_box (P := Tryd.prog) S2 27 (v := (.agg #[.int .u64 0, .int .u64 0, .int .u64 0, .int .u64 0])) (encSet (0 : BSet)) rfl
  have S4 : St w.heap.size w (fun _ => none) w3 [box b3 27 (encSet (0 : BSet))] := T3
  refine p_v (v := .pointer (some ⟨b3, 0, none⟩)) rfl rfl rfl (x_alloc t27 r3) ?_
  obtain ⟨w5, r5, g5, T5⟩ := e_store (P := Tryd.prog) (off := 0) (v := .agg (encSet (setRange 97 99)).toArray) (vs := (encSet (setRange 97 99))) S4 t27 rfl rfl (j := 0) rfl (by decide) (encSet_one _)
  have S6 : St w.heap.size w (fun _ => none) w5 [box b3 27 (encSet (setRange 97 99))] := T5
  refine p_s rfl rfl (x_store rfl rfl r5) ?_
  refine run_region_end ?_
  refine run_seq ?_
  refine run_reg (l := [0, 1, 2, 3, 4, 5, 6]) rfl ?_
  refine p_v (v := .agg (encSet (setRange 97 99)).toArray) rfl rfl rfl (x_load (seg := (encSet (setRange 97 99))) t27 rfl (by simp) rfl (CF.box (m := 4) (S6.box_at (j := 0) rfl) (cs := (encSet (setRange 97 99))) rfl)) ?_
  refine p_c rfl rfl rfl (y_call (args := [.agg (encSet (setRange 97 99)).toArray]) c19 rfl rfl) (first_calls w5 (setRange 97 99) (Block.st S6 tb)) ?_
  rintro _ w7 ⟨h7, T7, rfl, in7_0⟩
  have S8 : St w.heap.size w (fun _ => none) w7 [box b3 27 (encSet (setRange 97 99))] := S6.keep (Chg.of_below T7.below)
  have lo_in7_0 := u8_lo in7_0; have hi_in7_0 := u8_hi in7_0
  refine p_v (v := .tuple #[.int .u8 (first (setRange 97 99)), .bool (someIn (setRange 97 99))]) rfl rfl rfl (x_move rfl) ?_
  refine p_v (v := .int .u8 (first (setRange 97 99))) rfl rfl rfl (x_extract (vs := [.int .u8 (first (setRange 97 99)), .bool (someIn (setRange 97 99))]) rfl rfl) ?_
  refine p_v (v := .bool (someIn (setRange 97 99))) rfl rfl rfl (x_extract (vs := [.int .u8 (first (setRange 97 99)), .bool (someIn (setRange 97 99))]) rfl rfl) ?_
  refine p_v (v := .int .u8 (first (setRange 97 99))) rfl rfl rfl (x_assign rfl) ?_
  refine p_v (v := .bool (someIn (setRange 97 99))) rfl rfl rfl (x_assign rfl) ?_
  refine run_region_end ?_
  refine run_seq ?_
  refine run_reg (l := [0, 1, 2]) rfl ?_
  refine p_v (v := .agg (encSet (setRange 97 99)).toArray) rfl rfl rfl (x_load (seg := (encSet (setRange 97 99))) t27 rfl (by simp) rfl (CF.box (m := 4) (S8.box_at (j := 0) rfl) (cs := (encSet (setRange 97 99))) rfl)) ?_
  refine p_c rfl rfl rfl (y_call (args := [.agg (encSet (setRange 97 99)).toArray]) c16 rfl rfl) (list_calls w7 (setRange 97 99) (Block.st S8 tb)) ?_
  rintro v9_0 w9 ⟨h9, _, T9, rfl⟩
  obtain ⟨k9, lk9, ll9, U9⟩ := call_joins S8 T9
  have S10 : St w.heap.size w k9 w9 [box b3 27 (encSet (setRange 97 99)), row 5 (Kd.int .u8) v9_0 (listOf (setRange 97 99))] := U9
  refine p_v (v := v9_0) rfl rfl rfl (x_assign rfl) ?_
  refine run_region_end ?_
  refine run_seq ?_
  refine run_reg (l := [0, 1, 2, 3, 4, 5, 6, 7, 8, 9, 10, 11, 12, 13, 14, 15, 16, 17, 18, 19, 20, 21, 22, 23, 24, 25, 26, 27, 28, 29, 30, 31, 32, 33, 34, 35, 36, 37, 38, 39, 40, 41]) rfl ?_
  obtain ⟨v11, w11, r11, g11, T11⟩ := e_build_ones (kd := (Kd.int .u8)) (xs := ([97, 0, 255] : List Int)) (len := 3) [.int .u8 97, .int .u8 0, .int .u8 255] S10 u22 t5 rfl rfl rfl rfl rfl (ones_cons rfl (ones_cons rfl (ones_cons rfl ones_nil))) ([.int .u8 97] ++ [.int .u8 0] ++ [.int .u8 255]) (Elems.cons (k := (Kd.int .u8)) (h := k9) (x := 97) (cs := [.int .u8 97]) ⟨rfl, (in_u8 (by first | omega | (simp; omega) | assumption) (by first | omega | (simp; omega) | assumption))⟩ (Elems.cons (k := (Kd.int .u8)) (h := k9) (x := 0) (cs := [.int .u8 0]) ⟨rfl, (in_u8 (by first | omega | (simp; omega) | assumption) (by first | omega | (simp; omega) | assumption))⟩ (Elems.single (k := (Kd.int .u8)) (h := k9) (x := 255) (cs := [.int .u8 255]) ⟨rfl, (in_u8 (by first | omega | (simp; omega) | assumption) (by first | omega | (simp; omega) | assumption))⟩))) rfl
  have S12 : St w.heap.size w k9 w11 [box b3 27 (encSet (setRange 97 99)), row 5 (Kd.int .u8) v9_0 (listOf (setRange 97 99)), row 5 (Kd.int .u8) v11 ([97, 0, 255] : List Int)] := T11
  refine p_v (v := v11) rfl rfl rfl (y_build_slice (pv := [(0, .int .u8 97), (1, .int .u8 0), (2, .int .u8 255)]) rfl r11) ?_
  obtain ⟨A13, c13, ev13, lc13, cm13⟩ := S12.row_val (j := 2) rfl
  refine p_c rfl rfl rfl (y_call (args := [.slice A13 ([97, 0, 255] : List Int).length c13]) c14 rfl (cons_eq ev13 rfl)) (of_calls w11 ([97, 0, 255] : List Int) A13 c13 ⟨lc13, cm13⟩ (row_leads_eq S12 (j := 2) rfl ev13)) ?_
  rintro _ w14 ⟨h14, T14, rfl⟩
  have S15 : St w.heap.size w k9 w14 [box b3 27 (encSet (setRange 97 99)), row 5 (Kd.int .u8) v9_0 (listOf (setRange 97 99)), row 5 (Kd.int .u8) v11 ([97, 0, 255] : List Int)] := S12.keep (Chg.of_below T14.below)
  refine p_v (v := .agg (encSet (ofWords [1, 8589934592, 0, 9223372036854775808])).toArray) rfl rfl rfl (y_build (pv := [(0, .int .u64 1), (1, .int .u64 8589934592), (2, .int .u64 0), (3, .int .u64 9223372036854775808)]) rfl (run_build_array u27 t25 t27 (cs := (encSet (ofWords [1, 8589934592, 0, 9223372036854775808]))) (by rfl))) ?_
  refine p_v (v := .bool (decide ((setOf ([97, 0, 255] : List Int)) = (ofWords [1, 8589934592, 0, 9223372036854775808])))) rfl rfl rfl (x_eql_set u27 u25 t25 q27 rfl rfl) ?_
  refine p_v (v := .bool (decide ((setOf ([97, 0, 255] : List Int)) = (ofWords [1, 8589934592, 0, 9223372036854775808])))) rfl rfl rfl (x_move rfl) ?_
  have hc16 : ((setOf ([97, 0, 255] : List Int)) = (ofWords [1, 8589934592, 0, 9223372036854775808])) := by
    decide +kernel
  refine p_v (v := .agg (encSet (setRange 97 99)).toArray) rfl (wanted_of (j := 4) (want := true) (d := 17) (b := true) rfl rfl (congrArg Value.bool (decide_eq_true hc16)) rfl) rfl (x_load (seg := (encSet (setRange 97 99))) t27 rfl (by simp) rfl (CF.box (m := 4) (S15.box_at (j := 0) rfl) (cs := (encSet (setRange 97 99))) rfl)) ?_
  refine p_v (v := .agg (encSet (ofWords [0, 60129542144, 0, 0])).toArray) rfl (wanted_of (j := 4) (want := true) (d := 17) (b := true) rfl rfl (congrArg Value.bool (decide_eq_true hc16)) rfl) rfl (y_build (pv := [(0, .int .u64 0), (1, .int .u64 60129542144), (2, .int .u64 0), (3, .int .u64 0)]) rfl (run_build_array u27 t25 t27 (cs := (encSet (ofWords [0, 60129542144, 0, 0]))) (by rfl))) ?_
  refine p_v (v := .bool (decide ((setRange 97 99) = (ofWords [0, 60129542144, 0, 0])))) rfl (wanted_of (j := 4) (want := true) (d := 17) (b := true) rfl rfl (congrArg Value.bool (decide_eq_true hc16)) rfl) rfl (x_eql_set u27 u25 t25 q27 rfl rfl) ?_
  refine p_v (v := .bool (decide ((setRange 97 99) = (ofWords [0, 60129542144, 0, 0])))) rfl rfl rfl (x_pick_t (congrArg Value.bool (decide_eq_true hc16)) rfl) ?_
  refine p_v (v := .bool (decide ((setRange 97 99) = (ofWords [0, 60129542144, 0, 0])))) rfl rfl rfl (x_move rfl) ?_
  have hc17 : ((setRange 97 99) = (ofWords [0, 60129542144, 0, 0])) := by
    decide +kernel
  refine p_v (v := .agg (encSet (setRange 97 99)).toArray) rfl (wanted_of (j := 9) (want := true) (d := 22) (b := true) rfl rfl (congrArg Value.bool (decide_eq_true hc17)) rfl) rfl (x_load (seg := (encSet (setRange 97 99))) t27 rfl (by simp) rfl (CF.box (m := 4) (S15.box_at (j := 0) rfl) (cs := (encSet (setRange 97 99))) rfl)) ?_
  refine p_c rfl (wanted_of (j := 9) (want := true) (d := 22) (b := true) rfl rfl (congrArg Value.bool (decide_eq_true hc17)) rfl) rfl (y_call (args := [.agg (encSet (setRange 97 99)).toArray]) c17 rfl rfl) (count_calls w14 (setRange 97 99)) ?_
  rintro _ w18 ⟨h18, T18, rfl, in18_0⟩
  have S19 : St w.heap.size w k9 w18 [box b3 27 (encSet (setRange 97 99)), row 5 (Kd.int .u8) v9_0 (listOf (setRange 97 99)), row 5 (Kd.int .u8) v11 ([97, 0, 255] : List Int)] := S15.keep (Chg.of_below T18.below)
  have lo_in18_0 := i64_lo in18_0; have hi_in18_0 := i64_hi in18_0
  have cl18 := count_le (setRange 97 99)
  refine p_v (v := .bool (decide ((count (setRange 97 99)) = 3))) rfl (wanted_of (j := 9) (want := true) (d := 22) (b := true) rfl rfl (congrArg Value.bool (decide_eq_true hc17)) rfl) rfl (x_eql rfl rfl) ?_
  refine p_v (v := .bool (decide ((count (setRange 97 99)) = 3))) rfl rfl rfl (x_pick_t (congrArg Value.bool (decide_eq_true hc17)) rfl) ?_
  refine p_v (v := .bool (decide ((count (setRange 97 99)) = 3))) rfl rfl rfl (x_move rfl) ?_
  have hc20 : ((count (setRange 97 99)) = 3) := by
    decide +kernel
  refine p_v (v := .int .u8 (first (setRange 97 99))) rfl (wanted_of (j := 14) (want := true) (d := 27) (b := true) rfl rfl (congrArg Value.bool (decide_eq_true hc20)) rfl) rfl (x_move rfl) ?_
  refine p_v (v := .bool (decide ((first (setRange 97 99)) = 97))) rfl (wanted_of (j := 14) (want := true) (d := 27) (b := true) rfl rfl (congrArg Value.bool (decide_eq_true hc20)) rfl) rfl (x_eql rfl rfl) ?_
  refine p_v (v := .bool (decide ((first (setRange 97 99)) = 97))) rfl rfl rfl (x_pick_t (congrArg Value.bool (decide_eq_true hc20)) rfl) ?_
  refine p_v (v := .bool (decide ((first (setRange 97 99)) = 97))) rfl rfl rfl (x_move rfl) ?_
  have hc21 : ((first (setRange 97 99)) = 97) := by
    decide +kernel
  refine p_v (v := .bool (someIn (setRange 97 99))) rfl (wanted_of (j := 18) (want := true) (d := 31) (b := true) rfl rfl (congrArg Value.bool (decide_eq_true hc21)) rfl) rfl (x_move rfl) ?_
  refine p_v (v := .bool (someIn (setRange 97 99))) rfl rfl rfl (x_pick_t (congrArg Value.bool (decide_eq_true hc21)) rfl) ?_
  refine p_v (v := .bool (someIn (setRange 97 99))) rfl rfl rfl (x_move rfl) ?_
  have hc22 : (someIn (setRange 97 99)) = true := by
    decide +kernel
  refine p_v (v := v9_0) rfl (wanted_of (j := 21) (want := true) (d := 34) (b := true) rfl rfl (congrArg Value.bool hc22) rfl) rfl (x_move rfl) ?_
  have lb23 := S19.row_le (j := 1) rfl; simp only [maxLen] at lb23
  refine p_v (v := .int .i64 ((listOf (setRange 97 99)).length : Int)) rfl (wanted_of (j := 21) (want := true) (d := 34) (b := true) rfl rfl (congrArg Value.bool hc22) rfl) rfl (x_len_own u22 rfl (e_len_own S19 (j := 1) rfl)) ?_
  refine p_v (v := .bool (decide (((listOf (setRange 97 99)).length : Int) = 3))) rfl (wanted_of (j := 21) (want := true) (d := 34) (b := true) rfl rfl (congrArg Value.bool hc22) rfl) rfl (x_eql rfl rfl) ?_
  refine p_v (v := .bool (decide (((listOf (setRange 97 99)).length : Int) = 3))) rfl rfl rfl (x_pick_t (congrArg Value.bool hc22) rfl) ?_
  refine p_v (v := .bool (decide (((listOf (setRange 97 99)).length : Int) = 3))) rfl rfl rfl (x_move rfl) ?_
  have hc24 : (((listOf (setRange 97 99)).length : Int) = 3) := by
    decide +kernel
  refine p_v (v := v9_0) rfl (wanted_of (j := 26) (want := true) (d := 39) (b := true) rfl rfl (congrArg Value.bool (decide_eq_true hc24)) rfl) rfl (x_move rfl) ?_
  obtain ⟨ad25, a25, at25⟩ := e_index_own (q := 2) (m := 1) S19 (j := 1) rfl rfl (by first | omega | (simp; omega) | assumption) (by first | omega | (simp; omega) | assumption)
  refine p_v (v := .pointer (some ad25)) rfl (wanted_of (j := 26) (want := true) (d := 39) (b := true) rfl rfl (congrArg Value.bool (decide_eq_true hc24)) rfl) rfl (x_index_own u22 t5 rfl rfl a25 (by first | omega | (simp; omega) | assumption) (by first | omega | (simp; omega) | assumption)) ?_
  obtain ⟨seg26, rp26, cf26⟩ := e_load_own (q := 2) S19 (j := 1) rfl rfl at25 (by first | omega | (simp; omega) | assumption) (by first | omega | (simp; omega) | assumption)
  obtain ⟨rfl, in26⟩ := rp26
  have lo26 := u8_lo in26; have hi26 := u8_hi in26
  refine p_v (v := .int .u8 (at_ (listOf (setRange 97 99)) 2)) rfl (wanted_of (j := 26) (want := true) (d := 39) (b := true) rfl rfl (congrArg Value.bool (decide_eq_true hc24)) rfl) rfl (x_load (seg := [.int .u8 (at_ (listOf (setRange 97 99)) 2)]) t5 rfl (by simp) rfl cf26) ?_
  refine p_v (v := .bool (decide ((at_ (listOf (setRange 97 99)) 2) = 99))) rfl (wanted_of (j := 26) (want := true) (d := 39) (b := true) rfl rfl (congrArg Value.bool (decide_eq_true hc24)) rfl) rfl (x_eql rfl rfl) ?_
  refine p_v (v := .bool (decide ((at_ (listOf (setRange 97 99)) 2) = 99))) rfl rfl rfl (x_pick_t (congrArg Value.bool (decide_eq_true hc24)) rfl) ?_
  refine p_v (v := .bool (decide ((at_ (listOf (setRange 97 99)) 2) = 99))) rfl rfl rfl (x_move rfl) ?_
  have hc27 : ((at_ (listOf (setRange 97 99)) 2) = 99) := by
    decide +kernel
  refine p_v (v := .agg (encSet (setRange 97 99)).toArray) rfl (wanted_of (j := 32) (want := true) (d := 45) (b := true) rfl rfl (congrArg Value.bool (decide_eq_true hc27)) rfl) rfl (x_load (seg := (encSet (setRange 97 99))) t27 rfl (by simp) rfl (CF.box (m := 4) (S19.box_at (j := 0) rfl) (cs := (encSet (setRange 97 99))) rfl)) ?_
  refine p_c rfl (wanted_of (j := 32) (want := true) (d := 45) (b := true) rfl rfl (congrArg Value.bool (decide_eq_true hc27)) rfl) rfl (y_call (args := [.agg (encSet (setRange 97 99)).toArray, .int .u8 98]) c18 rfl rfl) (has_calls w18 (setRange 97 99) 98 (in_u8 (by first | omega | (simp; omega) | assumption) (by first | omega | (simp; omega) | assumption))) ?_
  rintro _ w28 ⟨h28, T28, rfl⟩
  have S29 : St w.heap.size w k9 w28 [box b3 27 (encSet (setRange 97 99)), row 5 (Kd.int .u8) v9_0 (listOf (setRange 97 99)), row 5 (Kd.int .u8) v11 ([97, 0, 255] : List Int)] := S19.keep (Chg.of_below T28.below)
  refine p_v (v := .bool (has (setRange 97 99) 98)) rfl rfl rfl (x_pick_t (congrArg Value.bool (decide_eq_true hc27)) rfl) ?_
  refine p_v (v := .bool (has (setRange 97 99) 98)) rfl rfl rfl (x_move rfl) ?_
  have hc30 : (has (setRange 97 99) 98) = true := by
    decide +kernel
  refine p_v (v := .agg (encSet (setRange 97 99)).toArray) rfl (wanted_of (j := 36) (want := true) (d := 49) (b := true) rfl rfl (congrArg Value.bool hc30) rfl) rfl (x_load (seg := (encSet (setRange 97 99))) t27 rfl (by simp) rfl (CF.box (m := 4) (S29.box_at (j := 0) rfl) (cs := (encSet (setRange 97 99))) rfl)) ?_
  refine p_c rfl (wanted_of (j := 36) (want := true) (d := 49) (b := true) rfl rfl (congrArg Value.bool hc30) rfl) rfl (y_call (args := [.agg (encSet (setRange 97 99)).toArray, .int .u8 100]) c18 rfl rfl) (has_calls w28 (setRange 97 99) 100 (in_u8 (by first | omega | (simp; omega) | assumption) (by first | omega | (simp; omega) | assumption))) ?_
  rintro _ w31 ⟨h31, T31, rfl⟩
  have S32 : St w.heap.size w k9 w31 [box b3 27 (encSet (setRange 97 99)), row 5 (Kd.int .u8) v9_0 (listOf (setRange 97 99)), row 5 (Kd.int .u8) v11 ([97, 0, 255] : List Int)] := S29.keep (Chg.of_below T31.below)
  refine p_v (v := .bool (!(has (setRange 97 99) 100))) rfl (wanted_of (j := 36) (want := true) (d := 49) (b := true) rfl rfl (congrArg Value.bool hc30) rfl) rfl (x_not rfl) ?_
  refine p_v (v := .bool (!(has (setRange 97 99) 100))) rfl rfl rfl (x_pick_t (congrArg Value.bool hc30) rfl) ?_
  refine p_v (v := .bool (!(has (setRange 97 99) 100))) rfl rfl rfl (x_assign rfl) ?_
  refine run_region_end ?_
  have hc33 : (has (setRange 97 99) 100) = false := by
    decide +kernel
  refine run_ret Tryd.func13 (res1 rfl (res_tmp (v := .bool true) (congrArg (fun z => Value.bool (!z)) hc33))) ?_
  have q0 : (true : Bool) = true := rfl
  refine ⟨_, rfl, k9, ?_, ?_⟩
  · exact S32.sub [] (by decide) rfl _ rfl
  · rfl
end Go.Proofs.YtlcmimjdnhjeoaaDoor
