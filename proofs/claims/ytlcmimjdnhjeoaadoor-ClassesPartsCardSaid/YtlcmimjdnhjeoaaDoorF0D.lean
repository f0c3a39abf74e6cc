/- Functions of this translation, each walked once; no conditions but those that each contract tells. -/
import Derived.Test.YtlcmimjdnhjeoaaDoorTD
import Derived.Test.YtlcmimjdnhjeoaaDoorED
namespace Go.Proofs.YtlcmimjdnhjeoaaDoor
open Go Go.RowKit Gx
set_option maxHeartbeats 1000000
set_option linter.unusedVariables false
set_option linter.unusedSimpArgs false
attribute [local irreducible] members pack listOf count first someIn has setOf setRange wbits Lib.ctz partOf refineP setsP leastP rightP splitsP splitP

theorem awake2_calls (w : World) (tb : Block 0 tzTab w) :
    Calls Tryd.prog 26 #[] w fun e w' => ∃ v, e = .returned v ∧ ∃ (hn : Ghost), St w.heap.size w hn w' [] ∧ v = .bool true := by
  refine calls_of_run Tryd.func26 rfl Tryd.ntmps26 rfl ?_
  have S0 := St.init w
  refine run_seq ?_
  refine run_reg (l := [0]) rfl ?_
  refine p_v (v := .bool false) rfl rfl rfl (x_assign rfl) ?_
  refine run_region_end ?_
  refine run_seq ?_
  refine run_reg (l := [0, 1, 2]) rfl ?_
  refine p_c rfl rfl rfl (y_call (args := []) c33 rfl rfl) (two_calls w ) ?_
  rintro _ w1 ⟨h1, T1, rfl, ok1_0⟩
  have S2 : St w.heap.size w (fun _ => none) w1 [] := S0.keep (Chg.of_below T1.below)
  obtain ⟨b3, w3, r3, g3, T3⟩ := e_box (P := Tryd.prog) S2 48 (v := (.agg #[.int .u8 0, .int .u8 0, .int .u8 0, .int .u8 0, .int .u8 0, .int .u8 0, .int .u8 0, .int .u8 0, .int .u8 0, .int .u8 0, .int .u8 0, .int .u8 0, .int .u8 0, .int .u8 0, .int .u8 0, .int .u8 0, .int .u8 0, .int .u8 0, .int .u8 0, .int .u8 0, .int .u8 0, .int .u8 0, .int .u8 0, .int .u8 0, .int .u8 0, .int .u8 0, .int .u8 0, .int .u8 0, .int .u8 0, .int .u8 0, .int .u8 0, .int .u8 0, .int .u8 0, .int .u8 0, .int .u8 0, .int .u8 0, .int .u8 0, .int .u8 0, .int .u8 0, .int .u8 0, .int .u8 0, .int .u8 0, .int .u8 0, .int .u8 0, .int .u8 0, .int .u8 0, .int .u8 0, .int .u8 0, .int .u8 0, .int .u8 0, .int .u8 0, .int .u8 0, .int .u8 0, .int .u8 0, .int .u8 0, .int .u8 0, .int .u8 0, .int .u8 0, .int .u8 0, .int .u8 0, .int .u8 0, .int .u8 0, .int .u8 0, .int .u8 0, .int .u8 0, .int .u8 0, .int .u8 0, .int .u8 0, .int .u8 0, .int .u8 0, .int .u8 0, .int .u8 0, .int .u8 0, .int .u8 0, .int .u8 0, .int .u8 0, .int .u8 0, .int .u8 0, .int .u8 0, .int .u8 0, .int .u8 0, .int .u8 0, .int .u8 0, .int .u8 0, .int .u8 0, .int .u8 0, .int .u8 0, .int .u8 0, .int .u8 0, .int .u8 0, .int .u8 0, .int .u8 0, .int .u8 0, .int .u8 0, .int .u8 0, .int .u8 0, .int .u8 0, .int .u8 0, .int .u8 0, .int .u8 0, .int .u8 0, .int .u8 0, .int .u8 0, .int .u8 0, .int .u8 0, .int .u8 0, .int .u8 0, .int .u8 0, .int .u8 0, .int .u8 0, .int .u8 0, .int .u8 0, .int .u8 0, .int .u8 0, .int .u8 0, .int .u8 0, .int .u8 0, .int .u8 0, .int .u8 0, .int .u8 0, .int .u8 0, .int .u8 0, .int .u8 0, .int .u8 0, .int .u8 0, .int .u8 0, .int .u8 0, .int .u8 0, .int .u8 0, .int .u8 0, .int .u8 0, .int .u8 0, .int .u8 0, .int .u8 0, .int .u8 0, .int .u8 0, .int .u8 0, .int .u8 0, .int .u8 0, .int .u8 0, .int .u8 0, .int .u8 0, .int .u8 0, .int .u8 0, .int .u8 0, .int .u8 0, .int .u8 0, .int .u8 0, .int .u8 0, .int .u8 0, .int .u8 0, .int .u8 0, .int .u8 0, .int .u8 0, .int .u8 0, .int .u8 0, .int .u8 0, .int .u8 0, .int .u8 0, .int .u8 0, .int .u8 0, .int .u8 0, .int .u8 0, .int .u8 0, .int .u8 0, .int .u8 0, .int .u8 0, .int .u8 0, .int .u8 0, .int .u8 0, .int .u8 0, .int .u8 0, .int .u8 0, .int .u8 0, .int .u8 0, .int .u8 0, .int .u8 0, .int .u8 0, .int .u8 0, .int .u8 0, .int .u8 0, .int .u8 0, .int .u8 0, .int .u8 0, .int .u8 0, .int .u8 0, .int .u8 0, .int .u8 0, .int .u8 0, .int .u8 0, .int .u8 0, .int .u8 0, .int .u8 0, .int .u8 0, .int .u8 0, .int .u8 0, .int .u8 0, .int .u8 0, .int .u8 0, .int .u8 0, .int .u8 0, .int .u8 0, .int .u8 0, .int .u8 0, .int .u8 0, .int .u8 0, .int .u8 0, .int .u8 0, .int .u8 0, .int .u8 0, .int .u8 0, .int .u8 0, .int .u8 0, .int .u8 0, .int .u8 0, .int .u8 0, .int .u8 0, .int .u8 0, .int .u8 0, .int .u8 0, .int .u8 0, .int .u8 0, .int .u8 0, .int .u8 0, .int .u8 0, .int .u8 0, .int .u8 0, .int .u8 0, .int .u8 0, .int .u8 0, .int .u8 0, .int .u8 0, .int .u8 0, .int .u8 0, .int .u8 0, .int .u8 0, .int .u8 0, .int .u8 0, .int .u8 0, .int .u8 0, .int .u8 0, .int .u8 0, .int .u8 0, .int .u8 0, .int .u8 0, .int .u8 0, .int .u8 0, .int .u8 0, .int .u8 0, .int .u8 0, .int .u8 0, .int .u8 0, .int .u8 0, .int .u8 0, .int .u8 0, .int .u8 0, .int .i64 0])) (encPart (⟨(List.replicate 256 (0 : Int)), 0⟩ : PartM)) (by kernel_rfl)
  have S4 : St w.heap.size w (fun _ => none) w3 [box b3 48 (encPart (⟨(List.replicate 256 (0 : Int)), 0⟩ : PartM))] := T3
  refine p_v (v := .pointer (some ⟨b3, 0, none⟩)) rfl rfl rfl (x_alloc t48 r3) ?_
  obtain ⟨w5, r5, g5, T5⟩ := e_store (P := Tryd.prog) (off := 0) (v := .agg (encPart (refineP [setOf [97], setRange 97 122])).toArray) (vs := (encPart (refineP [setOf [97], setRange 97 122]))) S4 t48 rfl (encPart_len ok1_0) (j := 0) rfl (by rw [encPart_len (okPart_zero)]; decide) (encPart_one _)
  rw [lput_all (by rw [encPart_len ok1_0, encPart_len (okPart_zero)])] at T5
  have S6 : St w.heap.size w (fun _ => none) w5 [box b3 48 (encPart (refineP [setOf [97], setRange 97 122]))] := T5
  refine p_s rfl rfl (x_store rfl rfl r5) ?_
  refine run_region_end ?_
  refine run_seq ?_
  refine run_reg (l := [0, 1, 2]) rfl ?_
  refine p_v (v := .agg (encPart (refineP [setOf [97], setRange 97 122])).toArray) rfl rfl rfl (x_load (seg := (encPart (refineP [setOf [97], setRange 97 122]))) t48 (encPart_len ok1_0) (by simp) rfl (CF.box (m := 257) (S6.box_at (j := 0) rfl) (cs := (encPart (refineP [setOf [97], setRange 97 122]))) (by rw [List.drop_zero, List.take_of_length_le (by rw [encPart_len ok1_0]; exact Nat.le_refl _)]))) ?_
  refine p_c rfl rfl rfl (y_call (args := [.agg (encPart (refineP [setOf [97], setRange 97 122])).toArray, .int .i64 2]) c30 rfl rfl) (least_calls w5 (refineP [setOf [97], setRange 97 122]) ok1_0 2 (in_i64 (by first | omega | (simp; omega) | assumption) (by first | omega | (simp; omega) | assumption)) (Block.st S6 tb)) ?_
  rintro v7_0 w7 ⟨h7, _, T7, rfl⟩
  obtain ⟨k7, lk7, ll7, U7⟩ := call_joins S6 T7
  have S8 : St w.heap.size w k7 w7 [box b3 48 (encPart (refineP [setOf [97], setRange 97 122])), row 22 (Kd.int .u8).slice v7_0 (leastP (refineP [setOf [97], setRange 97 122]) 2)] := U7
  obtain ⟨h9, le9, T9, rp9⟩ := S8.freeze (i := 1) rfl
  have lf9_0 := (lk7).trans le9
  have S10 : St w.heap.size w h9 w7 [box b3 48 (encPart (refineP [setOf [97], setRange 97 122])), emp] := T9
  obtain ⟨A9, c9, e9, lc9, cm9, ld9⟩ := rp9
  injection e9 with e9 _; subst e9
  have cn9 := cm9; simp only [maxLen] at cn9
  refine p_v (v := .slice A9 (leastP (refineP [setOf [97], setRange 97 122]) 2).length c9) rfl rfl rfl (x_assign rfl) ?_
  refine run_region_end ?_
  refine run_seq ?_
  refine run_reg (l := [0, 1, 2, 3, 4, 5, 6, 7, 8, 9, 10, 11, 12, 13, 14, 15, 16, 17, 18, 19, 20, 21, 22, 23, 24, 25, 26, 27, 28, 29, 30, 31, 32, 33, 34, 35, 36, 37, 38, 39, 40, 41, 42, 43, 44, 45, 46, 47, 48, 49, 50, 51, 52, 53, 54, 55, 56, 57, 58]) rfl ?_
  refine p_v (v := .pointer (some ⟨b3, 256, none⟩)) rfl rfl rfl (x_fieldAt f48_1 t3 rfl rfl) ?_
  have in11 := (ok1_0).2
  have lo11 := i64_lo in11; have hi11 := i64_hi in11
  refine p_v (v := .int .i64 ((refineP [setOf [97], setRange 97 122]).n)) rfl rfl rfl (x_load (seg := [.int .i64 ((refineP [setOf [97], setRange 97 122]).n)]) t3 rfl (by simp) rfl (CF.box (m := 1) (S10.box_at (j := 0) rfl) (cs := (encPart (refineP [setOf [97], setRange 97 122]))) (encPart_n ok1_0))) ?_
  refine p_v (v := .bool (decide (((refineP [setOf [97], setRange 97 122]).n) = 3))) rfl rfl rfl (x_eql rfl rfl) ?_
  refine p_v (v := .bool (decide (((refineP [setOf [97], setRange 97 122]).n) = 3))) rfl rfl rfl (x_move rfl) ?_
  have hc12 : (((refineP [setOf [97], setRange 97 122]).n) = 3) := by
    decide +kernel
  refine p_v (v := .pointer (some ⟨b3, 0, none⟩)) rfl (wanted_of (j := 3) (want := true) (d := 9) (b := true) rfl rfl (congrArg Value.bool (decide_eq_true hc12)) rfl) rfl (x_fieldAt f48_0 t46 rfl rfl) ?_
  refine p_v (v := .pointer (some ⟨b3, 0 + (0 : Int).toNat * 1, none⟩)) rfl (wanted_of (j := 3) (want := true) (d := 9) (b := true) rfl rfl (congrArg Value.bool (decide_eq_true hc12)) rfl) rfl (x_indexAddr_arr u46 t5 rfl rfl (by first | omega | (simp; omega) | assumption) (by first | omega | (simp; omega) | assumption)) ?_
  have in13 := okInts_at (ok1_0).1 (i := (0 : Int)) (by first | omega | (simp; omega) | assumption) (by first | omega | (simp; omega) | assumption)
  have lo13 := u8_lo in13; have hi13 := u8_hi in13
  refine p_v (v := .int .u8 (at_ ((refineP [setOf [97], setRange 97 122]).of) (0 : Int))) rfl (wanted_of (j := 3) (want := true) (d := 9) (b := true) rfl rfl (congrArg Value.bool (decide_eq_true hc12)) rfl) rfl (x_load (seg := [.int .u8 (at_ ((refineP [setOf [97], setRange 97 122]).of) (0 : Int))]) t5 rfl (by simp) rfl (CF.box (m := 1) (S10.box_at (j := 0) rfl) (cs := (encPart (refineP [setOf [97], setRange 97 122]))) (encPart_at ok1_0 (by first | omega | (simp; omega) | assumption) (by first | omega | (simp; omega) | assumption)))) ?_
  refine p_v (v := .bool (decide ((at_ ((refineP [setOf [97], setRange 97 122]).of) (0 : Int)) = 0))) rfl (wanted_of (j := 3) (want := true) (d := 9) (b := true) rfl rfl (congrArg Value.bool (decide_eq_true hc12)) rfl) rfl (x_eql rfl rfl) ?_
  refine p_v (v := .bool (decide ((at_ ((refineP [setOf [97], setRange 97 122]).of) (0 : Int)) = 0))) rfl rfl rfl (x_pick_t (congrArg Value.bool (decide_eq_true hc12)) rfl) ?_
  refine p_v (v := .bool (decide ((at_ ((refineP [setOf [97], setRange 97 122]).of) (0 : Int)) = 0))) rfl rfl rfl (x_move rfl) ?_
  have hc14 : ((at_ ((refineP [setOf [97], setRange 97 122]).of) (0 : Int)) = 0) := by
    decide +kernel
  refine p_v (v := .pointer (some ⟨b3, 0, none⟩)) rfl (wanted_of (j := 9) (want := true) (d := 15) (b := true) rfl rfl (congrArg Value.bool (decide_eq_true hc14)) rfl) rfl (x_fieldAt f48_0 t46 rfl rfl) ?_
  refine p_v (v := .pointer (some ⟨b3, 0 + (97 : Int).toNat * 1, none⟩)) rfl (wanted_of (j := 9) (want := true) (d := 15) (b := true) rfl rfl (congrArg Value.bool (decide_eq_true hc14)) rfl) rfl (x_indexAddr_arr u46 t5 rfl rfl (by first | omega | (simp; omega) | assumption) (by first | omega | (simp; omega) | assumption)) ?_
  have in15 := okInts_at (ok1_0).1 (i := (97 : Int)) (by first | omega | (simp; omega) | assumption) (by first | omega | (simp; omega) | assumption)
  have lo15 := u8_lo in15; have hi15 := u8_hi in15
  refine p_v (v := .int .u8 (at_ ((refineP [setOf [97], setRange 97 122]).of) (97 : Int))) rfl (wanted_of (j := 9) (want := true) (d := 15) (b := true) rfl rfl (congrArg Value.bool (decide_eq_true hc14)) rfl) rfl (x_load (seg := [.int .u8 (at_ ((refineP [setOf [97], setRange 97 122]).of) (97 : Int))]) t5 rfl (by simp) rfl (CF.box (m := 1) (S10.box_at (j := 0) rfl) (cs := (encPart (refineP [setOf [97], setRange 97 122]))) (encPart_at ok1_0 (by first | omega | (simp; omega) | assumption) (by first | omega | (simp; omega) | assumption)))) ?_
  refine p_v (v := .bool (decide ((at_ ((refineP [setOf [97], setRange 97 122]).of) (97 : Int)) = 1))) rfl (wanted_of (j := 9) (want := true) (d := 15) (b := true) rfl rfl (congrArg Value.bool (decide_eq_true hc14)) rfl) rfl (x_eql rfl rfl) ?_
  refine p_v (v := .bool (decide ((at_ ((refineP [setOf [97], setRange 97 122]).of) (97 : Int)) = 1))) rfl rfl rfl (x_pick_t (congrArg Value.bool (decide_eq_true hc14)) rfl) ?_
  refine p_v (v := .bool (decide ((at_ ((refineP [setOf [97], setRange 97 122]).of) (97 : Int)) = 1))) rfl rfl rfl (x_move rfl) ?_
  have hc16 : ((at_ ((refineP [setOf [97], setRange 97 122]).of) (97 : Int)) = 1) := by
    decide +kernel
  refine p_v (v := .pointer (some ⟨b3, 0, none⟩)) rfl (wanted_of (j := 15) (want := true) (d := 21) (b := true) rfl rfl (congrArg Value.bool (decide_eq_true hc16)) rfl) rfl (x_fieldAt f48_0 t46 rfl rfl) ?_
  refine p_v (v := .pointer (some ⟨b3, 0 + (98 : Int).toNat * 1, none⟩)) rfl (wanted_of (j := 15) (want := true) (d := 21) (b := true) rfl rfl (congrArg Value.bool (decide_eq_true hc16)) rfl) rfl (x_indexAddr_arr u46 t5 rfl rfl (by first | omega | (simp; omega) | assumption) (by first | omega | (simp; omega) | assumption)) ?_
  have in17 := okInts_at (ok1_0).1 (i := (98 : Int)) (by first | omega | (simp; omega) | assumption) (by first | omega | (simp; omega) | assumption)
  have lo17 := u8_lo in17; have hi17 := u8_hi in17
  refine p_v (v := .int .u8 (at_ ((refineP [setOf [97], setRange 97 122]).of) (98 : Int))) rfl (wanted_of (j := 15) (want := true) (d := 21) (b := true) rfl rfl (congrArg Value.bool (decide_eq_true hc16)) rfl) rfl (x_load (seg := [.int .u8 (at_ ((refineP [setOf [97], setRange 97 122]).of) (98 : Int))]) t5 rfl (by simp) rfl (CF.box (m := 1) (S10.box_at (j := 0) rfl) (cs := (encPart (refineP [setOf [97], setRange 97 122]))) (encPart_at ok1_0 (by first | omega | (simp; omega) | assumption) (by first | omega | (simp; omega) | assumption)))) ?_
  refine p_v (v := .bool (decide ((at_ ((refineP [setOf [97], setRange 97 122]).of) (98 : Int)) = 2))) rfl (wanted_of (j := 15) (want := true) (d := 21) (b := true) rfl rfl (congrArg Value.bool (decide_eq_true hc16)) rfl) rfl (x_eql rfl rfl) ?_
  refine p_v (v := .bool (decide ((at_ ((refineP [setOf [97], setRange 97 122]).of) (98 : Int)) = 2))) rfl rfl rfl (x_pick_t (congrArg Value.bool (decide_eq_true hc16)) rfl) ?_
  refine p_v (v := .bool (decide ((at_ ((refineP [setOf [97], setRange 97 122]).of) (98 : Int)) = 2))) rfl rfl rfl (x_move rfl) ?_
  have hc18 : ((at_ ((refineP [setOf [97], setRange 97 122]).of) (98 : Int)) = 2) := by
    decide +kernel
  refine p_v (v := .pointer (some ⟨b3, 0, none⟩)) rfl (wanted_of (j := 21) (want := true) (d := 27) (b := true) rfl rfl (congrArg Value.bool (decide_eq_true hc18)) rfl) rfl (x_fieldAt f48_0 t46 rfl rfl) ?_
  refine p_v (v := .pointer (some ⟨b3, 0 + (122 : Int).toNat * 1, none⟩)) rfl (wanted_of (j := 21) (want := true) (d := 27) (b := true) rfl rfl (congrArg Value.bool (decide_eq_true hc18)) rfl) rfl (x_indexAddr_arr u46 t5 rfl rfl (by first | omega | (simp; omega) | assumption) (by first | omega | (simp; omega) | assumption)) ?_
  have in19 := okInts_at (ok1_0).1 (i := (122 : Int)) (by first | omega | (simp; omega) | assumption) (by first | omega | (simp; omega) | assumption)
  have lo19 := u8_lo in19; have hi19 := u8_hi in19
  refine p_v (v := .int .u8 (at_ ((refineP [setOf [97], setRange 97 122]).of) (122 : Int))) rfl (wanted_of (j := 21) (want := true) (d := 27) (b := true) rfl rfl (congrArg Value.bool (decide_eq_true hc18)) rfl) rfl (x_load (seg := [.int .u8 (at_ ((refineP [setOf [97], setRange 97 122]).of) (122 : Int))]) t5 rfl (by simp) rfl (CF.box (m := 1) (S10.box_at (j := 0) rfl) (cs := (encPart (refineP [setOf [97], setRange 97 122]))) (encPart_at ok1_0 (by first | omega | (simp; omega) | assumption) (by first | omega | (simp; omega) | assumption)))) ?_
  refine p_v (v := .bool (decide ((at_ ((refineP [setOf [97], setRange 97 122]).of) (122 : Int)) = 2))) rfl (wanted_of (j := 21) (want := true) (d := 27) (b := true) rfl rfl (congrArg Value.bool (decide_eq_true hc18)) rfl) rfl (x_eql rfl rfl) ?_
  refine p_v (v := .bool (decide ((at_ ((refineP [setOf [97], setRange 97 122]).of) (122 : Int)) = 2))) rfl rfl rfl (x_pick_t (congrArg Value.bool (decide_eq_true hc18)) rfl) ?_
  refine p_v (v := .bool (decide ((at_ ((refineP [setOf [97], setRange 97 122]).of) (122 : Int)) = 2))) rfl rfl rfl (x_move rfl) ?_
  have hc20 : ((at_ ((refineP [setOf [97], setRange 97 122]).of) (122 : Int)) = 2) := by
    decide +kernel
  refine p_v (v := .agg (encPart (refineP [setOf [97], setRange 97 122])).toArray) rfl (wanted_of (j := 27) (want := true) (d := 33) (b := true) rfl rfl (congrArg Value.bool (decide_eq_true hc20)) rfl) rfl (x_load (seg := (encPart (refineP [setOf [97], setRange 97 122]))) t48 (encPart_len ok1_0) (by simp) rfl (CF.box (m := 257) (S10.box_at (j := 0) rfl) (cs := (encPart (refineP [setOf [97], setRange 97 122]))) (by rw [List.drop_zero, List.take_of_length_le (by rw [encPart_len ok1_0]; exact Nat.le_refl _)]))) ?_
  refine p_c rfl (wanted_of (j := 27) (want := true) (d := 33) (b := true) rfl rfl (congrArg Value.bool (decide_eq_true hc20)) rfl) rfl (y_call (args := [.agg (encPart (refineP [setOf [97], setRange 97 122])).toArray]) c29 rfl rfl) (right_calls w7 (refineP [setOf [97], setRange 97 122]) ok1_0) ?_
  rintro _ w21 ⟨h21, T21, rfl⟩
  have S22 : St w.heap.size w h9 w21 [box b3 48 (encPart (refineP [setOf [97], setRange 97 122])), emp] := S10.keep (Chg.of_below T21.below)
  refine p_v (v := .bool (rightP (refineP [setOf [97], setRange 97 122]))) rfl rfl rfl (x_pick_t (congrArg Value.bool (decide_eq_true hc20)) rfl) ?_
  refine p_v (v := .bool (rightP (refineP [setOf [97], setRange 97 122]))) rfl rfl rfl (x_move rfl) ?_
  have hc23 : (rightP (refineP [setOf [97], setRange 97 122])) = true := by
    decide +kernel
  refine p_v (v := .slice A9 (leastP (refineP [setOf [97], setRange 97 122]) 2).length c9) rfl (wanted_of (j := 31) (want := true) (d := 37) (b := true) rfl rfl (congrArg Value.bool hc23) rfl) rfl (x_move rfl) ?_
  refine p_v (v := .int .i64 ((leastP (refineP [setOf [97], setRange 97 122]) 2).length : Int)) rfl (wanted_of (j := 31) (want := true) (d := 37) (b := true) rfl rfl (congrArg Value.bool hc23) rfl) rfl (x_len_slice u54 rfl) ?_
  refine p_v (v := .bool (decide (((leastP (refineP [setOf [97], setRange 97 122]) 2).length : Int) = 3))) rfl (wanted_of (j := 31) (want := true) (d := 37) (b := true) rfl rfl (congrArg Value.bool hc23) rfl) rfl (x_eql rfl rfl) ?_
  refine p_v (v := .bool (decide (((leastP (refineP [setOf [97], setRange 97 122]) 2).length : Int) = 3))) rfl rfl rfl (x_pick_t (congrArg Value.bool hc23) rfl) ?_
  refine p_v (v := .bool (decide (((leastP (refineP [setOf [97], setRange 97 122]) 2).length : Int) = 3))) rfl rfl rfl (x_move rfl) ?_
  have hc24 : (((leastP (refineP [setOf [97], setRange 97 122]) 2).length : Int) = 3) := by
    decide +kernel
  refine p_v (v := .slice A9 (leastP (refineP [setOf [97], setRange 97 122]) 2).length c9) rfl (wanted_of (j := 36) (want := true) (d := 42) (b := true) rfl rfl (congrArg Value.bool (decide_eq_true hc24)) rfl) rfl (x_move rfl) ?_
  obtain ⟨ad25, seg25, a25, rp25, ce25⟩ := e_index_ro (q := (0 : Int)) (m := 1) ld9 rfl (by first | omega | (simp; omega) | assumption) (by first | omega | (simp; omega) | assumption)
  refine p_v (v := .pointer (some ad25)) rfl (wanted_of (j := 36) (want := true) (d := 42) (b := true) rfl rfl (congrArg Value.bool (decide_eq_true hc24)) rfl) rfl (x_index_ro u54 t22 rfl rfl a25 (by first | omega | (simp; omega) | assumption) (by first | omega | (simp; omega) | assumption)) ?_
  obtain ⟨A25, c25, rfl, lc25, cm25, ld25⟩ := rp25
  have cn25 := cm25; simp only [maxLen] at cn25
  refine p_v (v := .slice A25 (at_ (leastP (refineP [setOf [97], setRange 97 122]) 2) (0 : Int)).length c25) rfl (wanted_of (j := 36) (want := true) (d := 42) (b := true) rfl rfl (congrArg Value.bool (decide_eq_true hc24)) rfl) rfl (x_load (seg := [.slice A25 (at_ (leastP (refineP [setOf [97], setRange 97 122]) 2) (0 : Int)).length c25]) t22 rfl (by simp) rfl (CF.ghost ce25 ((Le.refl _).trans S22.ghost))) ?_
  refine p_v (v := .int .i64 ((at_ (leastP (refineP [setOf [97], setRange 97 122]) 2) (0 : Int)).length : Int)) rfl (wanted_of (j := 36) (want := true) (d := 42) (b := true) rfl rfl (congrArg Value.bool (decide_eq_true hc24)) rfl) rfl (x_len_slice u22 rfl) ?_
  refine p_v (v := .bool (decide (((at_ (leastP (refineP [setOf [97], setRange 97 122]) 2) (0 : Int)).length : Int) = 2))) rfl (wanted_of (j := 36) (want := true) (d := 42) (b := true) rfl rfl (congrArg Value.bool (decide_eq_true hc24)) rfl) rfl (x_eql rfl rfl) ?_
  refine p_v (v := .bool (decide (((at_ (leastP (refineP [setOf [97], setRange 97 122]) 2) (0 : Int)).length : Int) = 2))) rfl rfl rfl (x_pick_t (congrArg Value.bool (decide_eq_true hc24)) rfl) ?_
  refine p_v (v := .bool (decide (((at_ (leastP (refineP [setOf [97], setRange 97 122]) 2) (0 : Int)).length : Int) = 2))) rfl rfl rfl (x_move rfl) ?_
  have hc26 : (((at_ (leastP (refineP [setOf [97], setRange 97 122]) 2) (0 : Int)).length : Int) = 2) := by
    decide +kernel
  refine p_v (v := .slice A9 (leastP (refineP [setOf [97], setRange 97 122]) 2).length c9) rfl (wanted_of (j := 43) (want := true) (d := 49) (b := true) rfl rfl (congrArg Value.bool (decide_eq_true hc26)) rfl) rfl (x_move rfl) ?_
  obtain ⟨ad27, seg27, a27, rp27, ce27⟩ := e_index_ro (q := (1 : Int)) (m := 1) ld9 rfl (by first | omega | (simp; omega) | assumption) (by first | omega | (simp; omega) | assumption)
  refine p_v (v := .pointer (some ad27)) rfl (wanted_of (j := 43) (want := true) (d := 49) (b := true) rfl rfl (congrArg Value.bool (decide_eq_true hc26)) rfl) rfl (x_index_ro u54 t22 rfl rfl a27 (by first | omega | (simp; omega) | assumption) (by first | omega | (simp; omega) | assumption)) ?_
  obtain ⟨A27, c27, rfl, lc27, cm27, ld27⟩ := rp27
  have cn27 := cm27; simp only [maxLen] at cn27
  refine p_v (v := .slice A27 (at_ (leastP (refineP [setOf [97], setRange 97 122]) 2) (1 : Int)).length c27) rfl (wanted_of (j := 43) (want := true) (d := 49) (b := true) rfl rfl (congrArg Value.bool (decide_eq_true hc26)) rfl) rfl (x_load (seg := [.slice A27 (at_ (leastP (refineP [setOf [97], setRange 97 122]) 2) (1 : Int)).length c27]) t22 rfl (by simp) rfl (CF.ghost ce27 ((Le.refl _).trans S22.ghost))) ?_
  refine p_v (v := .int .i64 ((at_ (leastP (refineP [setOf [97], setRange 97 122]) 2) (1 : Int)).length : Int)) rfl (wanted_of (j := 43) (want := true) (d := 49) (b := true) rfl rfl (congrArg Value.bool (decide_eq_true hc26)) rfl) rfl (x_len_slice u22 rfl) ?_
  refine p_v (v := .bool (decide (((at_ (leastP (refineP [setOf [97], setRange 97 122]) 2) (1 : Int)).length : Int) = 1))) rfl (wanted_of (j := 43) (want := true) (d := 49) (b := true) rfl rfl (congrArg Value.bool (decide_eq_true hc26)) rfl) rfl (x_eql rfl rfl) ?_
  refine p_v (v := .bool (decide (((at_ (leastP (refineP [setOf [97], setRange 97 122]) 2) (1 : Int)).length : Int) = 1))) rfl rfl rfl (x_pick_t (congrArg Value.bool (decide_eq_true hc26)) rfl) ?_
  refine p_v (v := .bool (decide (((at_ (leastP (refineP [setOf [97], setRange 97 122]) 2) (1 : Int)).length : Int) = 1))) rfl rfl rfl (x_move rfl) ?_
  have hc28 : (((at_ (leastP (refineP [setOf [97], setRange 97 122]) 2) (1 : Int)).length : Int) = 1) := by
    decide +kernel
  have hx2 : ((at_ (leastP (refineP [setOf ([97] : List Int), setRange 97 122]) 2) 2).length : Int) = 2 := by decide +kernel
  refine p_v (v := .slice A9 (leastP (refineP [setOf [97], setRange 97 122]) 2).length c9) rfl (wanted_of (j := 50) (want := true) (d := 56) (b := true) rfl rfl (congrArg Value.bool (decide_eq_true hc28)) rfl) rfl (x_move rfl) ?_
  obtain ⟨ad29, seg29, a29, rp29, ce29⟩ := e_index_ro (q := (2 : Int)) (m := 1) ld9 rfl (by first | omega | (simp; omega) | assumption) (by first | omega | (simp; omega) | assumption)
  refine p_v (v := .pointer (some ad29)) rfl (wanted_of (j := 50) (want := true) (d := 56) (b := true) rfl rfl (congrArg Value.bool (decide_eq_true hc28)) rfl) rfl (x_index_ro u54 t22 rfl rfl a29 (by first | omega | (simp; omega) | assumption) (by first | omega | (simp; omega) | assumption)) ?_
  obtain ⟨A29, c29, rfl, lc29, cm29, ld29⟩ := rp29
  have cn29 := cm29; simp only [maxLen] at cn29
  refine p_v (v := .slice A29 (at_ (leastP (refineP [setOf [97], setRange 97 122]) 2) (2 : Int)).length c29) rfl (wanted_of (j := 50) (want := true) (d := 56) (b := true) rfl rfl (congrArg Value.bool (decide_eq_true hc28)) rfl) rfl (x_load (seg := [.slice A29 (at_ (leastP (refineP [setOf [97], setRange 97 122]) 2) (2 : Int)).length c29]) t22 rfl (by simp) rfl (CF.ghost ce29 ((Le.refl _).trans S22.ghost))) ?_
  obtain ⟨ad30, seg30, a30, rp30, ce30⟩ := e_index_ro (q := (1 : Int)) (m := 1) ld29 rfl (by first | omega | (simp; omega) | assumption) (by first | omega | (simp; omega) | assumption)
  refine p_v (v := .pointer (some ad30)) rfl (wanted_of (j := 50) (want := true) (d := 56) (b := true) rfl rfl (congrArg Value.bool (decide_eq_true hc28)) rfl) rfl (x_index_ro u22 t5 rfl rfl a30 (by first | omega | (simp; omega) | assumption) (by first | omega | (simp; omega) | assumption)) ?_
  obtain ⟨rfl, in30⟩ := rp30
  have lo30 := u8_lo in30; have hi30 := u8_hi in30
  refine p_v (v := .int .u8 (at_ (at_ (leastP (refineP [setOf [97], setRange 97 122]) 2) (2 : Int)) (1 : Int))) rfl (wanted_of (j := 50) (want := true) (d := 56) (b := true) rfl rfl (congrArg Value.bool (decide_eq_true hc28)) rfl) rfl (x_load (seg := [.int .u8 (at_ (at_ (leastP (refineP [setOf [97], setRange 97 122]) 2) (2 : Int)) (1 : Int))]) t5 rfl (by simp) rfl (CF.ghost ce30 ((Le.refl _).trans S22.ghost))) ?_
  refine p_v (v := .bool (decide ((at_ (at_ (leastP (refineP [setOf [97], setRange 97 122]) 2) (2 : Int)) (1 : Int)) = 99))) rfl (wanted_of (j := 50) (want := true) (d := 56) (b := true) rfl rfl (congrArg Value.bool (decide_eq_true hc28)) rfl) rfl (x_eql rfl rfl) ?_
  refine p_v (v := .bool (decide ((at_ (at_ (leastP (refineP [setOf [97], setRange 97 122]) 2) (2 : Int)) (1 : Int)) = 99))) rfl rfl rfl (x_pick_t (congrArg Value.bool (decide_eq_true hc28)) rfl) ?_
  refine p_v (v := .bool (decide ((at_ (at_ (leastP (refineP [setOf [97], setRange 97 122]) 2) (2 : Int)) (1 : Int)) = 99))) rfl rfl rfl (x_assign rfl) ?_
  refine run_region_end ?_
  have hc31 : ((at_ (at_ (leastP (refineP [setOf [97], setRange 97 122]) 2) (2 : Int)) (1 : Int)) = 99) := by
    decide +kernel
  refine run_ret Tryd.func26 (res1 rfl (res_tmp (v := .bool true) (congrArg Value.bool (decide_eq_true hc31)))) ?_
  have q0 : (true : Bool) = true := rfl
  refine ⟨_, rfl, h9, ?_, ?_⟩
  · exact S22.sub [] (by decide) rfl _ rfl
  · rfl
end Go.Proofs.YtlcmimjdnhjeoaaDoor
