/- The law OctetsBack, walked: it tells true at every input, and writes nothing that was there. -/
import Derived.Test.YtlcmimjdnhjeoaaDoorB0
namespace Go.Proofs.YtlcmimjdnhjeoaaDoor
open Go Go.RowKit Gx
set_option maxHeartbeats 1000000
set_option linter.unusedVariables false
set_option linter.unusedSimpArgs false
attribute [local irreducible] members pack listOf count first someIn has setOf setRange wbits Lib.ctz

theorem octetsBack_calls (w : World) (s : BSet) (tb : Block 0 tzTab w) :
    Calls Tryd.prog 4 #[.agg (encSet s).toArray] w fun e w' => ∃ v, e = .returned v ∧ ∃ (hn : Ghost), St w.heap.size w hn w' [] ∧ v = .bool true := by
  refine calls_of_run Tryd.func4 rfl Tryd.ntmps4 rfl ?_
  have S0 := St.init w
  refine run_seq ?_
  refine run_reg (l := [0, 1]) rfl ?_
  obtain ⟨b1, w1, r1, g1, T1⟩ := e_box (P := Tryd.prog) S0 27 (v := .agg (encSet s).toArray) (encSet s) rfl
  have S2 : St w.heap.size w (fun _ => none) w1 [box b1 27 (encSet s)] := T1
  refine p_v (v := .pointer (some ⟨b1, 0, none⟩)) rfl rfl rfl (x_box rfl r1) ?_
  refine p_v (v := .bool false) rfl rfl rfl (x_assign rfl) ?_
  refine run_region_end ?_
  refine run_seq ?_
  refine run_reg (l := [0, 1, 2]) rfl ?_
  refine p_v (v := .agg (encSet s).toArray) rfl rfl rfl (x_load (seg := (encSet s)) t27 rfl (by simp) rfl (CF.box (m := 4) (S2.box_at (j := 0) rfl) (cs := (encSet s)) rfl)) ?_
  refine p_c rfl rfl rfl (y_call (args := [.agg (encSet s).toArray]) c16 rfl rfl) (list_calls w1 s (Block.st S2 tb)) ?_
  rintro v3_0 w3 ⟨h3, _, T3, rfl⟩
  obtain ⟨k3, lk3, ll3, U3⟩ := call_joins S2 T3
  have S4 : St w.heap.size w k3 w3 [box b1 27 (encSet s), row 5 (Kd.int .u8) v3_0 (listOf s)] := U3
  obtain ⟨h5, le5, T5, rp5⟩ := S4.freeze (i := 1) rfl
  have lf5_0 := (lk3).trans le5
  have S6 : St w.heap.size w h5 w3 [box b1 27 (encSet s), emp] := T5
  obtain ⟨A5, c5, e5, lc5, cm5, ld5⟩ := rp5
  injection e5 with e5 _; subst e5
  have cn5 := cm5; simp only [maxLen] at cn5
  refine p_v (v := .slice A5 (listOf s).length c5) rfl rfl rfl (x_assign rfl) ?_
  refine run_region_end ?_
  refine run_seq ?_
  refine run_seq ?_
  have hc8 : ¬ ((setOf (listOf s)) ≠ s) := by
    exact fun h => h (setOf_list s)
  obtain ⟨_, _, _, _, _, _, _, in9_0⟩ := calls_some (count_calls w3 s)
  have lo_in9_0 := i64_lo in9_0; have hi_in9_0 := i64_hi in9_0
  have cl9 := count_le s
  have hf10 : (LeadsS (Kd.int .u8) A5 (listOf s)).1 w3 := (ld5.mono ((Le.refl _).trans S6.ghost))
  have hf11 : (CFs ⟨b1, 0, none⟩ (encSet s)).1 w3 := (CF.box (m := 4) (S6.box_at (j := 0) rfl) (cs := (encSet s)) rfl)
  have hf12 : (CFs ⟨b1, 0, none⟩ (encSet s)).1 w3 := (CF.box (m := 4) (S6.box_at (j := 0) rfl) (cs := (encSet s)) rfl)
  refine da_start [(1, LeadsS (Kd.int .u8) A5 (listOf s)), (2, CFs ⟨b1, 0, none⟩ (encSet s)), (7, CFs ⟨b1, 0, none⟩ (encSet s))] 11 rfl mixed ?_
  intro wd13 gd13 hd13
  have S14 : St w.heap.size w h5 wd13 [box b1 27 (encSet s), emp] := S6.keep gd13
  have hf15 := (LeadsS (Kd.int .u8) A5 (listOf s)).2 _ _ gd13 hf10
  have hf16 := (CFs ⟨b1, 0, none⟩ (encSet s)).2 _ _ gd13 hf11
  have hf17 := (CFs ⟨b1, 0, none⟩ (encSet s)).2 _ _ gd13 hf12
  refine d_q (i := 0) (v := .slice A5 (listOf s).length c5) (fun _ => True) (fun _ ho => trivial) rfl (by decide +kernel) (by decide +kernel) (by decide +kernel) rfl rfl (fun wq hq => (x_move rfl)) (of_ne rfl (of_ne rfl (of_ne rfl (of_nil _ _)))) ?_
  refine d_m (i := 1) (v := .agg (encSet (setOf (listOf s))).toArray) (fun wf => Leads (Kd.int .u8) (hp wf) A5 (listOf s)) (fun _ ho => ho _ (List.mem_of_getElem? (i := 0) rfl) rfl) rfl (by decide +kernel) (by decide +kernel) (by decide +kernel) rfl rfl (fun wq => (y_call (args := [.slice A5 (listOf s).length c5]) c14 rfl rfl)) (fun wq hq => (of_calls wq (listOf s) A5 c5 ⟨lc5, cm5⟩ hq).mono fun e w2 he => by obtain ⟨_, rfl, _, T, rfl⟩ := he; exact ⟨rfl, Chg.of_below T.below⟩) (of_eq hf15 (of_ne rfl (of_ne rfl (of_nil _ _)))) ?_
  refine d_q (i := 2) (v := .agg (encSet s).toArray) (CF ⟨b1, 0, none⟩ (encSet s)) (fun _ ho => ho _ (List.mem_of_getElem? (i := 1) rfl) rfl) rfl (by decide +kernel) (by decide +kernel) (by decide +kernel) rfl rfl (fun wq hq => (x_load (seg := (encSet s)) t27 rfl (by simp) rfl hq)) (of_ne rfl (of_eq hf16 (of_ne rfl (of_nil _ _)))) ?_
  refine d_q (i := 3) (v := .bool (decide ((setOf (listOf s)) ≠ s))) (fun _ => True) (fun _ ho => trivial) rfl (by decide +kernel) (by decide +kernel) (by decide +kernel) rfl rfl (fun wq hq => (x_neq_set u27 u25 t25 q27 rfl rfl)) (of_ne rfl (of_ne rfl (of_ne rfl (of_nil _ _)))) ?_
  refine d_q (i := 4) (v := .bool (decide ((setOf (listOf s)) ≠ s))) (fun _ => True) (fun _ ho => trivial) rfl (by decide +kernel) (by decide +kernel) (by decide +kernel) rfl rfl (fun wq hq => (x_move rfl)) (of_ne rfl (of_ne rfl (of_ne rfl (of_nil _ _)))) ?_
  refine d_q (i := 5) (v := .slice A5 (listOf s).length c5) (fun _ => True) (fun _ ho => trivial) rfl (by decide +kernel) (by decide +kernel) (by decide +kernel) (wanted_of (j := 4) (want := false) (d := 13) (b := false) rfl rfl (congrArg Value.bool (decide_eq_false hc8)) rfl) rfl (fun wq hq => (x_move rfl)) (of_ne rfl (of_ne rfl (of_ne rfl (of_nil _ _)))) ?_
  refine d_q (i := 6) (v := .int .i64 ((listOf s).length : Int)) (fun _ => True) (fun _ ho => trivial) rfl (by decide +kernel) (by decide +kernel) (by decide +kernel) (wanted_of (j := 4) (want := false) (d := 13) (b := false) rfl rfl (congrArg Value.bool (decide_eq_false hc8)) rfl) rfl (fun wq hq => (x_len_slice u22 rfl)) (of_ne rfl (of_ne rfl (of_ne rfl (of_nil _ _)))) ?_
  refine d_q (i := 7) (v := .agg (encSet s).toArray) (CF ⟨b1, 0, none⟩ (encSet s)) (fun _ ho => ho _ (List.mem_of_getElem? (i := 2) rfl) rfl) rfl (by decide +kernel) (by decide +kernel) (by decide +kernel) (wanted_of (j := 4) (want := false) (d := 13) (b := false) rfl rfl (congrArg Value.bool (decide_eq_false hc8)) rfl) rfl (fun wq hq => (x_load (seg := (encSet s)) t27 rfl (by simp) rfl hq)) (of_ne rfl (of_ne rfl (of_eq hf17 (of_nil _ _)))) ?_
  refine d_m (i := 8) (v := .int .i64 (count s)) (fun _ => True) (fun _ ho => trivial) rfl (by decide +kernel) (by decide +kernel) (by decide +kernel) (wanted_of (j := 4) (want := false) (d := 13) (b := false) rfl rfl (congrArg Value.bool (decide_eq_false hc8)) rfl) rfl (fun wq => (y_call (args := [.agg (encSet s).toArray]) c17 rfl rfl)) (fun wq hq => (count_calls wq s).mono fun e w2 he => by obtain ⟨_, rfl, _, T, rfl, _⟩ := he; exact ⟨rfl, Chg.of_below T.below⟩) (of_ne rfl (of_ne rfl (of_ne rfl (of_nil _ _)))) ?_
  refine d_q (i := 9) (v := .bool (decide (((listOf s).length : Int) ≠ (count s)))) (fun _ => True) (fun _ ho => trivial) rfl (by decide +kernel) (by decide +kernel) (by decide +kernel) (wanted_of (j := 4) (want := false) (d := 13) (b := false) rfl rfl (congrArg Value.bool (decide_eq_false hc8)) rfl) rfl (fun wq hq => (x_neq rfl rfl)) (of_ne rfl (of_ne rfl (of_ne rfl (of_nil _ _)))) ?_
  refine d_q (i := 10) (v := .bool (decide (((listOf s).length : Int) ≠ (count s)))) (fun _ => True) (fun _ ho => trivial) rfl (by decide +kernel) (by decide +kernel) (by decide +kernel) rfl rfl (fun wq hq => (x_pick_f (congrArg Value.bool (decide_eq_false hc8)) rfl)) (of_ne rfl (of_ne rfl (of_ne rfl (of_nil _ _)))) ?_
  refine ra_done (by decide +kernel) ?_
  intro wd18 gd18
  have S19 : St w.heap.size w h5 wd18 [box b1 27 (encSet s), emp] := S14.keep gd18
  have hc20 : ¬ (((listOf s).length : Int) ≠ (count s)) := by
    exact fun h => h (list_len s)
  refine run_cond (b := false) (congrArg Value.bool (decide_eq_false hc20)) ?_
  simp only [if_true, if_false, Bool.false_eq_true]
  refine run_skip ?_
  refine run_seq ?_
  refine run_seq ?_
  refine run_reg (l := [0]) rfl ?_
  refine p_v (v := .int .i64 0) rfl rfl rfl (x_assign rfl) ?_
  refine run_region_end ?_
  refine run_block ?_
  refine run_loop (S := Int) (fun (q_ : Int) ρ w' => match q_ with | i => ∃ (h : Ghost), Le h5 h ∧ St w.heap.size w h w' [box b1 27 (encSet s)] ∧ ρ 1 = .pointer (some ⟨b1, 0, none⟩) ∧ ρ 3 = .slice A5 (listOf s).length c5 ∧ ρ 4 = .int .i64 i ∧ inK .i64 i ∧ (0 ≤ i ∧ i ≤ ((listOf s).length : Int))) (fun q_ => match q_ with | i => ((listOf s).length - i).toNat) (0) ⟨h5, Le.refl _, S19.sub [0] (by decide) rfl _ rfl, rfl, rfl, rfl, (in_i64 (by first | omega | (simp; omega) | assumption) (by first | omega | (simp; omega) | assumption)), (by exact ⟨by omega, by omega⟩)⟩ ?_
  rintro i ih21 ρ21 w21 ⟨h21, le21, S21, r21_1, r21_3, r21_4, f21_0, hI21⟩
  have lf21_0 := i64_lo f21_0; have hf21_0 := i64_hi f21_0
  refine run_seq ?_
  refine run_seq ?_
  refine run_reg (l := [0, 1, 2, 3]) rfl ?_
  refine p_v (v := .int .i64 i) rfl rfl rfl (x_move r21_4) ?_
  refine p_v (v := .slice A5 (listOf s).length c5) rfl rfl rfl (x_move r21_3) ?_
  refine p_v (v := .int .i64 ((listOf s).length : Int)) rfl rfl rfl (x_len_slice u22 rfl) ?_
  refine p_v (v := .bool (decide (i < ((listOf s).length : Int)))) rfl rfl rfl (x_lss rfl rfl) ?_
  refine run_region_end ?_
  refine run_cond_prop (p := i < ((listOf s).length : Int)) rfl (fun hc22 => ?_) (fun hc22 => ?_)
  · skip
    refine run_skip ?_
    refine run_seq ?_
    refine run_block ?_
    refine run_seq ?_
    by_cases hc23 : 0 < i
    · skip
      obtain ⟨ad24, seg24, a24, rp24, ce24⟩ := e_index_ro (q := i - 1) (m := 1) ld5 rfl (by first | omega | (simp; omega) | assumption) (by first | omega | (simp; omega) | assumption)
      obtain ⟨rfl, in24⟩ := rp24
      have lo24 := u8_lo in24; have hi24 := u8_hi in24
      obtain ⟨ad25, seg25, a25, rp25, ce25⟩ := e_index_ro (q := i) (m := 1) ld5 rfl (by first | omega | (simp; omega) | assumption) (by first | omega | (simp; omega) | assumption)
      obtain ⟨rfl, in25⟩ := rp25
      have lo25 := u8_lo in25; have hi25 := u8_hi in25
      have hc26 : ¬ ((at_ (listOf s) i) ≤ (at_ (listOf s) (i - 1))) := by
        have := list_rise s (i := i - 1) (j := i) (by omega) (by omega) (by omega); omega
      obtain ⟨ad27, seg27, a27, rp27, ce27⟩ := e_index_ro (q := i) (m := 1) ld5 rfl (by first | omega | (simp; omega) | assumption) (by first | omega | (simp; omega) | assumption)
      obtain ⟨rfl, in27⟩ := rp27
      have lo27 := u8_lo in27; have hi27 := u8_hi in27
      have hf29 : (CFs ad24 [.int .u8 (at_ (listOf s) (i - 1))]).1 w21 := (CF.ghost ce24 (le21.trans S21.ghost))
      have hf30 : (CFs ad25 [.int .u8 (at_ (listOf s) i)]).1 w21 := (CF.ghost ce25 (le21.trans S21.ghost))
      have hf31 : (CFs ⟨b1, 0, none⟩ (encSet s)).1 w21 := (CF.box (m := 4) (S21.box_at (j := 0) rfl) (cs := (encSet s)) rfl)
      have hf32 : (CFs ad27 [.int .u8 (at_ (listOf s) i)]).1 w21 := (CF.ghost ce27 (le21.trans S21.ghost))
      refine da_start [(7, CFs ad24 [.int .u8 (at_ (listOf s) (i - 1))]), (11, CFs ad25 [.int .u8 (at_ (listOf s) i)]), (15, CFs ⟨b1, 0, none⟩ (encSet s)), (19, CFs ad27 [.int .u8 (at_ (listOf s) i)])] 23 rfl mixed ?_
      intro wd33 gd33 hd33
      have S34 : St w.heap.size w h21 wd33 [box b1 27 (encSet s)] := S21.keep gd33
      have hf35 := (CFs ad24 [.int .u8 (at_ (listOf s) (i - 1))]).2 _ _ gd33 hf29
      have hf36 := (CFs ad25 [.int .u8 (at_ (listOf s) i)]).2 _ _ gd33 hf30
      have hf37 := (CFs ⟨b1, 0, none⟩ (encSet s)).2 _ _ gd33 hf31
      have hf38 := (CFs ad27 [.int .u8 (at_ (listOf s) i)]).2 _ _ gd33 hf32
      refine d_q (i := 0) (v := .int .i64 i) (fun _ => True) (fun _ ho => trivial) rfl (by decide +kernel) (by decide +kernel) (by decide +kernel) rfl rfl (fun wq hq => (x_move r21_4)) (of_ne rfl (of_ne rfl (of_ne rfl (of_ne rfl (of_nil _ _))))) ?_
      refine d_q (i := 1) (v := .bool (decide (0 < i))) (fun _ => True) (fun _ ho => trivial) rfl (by decide +kernel) (by decide +kernel) (by decide +kernel) rfl rfl (fun wq hq => (x_gtr rfl rfl)) (of_ne rfl (of_ne rfl (of_ne rfl (of_ne rfl (of_nil _ _))))) ?_
      refine d_q (i := 2) (v := .bool (decide (0 < i))) (fun _ => True) (fun _ ho => trivial) rfl (by decide +kernel) (by decide +kernel) (by decide +kernel) rfl rfl (fun wq hq => (x_move rfl)) (of_ne rfl (of_ne rfl (of_ne rfl (of_ne rfl (of_nil _ _))))) ?_
      refine d_q (i := 3) (v := .slice A5 (listOf s).length c5) (fun _ => True) (fun _ ho => trivial) rfl (by decide +kernel) (by decide +kernel) (by decide +kernel) (wanted_of (j := 2) (want := true) (d := 28) (b := true) rfl rfl (congrArg Value.bool (decide_eq_true hc23)) rfl) rfl (fun wq hq => (x_move r21_3)) (of_ne rfl (of_ne rfl (of_ne rfl (of_ne rfl (of_nil _ _))))) ?_
      refine d_q (i := 4) (v := .int .i64 i) (fun _ => True) (fun _ ho => trivial) rfl (by decide +kernel) (by decide +kernel) (by decide +kernel) (wanted_of (j := 2) (want := true) (d := 28) (b := true) rfl rfl (congrArg Value.bool (decide_eq_true hc23)) rfl) rfl (fun wq hq => (x_move r21_4)) (of_ne rfl (of_ne rfl (of_ne rfl (of_ne rfl (of_nil _ _))))) ?_
      refine d_q (i := 5) (v := .int .i64 (i - 1)) (fun _ => True) (fun _ ho => trivial) rfl (by decide +kernel) (by decide +kernel) (by decide +kernel) (wanted_of (j := 2) (want := true) (d := 28) (b := true) rfl rfl (congrArg Value.bool (decide_eq_true hc23)) rfl) rfl (fun wq hq => (x_sub rfl rfl (in_i64 (by first | omega | (simp; omega) | assumption) (by first | omega | (simp; omega) | assumption)))) (of_ne rfl (of_ne rfl (of_ne rfl (of_ne rfl (of_nil _ _))))) ?_
      refine d_q (i := 6) (v := .pointer (some ad24)) (fun _ => True) (fun _ ho => trivial) rfl (by decide +kernel) (by decide +kernel) (by decide +kernel) (wanted_of (j := 2) (want := true) (d := 28) (b := true) rfl rfl (congrArg Value.bool (decide_eq_true hc23)) rfl) rfl (fun wq hq => (x_index_ro u22 t5 rfl rfl a24 (by first | omega | (simp; omega) | assumption) (by first | omega | (simp; omega) | assumption))) (of_ne rfl (of_ne rfl (of_ne rfl (of_ne rfl (of_nil _ _))))) ?_
      refine d_q (i := 7) (v := .int .u8 (at_ (listOf s) (i - 1))) (CF ad24 [.int .u8 (at_ (listOf s) (i - 1))]) (fun _ ho => ho _ (List.mem_of_getElem? (i := 0) rfl) rfl) rfl (by decide +kernel) (by decide +kernel) (by decide +kernel) (wanted_of (j := 2) (want := true) (d := 28) (b := true) rfl rfl (congrArg Value.bool (decide_eq_true hc23)) rfl) rfl (fun wq hq => (x_load (seg := [.int .u8 (at_ (listOf s) (i - 1))]) t5 rfl (by simp) rfl hq)) (of_eq hf35 (of_ne rfl (of_ne rfl (of_ne rfl (of_nil _ _))))) ?_
      refine d_q (i := 8) (v := .slice A5 (listOf s).length c5) (fun _ => True) (fun _ ho => trivial) rfl (by decide +kernel) (by decide +kernel) (by decide +kernel) (wanted_of (j := 2) (want := true) (d := 28) (b := true) rfl rfl (congrArg Value.bool (decide_eq_true hc23)) rfl) rfl (fun wq hq => (x_move r21_3)) (of_ne rfl (of_ne rfl (of_ne rfl (of_ne rfl (of_nil _ _))))) ?_
      refine d_q (i := 9) (v := .int .i64 i) (fun _ => True) (fun _ ho => trivial) rfl (by decide +kernel) (by decide +kernel) (by decide +kernel) (wanted_of (j := 2) (want := true) (d := 28) (b := true) rfl rfl (congrArg Value.bool (decide_eq_true hc23)) rfl) rfl (fun wq hq => (x_move r21_4)) (of_ne rfl (of_ne rfl (of_ne rfl (of_ne rfl (of_nil _ _))))) ?_
      refine d_q (i := 10) (v := .pointer (some ad25)) (fun _ => True) (fun _ ho => trivial) rfl (by decide +kernel) (by decide +kernel) (by decide +kernel) (wanted_of (j := 2) (want := true) (d := 28) (b := true) rfl rfl (congrArg Value.bool (decide_eq_true hc23)) rfl) rfl (fun wq hq => (x_index_ro u22 t5 rfl rfl a25 (by first | omega | (simp; omega) | assumption) (by first | omega | (simp; omega) | assumption))) (of_ne rfl (of_ne rfl (of_ne rfl (of_ne rfl (of_nil _ _))))) ?_
      refine d_q (i := 11) (v := .int .u8 (at_ (listOf s) i)) (CF ad25 [.int .u8 (at_ (listOf s) i)]) (fun _ ho => ho _ (List.mem_of_getElem? (i := 1) rfl) rfl) rfl (by decide +kernel) (by decide +kernel) (by decide +kernel) (wanted_of (j := 2) (want := true) (d := 28) (b := true) rfl rfl (congrArg Value.bool (decide_eq_true hc23)) rfl) rfl (fun wq hq => (x_load (seg := [.int .u8 (at_ (listOf s) i)]) t5 rfl (by simp) rfl hq)) (of_ne rfl (of_eq hf36 (of_ne rfl (of_ne rfl (of_nil _ _))))) ?_
      refine d_q (i := 12) (v := .bool (decide ((at_ (listOf s) i) ≤ (at_ (listOf s) (i - 1))))) (fun _ => True) (fun _ ho => trivial) rfl (by decide +kernel) (by decide +kernel) (by decide +kernel) (wanted_of (j := 2) (want := true) (d := 28) (b := true) rfl rfl (congrArg Value.bool (decide_eq_true hc23)) rfl) rfl (fun wq hq => (x_geq rfl rfl)) (of_ne rfl (of_ne rfl (of_ne rfl (of_ne rfl (of_nil _ _))))) ?_
      refine d_q (i := 13) (v := .bool (decide ((at_ (listOf s) i) ≤ (at_ (listOf s) (i - 1))))) (fun _ => True) (fun _ ho => trivial) rfl (by decide +kernel) (by decide +kernel) (by decide +kernel) rfl rfl (fun wq hq => (x_pick_t (congrArg Value.bool (decide_eq_true hc23)) rfl)) (of_ne rfl (of_ne rfl (of_ne rfl (of_ne rfl (of_nil _ _))))) ?_
      refine d_q (i := 14) (v := .bool (decide ((at_ (listOf s) i) ≤ (at_ (listOf s) (i - 1))))) (fun _ => True) (fun _ ho => trivial) rfl (by decide +kernel) (by decide +kernel) (by decide +kernel) rfl rfl (fun wq hq => (x_move rfl)) (of_ne rfl (of_ne rfl (of_ne rfl (of_ne rfl (of_nil _ _))))) ?_
      refine d_q (i := 15) (v := .agg (encSet s).toArray) (CF ⟨b1, 0, none⟩ (encSet s)) (fun _ ho => ho _ (List.mem_of_getElem? (i := 2) rfl) rfl) rfl (by decide +kernel) (by decide +kernel) (by decide +kernel) (wanted_of (j := 14) (want := false) (d := 40) (b := false) rfl rfl (congrArg Value.bool (decide_eq_false hc26)) rfl) rfl (fun wq hq => (x_load (seg := (encSet s)) t27 rfl (by simp) r21_1 hq)) (of_ne rfl (of_ne rfl (of_eq hf37 (of_ne rfl (of_nil _ _))))) ?_
      refine d_q (i := 16) (v := .slice A5 (listOf s).length c5) (fun _ => True) (fun _ ho => trivial) rfl (by decide +kernel) (by decide +kernel) (by decide +kernel) (wanted_of (j := 14) (want := false) (d := 40) (b := false) rfl rfl (congrArg Value.bool (decide_eq_false hc26)) rfl) rfl (fun wq hq => (x_move r21_3)) (of_ne rfl (of_ne rfl (of_ne rfl (of_ne rfl (of_nil _ _))))) ?_
      refine d_q (i := 17) (v := .int .i64 i) (fun _ => True) (fun _ ho => trivial) rfl (by decide +kernel) (by decide +kernel) (by decide +kernel) (wanted_of (j := 14) (want := false) (d := 40) (b := false) rfl rfl (congrArg Value.bool (decide_eq_false hc26)) rfl) rfl (fun wq hq => (x_move r21_4)) (of_ne rfl (of_ne rfl (of_ne rfl (of_ne rfl (of_nil _ _))))) ?_
      refine d_q (i := 18) (v := .pointer (some ad27)) (fun _ => True) (fun _ ho => trivial) rfl (by decide +kernel) (by decide +kernel) (by decide +kernel) (wanted_of (j := 14) (want := false) (d := 40) (b := false) rfl rfl (congrArg Value.bool (decide_eq_false hc26)) rfl) rfl (fun wq hq => (x_index_ro u22 t5 rfl rfl a27 (by first | omega | (simp; omega) | assumption) (by first | omega | (simp; omega) | assumption))) (of_ne rfl (of_ne rfl (of_ne rfl (of_ne rfl (of_nil _ _))))) ?_
      refine d_q (i := 19) (v := .int .u8 (at_ (listOf s) i)) (CF ad27 [.int .u8 (at_ (listOf s) i)]) (fun _ ho => ho _ (List.mem_of_getElem? (i := 3) rfl) rfl) rfl (by decide +kernel) (by decide +kernel) (by decide +kernel) (wanted_of (j := 14) (want := false) (d := 40) (b := false) rfl rfl (congrArg Value.bool (decide_eq_false hc26)) rfl) rfl (fun wq hq => (x_load (seg := [.int .u8 (at_ (listOf s) i)]) t5 rfl (by simp) rfl hq)) (of_ne rfl (of_ne rfl (of_ne rfl (of_eq hf38 (of_nil _ _))))) ?_
      refine d_m (i := 20) (v := .bool (has s (at_ (listOf s) i))) (fun _ => True) (fun _ ho => trivial) rfl (by decide +kernel) (by decide +kernel) (by decide +kernel) (wanted_of (j := 14) (want := false) (d := 40) (b := false) rfl rfl (congrArg Value.bool (decide_eq_false hc26)) rfl) rfl (fun wq => (y_call (args := [.agg (encSet s).toArray, .int .u8 (at_ (listOf s) i)]) c18 rfl rfl)) (fun wq hq => (has_calls wq s (at_ (listOf s) i) (in_u8 (by first | omega | (simp; omega) | assumption) (by first | omega | (simp; omega) | assumption))).mono fun e w2 he => by obtain ⟨_, rfl, _, T, rfl⟩ := he; exact ⟨rfl, Chg.of_below T.below⟩) (of_ne rfl (of_ne rfl (of_ne rfl (of_ne rfl (of_nil _ _))))) ?_
      refine d_q (i := 21) (v := .bool (!(has s (at_ (listOf s) i)))) (fun _ => True) (fun _ ho => trivial) rfl (by decide +kernel) (by decide +kernel) (by decide +kernel) (wanted_of (j := 14) (want := false) (d := 40) (b := false) rfl rfl (congrArg Value.bool (decide_eq_false hc26)) rfl) rfl (fun wq hq => (x_not rfl)) (of_ne rfl (of_ne rfl (of_ne rfl (of_ne rfl (of_nil _ _))))) ?_
      refine d_q (i := 22) (v := .bool (!(has s (at_ (listOf s) i)))) (fun _ => True) (fun _ ho => trivial) rfl (by decide +kernel) (by decide +kernel) (by decide +kernel) rfl rfl (fun wq hq => (x_pick_f (congrArg Value.bool (decide_eq_false hc26)) rfl)) (of_ne rfl (of_ne rfl (of_ne rfl (of_ne rfl (of_nil _ _))))) ?_
      refine ra_done (by decide +kernel) ?_
      intro wd39 gd39
      have S40 : St w.heap.size w h21 wd39 [box b1 27 (encSet s)] := S34.keep gd39
      have hc41 : (has s (at_ (listOf s) i)) = true := by
        exact (list_get s (by omega) (by omega)).2.2
      refine run_cond (b := false) (congrArg (fun z => Value.bool (!z)) hc41) ?_
      simp only [if_true, if_false, Bool.false_eq_true]
      refine run_skip ?_
      refine run_inBlock ?_
      refine run_reg (l := [0, 1, 2]) rfl ?_
      refine p_v (v := .int .i64 i) rfl rfl rfl (x_move r21_4) ?_
      refine p_v (v := .int .i64 (i + 1)) rfl rfl rfl (x_add rfl rfl (in_i64 (by first | omega | (simp; omega) | assumption) (by first | omega | (simp; omega) | assumption))) ?_
      refine p_v (v := .int .i64 (i + 1)) rfl rfl rfl (x_assign rfl) ?_
      refine run_region_end ?_
      refine ih21 (i + 1) _ _ (by dsimp only; omega) ⟨h21, le21, S40.sub [0] (by decide) rfl _ rfl, r21_1, r21_3, rfl, (in_i64 (by first | omega | (simp; omega) | assumption) (by first | omega | (simp; omega) | assumption)), (by exact ⟨by omega, by omega⟩)⟩
    · skip
      obtain ⟨ad42, seg42, a42, rp42, ce42⟩ := e_index_ro (q := i) (m := 1) ld5 rfl (by first | omega | (simp; omega) | assumption) (by first | omega | (simp; omega) | assumption)
      obtain ⟨rfl, in42⟩ := rp42
      have lo42 := u8_lo in42; have hi42 := u8_hi in42
      have hf44 : (CFs ⟨b1, 0, none⟩ (encSet s)).1 w21 := (CF.box (m := 4) (S21.box_at (j := 0) rfl) (cs := (encSet s)) rfl)
      have hf45 : (CFs ad42 [.int .u8 (at_ (listOf s) i)]).1 w21 := (CF.ghost ce42 (le21.trans S21.ghost))
      refine da_start [(15, CFs ⟨b1, 0, none⟩ (encSet s)), (19, CFs ad42 [.int .u8 (at_ (listOf s) i)])] 23 rfl mixed ?_
      intro wd46 gd46 hd46
      have S47 : St w.heap.size w h21 wd46 [box b1 27 (encSet s)] := S21.keep gd46
      have hf48 := (CFs ⟨b1, 0, none⟩ (encSet s)).2 _ _ gd46 hf44
      have hf49 := (CFs ad42 [.int .u8 (at_ (listOf s) i)]).2 _ _ gd46 hf45
      refine d_q (i := 0) (v := .int .i64 i) (fun _ => True) (fun _ ho => trivial) rfl (by decide +kernel) (by decide +kernel) (by decide +kernel) rfl rfl (fun wq hq => (x_move r21_4)) (of_ne rfl (of_ne rfl (of_nil _ _))) ?_
      refine d_q (i := 1) (v := .bool (decide (0 < i))) (fun _ => True) (fun _ ho => trivial) rfl (by decide +kernel) (by decide +kernel) (by decide +kernel) rfl rfl (fun wq hq => (x_gtr rfl rfl)) (of_ne rfl (of_ne rfl (of_nil _ _))) ?_
      refine d_q (i := 2) (v := .bool (decide (0 < i))) (fun _ => True) (fun _ ho => trivial) rfl (by decide +kernel) (by decide +kernel) (by decide +kernel) rfl rfl (fun wq hq => (x_move rfl)) (of_ne rfl (of_ne rfl (of_nil _ _))) ?_
      refine d_off (i := 3) rfl (by decide +kernel) (by decide +kernel) (by decide +kernel) (wanted_of (j := 2) (want := true) (d := 28) (b := false) rfl rfl (congrArg Value.bool (decide_eq_false hc23)) rfl) rfl (of_ne rfl (of_ne rfl (of_nil _ _))) ?_
      refine d_off (i := 4) rfl (by decide +kernel) (by decide +kernel) (by decide +kernel) (wanted_of (j := 2) (want := true) (d := 28) (b := false) rfl rfl (congrArg Value.bool (decide_eq_false hc23)) rfl) rfl (of_ne rfl (of_ne rfl (of_nil _ _))) ?_
      refine d_off (i := 5) rfl (by decide +kernel) (by decide +kernel) (by decide +kernel) (wanted_of (j := 2) (want := true) (d := 28) (b := false) rfl rfl (congrArg Value.bool (decide_eq_false hc23)) rfl) rfl (of_ne rfl (of_ne rfl (of_nil _ _))) ?_
      refine d_off (i := 6) rfl (by decide +kernel) (by decide +kernel) (by decide +kernel) (wanted_of (j := 2) (want := true) (d := 28) (b := false) rfl rfl (congrArg Value.bool (decide_eq_false hc23)) rfl) rfl (of_ne rfl (of_ne rfl (of_nil _ _))) ?_
      refine d_off (i := 7) rfl (by decide +kernel) (by decide +kernel) (by decide +kernel) (wanted_of (j := 2) (want := true) (d := 28) (b := false) rfl rfl (congrArg Value.bool (decide_eq_false hc23)) rfl) rfl (of_ne rfl (of_ne rfl (of_nil _ _))) ?_
      refine d_off (i := 8) rfl (by decide +kernel) (by decide +kernel) (by decide +kernel) (wanted_of (j := 2) (want := true) (d := 28) (b := false) rfl rfl (congrArg Value.bool (decide_eq_false hc23)) rfl) rfl (of_ne rfl (of_ne rfl (of_nil _ _))) ?_
      refine d_off (i := 9) rfl (by decide +kernel) (by decide +kernel) (by decide +kernel) (wanted_of (j := 2) (want := true) (d := 28) (b := false) rfl rfl (congrArg Value.bool (decide_eq_false hc23)) rfl) rfl (of_ne rfl (of_ne rfl (of_nil _ _))) ?_
      refine d_off (i := 10) rfl (by decide +kernel) (by decide +kernel) (by decide +kernel) (wanted_of (j := 2) (want := true) (d := 28) (b := false) rfl rfl (congrArg Value.bool (decide_eq_false hc23)) rfl) rfl (of_ne rfl (of_ne rfl (of_nil _ _))) ?_
      refine d_off (i := 11) rfl (by decide +kernel) (by decide +kernel) (by decide +kernel) (wanted_of (j := 2) (want := true) (d := 28) (b := false) rfl rfl (congrArg Value.bool (decide_eq_false hc23)) rfl) rfl (of_ne rfl (of_ne rfl (of_nil _ _))) ?_
      refine d_off (i := 12) rfl (by decide +kernel) (by decide +kernel) (by decide +kernel) (wanted_of (j := 2) (want := true) (d := 28) (b := false) rfl rfl (congrArg Value.bool (decide_eq_false hc23)) rfl) rfl (of_ne rfl (of_ne rfl (of_nil _ _))) ?_
      refine d_q (i := 13) (v := .bool false) (fun _ => True) (fun _ ho => trivial) rfl (by decide +kernel) (by decide +kernel) (by decide +kernel) rfl rfl (fun wq hq => (x_pick_f (congrArg Value.bool (decide_eq_false hc23)) rfl)) (of_ne rfl (of_ne rfl (of_nil _ _))) ?_
      refine d_q (i := 14) (v := .bool false) (fun _ => True) (fun _ ho => trivial) rfl (by decide +kernel) (by decide +kernel) (by decide +kernel) rfl rfl (fun wq hq => (x_move rfl)) (of_ne rfl (of_ne rfl (of_nil _ _))) ?_
      refine d_q (i := 15) (v := .agg (encSet s).toArray) (CF ⟨b1, 0, none⟩ (encSet s)) (fun _ ho => ho _ (List.mem_of_getElem? (i := 0) rfl) rfl) rfl (by decide +kernel) (by decide +kernel) (by decide +kernel) rfl rfl (fun wq hq => (x_load (seg := (encSet s)) t27 rfl (by simp) r21_1 hq)) (of_eq hf48 (of_ne rfl (of_nil _ _))) ?_
      refine d_q (i := 16) (v := .slice A5 (listOf s).length c5) (fun _ => True) (fun _ ho => trivial) rfl (by decide +kernel) (by decide +kernel) (by decide +kernel) rfl rfl (fun wq hq => (x_move r21_3)) (of_ne rfl (of_ne rfl (of_nil _ _))) ?_
      refine d_q (i := 17) (v := .int .i64 i) (fun _ => True) (fun _ ho => trivial) rfl (by decide +kernel) (by decide +kernel) (by decide +kernel) rfl rfl (fun wq hq => (x_move r21_4)) (of_ne rfl (of_ne rfl (of_nil _ _))) ?_
      refine d_q (i := 18) (v := .pointer (some ad42)) (fun _ => True) (fun _ ho => trivial) rfl (by decide +kernel) (by decide +kernel) (by decide +kernel) rfl rfl (fun wq hq => (x_index_ro u22 t5 rfl rfl a42 (by first | omega | (simp; omega) | assumption) (by first | omega | (simp; omega) | assumption))) (of_ne rfl (of_ne rfl (of_nil _ _))) ?_
      refine d_q (i := 19) (v := .int .u8 (at_ (listOf s) i)) (CF ad42 [.int .u8 (at_ (listOf s) i)]) (fun _ ho => ho _ (List.mem_of_getElem? (i := 1) rfl) rfl) rfl (by decide +kernel) (by decide +kernel) (by decide +kernel) rfl rfl (fun wq hq => (x_load (seg := [.int .u8 (at_ (listOf s) i)]) t5 rfl (by simp) rfl hq)) (of_ne rfl (of_eq hf49 (of_nil _ _))) ?_
      refine d_m (i := 20) (v := .bool (has s (at_ (listOf s) i))) (fun _ => True) (fun _ ho => trivial) rfl (by decide +kernel) (by decide +kernel) (by decide +kernel) rfl rfl (fun wq => (y_call (args := [.agg (encSet s).toArray, .int .u8 (at_ (listOf s) i)]) c18 rfl rfl)) (fun wq hq => (has_calls wq s (at_ (listOf s) i) (in_u8 (by first | omega | (simp; omega) | assumption) (by first | omega | (simp; omega) | assumption))).mono fun e w2 he => by obtain ⟨_, rfl, _, T, rfl⟩ := he; exact ⟨rfl, Chg.of_below T.below⟩) (of_ne rfl (of_ne rfl (of_nil _ _))) ?_
      refine d_q (i := 21) (v := .bool (!(has s (at_ (listOf s) i)))) (fun _ => True) (fun _ ho => trivial) rfl (by decide +kernel) (by decide +kernel) (by decide +kernel) rfl rfl (fun wq hq => (x_not rfl)) (of_ne rfl (of_ne rfl (of_nil _ _))) ?_
      refine d_q (i := 22) (v := .bool (!(has s (at_ (listOf s) i)))) (fun _ => True) (fun _ ho => trivial) rfl (by decide +kernel) (by decide +kernel) (by decide +kernel) rfl rfl (fun wq hq => (x_pick_f rfl rfl)) (of_ne rfl (of_ne rfl (of_nil _ _))) ?_
      refine ra_done (by decide +kernel) ?_
      intro wd50 gd50
      have S51 : St w.heap.size w h21 wd50 [box b1 27 (encSet s)] := S47.keep gd50
      have hc52 : (has s (at_ (listOf s) i)) = true := by
        exact (list_get s (by omega) (by omega)).2.2
      refine run_cond (b := false) (congrArg (fun z => Value.bool (!z)) hc52) ?_
      simp only [if_true, if_false, Bool.false_eq_true]
      refine run_skip ?_
      refine run_inBlock ?_
      refine run_reg (l := [0, 1, 2]) rfl ?_
      refine p_v (v := .int .i64 i) rfl rfl rfl (x_move r21_4) ?_
      refine p_v (v := .int .i64 (i + 1)) rfl rfl rfl (x_add rfl rfl (in_i64 (by first | omega | (simp; omega) | assumption) (by first | omega | (simp; omega) | assumption))) ?_
      refine p_v (v := .int .i64 (i + 1)) rfl rfl rfl (x_assign rfl) ?_
      refine run_region_end ?_
      refine ih21 (i + 1) _ _ (by dsimp only; omega) ⟨h21, le21, S51.sub [0] (by decide) rfl _ rfl, r21_1, r21_3, rfl, (in_i64 (by first | omega | (simp; omega) | assumption) (by first | omega | (simp; omega) | assumption)), (by exact ⟨by omega, by omega⟩)⟩
  · skip
    refine run_exit rfl ?_
    refine run_seq ?_
    refine run_reg (l := [0, 1, 2, 3, 4, 5, 6]) rfl ?_
    refine p_v (v := .agg (encSet s).toArray) rfl rfl rfl (x_load (seg := (encSet s)) t27 rfl (by simp) r21_1 (CF.box (m := 4) (S21.box_at (j := 0) rfl) (cs := (encSet s)) rfl)) ?_
    refine p_c rfl rfl rfl (y_call (args := [.agg (encSet s).toArray]) c19 rfl rfl) (first_calls w21 s (Block.st S21 tb)) ?_
    rintro _ w53 ⟨h53, T53, rfl, in53_0⟩
    have S54 : St w.heap.size w h21 w53 [box b1 27 (encSet s)] := S21.keep (Chg.of_below T53.below)
    have lo_in53_0 := u8_lo in53_0; have hi_in53_0 := u8_hi in53_0
    refine p_v (v := .tuple #[.int .u8 (first s), .bool (someIn s)]) rfl rfl rfl (x_move rfl) ?_
    refine p_v (v := .int .u8 (first s)) rfl rfl rfl (x_extract (vs := [.int .u8 (first s), .bool (someIn s)]) rfl rfl) ?_
    refine p_v (v := .bool (someIn s)) rfl rfl rfl (x_extract (vs := [.int .u8 (first s), .bool (someIn s)]) rfl rfl) ?_
    refine p_v (v := .int .u8 (first s)) rfl rfl rfl (x_assign rfl) ?_
    refine p_v (v := .bool (someIn s)) rfl rfl rfl (x_assign rfl) ?_
    refine run_region_end ?_
    refine run_seq ?_
    refine run_reg (l := [0, 1, 2, 3, 4, 5, 6, 7, 8, 9, 10, 11, 12, 13, 14, 15, 16, 17, 18, 19]) rfl ?_
    refine p_v (v := .bool (someIn s)) rfl rfl rfl (x_move rfl) ?_
    refine p_v (v := .slice A5 (listOf s).length c5) rfl rfl rfl (x_move r21_3) ?_
    refine p_v (v := .int .i64 ((listOf s).length : Int)) rfl rfl rfl (x_len_slice u22 rfl) ?_
    refine p_v (v := .bool (decide (0 < ((listOf s).length : Int)))) rfl rfl rfl (x_gtr rfl rfl) ?_
    refine p_v (v := .bool (decide ((someIn s) = (decide (0 < ((listOf s).length : Int)))))) rfl rfl rfl (x_eql_bool u4 rfl rfl) ?_
    refine p_v (v := .bool (decide ((someIn s) = (decide (0 < ((listOf s).length : Int)))))) rfl rfl rfl (x_move rfl) ?_
    have hc55 : ((someIn s) = (decide (0 < ((listOf s).length : Int)))) := by
      exact some_list s
    refine p_v (v := .bool (someIn s)) rfl (wanted_of (j := 5) (want := true) (d := 59) (b := true) rfl rfl (congrArg Value.bool (decide_eq_true hc55)) rfl) rfl (x_move rfl) ?_
    refine p_v (v := .bool (!(someIn s))) rfl (wanted_of (j := 5) (want := true) (d := 59) (b := true) rfl rfl (congrArg Value.bool (decide_eq_true hc55)) rfl) rfl (x_not rfl) ?_
    refine p_v (v := .bool (!(someIn s))) rfl (wanted_of (j := 5) (want := true) (d := 59) (b := true) rfl rfl (congrArg Value.bool (decide_eq_true hc55)) rfl) rfl (x_move rfl) ?_
    rcases Bool.eq_false_or_eq_true (someIn s) with hc56 | hc56
    · skip
      have sl := some_list s; rw [hc56] at sl; have sl2 : 0 < ((listOf s).length : Int) := by simpa using sl.symm
      refine p_v (v := .int .u8 (first s)) rfl (wanted_of (j := 8) (want := false) (d := 62) (b := false) rfl rfl (congrArg (fun z => Value.bool (!z)) hc56) rfl) rfl (x_move rfl) ?_
      refine p_v (v := .slice A5 (listOf s).length c5) rfl (wanted_of (j := 8) (want := false) (d := 62) (b := false) rfl rfl (congrArg (fun z => Value.bool (!z)) hc56) rfl) rfl (x_move r21_3) ?_
      obtain ⟨ad57, seg57, a57, rp57, ce57⟩ := e_index_ro (q := 0) (m := 1) ld5 rfl (by first | omega | (simp; omega) | assumption) (by first | omega | (simp; omega) | assumption)
      refine p_v (v := .pointer (some ad57)) rfl (wanted_of (j := 8) (want := false) (d := 62) (b := false) rfl rfl (congrArg (fun z => Value.bool (!z)) hc56) rfl) rfl (x_index_ro u22 t5 rfl rfl a57 (by first | omega | (simp; omega) | assumption) (by first | omega | (simp; omega) | assumption)) ?_
      obtain ⟨rfl, in57⟩ := rp57
      have lo57 := u8_lo in57; have hi57 := u8_hi in57
      refine p_v (v := .int .u8 (at_ (listOf s) 0)) rfl (wanted_of (j := 8) (want := false) (d := 62) (b := false) rfl rfl (congrArg (fun z => Value.bool (!z)) hc56) rfl) rfl (x_load (seg := [.int .u8 (at_ (listOf s) 0)]) t5 rfl (by simp) rfl (CF.ghost ce57 (le21.trans S54.ghost))) ?_
      refine p_v (v := .bool (decide ((first s) = (at_ (listOf s) 0)))) rfl (wanted_of (j := 8) (want := false) (d := 62) (b := false) rfl rfl (congrArg (fun z => Value.bool (!z)) hc56) rfl) rfl (x_eql rfl rfl) ?_
      refine p_v (v := .bool (decide ((first s) = (at_ (listOf s) 0)))) rfl (wanted_of (j := 5) (want := true) (d := 59) (b := true) rfl rfl (congrArg Value.bool (decide_eq_true hc55)) rfl) rfl (x_pick_f (congrArg (fun z => Value.bool (!z)) hc56) rfl) ?_
      refine p_v (v := .bool (decide ((first s) = (at_ (listOf s) 0)))) rfl rfl rfl (x_pick_t (congrArg Value.bool (decide_eq_true hc55)) rfl) ?_
      refine p_v (v := .bool (decide ((first s) = (at_ (listOf s) 0)))) rfl rfl rfl (x_move rfl) ?_
      have hc58 : ((first s) = (at_ (listOf s) 0)) := by
        exact first_list s (by omega)
      refine p_c rfl (wanted_of (j := 16) (want := true) (d := 70) (b := true) rfl rfl (congrArg Value.bool (decide_eq_true hc58)) rfl) rfl (y_call (args := []) c13 rfl rfl) (awake_calls w53  (Block.st S54 tb)) ?_
      rintro _ w59 ⟨h59, T59, rfl⟩
      have S60 : St w.heap.size w h21 w59 [box b1 27 (encSet s)] := S54.keep (Chg.of_below T59.below)
      refine p_v (v := .bool true) rfl rfl rfl (x_pick_t (congrArg Value.bool (decide_eq_true hc58)) rfl) ?_
      refine p_v (v := .bool true) rfl rfl rfl (x_assign rfl) ?_
      refine run_region_end ?_
      refine run_ret Tryd.func4 (res1 rfl (res_tmp (v := .bool true) rfl)) ?_
      have q0 : (true : Bool) = true := rfl
      refine ⟨_, rfl, h21, ?_, ?_⟩
      · exact S60.sub [] (by decide) rfl _ rfl
      · rfl
    · skip
      refine p_off rfl (wanted_of (j := 8) (want := false) (d := 62) (b := true) rfl rfl (congrArg (fun z => Value.bool (!z)) hc56) rfl) rfl ?_
      refine p_off rfl (wanted_of (j := 8) (want := false) (d := 62) (b := true) rfl rfl (congrArg (fun z => Value.bool (!z)) hc56) rfl) rfl ?_
      refine p_off rfl (wanted_of (j := 8) (want := false) (d := 62) (b := true) rfl rfl (congrArg (fun z => Value.bool (!z)) hc56) rfl) rfl ?_
      refine p_off rfl (wanted_of (j := 8) (want := false) (d := 62) (b := true) rfl rfl (congrArg (fun z => Value.bool (!z)) hc56) rfl) rfl ?_
      refine p_off rfl (wanted_of (j := 8) (want := false) (d := 62) (b := true) rfl rfl (congrArg (fun z => Value.bool (!z)) hc56) rfl) rfl ?_
      refine p_v (v := .bool true) rfl (wanted_of (j := 5) (want := true) (d := 59) (b := true) rfl rfl (congrArg Value.bool (decide_eq_true hc55)) rfl) rfl (x_pick_t (congrArg (fun z => Value.bool (!z)) hc56) rfl) ?_
      refine p_v (v := .bool true) rfl rfl rfl (x_pick_t (congrArg Value.bool (decide_eq_true hc55)) rfl) ?_
      refine p_v (v := .bool true) rfl rfl rfl (x_move rfl) ?_
      refine p_c rfl rfl rfl (y_call (args := []) c13 rfl rfl) (awake_calls w53  (Block.st S54 tb)) ?_
      rintro _ w62 ⟨h62, T62, rfl⟩
      have S63 : St w.heap.size w h21 w62 [box b1 27 (encSet s)] := S54.keep (Chg.of_below T62.below)
      refine p_v (v := .bool true) rfl rfl rfl (x_pick_t rfl rfl) ?_
      refine p_v (v := .bool true) rfl rfl rfl (x_assign rfl) ?_
      refine run_region_end ?_
      refine run_ret Tryd.func4 (res1 rfl (res_tmp (v := .bool true) rfl)) ?_
      have q0 : (true : Bool) = true := rfl
      refine ⟨_, rfl, h21, ?_, ?_⟩
      · exact S63.sub [] (by decide) rfl _ rfl
      · rfl
end Go.Proofs.YtlcmimjdnhjeoaaDoor
