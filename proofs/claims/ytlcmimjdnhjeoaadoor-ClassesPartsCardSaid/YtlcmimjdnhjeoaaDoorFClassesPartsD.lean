/- The law ClassesParts, walked: it tells true at every input, and writes nothing that was there. -/
import Derived.Test.YtlcmimjdnhjeoaaDoorTD
import Derived.Test.YtlcmimjdnhjeoaaDoorF0D
import Derived.Test.YtlcmimjdnhjeoaaDoorM7
namespace Go.Proofs.YtlcmimjdnhjeoaaDoor
open Go Go.RowKit Gx
set_option maxHeartbeats 1000000
set_option linter.unusedVariables false
set_option linter.unusedSimpArgs false
attribute [local irreducible] members pack listOf count first someIn has setOf setRange wbits Lib.ctz partOf refineP setsP leastP rightP splitsP splitP unionTo apartTo cutTo anyTo firstTo cuts

theorem classesParts_calls (w : World) (sets : List BSet) (A0 : Option Addr) (c0 : Nat) (b0 : sets.length ≤ c0 ∧ c0 ≤ maxLen) (l0 : Leads kSet (hp w) A0 sets) (s : BSet) (k : Int) (i2 : inK .i64 k) (tb : Block 0 tzTab w) :
    Calls Tryd.prog 10 #[.slice A0 sets.length c0, .agg (encSet s).toArray, .int .i64 k] w fun e w' => ∃ v, e = .returned v ∧ ∃ (hn : Ghost), St w.heap.size w hn w' [] ∧ v = .bool true := by
  refine calls_of_run Tryd.func10 rfl Tryd.ntmps10 rfl ?_
  have S0 := St.init w
  have bb0 := b0.1; have bc0 := b0.2; simp only [maxLen] at bc0
  have lo2 := i64_lo i2; have hi2 := i64_hi i2
  refine run_seq ?_
  refine run_reg (l := [0, 1]) rfl ?_
  obtain ⟨b1, w1, r1, g1, T1⟩ := e_box (P := Tryd.prog) S0 27 (v := .agg (encSet s).toArray) (encSet s) rfl
  have S2 : St w.heap.size w (fun _ => none) w1 [box b1 27 (encSet s)] := T1
  refine p_v (v := .pointer (some ⟨b1, 0, none⟩)) rfl rfl rfl (x_box rfl r1) ?_
  refine p_v (v := .bool false) rfl rfl rfl (x_assign rfl) ?_
  refine run_region_end ?_
  refine run_seq ?_
  refine run_seq ?_
  refine run_reg (l := [0, 1, 2]) rfl ?_
  refine p_v (v := .slice A0 sets.length c0) rfl rfl rfl (x_move rfl) ?_
  refine p_v (v := .int .i64 (sets.length : Int)) rfl rfl rfl (x_len_slice u44 rfl) ?_
  refine p_v (v := .bool (decide (40 < (sets.length : Int)))) rfl rfl rfl (x_gtr rfl rfl) ?_
  refine run_region_end ?_
  refine run_cond_prop (p := 40 < (sets.length : Int)) rfl (fun hc3 => ?_) (fun hc3 => ?_)
  · skip
    refine run_seq ?_
    refine run_reg (l := [0, 1]) rfl ?_
    refine p_c rfl rfl rfl (y_call (args := []) c26 rfl rfl) (awake2_calls w1  (Block.st S2 tb)) ?_
    rintro _ w4 ⟨h4, T4, rfl⟩
    have S5 : St w.heap.size w (fun _ => none) w4 [box b1 27 (encSet s)] := S2.keep (Chg.of_below T4.below)
    refine p_v (v := .bool true) rfl rfl rfl (x_assign rfl) ?_
    refine run_region_end ?_
    refine run_ret Tryd.func10 (res1 rfl (res_tmp (v := .bool true) rfl)) ?_
    have q0 : (true : Bool) = true := rfl
    refine ⟨_, rfl, (fun _ => none), ?_, ?_⟩
    · exact S5.sub [] (by decide) rfl _ rfl
    · rfl
  · skip
    refine run_skip ?_
    refine run_seq ?_
    refine run_reg (l := [0, 1, 2, 3]) rfl ?_
    refine p_v (v := .slice A0 sets.length c0) rfl rfl rfl (x_move rfl) ?_
    refine p_c rfl rfl rfl (y_call (args := [.slice A0 sets.length c0]) c27 rfl rfl) (refine_calls w1 sets A0 c0 b0 (l0.mono (St.le0 S2))) ?_
    rintro _ w7 ⟨h7, T7, rfl, ok7_0⟩
    have S8 : St w.heap.size w (fun _ => none) w7 [box b1 27 (encSet s)] := S2.keep (Chg.of_below T7.below)
    obtain ⟨b9, w9, r9, g9, T9⟩ := e_box (P := Tryd.prog) S8 48 (v := (.agg #[.int .u8 0, .int .u8 0, .int .u8 0, .int .u8 0, .int .u8 0, .int .u8 0, .int .u8 0, .int .u8 0, .int .u8 0, .int .u8 0, .int .u8 0, .int .u8 0, .int .u8 0, .int .u8 0, .int .u8 0, .int .u8 0, .int .u8 0, .int .u8 0, .int .u8 0, .int .u8 0, .int .u8 0, .int .u8 0, .int .u8 0, .int .u8 0, .int .u8 0, .int .u8 0, .int .u8 0, .int .u8 0, .int .u8 0, .int .u8 0, .int .u8 0, .int .u8 0, .int .u8 0, .int .u8 0, .int .u8 0, .int .u8 0, .int .u8 0, .int .u8 0, .int .u8 0, .int .u8 0, .int .u8 0, .int .u8 0, .int .u8 0, .int .u8 0, .int .u8 0, .int .u8 0, .int .u8 0, .int .u8 0, .int .u8 0, .int .u8 0, .int .u8 0, .int .u8 0, .int .u8 0, .int .u8 0, .int .u8 0, .int .u8 0, .int .u8 0, .int .u8 0, .int .u8 0, .int .u8 0, .int .u8 0, .int .u8 0, .int .u8 0, .int .u8 0, .int .u8 0, .int .u8 0, .int .u8 0, .int .u8 0, .int .u8 0, .int .u8 0, .int .u8 0, .int .u8 0, .int .u8 0, .int .u8 0, .int .u8 0, .int .u8 0, .int .u8 0, .int .u8 0, .int .u8 0, .int .u8 0, .int .u8 0, .int .u8 0, .int .u8 0, .int .u8 0, .int .u8 0, .int .u8 0, .int .u8 0, .int .u8 0, .int .u8 0, .int .u8 0, .int .u8 0, .int .u8 0, .int .u8 0, .int .u8 0, .int .u8 0, .int .u8 0, .int .u8 0, .int .u8 0, .int .u8 0, .int .u8 0, .int .u8 0, .int .u8 0, .int .u8 0, .int .u8 0, .int .u8 0, .int .u8 0, .int .u8 0, .int .u8 0, .int .u8 0, .int .u8 0, .int .u8 0, .int .u8 0, .int .u8 0, .int .u8 0, .int .u8 0, .int .u8 0, .int .u8 0, .int .u8 0, .int .u8 0, .int .u8 0, .int .u8 0, .int .u8 0, .int .u8 0, .int .u8 0, .int .u8 0, .int .u8 0, .int .u8 0, .int .u8 0, .int .u8 0, .int .u8 0, .int .u8 0, .int .u8 0, .int .u8 0, .int .u8 0, .int .u8 0, .int .u8 0, .int .u8 0, .int .u8 0, .int .u8 0, .int .u8 0, .int .u8 0, .int .u8 0, .int .u8 0, .int .u8 0, .int .u8 0, .int .u8 0, .int .u8 0, .int .u8 0, .int .u8 0, .int .u8 0, .int .u8 0, .int .u8 0, .int .u8 0, .int .u8 0, .int .u8 0, .int .u8 0, .int .u8 0, .int .u8 0, .int .u8 0, .int .u8 0, .int .u8 0, .int .u8 0, .int .u8 0, .int .u8 0, .int .u8 0, .int .u8 0, .int .u8 0, .int .u8 0, .int .u8 0, .int .u8 0, .int .u8 0, .int .u8 0, .int .u8 0, .int .u8 0, .int .u8 0, .int .u8 0, .int .u8 0, .int .u8 0, .int .u8 0, .int .u8 0, .int .u8 0, .int .u8 0, .int .u8 0, .int .u8 0, .int .u8 0, .int .u8 0, .int .u8 0, .int .u8 0, .int .u8 0, .int .u8 0, .int .u8 0, .int .u8 0, .int .u8 0, .int .u8 0, .int .u8 0, .int .u8 0, .int .u8 0, .int .u8 0, .int .u8 0, .int .u8 0, .int .u8 0, .int .u8 0, .int .u8 0, .int .u8 0, .int .u8 0, .int .u8 0, .int .u8 0, .int .u8 0, .int .u8 0, .int .u8 0, .int .u8 0, .int .u8 0, .int .u8 0, .int .u8 0, .int .u8 0, .int .u8 0, .int .u8 0, .int .u8 0, .int .u8 0, .int .u8 0, .int .u8 0, .int .u8 0, .int .u8 0, .int .u8 0, .int .u8 0, .int .u8 0, .int .u8 0, .int .u8 0, .int .u8 0, .int .u8 0, .int .u8 0, .int .u8 0, .int .u8 0, .int .u8 0, .int .u8 0, .int .u8 0, .int .u8 0, .int .u8 0, .int .u8 0, .int .u8 0, .int .u8 0, .int .u8 0, .int .u8 0, .int .u8 0, .int .u8 0, .int .u8 0, .int .u8 0, .int .u8 0, .int .u8 0, .int .u8 0, .int .u8 0, .int .u8 0, .int .u8 0, .int .u8 0, .int .u8 0, .int .u8 0, .int .i64 0])) (encPart (⟨(List.replicate 256 (0 : Int)), 0⟩ : PartM)) (by kernel_rfl)
    have S10 : St w.heap.size w (fun _ => none) w9 [box b1 27 (encSet s), box b9 48 (encPart (⟨(List.replicate 256 (0 : Int)), 0⟩ : PartM))] := T9
    refine p_v (v := .pointer (some ⟨b9, 0, none⟩)) rfl rfl rfl (x_alloc t48 r9) ?_
    obtain ⟨w11, r11, g11, T11⟩ := e_store (P := Tryd.prog) (off := 0) (v := .agg (encPart (refineP sets)).toArray) (vs := (encPart (refineP sets))) S10 t48 rfl (encPart_len ok7_0) (j := 1) rfl (by rw [encPart_len (okPart_zero)]; decide) (encPart_one _)
    rw [lput_all (by rw [encPart_len ok7_0, encPart_len (okPart_zero)])] at T11
    have S12 : St w.heap.size w (fun _ => none) w11 [box b1 27 (encSet s), box b9 48 (encPart (refineP sets))] := T11
    refine p_s rfl rfl (x_store rfl rfl r11) ?_
    refine run_region_end ?_
    refine run_seq ?_
    refine run_reg (l := [0, 1, 2]) rfl ?_
    refine p_v (v := .agg (encPart (refineP sets)).toArray) rfl rfl rfl (x_load (seg := (encPart (refineP sets))) t48 (encPart_len ok7_0) (by simp) rfl (CF.box (m := 257) (S12.box_at (j := 1) rfl) (cs := (encPart (refineP sets))) (by rw [List.drop_zero, List.take_of_length_le (by rw [encPart_len ok7_0]; exact Nat.le_refl _)]))) ?_
    refine p_c rfl rfl rfl (y_call (args := [.agg (encPart (refineP sets)).toArray]) c31 rfl rfl) (sets_calls w11 (refineP sets) ok7_0) ?_
    rintro v13_0 w13 ⟨h13, _, T13, rfl⟩
    obtain ⟨k13, lk13, ll13, U13⟩ := call_joins S12 T13
    have S14 : St w.heap.size w k13 w13 [box b1 27 (encSet s), box b9 48 (encPart (refineP sets)), row 27 kSet v13_0 (setsP (refineP sets))] := U13
    obtain ⟨h15, le15, T15, rp15⟩ := S14.freeze (i := 2) rfl
    have lf15_0 := (lk13).trans le15
    have S16 : St w.heap.size w h15 w13 [box b1 27 (encSet s), box b9 48 (encPart (refineP sets)), emp] := T15
    obtain ⟨A15, c15, e15, lc15, cm15, ld15⟩ := rp15
    injection e15 with e15 _; subst e15
    have cn15 := cm15; simp only [maxLen] at cn15
    refine p_v (v := .slice A15 (setsP (refineP sets)).length c15) rfl rfl rfl (x_assign rfl) ?_
    refine run_region_end ?_
    refine run_seq ?_
    refine run_reg (l := [0, 1, 2, 3]) rfl ?_
    refine p_v (v := .agg (encPart (refineP sets)).toArray) rfl rfl rfl (x_load (seg := (encPart (refineP sets))) t48 (encPart_len ok7_0) (by simp) rfl (CF.box (m := 257) (S16.box_at (j := 1) rfl) (cs := (encPart (refineP sets))) (by rw [List.drop_zero, List.take_of_length_le (by rw [encPart_len ok7_0]; exact Nat.le_refl _)]))) ?_
    refine p_v (v := .int .i64 k) rfl rfl rfl (x_move rfl) ?_
    refine p_c rfl rfl rfl (y_call (args := [.agg (encPart (refineP sets)).toArray, .int .i64 k]) c30 rfl rfl) (least_calls w13 (refineP sets) ok7_0 k (in_i64 (by first | omega | (simp; omega) | assumption) (by first | omega | (simp; omega) | assumption)) (Block.st S16 tb)) ?_
    rintro v17_0 w17 ⟨h17, _, T17, rfl⟩
    obtain ⟨k17, lk17, ll17, U17⟩ := call_joins S16 T17
    have lc17_0 := (lf15_0).trans lk17
    have lc17_1 := (le15).trans lk17
    have S18 : St w.heap.size w k17 w17 [box b1 27 (encSet s), box b9 48 (encPart (refineP sets)), emp, row 22 (Kd.int .u8).slice v17_0 (leastP (refineP sets) k)] := U17
    obtain ⟨h19, le19, T19, rp19⟩ := S18.freeze (i := 3) rfl
    have lf19_0 := (lc17_0).trans le19
    have lf19_1 := (lc17_1).trans le19
    have lf19_2 := (lk17).trans le19
    have S20 : St w.heap.size w h19 w17 [box b1 27 (encSet s), box b9 48 (encPart (refineP sets)), emp, emp] := T19
    obtain ⟨A19, c19, e19, lc19, cm19, ld19⟩ := rp19
    injection e19 with e19 _; subst e19
    have cn19 := cm19; simp only [maxLen] at cn19
    refine p_v (v := .slice A19 (leastP (refineP sets) k).length c19) rfl rfl rfl (x_assign rfl) ?_
    refine run_region_end ?_
    refine run_seq ?_
    refine run_seq ?_
    refine run_reg (l := [0, 1, 2, 3, 4, 5, 6, 7, 8, 9, 10, 11]) rfl ?_
    refine p_v (v := .slice A15 (setsP (refineP sets)).length c15) rfl rfl rfl (x_move rfl) ?_
    refine p_v (v := .int .i64 ((setsP (refineP sets)).length : Int)) rfl rfl rfl (x_len_slice u44 rfl) ?_
    refine p_v (v := .pointer (some ⟨b9, 256, none⟩)) rfl rfl rfl (x_fieldAt f48_1 t3 rfl rfl) ?_
    have in21 := (ok7_0).2
    have lo21 := i64_lo in21; have hi21 := i64_hi in21
    refine p_v (v := .int .i64 ((refineP sets).n)) rfl rfl rfl (x_load (seg := [.int .i64 ((refineP sets).n)]) t3 rfl (by simp) rfl (CF.box (m := 1) (S20.box_at (j := 1) rfl) (cs := (encPart (refineP sets))) (encPart_n ok7_0))) ?_
    refine p_v (v := .bool (decide (((setsP (refineP sets)).length : Int) ≠ ((refineP sets).n)))) rfl rfl rfl (x_neq rfl rfl) ?_
    refine p_v (v := .bool (decide (((setsP (refineP sets)).length : Int) ≠ ((refineP sets).n)))) rfl rfl rfl (x_move rfl) ?_
    have hc22 : ¬ (((setsP (refineP sets)).length : Int) ≠ ((refineP sets).n)) := by
      first | (rw [least_len]; simp) | (rw [ref_sets_len]; simp)
    refine p_v (v := .slice A19 (leastP (refineP sets) k).length c19) rfl (wanted_of (j := 5) (want := false) (d := 32) (b := false) rfl rfl (congrArg Value.bool (decide_eq_false hc22)) rfl) rfl (x_move rfl) ?_
    refine p_v (v := .int .i64 ((leastP (refineP sets) k).length : Int)) rfl (wanted_of (j := 5) (want := false) (d := 32) (b := false) rfl rfl (congrArg Value.bool (decide_eq_false hc22)) rfl) rfl (x_len_slice u54 rfl) ?_
    refine p_v (v := .pointer (some ⟨b9, 256, none⟩)) rfl (wanted_of (j := 5) (want := false) (d := 32) (b := false) rfl rfl (congrArg Value.bool (decide_eq_false hc22)) rfl) rfl (x_fieldAt f48_1 t3 rfl rfl) ?_
    have in23 := (ok7_0).2
    have lo23 := i64_lo in23; have hi23 := i64_hi in23
    refine p_v (v := .int .i64 ((refineP sets).n)) rfl (wanted_of (j := 5) (want := false) (d := 32) (b := false) rfl rfl (congrArg Value.bool (decide_eq_false hc22)) rfl) rfl (x_load (seg := [.int .i64 ((refineP sets).n)]) t3 rfl (by simp) rfl (CF.box (m := 1) (S20.box_at (j := 1) rfl) (cs := (encPart (refineP sets))) (encPart_n ok7_0))) ?_
    refine p_v (v := .bool (decide (((leastP (refineP sets) k).length : Int) ≠ ((refineP sets).n)))) rfl (wanted_of (j := 5) (want := false) (d := 32) (b := false) rfl rfl (congrArg Value.bool (decide_eq_false hc22)) rfl) rfl (x_neq rfl rfl) ?_
    refine p_v (v := .bool (decide (((leastP (refineP sets) k).length : Int) ≠ ((refineP sets).n)))) rfl rfl rfl (x_pick_f (congrArg Value.bool (decide_eq_false hc22)) rfl) ?_
    refine run_region_end ?_
    have hc24 : ¬ (((leastP (refineP sets) k).length : Int) ≠ ((refineP sets).n)) := by
      first | (rw [least_len]; simp) | (rw [ref_sets_len]; simp)
    refine run_cond (b := false) (congrArg Value.bool (decide_eq_false hc24)) ?_
    simp only [if_true, if_false, Bool.false_eq_true]
    refine run_skip ?_
    refine run_seq ?_
    refine run_reg (l := [0]) rfl ?_
    refine p_v (v := .bool false) rfl rfl rfl (x_assign rfl) ?_
    refine run_region_end ?_
    refine run_seq ?_
    refine run_seq ?_
    refine run_reg (l := [0]) rfl ?_
    refine p_v (v := .int .i64 0) rfl rfl rfl (x_assign rfl) ?_
    refine run_region_end ?_
    refine run_block ?_
    refine run_loop (S := Bool × Int) (fun (q_ : Bool × Int) ρ w' => match q_ with | (split, n) => ∃ (h : Ghost), Le h19 h ∧ St w.heap.size w h w' [box b1 27 (encSet s), box b9 48 (encPart (refineP sets))] ∧ ρ 2 = .int .i64 k ∧ ρ 4 = .pointer (some ⟨b1, 0, none⟩) ∧ ρ 7 = .pointer (some ⟨b9, 0, none⟩) ∧ ρ 8 = .slice A15 (setsP (refineP sets)).length c15 ∧ ρ 9 = .slice A19 (leastP (refineP sets) k).length c19 ∧ ρ 10 = .bool split ∧ ρ 11 = .int .i64 n ∧ inK .i64 n ∧ (0 ≤ n ∧ n ≤ (refineP sets).n ∧ split = cutTo sets s n)) (fun q_ => match q_ with | (split, n) => ((refineP sets).n - n).toNat) (false, 0) ⟨h19, Le.refl _, S20.sub [0, 1] (by decide) rfl _ rfl, rfl, rfl, rfl, rfl, rfl, rfl, rfl, (in_i64 (by first | omega | (simp; omega) | assumption) (by first | omega | (simp; omega) | assumption)), (by exact ⟨by omega, n_nonneg sets, cutTo_0 _ _⟩)⟩ ?_
    rintro ⟨split, n⟩ ih25 ρ25 w25 ⟨h25, le25, S25, r25_2, r25_4, r25_7, r25_8, r25_9, r25_10, r25_11, f25_0, hI25⟩
    have lf25_0 := i64_lo f25_0; have hf25_0 := i64_hi f25_0
    have hl0_ := n_nonneg sets; have hl1_ : ((setsP (refineP sets)).length : Int) = (refineP sets).n := ref_sets_len sets; have hl2_ := least_len sets k
    refine run_seq ?_
    refine run_seq ?_
    refine run_reg (l := [0, 1, 2, 3]) rfl ?_
    refine p_v (v := .int .i64 n) rfl rfl rfl (x_move r25_11) ?_
    refine p_v (v := .pointer (some ⟨b9, 256, none⟩)) rfl rfl rfl (x_fieldAt f48_1 t3 rfl r25_7) ?_
    have in26 := (ok7_0).2
    have lo26 := i64_lo in26; have hi26 := i64_hi in26
    refine p_v (v := .int .i64 ((refineP sets).n)) rfl rfl rfl (x_load (seg := [.int .i64 ((refineP sets).n)]) t3 rfl (by simp) rfl (CF.box (m := 1) (S25.box_at (j := 1) rfl) (cs := (encPart (refineP sets))) (encPart_n ok7_0))) ?_
    refine p_v (v := .bool (decide (n < ((refineP sets).n)))) rfl rfl rfl (x_lss rfl rfl) ?_
    refine run_region_end ?_
    refine run_cond_prop (p := n < ((refineP sets).n)) rfl (fun hc27 => ?_) (fun hc27 => ?_)
    · skip
      refine run_skip ?_
      refine run_seq ?_
      refine run_block ?_
      refine run_seq ?_
      refine run_reg (l := [0]) rfl ?_
      refine p_v (v := .slice none 0 0) rfl rfl rfl (x_assign rfl) ?_
      refine run_region_end ?_
      refine run_seq ?_
      refine run_reg (l := [0, 1]) rfl ?_
      refine p_v (v := .bool false) rfl rfl rfl (x_assign rfl) ?_
      refine p_v (v := .bool false) rfl rfl rfl (x_assign rfl) ?_
      refine run_region_end ?_
      refine run_seq ?_
      refine run_seq ?_
      refine run_reg (l := [0]) rfl ?_
      refine p_v (v := .int .i64 0) rfl rfl rfl (x_assign rfl) ?_
      refine run_region_end ?_
      refine run_block ?_
      have T28 := S25.row_nil 5 (Kd.int .u8)
      obtain ⟨vn28, ev28, T28⟩ : ∃ v, v = (.slice none 0 0 : Value) ∧ St w.heap.size w h25 w25 ([box b1 27 (encSet s), box b9 48 (encPart (refineP sets))] ++ [row 5 (Kd.int .u8) v []]) := ⟨_, rfl, T28⟩
      have S29 : St w.heap.size w h25 w25 [box b1 27 (encSet s), box b9 48 (encPart (refineP sets)), row 5 (Kd.int .u8) vn28 ([] : List Int)] := T28
      refine run_loop (S := (List Int) × Bool × Bool × Int) (fun (q_ : (List Int) × Bool × Bool × Int) ρ w' => match q_ with | (l, xin, out, c) => ∃ (h : Ghost) (v_l : Value), Le h25 h ∧ St w.heap.size w h w' [box b1 27 (encSet s), box b9 48 (encPart (refineP sets)), row 5 (Kd.int .u8) v_l l] ∧ ρ 2 = .int .i64 k ∧ ρ 4 = .pointer (some ⟨b1, 0, none⟩) ∧ ρ 7 = .pointer (some ⟨b9, 0, none⟩) ∧ ρ 8 = .slice A15 (setsP (refineP sets)).length c15 ∧ ρ 9 = .slice A19 (leastP (refineP sets) k).length c19 ∧ ρ 10 = .bool split ∧ ρ 11 = .int .i64 n ∧ ρ 12 = v_l ∧ ρ 13 = .bool xin ∧ ρ 14 = .bool out ∧ ρ 15 = .int .i64 c ∧ inK .i64 c ∧ (0 ≤ c ∧ c ≤ 256 ∧ l = firstTo (at_ (setsP (refineP sets)) n) k c ∧ xin = anyTo (fun d => decide (at_ (refineP sets).of ((d : Nat) : Int) = n) && s.getLsbD d) c ∧ out = anyTo (fun d => decide (at_ (refineP sets).of ((d : Nat) : Int) = n) && !s.getLsbD d) c)) (fun q_ => match q_ with | (l, xin, out, c) => (256 - c).toNat) (([] : List Int), false, false, 0) ⟨h25, vn28, Le.refl _, S29.sub [0, 1, 2] (by decide) rfl _ rfl, r25_2, r25_4, r25_7, r25_8, r25_9, r25_10, r25_11, (ev28.symm), rfl, rfl, rfl, (in_i64 (by first | omega | (simp; omega) | assumption) (by first | omega | (simp; omega) | assumption)), (by exact ⟨by omega, by omega, (firstTo_0 _ _).symm, anyTo_0 _, anyTo_0 _⟩)⟩ ?_
      rintro ⟨l, xin, out, c⟩ ih30 ρ30 w30 ⟨h30, v_l, le30, S30, r30_2, r30_4, r30_7, r30_8, r30_9, r30_10, r30_11, r30_12, r30_13, r30_14, r30_15, f30_0, hI30⟩
      have lf30_0 := i64_lo f30_0; have hf30_0 := i64_hi f30_0
      have rl30_2 := S30.row_le (j := 2) rfl; simp only [maxLen] at rl30_2
      have hlb_ : (l.length : Int) ≤ c := by rw [hI30.2.2.1]; exact firstTo_len _ _ hI30.1
      refine run_seq ?_
      refine run_seq ?_
      refine run_reg (l := [0, 1]) rfl ?_
      refine p_v (v := .int .i64 c) rfl rfl rfl (x_move r30_15) ?_
      refine p_v (v := .bool (decide (c < 256))) rfl rfl rfl (x_lss rfl rfl) ?_
      refine run_region_end ?_
      refine run_cond_prop (p := c < 256) rfl (fun hc31 => ?_) (fun hc31 => ?_)
      · skip
        refine run_skip ?_
        refine run_seq ?_
        refine run_block ?_
        refine run_seq ?_
        refine run_seq ?_
        have in32 := okInts_at (ok7_0).1 (i := c) (by first | omega | (simp; omega) | assumption) (by first | omega | (simp; omega) | assumption)
        have lo32 := u8_lo in32; have hi32 := u8_hi in32
        obtain ⟨ad33, seg33, a33, rp33, ce33⟩ := e_index_ro (q := n) (m := 4) ld15 rfl (by first | omega | (simp; omega) | assumption) (by first | omega | (simp; omega) | assumption)
        obtain ⟨rfl, ok33⟩ := rp33
        have hf35 : (CFs ⟨b9, 0 + c.toNat * 1, none⟩ [.int .u8 (at_ ((refineP sets).of) c)]).1 w30 := (CF.box (m := 1) (S30.box_at (j := 1) rfl) (cs := (encPart (refineP sets))) (encPart_at ok7_0 (by first | omega | (simp; omega) | assumption) (by first | omega | (simp; omega) | assumption)))
        have hf36 : (CFs ad33 (encSet (at_ (setsP (refineP sets)) n))).1 w30 := (CF.ghost ce33 (((((lf19_2).trans le25)).trans le30).trans S30.ghost))
        refine da_start [(3, CFs ⟨b9, 0 + c.toNat * 1, none⟩ [.int .u8 (at_ ((refineP sets).of) c)]), (10, CFs ad33 (encSet (at_ (setsP (refineP sets)) n)))] 15 rfl mixed ?_
        intro wd37 gd37 hd37
        have S38 : St w.heap.size w h30 wd37 [box b1 27 (encSet s), box b9 48 (encPart (refineP sets)), row 5 (Kd.int .u8) v_l l] := S30.keep gd37
        have hf39 := (CFs ⟨b9, 0 + c.toNat * 1, none⟩ [.int .u8 (at_ ((refineP sets).of) c)]).2 _ _ gd37 hf35
        have hf40 := (CFs ad33 (encSet (at_ (setsP (refineP sets)) n))).2 _ _ gd37 hf36
        refine d_q (i := 0) (v := .int .i64 c) (fun _ => True) (fun _ ho => trivial) rfl (by decide +kernel) (by decide +kernel) (by decide +kernel) rfl rfl (fun wq hq => (x_move r30_15)) (of_ne rfl (of_ne rfl (of_nil _ _))) ?_
        refine d_q (i := 1) (v := .pointer (some ⟨b9, 0, none⟩)) (fun _ => True) (fun _ ho => trivial) rfl (by decide +kernel) (by decide +kernel) (by decide +kernel) rfl rfl (fun wq hq => (x_fieldAt f48_0 t46 rfl r30_7)) (of_ne rfl (of_ne rfl (of_nil _ _))) ?_
        refine d_q (i := 2) (v := .pointer (some ⟨b9, 0 + c.toNat * 1, none⟩)) (fun _ => True) (fun _ ho => trivial) rfl (by decide +kernel) (by decide +kernel) (by decide +kernel) rfl rfl (fun wq hq => (x_indexAddr_arr u46 t5 rfl rfl (by first | omega | (simp; omega) | assumption) (by first | omega | (simp; omega) | assumption))) (of_ne rfl (of_ne rfl (of_nil _ _))) ?_
        refine d_q (i := 3) (v := .int .u8 (at_ ((refineP sets).of) c)) (CF ⟨b9, 0 + c.toNat * 1, none⟩ [.int .u8 (at_ ((refineP sets).of) c)]) (fun _ ho => ho _ (List.mem_of_getElem? (i := 0) rfl) rfl) rfl (by decide +kernel) (by decide +kernel) (by decide +kernel) rfl rfl (fun wq hq => (x_load (seg := [.int .u8 (at_ ((refineP sets).of) c)]) t5 rfl (by simp) rfl hq)) (of_eq hf39 (of_ne rfl (of_nil _ _))) ?_
        refine d_q (i := 4) (v := .int .i64 (at_ ((refineP sets).of) c)) (fun _ => True) (fun _ ho => trivial) rfl (by decide +kernel) (by decide +kernel) (by decide +kernel) rfl rfl (fun wq hq => (x_conv u5 u3 rfl (in_i64 (by first | omega | (simp; omega) | assumption) (by first | omega | (simp; omega) | assumption)))) (of_ne rfl (of_ne rfl (of_nil _ _))) ?_
        refine d_q (i := 5) (v := .int .i64 n) (fun _ => True) (fun _ ho => trivial) rfl (by decide +kernel) (by decide +kernel) (by decide +kernel) rfl rfl (fun wq hq => (x_move r30_11)) (of_ne rfl (of_ne rfl (of_nil _ _))) ?_
        refine d_q (i := 6) (v := .bool (decide ((at_ ((refineP sets).of) c) = n))) (fun _ => True) (fun _ ho => trivial) rfl (by decide +kernel) (by decide +kernel) (by decide +kernel) rfl rfl (fun wq hq => (x_eql rfl rfl)) (of_ne rfl (of_ne rfl (of_nil _ _))) ?_
        refine d_q (i := 7) (v := .slice A15 (setsP (refineP sets)).length c15) (fun _ => True) (fun _ ho => trivial) rfl (by decide +kernel) (by decide +kernel) (by decide +kernel) rfl rfl (fun wq hq => (x_move r30_8)) (of_ne rfl (of_ne rfl (of_nil _ _))) ?_
        refine d_q (i := 8) (v := .int .i64 n) (fun _ => True) (fun _ ho => trivial) rfl (by decide +kernel) (by decide +kernel) (by decide +kernel) rfl rfl (fun wq hq => (x_move r30_11)) (of_ne rfl (of_ne rfl (of_nil _ _))) ?_
        refine d_q (i := 9) (v := .pointer (some ad33)) (fun _ => True) (fun _ ho => trivial) rfl (by decide +kernel) (by decide +kernel) (by decide +kernel) rfl rfl (fun wq hq => (x_index_ro u44 t27 rfl rfl a33 (by first | omega | (simp; omega) | assumption) (by first | omega | (simp; omega) | assumption))) (of_ne rfl (of_ne rfl (of_nil _ _))) ?_
        refine d_q (i := 10) (v := .agg (encSet (at_ (setsP (refineP sets)) n)).toArray) (CF ad33 (encSet (at_ (setsP (refineP sets)) n))) (fun _ ho => ho _ (List.mem_of_getElem? (i := 1) rfl) rfl) rfl (by decide +kernel) (by decide +kernel) (by decide +kernel) rfl rfl (fun wq hq => (x_load (seg := (encSet (at_ (setsP (refineP sets)) n))) t27 rfl (by simp) rfl hq)) (of_ne rfl (of_eq hf40 (of_nil _ _))) ?_
        refine d_q (i := 11) (v := .int .i64 c) (fun _ => True) (fun _ ho => trivial) rfl (by decide +kernel) (by decide +kernel) (by decide +kernel) rfl rfl (fun wq hq => (x_move r30_15)) (of_ne rfl (of_ne rfl (of_nil _ _))) ?_
        refine d_q (i := 12) (v := .int .u8 c) (fun _ => True) (fun _ ho => trivial) rfl (by decide +kernel) (by decide +kernel) (by decide +kernel) rfl rfl (fun wq hq => (x_conv u3 u5 rfl (in_u8 (by first | omega | (simp; omega) | assumption) (by first | omega | (simp; omega) | assumption)))) (of_ne rfl (of_ne rfl (of_nil _ _))) ?_
        refine d_m (i := 13) (v := .bool (has (at_ (setsP (refineP sets)) n) c)) (fun _ => True) (fun _ ho => trivial) rfl (by decide +kernel) (by decide +kernel) (by decide +kernel) rfl rfl (fun wq => (y_call (args := [.agg (encSet (at_ (setsP (refineP sets)) n)).toArray, .int .u8 c]) c18 rfl rfl)) (fun wq hq => (has_calls wq (at_ (setsP (refineP sets)) n) c (in_u8 (by first | omega | (simp; omega) | assumption) (by first | omega | (simp; omega) | assumption))).mono fun e w2 he => by obtain ⟨_, rfl, _, T, rfl⟩ := he; exact ⟨rfl, Chg.of_below T.below⟩) (of_ne rfl (of_ne rfl (of_nil _ _))) ?_
        refine d_q (i := 14) (v := .bool (decide ((decide ((at_ ((refineP sets).of) c) = n)) ≠ (has (at_ (setsP (refineP sets)) n) c)))) (fun _ => True) (fun _ ho => trivial) rfl (by decide +kernel) (by decide +kernel) (by decide +kernel) rfl rfl (fun wq hq => (x_neq_bool u4 rfl rfl)) (of_ne rfl (of_ne rfl (of_nil _ _))) ?_
        refine ra_done (by decide +kernel) ?_
        intro wd41 gd41
        have S42 : St w.heap.size w h30 wd41 [box b1 27 (encSet s), box b9 48 (encPart (refineP sets)), row 5 (Kd.int .u8) v_l l] := S38.keep gd41
        have hc43 : ¬ ((decide ((at_ ((refineP sets).of) c) = n)) ≠ (has (at_ (setsP (refineP sets)) n) c)) := by
          rw [has_sets sets hI25.1 (by omega) hI30.1 (by omega)]; simp
        refine run_cond (b := false) (congrArg Value.bool (decide_eq_false hc43)) ?_
        simp only [if_true, if_false, Bool.false_eq_true]
        refine run_skip ?_
        refine run_seq ?_
        refine run_seq ?_
        refine run_reg (l := [0, 1, 2, 3, 4, 5, 6]) rfl ?_
        refine p_v (v := .int .i64 c) rfl rfl rfl (x_move r30_15) ?_
        refine p_v (v := .pointer (some ⟨b9, 0, none⟩)) rfl rfl rfl (x_fieldAt f48_0 t46 rfl r30_7) ?_
        refine p_v (v := .pointer (some ⟨b9, 0 + c.toNat * 1, none⟩)) rfl rfl rfl (x_indexAddr_arr u46 t5 rfl rfl (by first | omega | (simp; omega) | assumption) (by first | omega | (simp; omega) | assumption)) ?_
        have in44 := okInts_at (ok7_0).1 (i := c) (by first | omega | (simp; omega) | assumption) (by first | omega | (simp; omega) | assumption)
        have lo44 := u8_lo in44; have hi44 := u8_hi in44
        refine p_v (v := .int .u8 (at_ ((refineP sets).of) c)) rfl rfl rfl (x_load (seg := [.int .u8 (at_ ((refineP sets).of) c)]) t5 rfl (by simp) rfl (CF.box (m := 1) (S42.box_at (j := 1) rfl) (cs := (encPart (refineP sets))) (encPart_at ok7_0 (by first | omega | (simp; omega) | assumption) (by first | omega | (simp; omega) | assumption)))) ?_
        refine p_v (v := .int .i64 (at_ ((refineP sets).of) c)) rfl rfl rfl (x_conv u5 u3 rfl (in_i64 (by first | omega | (simp; omega) | assumption) (by first | omega | (simp; omega) | assumption))) ?_
        refine p_v (v := .int .i64 n) rfl rfl rfl (x_move r30_11) ?_
        refine p_v (v := .bool (decide ((at_ ((refineP sets).of) c) ≠ n))) rfl rfl rfl (x_neq rfl rfl) ?_
        refine run_region_end ?_
        refine run_cond_prop (p := (at_ ((refineP sets).of) c) ≠ n) rfl (fun hc45 => ?_) (fun hc45 => ?_)
        · skip
          have hb_ : has (at_ (setsP (refineP sets)) n) c = decide (at_ (refineP sets).of c = n) := has_sets sets hI25.1 (by omega) hI30.1 (by omega)
          rw [decide_eq_false hc45] at hb_
          have hp_ := decide_eq_false hc45
          refine run_exit rfl ?_
          refine run_reg (l := [0, 1, 2]) rfl ?_
          refine p_v (v := .int .i64 c) rfl rfl rfl (x_move r30_15) ?_
          refine p_v (v := .int .i64 (c + 1)) rfl rfl rfl (x_add rfl rfl (in_i64 (by first | omega | (simp; omega) | assumption) (by first | omega | (simp; omega) | assumption))) ?_
          refine p_v (v := .int .i64 (c + 1)) rfl rfl rfl (x_assign rfl) ?_
          refine run_region_end ?_
          refine ih30 (l, xin, out, c + 1) _ _ (by dsimp only; omega) ⟨h30, v_l, le30, S42.sub [0, 1, 2] (by decide) rfl _ rfl, r30_2, r30_4, r30_7, r30_8, r30_9, r30_10, r30_11, r30_12, r30_13, r30_14, rfl, (in_i64 (by first | omega | (simp; omega) | assumption) (by first | omega | (simp; omega) | assumption)), (by exact ⟨by omega, by omega, by first | (rw [firstTo_no _ _ hI30.1 hb_]; exact hI30.2.2.1) | (rw [firstTo_in _ _ hI30.1 hb_ (by rw [← hI30.2.2.1]; omega), ← hI30.2.2.1]) | (rw [firstTo_out _ _ hI30.1 (by rw [← hI30.2.2.1]; omega)]; exact hI30.2.2.1), by rw [anyTo_step _ hI30.1, ← hI30.2.2.2.1, Int.toNat_of_nonneg hI30.1]; first | (rw [hp_]; simp; done) | (rw [(by assumption : xin = true)]; rfl) | (rw [hp_, (by assumption : xin = false)]; simp [has]), by rw [anyTo_step _ hI30.1, ← hI30.2.2.2.2, Int.toNat_of_nonneg hI30.1]; first | (rw [hp_]; simp; done) | (rw [(by assumption : out = true)]; rfl) | (rw [hp_, (by assumption : out = false)]; simp [has])⟩)⟩
        · skip
          have hb_ : has (at_ (setsP (refineP sets)) n) c = decide (at_ (refineP sets).of c = n) := has_sets sets hI25.1 (by omega) hI30.1 (by omega)
          rw [decide_eq_true (Decidable.not_not.1 hc45)] at hb_
          have hp_ := decide_eq_true (Decidable.not_not.1 hc45)
          refine run_skip ?_
          refine run_seq ?_
          refine run_seq ?_
          refine run_reg (l := [0, 1, 2, 3]) rfl ?_
          refine p_v (v := v_l) rfl rfl rfl (x_move r30_12) ?_
          have lb46 := S42.row_le (j := 2) rfl; simp only [maxLen] at lb46
          refine p_v (v := .int .i64 (l.length : Int)) rfl rfl rfl (x_len_own u22 rfl (e_len_own S42 (j := 2) rfl)) ?_
          refine p_v (v := .int .i64 k) rfl rfl rfl (x_move r30_2) ?_
          refine p_v (v := .bool (decide ((l.length : Int) < k))) rfl rfl rfl (x_lss rfl rfl) ?_
          refine run_region_end ?_
          refine run_cond_prop (p := (l.length : Int) < k) rfl (fun hc47 => ?_) (fun hc47 => ?_)
          · skip
            refine run_reg (l := [0, 1, 2, 3, 4, 5]) rfl ?_
            refine p_v (v := v_l) rfl rfl rfl (x_move r30_12) ?_
            refine p_v (v := .int .i64 c) rfl rfl rfl (x_move r30_15) ?_
            refine p_v (v := .int .u8 c) rfl rfl rfl (x_conv u3 u5 rfl (in_u8 (by first | omega | (simp; omega) | assumption) (by first | omega | (simp; omega) | assumption))) ?_
            obtain ⟨v48, w48, r48, g48, T48⟩ := e_build_ones (kd := (Kd.int .u8)) (xs := ([c] : List Int)) (len := 1) [.int .u8 c] S42 u22 t5 rfl rfl rfl rfl rfl (ones_cons rfl ones_nil) [.int .u8 c] (Elems.single (k := (Kd.int .u8)) (h := h30) (x := c) (cs := [.int .u8 c]) ⟨rfl, (in_u8 (by first | omega | (simp; omega) | assumption) (by first | omega | (simp; omega) | assumption))⟩) rfl
            have S49 : St w.heap.size w h30 w48 [box b1 27 (encSet s), box b9 48 (encPart (refineP sets)), row 5 (Kd.int .u8) v_l l, row 5 (Kd.int .u8) v48 ([c] : List Int)] := T48
            refine p_v (v := v48) rfl rfl rfl (y_build_slice (pv := [(0, .int .u8 c)]) rfl r48) ?_
            obtain ⟨A51, c51, ev51, lc51, cm51⟩ := S49.row_val (j := 3) rfl
            obtain ⟨v52, w52, r52, g52, T52⟩ := e_append (kd := (Kd.int .u8)) (A := A51) (c := c51) (ys := ([c] : List Int)) (len := ([c] : List Int).length) 22 S49 u22 t5 rfl rfl (j := 2) rfl rfl (news_own S49 (j := 3) rfl ev51) (by first | omega | (simp; omega) | assumption) (by first | omega | (simp; omega) | assumption)
            have S53 : St w.heap.size w h30 w52 [box b1 27 (encSet s), box b9 48 (encPart (refineP sets)), row 5 (Kd.int .u8) v52 (l ++ ([c] : List Int)), row 5 (Kd.int .u8) v48 ([c] : List Int)] := T52
            refine p_v (v := v52) rfl rfl rfl (x_append rfl ev51 r52) ?_
            refine p_v (v := v52) rfl rfl rfl (x_assign rfl) ?_
            refine run_region_end ?_
            refine run_seq ?_
            refine run_reg (l := [0, 1, 2, 3, 4, 5, 6, 7]) rfl ?_
            refine p_v (v := .bool xin) rfl rfl rfl (x_move r30_13) ?_
            refine p_v (v := .bool xin) rfl rfl rfl (x_move rfl) ?_
            rcases Bool.eq_false_or_eq_true xin with hc54 | hc54
            · skip
              refine p_off rfl (wanted_of (j := 1) (want := false) (d := 81) (b := true) rfl rfl (congrArg Value.bool hc54) rfl) rfl ?_
              refine p_off rfl (wanted_of (j := 1) (want := false) (d := 81) (b := true) rfl rfl (congrArg Value.bool hc54) rfl) rfl ?_
              refine p_off rfl (wanted_of (j := 1) (want := false) (d := 81) (b := true) rfl rfl (congrArg Value.bool hc54) rfl) rfl ?_
              refine p_off rfl (wanted_of (j := 1) (want := false) (d := 81) (b := true) rfl rfl (congrArg Value.bool hc54) rfl) rfl ?_
              refine p_v (v := .bool true) rfl rfl rfl (x_pick_t (congrArg Value.bool hc54) rfl) ?_
              refine p_v (v := .bool true) rfl rfl rfl (x_assign rfl) ?_
              refine run_region_end ?_
              refine run_reg (l := [0, 1, 2, 3, 4, 5, 6, 7, 8]) rfl ?_
              refine p_v (v := .bool out) rfl rfl rfl (x_move r30_14) ?_
              refine p_v (v := .bool out) rfl rfl rfl (x_move rfl) ?_
              rcases Bool.eq_false_or_eq_true out with hc55 | hc55
              · skip
                refine p_off rfl (wanted_of (j := 1) (want := false) (d := 88) (b := true) rfl rfl (congrArg Value.bool hc55) rfl) rfl ?_
                refine p_off rfl (wanted_of (j := 1) (want := false) (d := 88) (b := true) rfl rfl (congrArg Value.bool hc55) rfl) rfl ?_
                refine p_off rfl (wanted_of (j := 1) (want := false) (d := 88) (b := true) rfl rfl (congrArg Value.bool hc55) rfl) rfl ?_
                refine p_off rfl (wanted_of (j := 1) (want := false) (d := 88) (b := true) rfl rfl (congrArg Value.bool hc55) rfl) rfl ?_
                refine p_off rfl (wanted_of (j := 1) (want := false) (d := 88) (b := true) rfl rfl (congrArg Value.bool hc55) rfl) rfl ?_
                refine p_v (v := .bool true) rfl rfl rfl (x_pick_t (congrArg Value.bool hc55) rfl) ?_
                refine p_v (v := .bool true) rfl rfl rfl (x_assign rfl) ?_
                refine run_region_end ?_
                refine run_inBlock ?_
                refine run_reg (l := [0, 1, 2]) rfl ?_
                refine p_v (v := .int .i64 c) rfl rfl rfl (x_move r30_15) ?_
                refine p_v (v := .int .i64 (c + 1)) rfl rfl rfl (x_add rfl rfl (in_i64 (by first | omega | (simp; omega) | assumption) (by first | omega | (simp; omega) | assumption))) ?_
                refine p_v (v := .int .i64 (c + 1)) rfl rfl rfl (x_assign rfl) ?_
                refine run_region_end ?_
                refine ih30 (l ++ ([c] : List Int), true, true, c + 1) _ _ (by dsimp only; omega) ⟨h30, v52, le30, S53.sub [0, 1, 2] (by decide) rfl _ rfl, r30_2, r30_4, r30_7, r30_8, r30_9, r30_10, r30_11, rfl, rfl, rfl, rfl, (in_i64 (by first | omega | (simp; omega) | assumption) (by first | omega | (simp; omega) | assumption)), (by exact ⟨by omega, by omega, by first | (rw [firstTo_no _ _ hI30.1 hb_]; exact hI30.2.2.1) | (rw [firstTo_in _ _ hI30.1 hb_ (by rw [← hI30.2.2.1]; omega), ← hI30.2.2.1]) | (rw [firstTo_out _ _ hI30.1 (by rw [← hI30.2.2.1]; omega)]; exact hI30.2.2.1), by rw [anyTo_step _ hI30.1, ← hI30.2.2.2.1, Int.toNat_of_nonneg hI30.1]; first | (rw [hp_]; simp; done) | (rw [(by assumption : xin = true)]; rfl) | (rw [hp_, (by assumption : xin = false)]; simp [has]), by rw [anyTo_step _ hI30.1, ← hI30.2.2.2.2, Int.toNat_of_nonneg hI30.1]; first | (rw [hp_]; simp; done) | (rw [(by assumption : out = true)]; rfl) | (rw [hp_, (by assumption : out = false)]; simp [has])⟩)⟩
              · skip
                refine p_v (v := .agg (encSet s).toArray) rfl (wanted_of (j := 1) (want := false) (d := 88) (b := false) rfl rfl (congrArg Value.bool hc55) rfl) rfl (x_load (seg := (encSet s)) t27 rfl (by simp) r30_4 (CF.box (m := 4) (S53.box_at (j := 0) rfl) (cs := (encSet s)) rfl)) ?_
                refine p_v (v := .int .i64 c) rfl (wanted_of (j := 1) (want := false) (d := 88) (b := false) rfl rfl (congrArg Value.bool hc55) rfl) rfl (x_move r30_15) ?_
                refine p_v (v := .int .u8 c) rfl (wanted_of (j := 1) (want := false) (d := 88) (b := false) rfl rfl (congrArg Value.bool hc55) rfl) rfl (x_conv u3 u5 rfl (in_u8 (by first | omega | (simp; omega) | assumption) (by first | omega | (simp; omega) | assumption))) ?_
                refine p_c rfl (wanted_of (j := 1) (want := false) (d := 88) (b := false) rfl rfl (congrArg Value.bool hc55) rfl) rfl (y_call (args := [.agg (encSet s).toArray, .int .u8 c]) c18 rfl rfl) (has_calls w52 s c (in_u8 (by first | omega | (simp; omega) | assumption) (by first | omega | (simp; omega) | assumption))) ?_
                rintro _ w56 ⟨h56, T56, rfl⟩
                have S57 : St w.heap.size w h30 w56 [box b1 27 (encSet s), box b9 48 (encPart (refineP sets)), row 5 (Kd.int .u8) v52 (l ++ ([c] : List Int)), row 5 (Kd.int .u8) v48 ([c] : List Int)] := S53.keep (Chg.of_below T56.below)
                refine p_v (v := .bool (!(has s c))) rfl (wanted_of (j := 1) (want := false) (d := 88) (b := false) rfl rfl (congrArg Value.bool hc55) rfl) rfl (x_not rfl) ?_
                refine p_v (v := .bool (!(has s c))) rfl rfl rfl (x_pick_f (congrArg Value.bool hc55) rfl) ?_
                refine p_v (v := .bool (!(has s c))) rfl rfl rfl (x_assign rfl) ?_
                refine run_region_end ?_
                refine run_inBlock ?_
                refine run_reg (l := [0, 1, 2]) rfl ?_
                refine p_v (v := .int .i64 c) rfl rfl rfl (x_move r30_15) ?_
                refine p_v (v := .int .i64 (c + 1)) rfl rfl rfl (x_add rfl rfl (in_i64 (by first | omega | (simp; omega) | assumption) (by first | omega | (simp; omega) | assumption))) ?_
                refine p_v (v := .int .i64 (c + 1)) rfl rfl rfl (x_assign rfl) ?_
                refine run_region_end ?_
                refine ih30 (l ++ ([c] : List Int), true, !(has s c), c + 1) _ _ (by dsimp only; omega) ⟨h30, v52, le30, S57.sub [0, 1, 2] (by decide) rfl _ rfl, r30_2, r30_4, r30_7, r30_8, r30_9, r30_10, r30_11, rfl, rfl, rfl, rfl, (in_i64 (by first | omega | (simp; omega) | assumption) (by first | omega | (simp; omega) | assumption)), (by exact ⟨by omega, by omega, by first | (rw [firstTo_no _ _ hI30.1 hb_]; exact hI30.2.2.1) | (rw [firstTo_in _ _ hI30.1 hb_ (by rw [← hI30.2.2.1]; omega), ← hI30.2.2.1]) | (rw [firstTo_out _ _ hI30.1 (by rw [← hI30.2.2.1]; omega)]; exact hI30.2.2.1), by rw [anyTo_step _ hI30.1, ← hI30.2.2.2.1, Int.toNat_of_nonneg hI30.1]; first | (rw [hp_]; simp; done) | (rw [(by assumption : xin = true)]; rfl) | (rw [hp_, (by assumption : xin = false)]; simp [has]), by rw [anyTo_step _ hI30.1, ← hI30.2.2.2.2, Int.toNat_of_nonneg hI30.1]; first | (rw [hp_]; simp; done) | (rw [(by assumption : out = true)]; rfl) | (rw [hp_, (by assumption : out = false)]; simp [has])⟩)⟩
            · skip
              refine p_v (v := .agg (encSet s).toArray) rfl (wanted_of (j := 1) (want := false) (d := 81) (b := false) rfl rfl (congrArg Value.bool hc54) rfl) rfl (x_load (seg := (encSet s)) t27 rfl (by simp) r30_4 (CF.box (m := 4) (S53.box_at (j := 0) rfl) (cs := (encSet s)) rfl)) ?_
              refine p_v (v := .int .i64 c) rfl (wanted_of (j := 1) (want := false) (d := 81) (b := false) rfl rfl (congrArg Value.bool hc54) rfl) rfl (x_move r30_15) ?_
              refine p_v (v := .int .u8 c) rfl (wanted_of (j := 1) (want := false) (d := 81) (b := false) rfl rfl (congrArg Value.bool hc54) rfl) rfl (x_conv u3 u5 rfl (in_u8 (by first | omega | (simp; omega) | assumption) (by first | omega | (simp; omega) | assumption))) ?_
              refine p_c rfl (wanted_of (j := 1) (want := false) (d := 81) (b := false) rfl rfl (congrArg Value.bool hc54) rfl) rfl (y_call (args := [.agg (encSet s).toArray, .int .u8 c]) c18 rfl rfl) (has_calls w52 s c (in_u8 (by first | omega | (simp; omega) | assumption) (by first | omega | (simp; omega) | assumption))) ?_
              rintro _ w58 ⟨h58, T58, rfl⟩
              have S59 : St w.heap.size w h30 w58 [box b1 27 (encSet s), box b9 48 (encPart (refineP sets)), row 5 (Kd.int .u8) v52 (l ++ ([c] : List Int)), row 5 (Kd.int .u8) v48 ([c] : List Int)] := S53.keep (Chg.of_below T58.below)
              refine p_v (v := .bool (has s c)) rfl rfl rfl (x_pick_f (congrArg Value.bool hc54) rfl) ?_
              refine p_v (v := .bool (has s c)) rfl rfl rfl (x_assign rfl) ?_
              refine run_region_end ?_
              refine run_reg (l := [0, 1, 2, 3, 4, 5, 6, 7, 8]) rfl ?_
              refine p_v (v := .bool out) rfl rfl rfl (x_move r30_14) ?_
              refine p_v (v := .bool out) rfl rfl rfl (x_move rfl) ?_
              rcases Bool.eq_false_or_eq_true out with hc60 | hc60
              · skip
                refine p_off rfl (wanted_of (j := 1) (want := false) (d := 88) (b := true) rfl rfl (congrArg Value.bool hc60) rfl) rfl ?_
                refine p_off rfl (wanted_of (j := 1) (want := false) (d := 88) (b := true) rfl rfl (congrArg Value.bool hc60) rfl) rfl ?_
                refine p_off rfl (wanted_of (j := 1) (want := false) (d := 88) (b := true) rfl rfl (congrArg Value.bool hc60) rfl) rfl ?_
                refine p_off rfl (wanted_of (j := 1) (want := false) (d := 88) (b := true) rfl rfl (congrArg Value.bool hc60) rfl) rfl ?_
                refine p_off rfl (wanted_of (j := 1) (want := false) (d := 88) (b := true) rfl rfl (congrArg Value.bool hc60) rfl) rfl ?_
                refine p_v (v := .bool true) rfl rfl rfl (x_pick_t (congrArg Value.bool hc60) rfl) ?_
                refine p_v (v := .bool true) rfl rfl rfl (x_assign rfl) ?_
                refine run_region_end ?_
                refine run_inBlock ?_
                refine run_reg (l := [0, 1, 2]) rfl ?_
                refine p_v (v := .int .i64 c) rfl rfl rfl (x_move r30_15) ?_
                refine p_v (v := .int .i64 (c + 1)) rfl rfl rfl (x_add rfl rfl (in_i64 (by first | omega | (simp; omega) | assumption) (by first | omega | (simp; omega) | assumption))) ?_
                refine p_v (v := .int .i64 (c + 1)) rfl rfl rfl (x_assign rfl) ?_
                refine run_region_end ?_
                refine ih30 (l ++ ([c] : List Int), has s c, true, c + 1) _ _ (by dsimp only; omega) ⟨h30, v52, le30, S59.sub [0, 1, 2] (by decide) rfl _ rfl, r30_2, r30_4, r30_7, r30_8, r30_9, r30_10, r30_11, rfl, rfl, rfl, rfl, (in_i64 (by first | omega | (simp; omega) | assumption) (by first | omega | (simp; omega) | assumption)), (by exact ⟨by omega, by omega, by first | (rw [firstTo_no _ _ hI30.1 hb_]; exact hI30.2.2.1) | (rw [firstTo_in _ _ hI30.1 hb_ (by rw [← hI30.2.2.1]; omega), ← hI30.2.2.1]) | (rw [firstTo_out _ _ hI30.1 (by rw [← hI30.2.2.1]; omega)]; exact hI30.2.2.1), by rw [anyTo_step _ hI30.1, ← hI30.2.2.2.1, Int.toNat_of_nonneg hI30.1]; first | (rw [hp_]; simp; done) | (rw [(by assumption : xin = true)]; rfl) | (rw [hp_, (by assumption : xin = false)]; simp [has]), by rw [anyTo_step _ hI30.1, ← hI30.2.2.2.2, Int.toNat_of_nonneg hI30.1]; first | (rw [hp_]; simp; done) | (rw [(by assumption : out = true)]; rfl) | (rw [hp_, (by assumption : out = false)]; simp [has])⟩)⟩
              · skip
                refine p_v (v := .agg (encSet s).toArray) rfl (wanted_of (j := 1) (want := false) (d := 88) (b := false) rfl rfl (congrArg Value.bool hc60) rfl) rfl (x_load (seg := (encSet s)) t27 rfl (by simp) r30_4 (CF.box (m := 4) (S59.box_at (j := 0) rfl) (cs := (encSet s)) rfl)) ?_
                refine p_v (v := .int .i64 c) rfl (wanted_of (j := 1) (want := false) (d := 88) (b := false) rfl rfl (congrArg Value.bool hc60) rfl) rfl (x_move r30_15) ?_
                refine p_v (v := .int .u8 c) rfl (wanted_of (j := 1) (want := false) (d := 88) (b := false) rfl rfl (congrArg Value.bool hc60) rfl) rfl (x_conv u3 u5 rfl (in_u8 (by first | omega | (simp; omega) | assumption) (by first | omega | (simp; omega) | assumption))) ?_
                refine p_c rfl (wanted_of (j := 1) (want := false) (d := 88) (b := false) rfl rfl (congrArg Value.bool hc60) rfl) rfl (y_call (args := [.agg (encSet s).toArray, .int .u8 c]) c18 rfl rfl) (has_calls w58 s c (in_u8 (by first | omega | (simp; omega) | assumption) (by first | omega | (simp; omega) | assumption))) ?_
                rintro _ w61 ⟨h61, T61, rfl⟩
                have S62 : St w.heap.size w h30 w61 [box b1 27 (encSet s), box b9 48 (encPart (refineP sets)), row 5 (Kd.int .u8) v52 (l ++ ([c] : List Int)), row 5 (Kd.int .u8) v48 ([c] : List Int)] := S59.keep (Chg.of_below T61.below)
                refine p_v (v := .bool (!(has s c))) rfl (wanted_of (j := 1) (want := false) (d := 88) (b := false) rfl rfl (congrArg Value.bool hc60) rfl) rfl (x_not rfl) ?_
                refine p_v (v := .bool (!(has s c))) rfl rfl rfl (x_pick_f (congrArg Value.bool hc60) rfl) ?_
                refine p_v (v := .bool (!(has s c))) rfl rfl rfl (x_assign rfl) ?_
                refine run_region_end ?_
                refine run_inBlock ?_
                refine run_reg (l := [0, 1, 2]) rfl ?_
                refine p_v (v := .int .i64 c) rfl rfl rfl (x_move r30_15) ?_
                refine p_v (v := .int .i64 (c + 1)) rfl rfl rfl (x_add rfl rfl (in_i64 (by first | omega | (simp; omega) | assumption) (by first | omega | (simp; omega) | assumption))) ?_
                refine p_v (v := .int .i64 (c + 1)) rfl rfl rfl (x_assign rfl) ?_
                refine run_region_end ?_
                refine ih30 (l ++ ([c] : List Int), has s c, !(has s c), c + 1) _ _ (by dsimp only; omega) ⟨h30, v52, le30, S62.sub [0, 1, 2] (by decide) rfl _ rfl, r30_2, r30_4, r30_7, r30_8, r30_9, r30_10, r30_11, rfl, rfl, rfl, rfl, (in_i64 (by first | omega | (simp; omega) | assumption) (by first | omega | (simp; omega) | assumption)), (by exact ⟨by omega, by omega, by first | (rw [firstTo_no _ _ hI30.1 hb_]; exact hI30.2.2.1) | (rw [firstTo_in _ _ hI30.1 hb_ (by rw [← hI30.2.2.1]; omega), ← hI30.2.2.1]) | (rw [firstTo_out _ _ hI30.1 (by rw [← hI30.2.2.1]; omega)]; exact hI30.2.2.1), by rw [anyTo_step _ hI30.1, ← hI30.2.2.2.1, Int.toNat_of_nonneg hI30.1]; first | (rw [hp_]; simp; done) | (rw [(by assumption : xin = true)]; rfl) | (rw [hp_, (by assumption : xin = false)]; simp [has]), by rw [anyTo_step _ hI30.1, ← hI30.2.2.2.2, Int.toNat_of_nonneg hI30.1]; first | (rw [hp_]; simp; done) | (rw [(by assumption : out = true)]; rfl) | (rw [hp_, (by assumption : out = false)]; simp [has])⟩)⟩
          · skip
            refine run_skip ?_
            refine run_seq ?_
            refine run_reg (l := [0, 1, 2, 3, 4, 5, 6, 7]) rfl ?_
            refine p_v (v := .bool xin) rfl rfl rfl (x_move r30_13) ?_
            refine p_v (v := .bool xin) rfl rfl rfl (x_move rfl) ?_
            rcases Bool.eq_false_or_eq_true xin with hc63 | hc63
            · skip
              refine p_off rfl (wanted_of (j := 1) (want := false) (d := 81) (b := true) rfl rfl (congrArg Value.bool hc63) rfl) rfl ?_
              refine p_off rfl (wanted_of (j := 1) (want := false) (d := 81) (b := true) rfl rfl (congrArg Value.bool hc63) rfl) rfl ?_
              refine p_off rfl (wanted_of (j := 1) (want := false) (d := 81) (b := true) rfl rfl (congrArg Value.bool hc63) rfl) rfl ?_
              refine p_off rfl (wanted_of (j := 1) (want := false) (d := 81) (b := true) rfl rfl (congrArg Value.bool hc63) rfl) rfl ?_
              refine p_v (v := .bool true) rfl rfl rfl (x_pick_t (congrArg Value.bool hc63) rfl) ?_
              refine p_v (v := .bool true) rfl rfl rfl (x_assign rfl) ?_
              refine run_region_end ?_
              refine run_reg (l := [0, 1, 2, 3, 4, 5, 6, 7, 8]) rfl ?_
              refine p_v (v := .bool out) rfl rfl rfl (x_move r30_14) ?_
              refine p_v (v := .bool out) rfl rfl rfl (x_move rfl) ?_
              rcases Bool.eq_false_or_eq_true out with hc64 | hc64
              · skip
                refine p_off rfl (wanted_of (j := 1) (want := false) (d := 88) (b := true) rfl rfl (congrArg Value.bool hc64) rfl) rfl ?_
                refine p_off rfl (wanted_of (j := 1) (want := false) (d := 88) (b := true) rfl rfl (congrArg Value.bool hc64) rfl) rfl ?_
                refine p_off rfl (wanted_of (j := 1) (want := false) (d := 88) (b := true) rfl rfl (congrArg Value.bool hc64) rfl) rfl ?_
                refine p_off rfl (wanted_of (j := 1) (want := false) (d := 88) (b := true) rfl rfl (congrArg Value.bool hc64) rfl) rfl ?_
                refine p_off rfl (wanted_of (j := 1) (want := false) (d := 88) (b := true) rfl rfl (congrArg Value.bool hc64) rfl) rfl ?_
                refine p_v (v := .bool true) rfl rfl rfl (x_pick_t (congrArg Value.bool hc64) rfl) ?_
                refine p_v (v := .bool true) rfl rfl rfl (x_assign rfl) ?_
                refine run_region_end ?_
                refine run_inBlock ?_
                refine run_reg (l := [0, 1, 2]) rfl ?_
                refine p_v (v := .int .i64 c) rfl rfl rfl (x_move r30_15) ?_
                refine p_v (v := .int .i64 (c + 1)) rfl rfl rfl (x_add rfl rfl (in_i64 (by first | omega | (simp; omega) | assumption) (by first | omega | (simp; omega) | assumption))) ?_
                refine p_v (v := .int .i64 (c + 1)) rfl rfl rfl (x_assign rfl) ?_
                refine run_region_end ?_
                refine ih30 (l, true, true, c + 1) _ _ (by dsimp only; omega) ⟨h30, v_l, le30, S42.sub [0, 1, 2] (by decide) rfl _ rfl, r30_2, r30_4, r30_7, r30_8, r30_9, r30_10, r30_11, r30_12, rfl, rfl, rfl, (in_i64 (by first | omega | (simp; omega) | assumption) (by first | omega | (simp; omega) | assumption)), (by exact ⟨by omega, by omega, by first | (rw [firstTo_no _ _ hI30.1 hb_]; exact hI30.2.2.1) | (rw [firstTo_in _ _ hI30.1 hb_ (by rw [← hI30.2.2.1]; omega), ← hI30.2.2.1]) | (rw [firstTo_out _ _ hI30.1 (by rw [← hI30.2.2.1]; omega)]; exact hI30.2.2.1), by rw [anyTo_step _ hI30.1, ← hI30.2.2.2.1, Int.toNat_of_nonneg hI30.1]; first | (rw [hp_]; simp; done) | (rw [(by assumption : xin = true)]; rfl) | (rw [hp_, (by assumption : xin = false)]; simp [has]), by rw [anyTo_step _ hI30.1, ← hI30.2.2.2.2, Int.toNat_of_nonneg hI30.1]; first | (rw [hp_]; simp; done) | (rw [(by assumption : out = true)]; rfl) | (rw [hp_, (by assumption : out = false)]; simp [has])⟩)⟩
              · skip
                refine p_v (v := .agg (encSet s).toArray) rfl (wanted_of (j := 1) (want := false) (d := 88) (b := false) rfl rfl (congrArg Value.bool hc64) rfl) rfl (x_load (seg := (encSet s)) t27 rfl (by simp) r30_4 (CF.box (m := 4) (S42.box_at (j := 0) rfl) (cs := (encSet s)) rfl)) ?_
                refine p_v (v := .int .i64 c) rfl (wanted_of (j := 1) (want := false) (d := 88) (b := false) rfl rfl (congrArg Value.bool hc64) rfl) rfl (x_move r30_15) ?_
                refine p_v (v := .int .u8 c) rfl (wanted_of (j := 1) (want := false) (d := 88) (b := false) rfl rfl (congrArg Value.bool hc64) rfl) rfl (x_conv u3 u5 rfl (in_u8 (by first | omega | (simp; omega) | assumption) (by first | omega | (simp; omega) | assumption))) ?_
                refine p_c rfl (wanted_of (j := 1) (want := false) (d := 88) (b := false) rfl rfl (congrArg Value.bool hc64) rfl) rfl (y_call (args := [.agg (encSet s).toArray, .int .u8 c]) c18 rfl rfl) (has_calls wd41 s c (in_u8 (by first | omega | (simp; omega) | assumption) (by first | omega | (simp; omega) | assumption))) ?_
                rintro _ w65 ⟨h65, T65, rfl⟩
                have S66 : St w.heap.size w h30 w65 [box b1 27 (encSet s), box b9 48 (encPart (refineP sets)), row 5 (Kd.int .u8) v_l l] := S42.keep (Chg.of_below T65.below)
                refine p_v (v := .bool (!(has s c))) rfl (wanted_of (j := 1) (want := false) (d := 88) (b := false) rfl rfl (congrArg Value.bool hc64) rfl) rfl (x_not rfl) ?_
                refine p_v (v := .bool (!(has s c))) rfl rfl rfl (x_pick_f (congrArg Value.bool hc64) rfl) ?_
                refine p_v (v := .bool (!(has s c))) rfl rfl rfl (x_assign rfl) ?_
                refine run_region_end ?_
                refine run_inBlock ?_
                refine run_reg (l := [0, 1, 2]) rfl ?_
                refine p_v (v := .int .i64 c) rfl rfl rfl (x_move r30_15) ?_
                refine p_v (v := .int .i64 (c + 1)) rfl rfl rfl (x_add rfl rfl (in_i64 (by first | omega | (simp; omega) | assumption) (by first | omega | (simp; omega) | assumption))) ?_
                refine p_v (v := .int .i64 (c + 1)) rfl rfl rfl (x_assign rfl) ?_
                refine run_region_end ?_
                refine ih30 (l, true, !(has s c), c + 1) _ _ (by dsimp only; omega) ⟨h30, v_l, le30, S66.sub [0, 1, 2] (by decide) rfl _ rfl, r30_2, r30_4, r30_7, r30_8, r30_9, r30_10, r30_11, r30_12, rfl, rfl, rfl, (in_i64 (by first | omega | (simp; omega) | assumption) (by first | omega | (simp; omega) | assumption)), (by exact ⟨by omega, by omega, by first | (rw [firstTo_no _ _ hI30.1 hb_]; exact hI30.2.2.1) | (rw [firstTo_in _ _ hI30.1 hb_ (by rw [← hI30.2.2.1]; omega), ← hI30.2.2.1]) | (rw [firstTo_out _ _ hI30.1 (by rw [← hI30.2.2.1]; omega)]; exact hI30.2.2.1), by rw [anyTo_step _ hI30.1, ← hI30.2.2.2.1, Int.toNat_of_nonneg hI30.1]; first | (rw [hp_]; simp; done) | (rw [(by assumption : xin = true)]; rfl) | (rw [hp_, (by assumption : xin = false)]; simp [has]), by rw [anyTo_step _ hI30.1, ← hI30.2.2.2.2, Int.toNat_of_nonneg hI30.1]; first | (rw [hp_]; simp; done) | (rw [(by assumption : out = true)]; rfl) | (rw [hp_, (by assumption : out = false)]; simp [has])⟩)⟩
            · skip
              refine p_v (v := .agg (encSet s).toArray) rfl (wanted_of (j := 1) (want := false) (d := 81) (b := false) rfl rfl (congrArg Value.bool hc63) rfl) rfl (x_load (seg := (encSet s)) t27 rfl (by simp) r30_4 (CF.box (m := 4) (S42.box_at (j := 0) rfl) (cs := (encSet s)) rfl)) ?_
              refine p_v (v := .int .i64 c) rfl (wanted_of (j := 1) (want := false) (d := 81) (b := false) rfl rfl (congrArg Value.bool hc63) rfl) rfl (x_move r30_15) ?_
              refine p_v (v := .int .u8 c) rfl (wanted_of (j := 1) (want := false) (d := 81) (b := false) rfl rfl (congrArg Value.bool hc63) rfl) rfl (x_conv u3 u5 rfl (in_u8 (by first | omega | (simp; omega) | assumption) (by first | omega | (simp; omega) | assumption))) ?_
              refine p_c rfl (wanted_of (j := 1) (want := false) (d := 81) (b := false) rfl rfl (congrArg Value.bool hc63) rfl) rfl (y_call (args := [.agg (encSet s).toArray, .int .u8 c]) c18 rfl rfl) (has_calls wd41 s c (in_u8 (by first | omega | (simp; omega) | assumption) (by first | omega | (simp; omega) | assumption))) ?_
              rintro _ w67 ⟨h67, T67, rfl⟩
              have S68 : St w.heap.size w h30 w67 [box b1 27 (encSet s), box b9 48 (encPart (refineP sets)), row 5 (Kd.int .u8) v_l l] := S42.keep (Chg.of_below T67.below)
              refine p_v (v := .bool (has s c)) rfl rfl rfl (x_pick_f (congrArg Value.bool hc63) rfl) ?_
              refine p_v (v := .bool (has s c)) rfl rfl rfl (x_assign rfl) ?_
              refine run_region_end ?_
              refine run_reg (l := [0, 1, 2, 3, 4, 5, 6, 7, 8]) rfl ?_
              refine p_v (v := .bool out) rfl rfl rfl (x_move r30_14) ?_
              refine p_v (v := .bool out) rfl rfl rfl (x_move rfl) ?_
              rcases Bool.eq_false_or_eq_true out with hc69 | hc69
              · skip
                refine p_off rfl (wanted_of (j := 1) (want := false) (d := 88) (b := true) rfl rfl (congrArg Value.bool hc69) rfl) rfl ?_
                refine p_off rfl (wanted_of (j := 1) (want := false) (d := 88) (b := true) rfl rfl (congrArg Value.bool hc69) rfl) rfl ?_
                refine p_off rfl (wanted_of (j := 1) (want := false) (d := 88) (b := true) rfl rfl (congrArg Value.bool hc69) rfl) rfl ?_
                refine p_off rfl (wanted_of (j := 1) (want := false) (d := 88) (b := true) rfl rfl (congrArg Value.bool hc69) rfl) rfl ?_
                refine p_off rfl (wanted_of (j := 1) (want := false) (d := 88) (b := true) rfl rfl (congrArg Value.bool hc69) rfl) rfl ?_
                refine p_v (v := .bool true) rfl rfl rfl (x_pick_t (congrArg Value.bool hc69) rfl) ?_
                refine p_v (v := .bool true) rfl rfl rfl (x_assign rfl) ?_
                refine run_region_end ?_
                refine run_inBlock ?_
                refine run_reg (l := [0, 1, 2]) rfl ?_
                refine p_v (v := .int .i64 c) rfl rfl rfl (x_move r30_15) ?_
                refine p_v (v := .int .i64 (c + 1)) rfl rfl rfl (x_add rfl rfl (in_i64 (by first | omega | (simp; omega) | assumption) (by first | omega | (simp; omega) | assumption))) ?_
                refine p_v (v := .int .i64 (c + 1)) rfl rfl rfl (x_assign rfl) ?_
                refine run_region_end ?_
                refine ih30 (l, has s c, true, c + 1) _ _ (by dsimp only; omega) ⟨h30, v_l, le30, S68.sub [0, 1, 2] (by decide) rfl _ rfl, r30_2, r30_4, r30_7, r30_8, r30_9, r30_10, r30_11, r30_12, rfl, rfl, rfl, (in_i64 (by first | omega | (simp; omega) | assumption) (by first | omega | (simp; omega) | assumption)), (by exact ⟨by omega, by omega, by first | (rw [firstTo_no _ _ hI30.1 hb_]; exact hI30.2.2.1) | (rw [firstTo_in _ _ hI30.1 hb_ (by rw [← hI30.2.2.1]; omega), ← hI30.2.2.1]) | (rw [firstTo_out _ _ hI30.1 (by rw [← hI30.2.2.1]; omega)]; exact hI30.2.2.1), by rw [anyTo_step _ hI30.1, ← hI30.2.2.2.1, Int.toNat_of_nonneg hI30.1]; first | (rw [hp_]; simp; done) | (rw [(by assumption : xin = true)]; rfl) | (rw [hp_, (by assumption : xin = false)]; simp [has]), by rw [anyTo_step _ hI30.1, ← hI30.2.2.2.2, Int.toNat_of_nonneg hI30.1]; first | (rw [hp_]; simp; done) | (rw [(by assumption : out = true)]; rfl) | (rw [hp_, (by assumption : out = false)]; simp [has])⟩)⟩
              · skip
                refine p_v (v := .agg (encSet s).toArray) rfl (wanted_of (j := 1) (want := false) (d := 88) (b := false) rfl rfl (congrArg Value.bool hc69) rfl) rfl (x_load (seg := (encSet s)) t27 rfl (by simp) r30_4 (CF.box (m := 4) (S68.box_at (j := 0) rfl) (cs := (encSet s)) rfl)) ?_
                refine p_v (v := .int .i64 c) rfl (wanted_of (j := 1) (want := false) (d := 88) (b := false) rfl rfl (congrArg Value.bool hc69) rfl) rfl (x_move r30_15) ?_
                refine p_v (v := .int .u8 c) rfl (wanted_of (j := 1) (want := false) (d := 88) (b := false) rfl rfl (congrArg Value.bool hc69) rfl) rfl (x_conv u3 u5 rfl (in_u8 (by first | omega | (simp; omega) | assumption) (by first | omega | (simp; omega) | assumption))) ?_
                refine p_c rfl (wanted_of (j := 1) (want := false) (d := 88) (b := false) rfl rfl (congrArg Value.bool hc69) rfl) rfl (y_call (args := [.agg (encSet s).toArray, .int .u8 c]) c18 rfl rfl) (has_calls w67 s c (in_u8 (by first | omega | (simp; omega) | assumption) (by first | omega | (simp; omega) | assumption))) ?_
                rintro _ w70 ⟨h70, T70, rfl⟩
                have S71 : St w.heap.size w h30 w70 [box b1 27 (encSet s), box b9 48 (encPart (refineP sets)), row 5 (Kd.int .u8) v_l l] := S68.keep (Chg.of_below T70.below)
                refine p_v (v := .bool (!(has s c))) rfl (wanted_of (j := 1) (want := false) (d := 88) (b := false) rfl rfl (congrArg Value.bool hc69) rfl) rfl (x_not rfl) ?_
                refine p_v (v := .bool (!(has s c))) rfl rfl rfl (x_pick_f (congrArg Value.bool hc69) rfl) ?_
                refine p_v (v := .bool (!(has s c))) rfl rfl rfl (x_assign rfl) ?_
                refine run_region_end ?_
                refine run_inBlock ?_
                refine run_reg (l := [0, 1, 2]) rfl ?_
                refine p_v (v := .int .i64 c) rfl rfl rfl (x_move r30_15) ?_
                refine p_v (v := .int .i64 (c + 1)) rfl rfl rfl (x_add rfl rfl (in_i64 (by first | omega | (simp; omega) | assumption) (by first | omega | (simp; omega) | assumption))) ?_
                refine p_v (v := .int .i64 (c + 1)) rfl rfl rfl (x_assign rfl) ?_
                refine run_region_end ?_
                refine ih30 (l, has s c, !(has s c), c + 1) _ _ (by dsimp only; omega) ⟨h30, v_l, le30, S71.sub [0, 1, 2] (by decide) rfl _ rfl, r30_2, r30_4, r30_7, r30_8, r30_9, r30_10, r30_11, r30_12, rfl, rfl, rfl, (in_i64 (by first | omega | (simp; omega) | assumption) (by first | omega | (simp; omega) | assumption)), (by exact ⟨by omega, by omega, by first | (rw [firstTo_no _ _ hI30.1 hb_]; exact hI30.2.2.1) | (rw [firstTo_in _ _ hI30.1 hb_ (by rw [← hI30.2.2.1]; omega), ← hI30.2.2.1]) | (rw [firstTo_out _ _ hI30.1 (by rw [← hI30.2.2.1]; omega)]; exact hI30.2.2.1), by rw [anyTo_step _ hI30.1, ← hI30.2.2.2.1, Int.toNat_of_nonneg hI30.1]; first | (rw [hp_]; simp; done) | (rw [(by assumption : xin = true)]; rfl) | (rw [hp_, (by assumption : xin = false)]; simp [has]), by rw [anyTo_step _ hI30.1, ← hI30.2.2.2.2, Int.toNat_of_nonneg hI30.1]; first | (rw [hp_]; simp; done) | (rw [(by assumption : out = true)]; rfl) | (rw [hp_, (by assumption : out = false)]; simp [has])⟩)⟩
      · skip
        have hc_ := cut_in_out sets s hI25.1 (by omega) (by omega) hI30.2.2.2.1 hI30.2.2.2.2
        refine run_exit rfl ?_
        refine run_seq ?_
        refine run_reg (l := [0, 1, 2, 3, 4, 5, 6, 7]) rfl ?_
        refine p_v (v := .bool split) rfl rfl rfl (x_move r30_10) ?_
        refine p_v (v := .bool split) rfl rfl rfl (x_move rfl) ?_
        rcases Bool.eq_false_or_eq_true split with hc72 | hc72
        · skip
          refine p_off rfl (wanted_of (j := 1) (want := false) (d := 96) (b := true) rfl rfl (congrArg Value.bool hc72) rfl) rfl ?_
          refine p_off rfl (wanted_of (j := 1) (want := false) (d := 96) (b := true) rfl rfl (congrArg Value.bool hc72) rfl) rfl ?_
          refine p_off rfl rfl rfl ?_
          refine p_off rfl (wanted_of (j := 1) (want := false) (d := 96) (b := true) rfl rfl (congrArg Value.bool hc72) rfl) rfl ?_
          refine p_v (v := .bool true) rfl rfl rfl (x_pick_t (congrArg Value.bool hc72) rfl) ?_
          refine p_v (v := .bool true) rfl rfl rfl (x_assign rfl) ?_
          refine run_region_end ?_
          refine run_seq ?_
          obtain ⟨A73, c73, ev73, lc73, cm73⟩ := S30.row_val (j := 2) rfl
          have sz74 := str_small (xs := l) (Nat.le_trans (And.intro lc73 cm73).1 (And.intro lc73 cm73).2); have bdsz74 := sz74; simp only [maxLen] at bdsz74
          obtain ⟨ad75, seg75, a75, rp75, ce75⟩ := e_index_ro (q := n) (m := 1) ld19 rfl (by first | omega | (simp; omega) | assumption) (by first | omega | (simp; omega) | assumption)
          obtain ⟨A75, c75, rfl, lc75, cm75, ld75⟩ := rp75
          have cn75 := cm75; simp only [maxLen] at cn75
          have sz76 := str_small (xs := at_ (leastP (refineP sets) k) n) (Nat.le_trans (And.intro lc75 cm75).1 (And.intro lc75 cm75).2); have bdsz76 := sz76; simp only [maxLen] at bdsz76
          have hf77 : (LeadsS (Kd.int .u8) A73 l).1 w30 := (row_leads_eq S30 (j := 2) rfl ev73)
          have hf78 : (CFs ad75 [.slice A75 (at_ (leastP (refineP sets) k) n).length c75]).1 w30 := (CF.ghost ce75 (((le25).trans le30).trans S30.ghost))
          have hf79 : (LeadsS (Kd.int .u8) A75 (at_ (leastP (refineP sets) k) n)).1 w30 := (ld75.mono (((le25).trans le30).trans S30.ghost))
          refine da_start [(1, LeadsS (Kd.int .u8) A73 l), (5, CFs ad75 [.slice A75 (at_ (leastP (refineP sets) k) n).length c75]), (6, LeadsS (Kd.int .u8) A75 (at_ (leastP (refineP sets) k) n))] 8 rfl mixed ?_
          intro wd80 gd80 hd80
          have S81 : St w.heap.size w h30 wd80 [box b1 27 (encSet s), box b9 48 (encPart (refineP sets)), row 5 (Kd.int .u8) v_l l] := S30.keep gd80
          have hf82 := (LeadsS (Kd.int .u8) A73 l).2 _ _ gd80 hf77
          have hf83 := (CFs ad75 [.slice A75 (at_ (leastP (refineP sets) k) n).length c75]).2 _ _ gd80 hf78
          have hf84 := (LeadsS (Kd.int .u8) A75 (at_ (leastP (refineP sets) k) n)).2 _ _ gd80 hf79
          refine d_q (i := 0) (v := v_l) (fun _ => True) (fun _ ho => trivial) rfl (by decide +kernel) (by decide +kernel) (by decide +kernel) rfl rfl (fun wq hq => (x_move r30_12)) (of_ne rfl (of_ne rfl (of_ne rfl (of_nil _ _)))) ?_
          refine d_q (i := 1) (v := .string (strOfNums l)) (fun wf => Leads (Kd.int .u8) (hp wf) A73 l) (fun _ ho => ho _ (List.mem_of_getElem? (i := 0) rfl) rfl) rfl (by decide +kernel) (by decide +kernel) (by decide +kernel) rfl rfl (fun wq hq => (x_bytes_string u22 u5 u9 ev73 hq)) (of_eq hf82 (of_ne rfl (of_ne rfl (of_nil _ _)))) ?_
          refine d_q (i := 2) (v := .slice A19 (leastP (refineP sets) k).length c19) (fun _ => True) (fun _ ho => trivial) rfl (by decide +kernel) (by decide +kernel) (by decide +kernel) rfl rfl (fun wq hq => (x_move r30_9)) (of_ne rfl (of_ne rfl (of_ne rfl (of_nil _ _)))) ?_
          refine d_q (i := 3) (v := .int .i64 n) (fun _ => True) (fun _ ho => trivial) rfl (by decide +kernel) (by decide +kernel) (by decide +kernel) rfl rfl (fun wq hq => (x_move r30_11)) (of_ne rfl (of_ne rfl (of_ne rfl (of_nil _ _)))) ?_
          refine d_q (i := 4) (v := .pointer (some ad75)) (fun _ => True) (fun _ ho => trivial) rfl (by decide +kernel) (by decide +kernel) (by decide +kernel) rfl rfl (fun wq hq => (x_index_ro u54 t22 rfl rfl a75 (by first | omega | (simp; omega) | assumption) (by first | omega | (simp; omega) | assumption))) (of_ne rfl (of_ne rfl (of_ne rfl (of_nil _ _)))) ?_
          refine d_q (i := 5) (v := .slice A75 (at_ (leastP (refineP sets) k) n).length c75) (CF ad75 [.slice A75 (at_ (leastP (refineP sets) k) n).length c75]) (fun _ ho => ho _ (List.mem_of_getElem? (i := 1) rfl) rfl) rfl (by decide +kernel) (by decide +kernel) (by decide +kernel) rfl rfl (fun wq hq => (x_load (seg := [.slice A75 (at_ (leastP (refineP sets) k) n).length c75]) t22 rfl (by simp) rfl hq)) (of_ne rfl (of_eq hf83 (of_ne rfl (of_nil _ _)))) ?_
          refine d_q (i := 6) (v := .string (strOfNums (at_ (leastP (refineP sets) k) n))) (fun wf => Leads (Kd.int .u8) (hp wf) A75 (at_ (leastP (refineP sets) k) n)) (fun _ ho => ho _ (List.mem_of_getElem? (i := 2) rfl) rfl) rfl (by decide +kernel) (by decide +kernel) (by decide +kernel) rfl rfl (fun wq hq => (x_bytes_string u22 u5 u9 rfl hq)) (of_ne rfl (of_ne rfl (of_eq hf84 (of_nil _ _)))) ?_
          refine d_q (i := 7) (v := .bool (decide ((strOfNums l) ≠ (strOfNums (at_ (leastP (refineP sets) k) n))))) (fun _ => True) (fun _ ho => trivial) rfl (by decide +kernel) (by decide +kernel) (by decide +kernel) rfl rfl (fun wq hq => (x_neq_string rfl rfl)) (of_ne rfl (of_ne rfl (of_ne rfl (of_nil _ _)))) ?_
          refine ra_done (by decide +kernel) ?_
          intro wd85 gd85
          have S86 : St w.heap.size w h30 wd85 [box b1 27 (encSet s), box b9 48 (encPart (refineP sets)), row 5 (Kd.int .u8) v_l l] := S81.keep gd85
          have hc87 : ¬ ((strOfNums l) ≠ (strOfNums (at_ (leastP (refineP sets) k) n))) := by
            rw [hI30.2.2.1, least_first sets k hI25.1 (by omega) (by omega)]; simp
          refine run_cond (b := false) (congrArg Value.bool (decide_eq_false hc87)) ?_
          simp only [if_true, if_false, Bool.false_eq_true]
          refine run_skip ?_
          refine run_inBlock ?_
          refine run_reg (l := [0, 1, 2]) rfl ?_
          refine p_v (v := .int .i64 n) rfl rfl rfl (x_move r30_11) ?_
          refine p_v (v := .int .i64 (n + 1)) rfl rfl rfl (x_add rfl rfl (in_i64 (by first | omega | (simp; omega) | assumption) (by first | omega | (simp; omega) | assumption))) ?_
          refine p_v (v := .int .i64 (n + 1)) rfl rfl rfl (x_assign rfl) ?_
          refine run_region_end ?_
          refine ih25 (true, n + 1) _ _ (by dsimp only; omega) ⟨h30, ((le25).trans le30), S86.sub [0, 1] (by decide) rfl _ rfl, r30_2, r30_4, r30_7, r30_8, r30_9, rfl, rfl, (in_i64 (by first | omega | (simp; omega) | assumption) (by first | omega | (simp; omega) | assumption)), (by exact ⟨by omega, by omega, by rw [cutTo_step _ _ hI25.1, ← hI25.2.2, ← hc_]; first | (rw [(by assumption : split = true)]; rfl) | (rw [(by assumption : split = false), (by assumption : xin = true)]; simp) | (rw [(by assumption : split = false), (by assumption : xin = false)]; rfl)⟩)⟩
        · skip
          refine p_v (v := .bool xin) rfl (wanted_of (j := 1) (want := false) (d := 96) (b := false) rfl rfl (congrArg Value.bool hc72) rfl) rfl (x_move r30_13) ?_
          refine p_v (v := .bool xin) rfl (wanted_of (j := 1) (want := false) (d := 96) (b := false) rfl rfl (congrArg Value.bool hc72) rfl) rfl (x_move rfl) ?_
          rcases Bool.eq_false_or_eq_true xin with hc88 | hc88
          · skip
            refine p_v (v := .bool out) rfl (wanted_of (j := 3) (want := true) (d := 98) (b := true) rfl rfl (congrArg Value.bool hc88) rfl) rfl (x_move r30_14) ?_
            refine p_v (v := .bool out) rfl (wanted_of (j := 1) (want := false) (d := 96) (b := false) rfl rfl (congrArg Value.bool hc72) rfl) rfl (x_pick_t (congrArg Value.bool hc88) rfl) ?_
            refine p_v (v := .bool out) rfl rfl rfl (x_pick_f (congrArg Value.bool hc72) rfl) ?_
            refine p_v (v := .bool out) rfl rfl rfl (x_assign rfl) ?_
            refine run_region_end ?_
            refine run_seq ?_
            obtain ⟨A89, c89, ev89, lc89, cm89⟩ := S30.row_val (j := 2) rfl
            have sz90 := str_small (xs := l) (Nat.le_trans (And.intro lc89 cm89).1 (And.intro lc89 cm89).2); have bdsz90 := sz90; simp only [maxLen] at bdsz90
            obtain ⟨ad91, seg91, a91, rp91, ce91⟩ := e_index_ro (q := n) (m := 1) ld19 rfl (by first | omega | (simp; omega) | assumption) (by first | omega | (simp; omega) | assumption)
            obtain ⟨A91, c91, rfl, lc91, cm91, ld91⟩ := rp91
            have cn91 := cm91; simp only [maxLen] at cn91
            have sz92 := str_small (xs := at_ (leastP (refineP sets) k) n) (Nat.le_trans (And.intro lc91 cm91).1 (And.intro lc91 cm91).2); have bdsz92 := sz92; simp only [maxLen] at bdsz92
            have hf93 : (LeadsS (Kd.int .u8) A89 l).1 w30 := (row_leads_eq S30 (j := 2) rfl ev89)
            have hf94 : (CFs ad91 [.slice A91 (at_ (leastP (refineP sets) k) n).length c91]).1 w30 := (CF.ghost ce91 (((le25).trans le30).trans S30.ghost))
            have hf95 : (LeadsS (Kd.int .u8) A91 (at_ (leastP (refineP sets) k) n)).1 w30 := (ld91.mono (((le25).trans le30).trans S30.ghost))
            refine da_start [(1, LeadsS (Kd.int .u8) A89 l), (5, CFs ad91 [.slice A91 (at_ (leastP (refineP sets) k) n).length c91]), (6, LeadsS (Kd.int .u8) A91 (at_ (leastP (refineP sets) k) n))] 8 rfl mixed ?_
            intro wd96 gd96 hd96
            have S97 : St w.heap.size w h30 wd96 [box b1 27 (encSet s), box b9 48 (encPart (refineP sets)), row 5 (Kd.int .u8) v_l l] := S30.keep gd96
            have hf98 := (LeadsS (Kd.int .u8) A89 l).2 _ _ gd96 hf93
            have hf99 := (CFs ad91 [.slice A91 (at_ (leastP (refineP sets) k) n).length c91]).2 _ _ gd96 hf94
            have hf100 := (LeadsS (Kd.int .u8) A91 (at_ (leastP (refineP sets) k) n)).2 _ _ gd96 hf95
            refine d_q (i := 0) (v := v_l) (fun _ => True) (fun _ ho => trivial) rfl (by decide +kernel) (by decide +kernel) (by decide +kernel) rfl rfl (fun wq hq => (x_move r30_12)) (of_ne rfl (of_ne rfl (of_ne rfl (of_nil _ _)))) ?_
            refine d_q (i := 1) (v := .string (strOfNums l)) (fun wf => Leads (Kd.int .u8) (hp wf) A89 l) (fun _ ho => ho _ (List.mem_of_getElem? (i := 0) rfl) rfl) rfl (by decide +kernel) (by decide +kernel) (by decide +kernel) rfl rfl (fun wq hq => (x_bytes_string u22 u5 u9 ev89 hq)) (of_eq hf98 (of_ne rfl (of_ne rfl (of_nil _ _)))) ?_
            refine d_q (i := 2) (v := .slice A19 (leastP (refineP sets) k).length c19) (fun _ => True) (fun _ ho => trivial) rfl (by decide +kernel) (by decide +kernel) (by decide +kernel) rfl rfl (fun wq hq => (x_move r30_9)) (of_ne rfl (of_ne rfl (of_ne rfl (of_nil _ _)))) ?_
            refine d_q (i := 3) (v := .int .i64 n) (fun _ => True) (fun _ ho => trivial) rfl (by decide +kernel) (by decide +kernel) (by decide +kernel) rfl rfl (fun wq hq => (x_move r30_11)) (of_ne rfl (of_ne rfl (of_ne rfl (of_nil _ _)))) ?_
            refine d_q (i := 4) (v := .pointer (some ad91)) (fun _ => True) (fun _ ho => trivial) rfl (by decide +kernel) (by decide +kernel) (by decide +kernel) rfl rfl (fun wq hq => (x_index_ro u54 t22 rfl rfl a91 (by first | omega | (simp; omega) | assumption) (by first | omega | (simp; omega) | assumption))) (of_ne rfl (of_ne rfl (of_ne rfl (of_nil _ _)))) ?_
            refine d_q (i := 5) (v := .slice A91 (at_ (leastP (refineP sets) k) n).length c91) (CF ad91 [.slice A91 (at_ (leastP (refineP sets) k) n).length c91]) (fun _ ho => ho _ (List.mem_of_getElem? (i := 1) rfl) rfl) rfl (by decide +kernel) (by decide +kernel) (by decide +kernel) rfl rfl (fun wq hq => (x_load (seg := [.slice A91 (at_ (leastP (refineP sets) k) n).length c91]) t22 rfl (by simp) rfl hq)) (of_ne rfl (of_eq hf99 (of_ne rfl (of_nil _ _)))) ?_
            refine d_q (i := 6) (v := .string (strOfNums (at_ (leastP (refineP sets) k) n))) (fun wf => Leads (Kd.int .u8) (hp wf) A91 (at_ (leastP (refineP sets) k) n)) (fun _ ho => ho _ (List.mem_of_getElem? (i := 2) rfl) rfl) rfl (by decide +kernel) (by decide +kernel) (by decide +kernel) rfl rfl (fun wq hq => (x_bytes_string u22 u5 u9 rfl hq)) (of_ne rfl (of_ne rfl (of_eq hf100 (of_nil _ _)))) ?_
            refine d_q (i := 7) (v := .bool (decide ((strOfNums l) ≠ (strOfNums (at_ (leastP (refineP sets) k) n))))) (fun _ => True) (fun _ ho => trivial) rfl (by decide +kernel) (by decide +kernel) (by decide +kernel) rfl rfl (fun wq hq => (x_neq_string rfl rfl)) (of_ne rfl (of_ne rfl (of_ne rfl (of_nil _ _)))) ?_
            refine ra_done (by decide +kernel) ?_
            intro wd101 gd101
            have S102 : St w.heap.size w h30 wd101 [box b1 27 (encSet s), box b9 48 (encPart (refineP sets)), row 5 (Kd.int .u8) v_l l] := S97.keep gd101
            have hc103 : ¬ ((strOfNums l) ≠ (strOfNums (at_ (leastP (refineP sets) k) n))) := by
              rw [hI30.2.2.1, least_first sets k hI25.1 (by omega) (by omega)]; simp
            refine run_cond (b := false) (congrArg Value.bool (decide_eq_false hc103)) ?_
            simp only [if_true, if_false, Bool.false_eq_true]
            refine run_skip ?_
            refine run_inBlock ?_
            refine run_reg (l := [0, 1, 2]) rfl ?_
            refine p_v (v := .int .i64 n) rfl rfl rfl (x_move r30_11) ?_
            refine p_v (v := .int .i64 (n + 1)) rfl rfl rfl (x_add rfl rfl (in_i64 (by first | omega | (simp; omega) | assumption) (by first | omega | (simp; omega) | assumption))) ?_
            refine p_v (v := .int .i64 (n + 1)) rfl rfl rfl (x_assign rfl) ?_
            refine run_region_end ?_
            refine ih25 (out, n + 1) _ _ (by dsimp only; omega) ⟨h30, ((le25).trans le30), S102.sub [0, 1] (by decide) rfl _ rfl, r30_2, r30_4, r30_7, r30_8, r30_9, rfl, rfl, (in_i64 (by first | omega | (simp; omega) | assumption) (by first | omega | (simp; omega) | assumption)), (by exact ⟨by omega, by omega, by rw [cutTo_step _ _ hI25.1, ← hI25.2.2, ← hc_]; first | (rw [(by assumption : split = true)]; rfl) | (rw [(by assumption : split = false), (by assumption : xin = true)]; simp) | (rw [(by assumption : split = false), (by assumption : xin = false)]; rfl)⟩)⟩
          · skip
            refine p_off rfl (wanted_of (j := 3) (want := true) (d := 98) (b := false) rfl rfl (congrArg Value.bool hc88) rfl) rfl ?_
            refine p_v (v := .bool false) rfl (wanted_of (j := 1) (want := false) (d := 96) (b := false) rfl rfl (congrArg Value.bool hc72) rfl) rfl (x_pick_f (congrArg Value.bool hc88) rfl) ?_
            refine p_v (v := .bool false) rfl rfl rfl (x_pick_f (congrArg Value.bool hc72) rfl) ?_
            refine p_v (v := .bool false) rfl rfl rfl (x_assign rfl) ?_
            refine run_region_end ?_
            refine run_seq ?_
            obtain ⟨A104, c104, ev104, lc104, cm104⟩ := S30.row_val (j := 2) rfl
            have sz105 := str_small (xs := l) (Nat.le_trans (And.intro lc104 cm104).1 (And.intro lc104 cm104).2); have bdsz105 := sz105; simp only [maxLen] at bdsz105
            obtain ⟨ad106, seg106, a106, rp106, ce106⟩ := e_index_ro (q := n) (m := 1) ld19 rfl (by first | omega | (simp; omega) | assumption) (by first | omega | (simp; omega) | assumption)
            obtain ⟨A106, c106, rfl, lc106, cm106, ld106⟩ := rp106
            have cn106 := cm106; simp only [maxLen] at cn106
            have sz107 := str_small (xs := at_ (leastP (refineP sets) k) n) (Nat.le_trans (And.intro lc106 cm106).1 (And.intro lc106 cm106).2); have bdsz107 := sz107; simp only [maxLen] at bdsz107
            have hf108 : (LeadsS (Kd.int .u8) A104 l).1 w30 := (row_leads_eq S30 (j := 2) rfl ev104)
            have hf109 : (CFs ad106 [.slice A106 (at_ (leastP (refineP sets) k) n).length c106]).1 w30 := (CF.ghost ce106 (((le25).trans le30).trans S30.ghost))
            have hf110 : (LeadsS (Kd.int .u8) A106 (at_ (leastP (refineP sets) k) n)).1 w30 := (ld106.mono (((le25).trans le30).trans S30.ghost))
            refine da_start [(1, LeadsS (Kd.int .u8) A104 l), (5, CFs ad106 [.slice A106 (at_ (leastP (refineP sets) k) n).length c106]), (6, LeadsS (Kd.int .u8) A106 (at_ (leastP (refineP sets) k) n))] 8 rfl mixed ?_
            intro wd111 gd111 hd111
            have S112 : St w.heap.size w h30 wd111 [box b1 27 (encSet s), box b9 48 (encPart (refineP sets)), row 5 (Kd.int .u8) v_l l] := S30.keep gd111
            have hf113 := (LeadsS (Kd.int .u8) A104 l).2 _ _ gd111 hf108
            have hf114 := (CFs ad106 [.slice A106 (at_ (leastP (refineP sets) k) n).length c106]).2 _ _ gd111 hf109
            have hf115 := (LeadsS (Kd.int .u8) A106 (at_ (leastP (refineP sets) k) n)).2 _ _ gd111 hf110
            refine d_q (i := 0) (v := v_l) (fun _ => True) (fun _ ho => trivial) rfl (by decide +kernel) (by decide +kernel) (by decide +kernel) rfl rfl (fun wq hq => (x_move r30_12)) (of_ne rfl (of_ne rfl (of_ne rfl (of_nil _ _)))) ?_
            refine d_q (i := 1) (v := .string (strOfNums l)) (fun wf => Leads (Kd.int .u8) (hp wf) A104 l) (fun _ ho => ho _ (List.mem_of_getElem? (i := 0) rfl) rfl) rfl (by decide +kernel) (by decide +kernel) (by decide +kernel) rfl rfl (fun wq hq => (x_bytes_string u22 u5 u9 ev104 hq)) (of_eq hf113 (of_ne rfl (of_ne rfl (of_nil _ _)))) ?_
            refine d_q (i := 2) (v := .slice A19 (leastP (refineP sets) k).length c19) (fun _ => True) (fun _ ho => trivial) rfl (by decide +kernel) (by decide +kernel) (by decide +kernel) rfl rfl (fun wq hq => (x_move r30_9)) (of_ne rfl (of_ne rfl (of_ne rfl (of_nil _ _)))) ?_
            refine d_q (i := 3) (v := .int .i64 n) (fun _ => True) (fun _ ho => trivial) rfl (by decide +kernel) (by decide +kernel) (by decide +kernel) rfl rfl (fun wq hq => (x_move r30_11)) (of_ne rfl (of_ne rfl (of_ne rfl (of_nil _ _)))) ?_
            refine d_q (i := 4) (v := .pointer (some ad106)) (fun _ => True) (fun _ ho => trivial) rfl (by decide +kernel) (by decide +kernel) (by decide +kernel) rfl rfl (fun wq hq => (x_index_ro u54 t22 rfl rfl a106 (by first | omega | (simp; omega) | assumption) (by first | omega | (simp; omega) | assumption))) (of_ne rfl (of_ne rfl (of_ne rfl (of_nil _ _)))) ?_
            refine d_q (i := 5) (v := .slice A106 (at_ (leastP (refineP sets) k) n).length c106) (CF ad106 [.slice A106 (at_ (leastP (refineP sets) k) n).length c106]) (fun _ ho => ho _ (List.mem_of_getElem? (i := 1) rfl) rfl) rfl (by decide +kernel) (by decide +kernel) (by decide +kernel) rfl rfl (fun wq hq => (x_load (seg := [.slice A106 (at_ (leastP (refineP sets) k) n).length c106]) t22 rfl (by simp) rfl hq)) (of_ne rfl (of_eq hf114 (of_ne rfl (of_nil _ _)))) ?_
            refine d_q (i := 6) (v := .string (strOfNums (at_ (leastP (refineP sets) k) n))) (fun wf => Leads (Kd.int .u8) (hp wf) A106 (at_ (leastP (refineP sets) k) n)) (fun _ ho => ho _ (List.mem_of_getElem? (i := 2) rfl) rfl) rfl (by decide +kernel) (by decide +kernel) (by decide +kernel) rfl rfl (fun wq hq => (x_bytes_string u22 u5 u9 rfl hq)) (of_ne rfl (of_ne rfl (of_eq hf115 (of_nil _ _)))) ?_
            refine d_q (i := 7) (v := .bool (decide ((strOfNums l) ≠ (strOfNums (at_ (leastP (refineP sets) k) n))))) (fun _ => True) (fun _ ho => trivial) rfl (by decide +kernel) (by decide +kernel) (by decide +kernel) rfl rfl (fun wq hq => (x_neq_string rfl rfl)) (of_ne rfl (of_ne rfl (of_ne rfl (of_nil _ _)))) ?_
            refine ra_done (by decide +kernel) ?_
            intro wd116 gd116
            have S117 : St w.heap.size w h30 wd116 [box b1 27 (encSet s), box b9 48 (encPart (refineP sets)), row 5 (Kd.int .u8) v_l l] := S112.keep gd116
            have hc118 : ¬ ((strOfNums l) ≠ (strOfNums (at_ (leastP (refineP sets) k) n))) := by
              rw [hI30.2.2.1, least_first sets k hI25.1 (by omega) (by omega)]; simp
            refine run_cond (b := false) (congrArg Value.bool (decide_eq_false hc118)) ?_
            simp only [if_true, if_false, Bool.false_eq_true]
            refine run_skip ?_
            refine run_inBlock ?_
            refine run_reg (l := [0, 1, 2]) rfl ?_
            refine p_v (v := .int .i64 n) rfl rfl rfl (x_move r30_11) ?_
            refine p_v (v := .int .i64 (n + 1)) rfl rfl rfl (x_add rfl rfl (in_i64 (by first | omega | (simp; omega) | assumption) (by first | omega | (simp; omega) | assumption))) ?_
            refine p_v (v := .int .i64 (n + 1)) rfl rfl rfl (x_assign rfl) ?_
            refine run_region_end ?_
            refine ih25 (false, n + 1) _ _ (by dsimp only; omega) ⟨h30, ((le25).trans le30), S117.sub [0, 1] (by decide) rfl _ rfl, r30_2, r30_4, r30_7, r30_8, r30_9, rfl, rfl, (in_i64 (by first | omega | (simp; omega) | assumption) (by first | omega | (simp; omega) | assumption)), (by exact ⟨by omega, by omega, by rw [cutTo_step _ _ hI25.1, ← hI25.2.2, ← hc_]; first | (rw [(by assumption : split = true)]; rfl) | (rw [(by assumption : split = false), (by assumption : xin = true)]; simp) | (rw [(by assumption : split = false), (by assumption : xin = false)]; rfl)⟩)⟩
    · skip
      refine run_exit rfl ?_
      refine run_seq ?_
      refine run_reg (l := [0, 1, 2, 3, 4, 5, 6, 7, 8]) rfl ?_
      refine p_v (v := .agg (encPart (refineP sets)).toArray) rfl rfl rfl (x_load (seg := (encPart (refineP sets))) t48 (encPart_len ok7_0) (by simp) r25_7 (CF.box (m := 257) (S25.box_at (j := 1) rfl) (cs := (encPart (refineP sets))) (by rw [List.drop_zero, List.take_of_length_le (by rw [encPart_len ok7_0]; exact Nat.le_refl _)]))) ?_
      refine p_v (v := .agg (encSet s).toArray) rfl rfl rfl (x_load (seg := (encSet s)) t27 rfl (by simp) r25_4 (CF.box (m := 4) (S25.box_at (j := 0) rfl) (cs := (encSet s)) rfl)) ?_
      refine p_c rfl rfl rfl (y_call (args := [.agg (encPart (refineP sets)).toArray, .agg (encSet s).toArray]) c32 rfl rfl) (splits_calls w25 (refineP sets) ok7_0 s) ?_
      rintro _ w119 ⟨h119, T119, rfl⟩
      have S120 : St w.heap.size w h25 w119 [box b1 27 (encSet s), box b9 48 (encPart (refineP sets))] := S25.keep (Chg.of_below T119.below)
      refine p_v (v := .bool split) rfl rfl rfl (x_move r25_10) ?_
      refine p_v (v := .bool (decide ((splitsP (refineP sets) s) = split))) rfl rfl rfl (x_eql_bool u4 rfl rfl) ?_
      refine p_v (v := .bool (decide ((splitsP (refineP sets) s) = split))) rfl rfl rfl (x_move rfl) ?_
      have hc121 : ((splitsP (refineP sets) s) = split) := by
        rw [hI25.2.2]; exact cut_end sets s (by omega)
      refine p_c rfl (wanted_of (j := 5) (want := true) (d := 115) (b := true) rfl rfl (congrArg Value.bool (decide_eq_true hc121)) rfl) rfl (y_call (args := []) c26 rfl rfl) (awake2_calls w119  (Block.st S120 tb)) ?_
      rintro _ w122 ⟨h122, T122, rfl⟩
      have S123 : St w.heap.size w h25 w122 [box b1 27 (encSet s), box b9 48 (encPart (refineP sets))] := S120.keep (Chg.of_below T122.below)
      refine p_v (v := .bool true) rfl rfl rfl (x_pick_t (congrArg Value.bool (decide_eq_true hc121)) rfl) ?_
      refine p_v (v := .bool true) rfl rfl rfl (x_assign rfl) ?_
      refine run_region_end ?_
      refine run_ret Tryd.func10 (res1 rfl (res_tmp (v := .bool true) rfl)) ?_
      have q0 : (true : Bool) = true := rfl
      refine ⟨_, rfl, h25, ?_, ?_⟩
      · exact S123.sub [] (by decide) rfl _ rfl
      · rfl
end Go.Proofs.YtlcmimjdnhjeoaaDoor
