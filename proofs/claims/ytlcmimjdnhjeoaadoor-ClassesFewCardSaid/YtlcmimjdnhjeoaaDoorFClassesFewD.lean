/- The law ClassesFew, walked: it tells true at every input, and writes nothing that was there. -/
import Derived.Test.YtlcmimjdnhjeoaaDoorTD
import Derived.Test.YtlcmimjdnhjeoaaDoorF0D
import Derived.Test.YtlcmimjdnhjeoaaDoorM7
namespace Go.Proofs.YtlcmimjdnhjeoaaDoor
open Go Go.RowKit Gx
set_option maxHeartbeats 1000000
set_option linter.unusedVariables false
set_option linter.unusedSimpArgs false
attribute [local irreducible] members pack listOf count first someIn has setOf setRange wbits Lib.ctz partOf refineP setsP leastP rightP splitsP splitP unionTo apartTo cutTo anyTo firstTo cuts

theorem classesFew_calls (w : World) (sets : List BSet) (A0 : Option Addr) (c0 : Nat) (b0 : sets.length ≤ c0 ∧ c0 ≤ maxLen) (l0 : Leads kSet (hp w) A0 sets) (tb : Block 0 tzTab w) :
    Calls Tryd.prog 9 #[.slice A0 sets.length c0] w fun e w' => ∃ v, e = .returned v ∧ ∃ (hn : Ghost), St w.heap.size w hn w' [] ∧ v = .bool true := by
  refine calls_of_run Tryd.func9 rfl Tryd.ntmps9 rfl ?_
  have S0 := St.init w
  have bb0 := b0.1; have bc0 := b0.2; simp only [maxLen] at bc0
  refine run_seq ?_
  refine run_reg (l := [0]) rfl ?_
  refine p_v (v := .bool false) rfl rfl rfl (x_assign rfl) ?_
  refine run_region_end ?_
  refine run_seq ?_
  refine run_seq ?_
  refine run_reg (l := [0, 1, 2]) rfl ?_
  refine p_v (v := .slice A0 sets.length c0) rfl rfl rfl (x_move rfl) ?_
  refine p_v (v := .int .i64 (sets.length : Int)) rfl rfl rfl (x_len_slice u44 rfl) ?_
  refine p_v (v := .bool (decide (40 < (sets.length : Int)))) rfl rfl rfl (x_gtr rfl rfl) ?_
  refine run_region_end ?_
  refine run_cond_prop (p := 40 < (sets.length : Int)) rfl (fun hc1 => ?_) (fun hc1 => ?_)
  · skip
    refine run_seq ?_
    refine run_reg (l := [0, 1]) rfl ?_
    refine p_c rfl rfl rfl (y_call (args := []) c26 rfl rfl) (awake2_calls w  (Block.st S0 tb)) ?_
    rintro _ w2 ⟨h2, T2, rfl⟩
    have S3 : St w.heap.size w (fun _ => none) w2 [] := S0.keep (Chg.of_below T2.below)
    refine p_v (v := .bool true) rfl rfl rfl (x_assign rfl) ?_
    refine run_region_end ?_
    refine run_ret Tryd.func9 (res1 rfl (res_tmp (v := .bool true) rfl)) ?_
    have q0 : (true : Bool) = true := rfl
    refine ⟨_, rfl, (fun _ => none), ?_, ?_⟩
    · exact S3.sub [] (by decide) rfl _ rfl
    · rfl
  · skip
    refine run_skip ?_
    refine run_seq ?_
    refine run_reg (l := [0, 1, 2, 3]) rfl ?_
    refine p_v (v := .slice A0 sets.length c0) rfl rfl rfl (x_move rfl) ?_
    refine p_c rfl rfl rfl (y_call (args := [.slice A0 sets.length c0]) c27 rfl rfl) (refine_calls w sets A0 c0 b0 (l0.mono (St.le0 S0))) ?_
    rintro _ w5 ⟨h5, T5, rfl, ok5_0⟩
    have S6 : St w.heap.size w (fun _ => none) w5 [] := S0.keep (Chg.of_below T5.below)
    obtain ⟨b7, w7, r7, g7, T7⟩ := e_box (P := Tryd.prog) S6 48 (v := (.agg #[.int .u8 0, .int .u8 0, .int .u8 0, .int .u8 0, .int .u8 0, .int .u8 0, .int .u8 0, .int .u8 0, .int .u8 0, .int .u8 0, .int .u8 0, .int .u8 0, .int .u8 0, .int .u8 0, .int .u8 0, .int .u8 0, .int .u8 0, .int .u8 0, .int .u8 0, .int .u8 0, .int .u8 0, .int .u8 0, .int .u8 0, .int .u8 0, .int .u8 0, .int .u8 0, .int .u8 0, .int .u8 0, .int .u8 0, .int .u8 0, .int .u8 0, .int .u8 0, .int .u8 0, .int .u8 0, .int .u8 0, .int .u8 0, .int .u8 0, .int .u8 0, .int .u8 0, .int .u8 0, .int .u8 0, .int .u8 0, .int .u8 0, .int .u8 0, .int .u8 0, .int .u8 0, .int .u8 0, .int .u8 0, .int .u8 0, .int .u8 0, .int .u8 0, .int .u8 0, .int .u8 0, .int .u8 0, .int .u8 0, .int .u8 0, .int .u8 0, .int .u8 0, .int .u8 0, .int .u8 0, .int .u8 0, .int .u8 0, .int .u8 0, .int .u8 0, .int .u8 0, .int .u8 0, .int .u8 0, .int .u8 0, .int .u8 0, .int .u8 0, .int .u8 0, .int .u8 0, .int .u8 0, .int .u8 0, .int .u8 0, .int .u8 0, .int .u8 0, .int .u8 0, .int .u8 0, .int .u8 0, .int .u8 0, .int .u8 0, .int .u8 0, .int .u8 0, .int .u8 0, .int .u8 0, .int .u8 0, .int .u8 0, .int .u8 0, .int .u8 0, .int .u8 0, .int .u8 0, .int .u8 0, .int .u8 0, .int .u8 0, .int .u8 0, .int .u8 0, .int .u8 0, .int .u8 0, .int .u8 0, .int .u8 0, .int .u8 0, .int .u8 0, .int .u8 0, .int .u8 0, .int .u8 0, .int .u8 0, .int .u8 0, .int .u8 0, .int .u8 0, .int .u8 0, .int .u8 0, .int .u8 0, .int .u8 0, .int .u8 0, .int .u8 0, .int .u8 0, .int .u8 0, .int .u8 0, .int .u8 0, .int .u8 0, .int .u8 0, .int .u8 0, .int .u8 0, .int .u8 0, .int .u8 0, .int .u8 0, .int .u8 0, .int .u8 0, .int .u8 0, .int .u8 0, .int .u8 0, .int .u8 0, .int .u8 0, .int .u8 0, .int .u8 0, .int .u8 0, .int .u8 0, .int .u8 0, .int .u8 0, .int .u8 0, .int .u8 0, .int .u8 0, .int .u8 0, .int .u8 0, .int .u8 0, .int .u8 0, .int .u8 0, .int .u8 0, .int .u8 0, .int .u8 0, .int .u8 0, .int .u8 0, .int .u8 0, .int .u8 0, .int .u8 0, .int .u8 0, .int .u8 0, .int .u8 0, .int .u8 0, .int .u8 0, .int .u8 0, .int .u8 0, .int .u8 0, .int .u8 0, .int .u8 0, .int .u8 0, .int .u8 0, .int .u8 0, .int .u8 0, .int .u8 0, .int .u8 0, .int .u8 0, .int .u8 0, .int .u8 0, .int .u8 0, .int .u8 0, .int .u8 0, .int .u8 0, .int .u8 0, .int .u8 0, .int .u8 0, .int .u8 0, .int .u8 0, .int .u8 0, .int .u8 0, .int .u8 0, .int .u8 0, .int .u8 0, .int .u8 0, .int .u8 0, .int .u8 0, .int .u8 0, .int .u8 0, .int .u8 0, .int .u8 0, .int .u8 0, .int .u8 0, .int .u8 0, .int .u8 0, .int .u8 0, .int .u8 0, .int .u8 0, .int .u8 0, .int .u8 0, .int .u8 0, .int .u8 0, .int .u8 0, .int .u8 0, .int .u8 0, .int .u8 0, .int .u8 0, .int .u8 0, .int .u8 0, .int .u8 0, .int .u8 0, .int .u8 0, .int .u8 0, .int .u8 0, .int .u8 0, .int .u8 0, .int .u8 0, .int .u8 0, .int .u8 0, .int .u8 0, .int .u8 0, .int .u8 0, .int .u8 0, .int .u8 0, .int .u8 0, .int .u8 0, .int .u8 0, .int .u8 0, .int .u8 0, .int .u8 0, .int .u8 0, .int .u8 0, .int .u8 0, .int .u8 0, .int .u8 0, .int .u8 0, .int .u8 0, .int .u8 0, .int .u8 0, .int .u8 0, .int .u8 0, .int .u8 0, .int .u8 0, .int .u8 0, .int .u8 0, .int .u8 0, .int .u8 0, .int .u8 0, .int .u8 0, .int .u8 0, .int .u8 0, .int .i64 0])) (encPart (⟨(List.replicate 256 (0 : Int)), 0⟩ : PartM)) (by kernel_rfl)
    have S8 : St w.heap.size w (fun _ => none) w7 [box b7 48 (encPart (⟨(List.replicate 256 (0 : Int)), 0⟩ : PartM))] := T7
    refine p_v (v := .pointer (some ⟨b7, 0, none⟩)) rfl rfl rfl (x_alloc t48 r7) ?_
    obtain ⟨w9, r9, g9, T9⟩ := e_store (P := Tryd.prog) (off := 0) (v := .agg (encPart (refineP sets)).toArray) (vs := (encPart (refineP sets))) S8 t48 rfl (encPart_len ok5_0) (j := 0) rfl (by rw [encPart_len (okPart_zero)]; decide) (encPart_one _)
    rw [lput_all (by rw [encPart_len ok5_0, encPart_len (okPart_zero)])] at T9
    have S10 : St w.heap.size w (fun _ => none) w9 [box b7 48 (encPart (refineP sets))] := T9
    refine p_s rfl rfl (x_store rfl rfl r9) ?_
    refine run_region_end ?_
    refine run_seq ?_
    refine run_reg (l := [0, 1, 2]) rfl ?_
    refine p_v (v := .agg (encPart (refineP sets)).toArray) rfl rfl rfl (x_load (seg := (encPart (refineP sets))) t48 (encPart_len ok5_0) (by simp) rfl (CF.box (m := 257) (S10.box_at (j := 0) rfl) (cs := (encPart (refineP sets))) (by rw [List.drop_zero, List.take_of_length_le (by rw [encPart_len ok5_0]; exact Nat.le_refl _)]))) ?_
    refine p_c rfl rfl rfl (y_call (args := [.agg (encPart (refineP sets)).toArray, .int .i64 1]) c30 rfl rfl) (least_calls w9 (refineP sets) ok5_0 1 (in_i64 (by first | omega | (simp; omega) | assumption) (by first | omega | (simp; omega) | assumption)) (Block.st S10 tb)) ?_
    rintro v11_0 w11 ⟨h11, _, T11, rfl⟩
    obtain ⟨k11, lk11, ll11, U11⟩ := call_joins S10 T11
    have S12 : St w.heap.size w k11 w11 [box b7 48 (encPart (refineP sets)), row 22 (Kd.int .u8).slice v11_0 (leastP (refineP sets) 1)] := U11
    obtain ⟨h13, le13, T13, rp13⟩ := S12.freeze (i := 1) rfl
    have lf13_0 := (lk11).trans le13
    have S14 : St w.heap.size w h13 w11 [box b7 48 (encPart (refineP sets)), emp] := T13
    obtain ⟨A13, c13, e13, lc13, cm13, ld13⟩ := rp13
    injection e13 with e13 _; subst e13
    have cn13 := cm13; simp only [maxLen] at cn13
    refine p_v (v := .slice A13 (leastP (refineP sets) 1).length c13) rfl rfl rfl (x_assign rfl) ?_
    refine run_region_end ?_
    refine run_seq ?_
    refine run_seq ?_
    refine run_reg (l := [0]) rfl ?_
    refine p_v (v := .int .i64 0) rfl rfl rfl (x_assign rfl) ?_
    refine run_region_end ?_
    refine run_block ?_
    refine run_loop (S := Int) (fun (q_ : Int) ρ w' => match q_ with | i => ∃ (h : Ghost), Le h13 h ∧ St w.heap.size w h w' [] ∧ ρ 0 = .slice A0 sets.length c0 ∧ ρ 4 = .slice A13 (leastP (refineP sets) 1).length c13 ∧ ρ 5 = .int .i64 i ∧ inK .i64 i ∧ (0 ≤ i)) (fun q_ => match q_ with | i => (((leastP (refineP sets) 1).length : Int) - i).toNat) (0) ⟨h13, Le.refl _, S14.sub [] (by decide) rfl _ rfl, rfl, rfl, rfl, (in_i64 (by first | omega | (simp; omega) | assumption) (by first | omega | (simp; omega) | assumption)), (by omega)⟩ ?_
    rintro i ih15 ρ15 w15 ⟨h15, le15, S15, r15_0, r15_4, r15_5, f15_0, hI15⟩
    have lf15_0 := i64_lo f15_0; have hf15_0 := i64_hi f15_0
    have f1_ := few_len sets (i := i) hI15
    refine run_seq ?_
    refine run_seq ?_
    refine run_reg (l := [0, 1, 2, 3]) rfl ?_
    refine p_v (v := .int .i64 i) rfl rfl rfl (x_move r15_5) ?_
    refine p_v (v := .slice A13 (leastP (refineP sets) 1).length c13) rfl rfl rfl (x_move r15_4) ?_
    refine p_v (v := .int .i64 ((leastP (refineP sets) 1).length : Int)) rfl rfl rfl (x_len_slice u54 rfl) ?_
    refine p_v (v := .bool (decide (i < ((leastP (refineP sets) 1).length : Int)))) rfl rfl rfl (x_lss rfl rfl) ?_
    refine run_region_end ?_
    refine run_cond_prop (p := i < ((leastP (refineP sets) 1).length : Int)) rfl (fun hc16 => ?_) (fun hc16 => ?_)
    · skip
      refine run_skip ?_
      refine run_seq ?_
      refine run_block ?_
      refine run_seq ?_
      refine run_reg (l := [0]) rfl ?_
      refine p_v (v := .int .i64 0) rfl rfl rfl (x_assign rfl) ?_
      refine run_region_end ?_
      refine run_block ?_
      refine run_loop (S := Int) (fun (q_ : Int) ρ w' => match q_ with | k => ∃ (h : Ghost), Le h15 h ∧ St w.heap.size w h w' [] ∧ ρ 0 = .slice A0 sets.length c0 ∧ ρ 4 = .slice A13 (leastP (refineP sets) 1).length c13 ∧ ρ 5 = .int .i64 i ∧ ρ 6 = .int .i64 k ∧ inK .i64 k ∧ (0 ≤ k ∧ k ≤ i)) (fun q_ => match q_ with | k => (i - k).toNat) (0) ⟨h15, Le.refl _, S15.sub [] (by decide) rfl _ rfl, r15_0, r15_4, r15_5, rfl, (in_i64 (by first | omega | (simp; omega) | assumption) (by first | omega | (simp; omega) | assumption)), (by exact ⟨by omega, by omega⟩)⟩ ?_
      rintro k ih17 ρ17 w17 ⟨h17, le17, S17, r17_0, r17_4, r17_5, r17_6, f17_0, hI17⟩
      have lf17_0 := i64_lo f17_0; have hf17_0 := i64_hi f17_0
      have f2_ := few_len sets (i := k) hI17.1
      refine run_seq ?_
      refine run_seq ?_
      refine run_reg (l := [0, 1, 2]) rfl ?_
      refine p_v (v := .int .i64 k) rfl rfl rfl (x_move r17_6) ?_
      refine p_v (v := .int .i64 i) rfl rfl rfl (x_move r17_5) ?_
      refine p_v (v := .bool (decide (k < i))) rfl rfl rfl (x_lss rfl rfl) ?_
      refine run_region_end ?_
      refine run_cond_prop (p := k < i) rfl (fun hc18 => ?_) (fun hc18 => ?_)
      · skip
        refine run_skip ?_
        refine run_seq ?_
        refine run_block ?_
        refine run_seq ?_
        refine run_reg (l := [0]) rfl ?_
        refine p_v (v := .bool false) rfl rfl rfl (x_assign rfl) ?_
        refine run_region_end ?_
        refine run_seq ?_
        refine run_seq ?_
        refine run_reg (l := [0]) rfl ?_
        refine p_v (v := .int .i64 0) rfl rfl rfl (x_assign rfl) ?_
        refine run_region_end ?_
        refine run_block ?_
        refine run_loop (S := Bool × Int) (fun (q_ : Bool × Int) ρ w' => match q_ with | (apart, n) => ∃ (h : Ghost), Le h17 h ∧ St w.heap.size w h w' [] ∧ ρ 0 = .slice A0 sets.length c0 ∧ ρ 4 = .slice A13 (leastP (refineP sets) 1).length c13 ∧ ρ 5 = .int .i64 i ∧ ρ 6 = .int .i64 k ∧ ρ 7 = .bool apart ∧ ρ 8 = .int .i64 n ∧ inK .i64 n ∧ (0 ≤ n ∧ n ≤ (sets.length : Int) ∧ apart = apartTo sets (at_ (at_ (leastP (refineP sets) 1) i) 0) (at_ (at_ (leastP (refineP sets) 1) k) 0) n)) (fun q_ => match q_ with | (apart, n) => (sets.length - n).toNat) (false, 0) ⟨h17, Le.refl _, S17.sub [] (by decide) rfl _ rfl, r17_0, r17_4, r17_5, r17_6, rfl, rfl, (in_i64 (by first | omega | (simp; omega) | assumption) (by first | omega | (simp; omega) | assumption)), (by exact ⟨by omega, by omega, apartTo_0 _ _ _⟩)⟩ ?_
        rintro ⟨apart, n⟩ ih19 ρ19 w19 ⟨h19, le19, S19, r19_0, r19_4, r19_5, r19_6, r19_7, r19_8, f19_0, hI19⟩
        have lf19_0 := i64_lo f19_0; have hf19_0 := i64_hi f19_0
        refine run_seq ?_
        refine run_seq ?_
        refine run_reg (l := [0, 1, 2, 3]) rfl ?_
        refine p_v (v := .int .i64 n) rfl rfl rfl (x_move r19_8) ?_
        refine p_v (v := .slice A0 sets.length c0) rfl rfl rfl (x_move r19_0) ?_
        refine p_v (v := .int .i64 (sets.length : Int)) rfl rfl rfl (x_len_slice u44 rfl) ?_
        refine p_v (v := .bool (decide (n < (sets.length : Int)))) rfl rfl rfl (x_lss rfl rfl) ?_
        refine run_region_end ?_
        refine run_cond_prop (p := n < (sets.length : Int)) rfl (fun hc20 => ?_) (fun hc20 => ?_)
        · skip
          refine run_skip ?_
          refine run_seq ?_
          refine run_block ?_
          rcases Bool.eq_false_or_eq_true apart with hc21 | hc21
          · skip
            refine da_start [] 27 rfl mixed ?_
            intro wd22 gd22 hd22
            have S23 : St w.heap.size w h19 wd22 [] := S19.keep gd22
            refine d_q (i := 0) (v := .bool apart) (fun _ => True) (fun _ ho => trivial) rfl (by decide +kernel) (by decide +kernel) (by decide +kernel) rfl rfl (fun wq hq => (x_move r19_7)) (of_nil _ _) ?_
            refine d_q (i := 1) (v := .bool apart) (fun _ => True) (fun _ ho => trivial) rfl (by decide +kernel) (by decide +kernel) (by decide +kernel) rfl rfl (fun wq hq => (x_move rfl)) (of_nil _ _) ?_
            refine d_off (i := 2) rfl (by decide +kernel) (by decide +kernel) (by decide +kernel) (wanted_of (j := 1) (want := false) (d := 35) (b := true) rfl rfl (congrArg Value.bool hc21) rfl) rfl (of_nil _ _) ?_
            refine d_off (i := 3) rfl (by decide +kernel) (by decide +kernel) (by decide +kernel) (wanted_of (j := 1) (want := false) (d := 35) (b := true) rfl rfl (congrArg Value.bool hc21) rfl) rfl (of_nil _ _) ?_
            refine d_off (i := 4) rfl (by decide +kernel) (by decide +kernel) (by decide +kernel) (wanted_of (j := 1) (want := false) (d := 35) (b := true) rfl rfl (congrArg Value.bool hc21) rfl) rfl (of_nil _ _) ?_
            refine d_off (i := 5) rfl (by decide +kernel) (by decide +kernel) (by decide +kernel) (wanted_of (j := 1) (want := false) (d := 35) (b := true) rfl rfl (congrArg Value.bool hc21) rfl) rfl (of_nil _ _) ?_
            refine d_off (i := 6) rfl (by decide +kernel) (by decide +kernel) (by decide +kernel) (wanted_of (j := 1) (want := false) (d := 35) (b := true) rfl rfl (congrArg Value.bool hc21) rfl) rfl (of_nil _ _) ?_
            refine d_off (i := 7) rfl (by decide +kernel) (by decide +kernel) (by decide +kernel) (wanted_of (j := 1) (want := false) (d := 35) (b := true) rfl rfl (congrArg Value.bool hc21) rfl) rfl (of_nil _ _) ?_
            refine d_off (i := 8) rfl (by decide +kernel) (by decide +kernel) (by decide +kernel) (wanted_of (j := 1) (want := false) (d := 35) (b := true) rfl rfl (congrArg Value.bool hc21) rfl) rfl (of_nil _ _) ?_
            refine d_off (i := 9) rfl (by decide +kernel) (by decide +kernel) (by decide +kernel) (wanted_of (j := 1) (want := false) (d := 35) (b := true) rfl rfl (congrArg Value.bool hc21) rfl) rfl (of_nil _ _) ?_
            refine d_off (i := 10) rfl (by decide +kernel) (by decide +kernel) (by decide +kernel) (wanted_of (j := 1) (want := false) (d := 35) (b := true) rfl rfl (congrArg Value.bool hc21) rfl) rfl (of_nil _ _) ?_
            refine d_off (i := 11) rfl (by decide +kernel) (by decide +kernel) (by decide +kernel) (wanted_of (j := 1) (want := false) (d := 35) (b := true) rfl rfl (congrArg Value.bool hc21) rfl) rfl (of_nil _ _) ?_
            refine d_off (i := 12) rfl (by decide +kernel) (by decide +kernel) (by decide +kernel) (wanted_of (j := 1) (want := false) (d := 35) (b := true) rfl rfl (congrArg Value.bool hc21) rfl) rfl (of_nil _ _) ?_
            refine d_off (i := 13) rfl (by decide +kernel) (by decide +kernel) (by decide +kernel) (wanted_of (j := 1) (want := false) (d := 35) (b := true) rfl rfl (congrArg Value.bool hc21) rfl) rfl (of_nil _ _) ?_
            refine d_off (i := 14) rfl (by decide +kernel) (by decide +kernel) (by decide +kernel) (wanted_of (j := 1) (want := false) (d := 35) (b := true) rfl rfl (congrArg Value.bool hc21) rfl) rfl (of_nil _ _) ?_
            refine d_off (i := 15) rfl (by decide +kernel) (by decide +kernel) (by decide +kernel) (wanted_of (j := 1) (want := false) (d := 35) (b := true) rfl rfl (congrArg Value.bool hc21) rfl) rfl (of_nil _ _) ?_
            refine d_off (i := 16) rfl (by decide +kernel) (by decide +kernel) (by decide +kernel) (wanted_of (j := 1) (want := false) (d := 35) (b := true) rfl rfl (congrArg Value.bool hc21) rfl) rfl (of_nil _ _) ?_
            refine d_off (i := 17) rfl (by decide +kernel) (by decide +kernel) (by decide +kernel) (wanted_of (j := 1) (want := false) (d := 35) (b := true) rfl rfl (congrArg Value.bool hc21) rfl) rfl (of_nil _ _) ?_
            refine d_off (i := 18) rfl (by decide +kernel) (by decide +kernel) (by decide +kernel) (wanted_of (j := 1) (want := false) (d := 35) (b := true) rfl rfl (congrArg Value.bool hc21) rfl) rfl (of_nil _ _) ?_
            refine d_off (i := 19) rfl (by decide +kernel) (by decide +kernel) (by decide +kernel) (wanted_of (j := 1) (want := false) (d := 35) (b := true) rfl rfl (congrArg Value.bool hc21) rfl) rfl (of_nil _ _) ?_
            refine d_off (i := 20) rfl (by decide +kernel) (by decide +kernel) (by decide +kernel) (wanted_of (j := 1) (want := false) (d := 35) (b := true) rfl rfl (congrArg Value.bool hc21) rfl) rfl (of_nil _ _) ?_
            refine d_off (i := 21) rfl (by decide +kernel) (by decide +kernel) (by decide +kernel) (wanted_of (j := 1) (want := false) (d := 35) (b := true) rfl rfl (congrArg Value.bool hc21) rfl) rfl (of_nil _ _) ?_
            refine d_off (i := 22) rfl (by decide +kernel) (by decide +kernel) (by decide +kernel) (wanted_of (j := 1) (want := false) (d := 35) (b := true) rfl rfl (congrArg Value.bool hc21) rfl) rfl (of_nil _ _) ?_
            refine d_off (i := 23) rfl (by decide +kernel) (by decide +kernel) (by decide +kernel) (wanted_of (j := 1) (want := false) (d := 35) (b := true) rfl rfl (congrArg Value.bool hc21) rfl) rfl (of_nil _ _) ?_
            refine d_off (i := 24) rfl (by decide +kernel) (by decide +kernel) (by decide +kernel) (wanted_of (j := 1) (want := false) (d := 35) (b := true) rfl rfl (congrArg Value.bool hc21) rfl) rfl (of_nil _ _) ?_
            refine d_q (i := 25) (v := .bool true) (fun _ => True) (fun _ ho => trivial) rfl (by decide +kernel) (by decide +kernel) (by decide +kernel) rfl rfl (fun wq hq => (x_pick_t (congrArg Value.bool hc21) rfl)) (of_nil _ _) ?_
            refine d_q (i := 26) (v := .bool true) (fun _ => True) (fun _ ho => trivial) rfl (by decide +kernel) (by decide +kernel) (by decide +kernel) rfl rfl (fun wq hq => (x_assign rfl)) (of_nil _ _) ?_
            refine ra_done (by decide +kernel) ?_
            intro wd24 gd24
            have S25 : St w.heap.size w h19 wd24 [] := S23.keep gd24
            refine run_inBlock ?_
            refine run_reg (l := [0, 1, 2]) rfl ?_
            refine p_v (v := .int .i64 n) rfl rfl rfl (x_move r19_8) ?_
            refine p_v (v := .int .i64 (n + 1)) rfl rfl rfl (x_add rfl rfl (in_i64 (by first | omega | (simp; omega) | assumption) (by first | omega | (simp; omega) | assumption))) ?_
            refine p_v (v := .int .i64 (n + 1)) rfl rfl rfl (x_assign rfl) ?_
            refine run_region_end ?_
            refine ih19 (true, n + 1) _ _ (by dsimp only; omega) ⟨h19, le19, S25.sub [] (by decide) rfl _ rfl, r19_0, r19_4, r19_5, r19_6, rfl, rfl, (in_i64 (by first | omega | (simp; omega) | assumption) (by first | omega | (simp; omega) | assumption)), (by exact ⟨by omega, by omega, by rw [apartTo_step _ _ _ hI19.1 (by omega), ← hI19.2.2]; first | (rw [(by assumption : apart = true)]; rfl) | (rw [(by assumption : apart = false)]; rfl)⟩)⟩
          · skip
            obtain ⟨ad26, seg26, a26, rp26, ce26⟩ := e_index_ro (q := n) (m := 4) l0 rfl (by first | omega | (simp; omega) | assumption) (by first | omega | (simp; omega) | assumption)
            obtain ⟨rfl, ok26⟩ := rp26
            obtain ⟨ad27, seg27, a27, rp27, ce27⟩ := e_index_ro (q := i) (m := 1) ld13 rfl (by first | omega | (simp; omega) | assumption) (by first | omega | (simp; omega) | assumption)
            obtain ⟨A27, c27, rfl, lc27, cm27, ld27⟩ := rp27
            have cn27 := cm27; simp only [maxLen] at cn27
            obtain ⟨ad28, seg28, a28, rp28, ce28⟩ := e_index_ro (q := (0 : Int)) (m := 1) ld27 rfl (by first | omega | (simp; omega) | assumption) (by first | omega | (simp; omega) | assumption)
            obtain ⟨rfl, in28⟩ := rp28
            have lo28 := u8_lo in28; have hi28 := u8_hi in28
            obtain ⟨ad30, seg30, a30, rp30, ce30⟩ := e_index_ro (q := n) (m := 4) l0 rfl (by first | omega | (simp; omega) | assumption) (by first | omega | (simp; omega) | assumption)
            obtain ⟨rfl, ok30⟩ := rp30
            obtain ⟨ad31, seg31, a31, rp31, ce31⟩ := e_index_ro (q := k) (m := 1) ld13 rfl (by first | omega | (simp; omega) | assumption) (by first | omega | (simp; omega) | assumption)
            obtain ⟨A31, c31, rfl, lc31, cm31, ld31⟩ := rp31
            have cn31 := cm31; simp only [maxLen] at cn31
            obtain ⟨ad32, seg32, a32, rp32, ce32⟩ := e_index_ro (q := (0 : Int)) (m := 1) ld31 rfl (by first | omega | (simp; omega) | assumption) (by first | omega | (simp; omega) | assumption)
            obtain ⟨rfl, in32⟩ := rp32
            have lo32 := u8_lo in32; have hi32 := u8_hi in32
            have hf34 : (CFs ad26 (encSet (at_ sets n))).1 w19 := (CF.ghost ce26 (St.le0 S19))
            have hf35 : (CFs ad27 [.slice A27 (at_ (leastP (refineP sets) 1) i).length c27]).1 w19 := (CF.ghost ce27 (((((le15).trans le17)).trans le19).trans S19.ghost))
            have hf36 : (CFs ad28 [.int .u8 (at_ (at_ (leastP (refineP sets) 1) i) (0 : Int))]).1 w19 := (CF.ghost ce28 (((((le15).trans le17)).trans le19).trans S19.ghost))
            have hf37 : (CFs ad30 (encSet (at_ sets n))).1 w19 := (CF.ghost ce30 (St.le0 S19))
            have hf38 : (CFs ad31 [.slice A31 (at_ (leastP (refineP sets) 1) k).length c31]).1 w19 := (CF.ghost ce31 (((((le15).trans le17)).trans le19).trans S19.ghost))
            have hf39 : (CFs ad32 [.int .u8 (at_ (at_ (leastP (refineP sets) 1) k) (0 : Int))]).1 w19 := (CF.ghost ce32 (((((le15).trans le17)).trans le19).trans S19.ghost))
            refine da_start [(5, CFs ad26 (encSet (at_ sets n))), (9, CFs ad27 [.slice A27 (at_ (leastP (refineP sets) 1) i).length c27]), (11, CFs ad28 [.int .u8 (at_ (at_ (leastP (refineP sets) 1) i) (0 : Int))]), (16, CFs ad30 (encSet (at_ sets n))), (20, CFs ad31 [.slice A31 (at_ (leastP (refineP sets) 1) k).length c31]), (22, CFs ad32 [.int .u8 (at_ (at_ (leastP (refineP sets) 1) k) (0 : Int))])] 27 rfl mixed ?_
            intro wd40 gd40 hd40
            have S41 : St w.heap.size w h19 wd40 [] := S19.keep gd40
            have hf42 := (CFs ad26 (encSet (at_ sets n))).2 _ _ gd40 hf34
            have hf43 := (CFs ad27 [.slice A27 (at_ (leastP (refineP sets) 1) i).length c27]).2 _ _ gd40 hf35
            have hf44 := (CFs ad28 [.int .u8 (at_ (at_ (leastP (refineP sets) 1) i) (0 : Int))]).2 _ _ gd40 hf36
            have hf45 := (CFs ad30 (encSet (at_ sets n))).2 _ _ gd40 hf37
            have hf46 := (CFs ad31 [.slice A31 (at_ (leastP (refineP sets) 1) k).length c31]).2 _ _ gd40 hf38
            have hf47 := (CFs ad32 [.int .u8 (at_ (at_ (leastP (refineP sets) 1) k) (0 : Int))]).2 _ _ gd40 hf39
            refine d_q (i := 0) (v := .bool apart) (fun _ => True) (fun _ ho => trivial) rfl (by decide +kernel) (by decide +kernel) (by decide +kernel) rfl rfl (fun wq hq => (x_move r19_7)) (of_ne rfl (of_ne rfl (of_ne rfl (of_ne rfl (of_ne rfl (of_ne rfl (of_nil _ _))))))) ?_
            refine d_q (i := 1) (v := .bool apart) (fun _ => True) (fun _ ho => trivial) rfl (by decide +kernel) (by decide +kernel) (by decide +kernel) rfl rfl (fun wq hq => (x_move rfl)) (of_ne rfl (of_ne rfl (of_ne rfl (of_ne rfl (of_ne rfl (of_ne rfl (of_nil _ _))))))) ?_
            refine d_q (i := 2) (v := .slice A0 sets.length c0) (fun _ => True) (fun _ ho => trivial) rfl (by decide +kernel) (by decide +kernel) (by decide +kernel) (wanted_of (j := 1) (want := false) (d := 35) (b := false) rfl rfl (congrArg Value.bool hc21) rfl) rfl (fun wq hq => (x_move r19_0)) (of_ne rfl (of_ne rfl (of_ne rfl (of_ne rfl (of_ne rfl (of_ne rfl (of_nil _ _))))))) ?_
            refine d_q (i := 3) (v := .int .i64 n) (fun _ => True) (fun _ ho => trivial) rfl (by decide +kernel) (by decide +kernel) (by decide +kernel) (wanted_of (j := 1) (want := false) (d := 35) (b := false) rfl rfl (congrArg Value.bool hc21) rfl) rfl (fun wq hq => (x_move r19_8)) (of_ne rfl (of_ne rfl (of_ne rfl (of_ne rfl (of_ne rfl (of_ne rfl (of_nil _ _))))))) ?_
            refine d_q (i := 4) (v := .pointer (some ad26)) (fun _ => True) (fun _ ho => trivial) rfl (by decide +kernel) (by decide +kernel) (by decide +kernel) (wanted_of (j := 1) (want := false) (d := 35) (b := false) rfl rfl (congrArg Value.bool hc21) rfl) rfl (fun wq hq => (x_index_ro u44 t27 rfl rfl a26 (by first | omega | (simp; omega) | assumption) (by first | omega | (simp; omega) | assumption))) (of_ne rfl (of_ne rfl (of_ne rfl (of_ne rfl (of_ne rfl (of_ne rfl (of_nil _ _))))))) ?_
            refine d_q (i := 5) (v := .agg (encSet (at_ sets n)).toArray) (CF ad26 (encSet (at_ sets n))) (fun _ ho => ho _ (List.mem_of_getElem? (i := 0) rfl) rfl) rfl (by decide +kernel) (by decide +kernel) (by decide +kernel) (wanted_of (j := 1) (want := false) (d := 35) (b := false) rfl rfl (congrArg Value.bool hc21) rfl) rfl (fun wq hq => (x_load (seg := (encSet (at_ sets n))) t27 rfl (by simp) rfl hq)) (of_eq hf42 (of_ne rfl (of_ne rfl (of_ne rfl (of_ne rfl (of_ne rfl (of_nil _ _))))))) ?_
            refine d_q (i := 6) (v := .slice A13 (leastP (refineP sets) 1).length c13) (fun _ => True) (fun _ ho => trivial) rfl (by decide +kernel) (by decide +kernel) (by decide +kernel) (wanted_of (j := 1) (want := false) (d := 35) (b := false) rfl rfl (congrArg Value.bool hc21) rfl) rfl (fun wq hq => (x_move r19_4)) (of_ne rfl (of_ne rfl (of_ne rfl (of_ne rfl (of_ne rfl (of_ne rfl (of_nil _ _))))))) ?_
            refine d_q (i := 7) (v := .int .i64 i) (fun _ => True) (fun _ ho => trivial) rfl (by decide +kernel) (by decide +kernel) (by decide +kernel) (wanted_of (j := 1) (want := false) (d := 35) (b := false) rfl rfl (congrArg Value.bool hc21) rfl) rfl (fun wq hq => (x_move r19_5)) (of_ne rfl (of_ne rfl (of_ne rfl (of_ne rfl (of_ne rfl (of_ne rfl (of_nil _ _))))))) ?_
            refine d_q (i := 8) (v := .pointer (some ad27)) (fun _ => True) (fun _ ho => trivial) rfl (by decide +kernel) (by decide +kernel) (by decide +kernel) (wanted_of (j := 1) (want := false) (d := 35) (b := false) rfl rfl (congrArg Value.bool hc21) rfl) rfl (fun wq hq => (x_index_ro u54 t22 rfl rfl a27 (by first | omega | (simp; omega) | assumption) (by first | omega | (simp; omega) | assumption))) (of_ne rfl (of_ne rfl (of_ne rfl (of_ne rfl (of_ne rfl (of_ne rfl (of_nil _ _))))))) ?_
            refine d_q (i := 9) (v := .slice A27 (at_ (leastP (refineP sets) 1) i).length c27) (CF ad27 [.slice A27 (at_ (leastP (refineP sets) 1) i).length c27]) (fun _ ho => ho _ (List.mem_of_getElem? (i := 1) rfl) rfl) rfl (by decide +kernel) (by decide +kernel) (by decide +kernel) (wanted_of (j := 1) (want := false) (d := 35) (b := false) rfl rfl (congrArg Value.bool hc21) rfl) rfl (fun wq hq => (x_load (seg := [.slice A27 (at_ (leastP (refineP sets) 1) i).length c27]) t22 rfl (by simp) rfl hq)) (of_ne rfl (of_eq hf43 (of_ne rfl (of_ne rfl (of_ne rfl (of_ne rfl (of_nil _ _))))))) ?_
            refine d_q (i := 10) (v := .pointer (some ad28)) (fun _ => True) (fun _ ho => trivial) rfl (by decide +kernel) (by decide +kernel) (by decide +kernel) (wanted_of (j := 1) (want := false) (d := 35) (b := false) rfl rfl (congrArg Value.bool hc21) rfl) rfl (fun wq hq => (x_index_ro u22 t5 rfl rfl a28 (by first | omega | (simp; omega) | assumption) (by first | omega | (simp; omega) | assumption))) (of_ne rfl (of_ne rfl (of_ne rfl (of_ne rfl (of_ne rfl (of_ne rfl (of_nil _ _))))))) ?_
            refine d_q (i := 11) (v := .int .u8 (at_ (at_ (leastP (refineP sets) 1) i) (0 : Int))) (CF ad28 [.int .u8 (at_ (at_ (leastP (refineP sets) 1) i) (0 : Int))]) (fun _ ho => ho _ (List.mem_of_getElem? (i := 2) rfl) rfl) rfl (by decide +kernel) (by decide +kernel) (by decide +kernel) (wanted_of (j := 1) (want := false) (d := 35) (b := false) rfl rfl (congrArg Value.bool hc21) rfl) rfl (fun wq hq => (x_load (seg := [.int .u8 (at_ (at_ (leastP (refineP sets) 1) i) (0 : Int))]) t5 rfl (by simp) rfl hq)) (of_ne rfl (of_ne rfl (of_eq hf44 (of_ne rfl (of_ne rfl (of_ne rfl (of_nil _ _))))))) ?_
            refine d_m (i := 12) (v := .bool (has (at_ sets n) (at_ (at_ (leastP (refineP sets) 1) i) (0 : Int)))) (fun _ => True) (fun _ ho => trivial) rfl (by decide +kernel) (by decide +kernel) (by decide +kernel) (wanted_of (j := 1) (want := false) (d := 35) (b := false) rfl rfl (congrArg Value.bool hc21) rfl) rfl (fun wq => (y_call (args := [.agg (encSet (at_ sets n)).toArray, .int .u8 (at_ (at_ (leastP (refineP sets) 1) i) (0 : Int))]) c18 rfl rfl)) (fun wq hq => (has_calls wq (at_ sets n) (at_ (at_ (leastP (refineP sets) 1) i) (0 : Int)) (in_u8 (by first | omega | (simp; omega) | assumption) (by first | omega | (simp; omega) | assumption))).mono fun e w2 he => by obtain ⟨_, rfl, _, T, rfl⟩ := he; exact ⟨rfl, Chg.of_below T.below⟩) (of_ne rfl (of_ne rfl (of_ne rfl (of_ne rfl (of_ne rfl (of_ne rfl (of_nil _ _))))))) ?_
            refine d_q (i := 13) (v := .slice A0 sets.length c0) (fun _ => True) (fun _ ho => trivial) rfl (by decide +kernel) (by decide +kernel) (by decide +kernel) (wanted_of (j := 1) (want := false) (d := 35) (b := false) rfl rfl (congrArg Value.bool hc21) rfl) rfl (fun wq hq => (x_move r19_0)) (of_ne rfl (of_ne rfl (of_ne rfl (of_ne rfl (of_ne rfl (of_ne rfl (of_nil _ _))))))) ?_
            refine d_q (i := 14) (v := .int .i64 n) (fun _ => True) (fun _ ho => trivial) rfl (by decide +kernel) (by decide +kernel) (by decide +kernel) (wanted_of (j := 1) (want := false) (d := 35) (b := false) rfl rfl (congrArg Value.bool hc21) rfl) rfl (fun wq hq => (x_move r19_8)) (of_ne rfl (of_ne rfl (of_ne rfl (of_ne rfl (of_ne rfl (of_ne rfl (of_nil _ _))))))) ?_
            refine d_q (i := 15) (v := .pointer (some ad30)) (fun _ => True) (fun _ ho => trivial) rfl (by decide +kernel) (by decide +kernel) (by decide +kernel) (wanted_of (j := 1) (want := false) (d := 35) (b := false) rfl rfl (congrArg Value.bool hc21) rfl) rfl (fun wq hq => (x_index_ro u44 t27 rfl rfl a30 (by first | omega | (simp; omega) | assumption) (by first | omega | (simp; omega) | assumption))) (of_ne rfl (of_ne rfl (of_ne rfl (of_ne rfl (of_ne rfl (of_ne rfl (of_nil _ _))))))) ?_
            refine d_q (i := 16) (v := .agg (encSet (at_ sets n)).toArray) (CF ad30 (encSet (at_ sets n))) (fun _ ho => ho _ (List.mem_of_getElem? (i := 3) rfl) rfl) rfl (by decide +kernel) (by decide +kernel) (by decide +kernel) (wanted_of (j := 1) (want := false) (d := 35) (b := false) rfl rfl (congrArg Value.bool hc21) rfl) rfl (fun wq hq => (x_load (seg := (encSet (at_ sets n))) t27 rfl (by simp) rfl hq)) (of_ne rfl (of_ne rfl (of_ne rfl (of_eq hf45 (of_ne rfl (of_ne rfl (of_nil _ _))))))) ?_
            refine d_q (i := 17) (v := .slice A13 (leastP (refineP sets) 1).length c13) (fun _ => True) (fun _ ho => trivial) rfl (by decide +kernel) (by decide +kernel) (by decide +kernel) (wanted_of (j := 1) (want := false) (d := 35) (b := false) rfl rfl (congrArg Value.bool hc21) rfl) rfl (fun wq hq => (x_move r19_4)) (of_ne rfl (of_ne rfl (of_ne rfl (of_ne rfl (of_ne rfl (of_ne rfl (of_nil _ _))))))) ?_
            refine d_q (i := 18) (v := .int .i64 k) (fun _ => True) (fun _ ho => trivial) rfl (by decide +kernel) (by decide +kernel) (by decide +kernel) (wanted_of (j := 1) (want := false) (d := 35) (b := false) rfl rfl (congrArg Value.bool hc21) rfl) rfl (fun wq hq => (x_move r19_6)) (of_ne rfl (of_ne rfl (of_ne rfl (of_ne rfl (of_ne rfl (of_ne rfl (of_nil _ _))))))) ?_
            refine d_q (i := 19) (v := .pointer (some ad31)) (fun _ => True) (fun _ ho => trivial) rfl (by decide +kernel) (by decide +kernel) (by decide +kernel) (wanted_of (j := 1) (want := false) (d := 35) (b := false) rfl rfl (congrArg Value.bool hc21) rfl) rfl (fun wq hq => (x_index_ro u54 t22 rfl rfl a31 (by first | omega | (simp; omega) | assumption) (by first | omega | (simp; omega) | assumption))) (of_ne rfl (of_ne rfl (of_ne rfl (of_ne rfl (of_ne rfl (of_ne rfl (of_nil _ _))))))) ?_
            refine d_q (i := 20) (v := .slice A31 (at_ (leastP (refineP sets) 1) k).length c31) (CF ad31 [.slice A31 (at_ (leastP (refineP sets) 1) k).length c31]) (fun _ ho => ho _ (List.mem_of_getElem? (i := 4) rfl) rfl) rfl (by decide +kernel) (by decide +kernel) (by decide +kernel) (wanted_of (j := 1) (want := false) (d := 35) (b := false) rfl rfl (congrArg Value.bool hc21) rfl) rfl (fun wq hq => (x_load (seg := [.slice A31 (at_ (leastP (refineP sets) 1) k).length c31]) t22 rfl (by simp) rfl hq)) (of_ne rfl (of_ne rfl (of_ne rfl (of_ne rfl (of_eq hf46 (of_ne rfl (of_nil _ _))))))) ?_
            refine d_q (i := 21) (v := .pointer (some ad32)) (fun _ => True) (fun _ ho => trivial) rfl (by decide +kernel) (by decide +kernel) (by decide +kernel) (wanted_of (j := 1) (want := false) (d := 35) (b := false) rfl rfl (congrArg Value.bool hc21) rfl) rfl (fun wq hq => (x_index_ro u22 t5 rfl rfl a32 (by first | omega | (simp; omega) | assumption) (by first | omega | (simp; omega) | assumption))) (of_ne rfl (of_ne rfl (of_ne rfl (of_ne rfl (of_ne rfl (of_ne rfl (of_nil _ _))))))) ?_
            refine d_q (i := 22) (v := .int .u8 (at_ (at_ (leastP (refineP sets) 1) k) (0 : Int))) (CF ad32 [.int .u8 (at_ (at_ (leastP (refineP sets) 1) k) (0 : Int))]) (fun _ ho => ho _ (List.mem_of_getElem? (i := 5) rfl) rfl) rfl (by decide +kernel) (by decide +kernel) (by decide +kernel) (wanted_of (j := 1) (want := false) (d := 35) (b := false) rfl rfl (congrArg Value.bool hc21) rfl) rfl (fun wq hq => (x_load (seg := [.int .u8 (at_ (at_ (leastP (refineP sets) 1) k) (0 : Int))]) t5 rfl (by simp) rfl hq)) (of_ne rfl (of_ne rfl (of_ne rfl (of_ne rfl (of_ne rfl (of_eq hf47 (of_nil _ _))))))) ?_
            refine d_m (i := 23) (v := .bool (has (at_ sets n) (at_ (at_ (leastP (refineP sets) 1) k) (0 : Int)))) (fun _ => True) (fun _ ho => trivial) rfl (by decide +kernel) (by decide +kernel) (by decide +kernel) (wanted_of (j := 1) (want := false) (d := 35) (b := false) rfl rfl (congrArg Value.bool hc21) rfl) rfl (fun wq => (y_call (args := [.agg (encSet (at_ sets n)).toArray, .int .u8 (at_ (at_ (leastP (refineP sets) 1) k) (0 : Int))]) c18 rfl rfl)) (fun wq hq => (has_calls wq (at_ sets n) (at_ (at_ (leastP (refineP sets) 1) k) (0 : Int)) (in_u8 (by first | omega | (simp; omega) | assumption) (by first | omega | (simp; omega) | assumption))).mono fun e w2 he => by obtain ⟨_, rfl, _, T, rfl⟩ := he; exact ⟨rfl, Chg.of_below T.below⟩) (of_ne rfl (of_ne rfl (of_ne rfl (of_ne rfl (of_ne rfl (of_ne rfl (of_nil _ _))))))) ?_
            refine d_q (i := 24) (v := .bool (decide ((has (at_ sets n) (at_ (at_ (leastP (refineP sets) 1) i) (0 : Int))) ≠ (has (at_ sets n) (at_ (at_ (leastP (refineP sets) 1) k) (0 : Int)))))) (fun _ => True) (fun _ ho => trivial) rfl (by decide +kernel) (by decide +kernel) (by decide +kernel) (wanted_of (j := 1) (want := false) (d := 35) (b := false) rfl rfl (congrArg Value.bool hc21) rfl) rfl (fun wq hq => (x_neq_bool u4 rfl rfl)) (of_ne rfl (of_ne rfl (of_ne rfl (of_ne rfl (of_ne rfl (of_ne rfl (of_nil _ _))))))) ?_
            refine d_q (i := 25) (v := .bool (decide ((has (at_ sets n) (at_ (at_ (leastP (refineP sets) 1) i) (0 : Int))) ≠ (has (at_ sets n) (at_ (at_ (leastP (refineP sets) 1) k) (0 : Int)))))) (fun _ => True) (fun _ ho => trivial) rfl (by decide +kernel) (by decide +kernel) (by decide +kernel) rfl rfl (fun wq hq => (x_pick_f (congrArg Value.bool hc21) rfl)) (of_ne rfl (of_ne rfl (of_ne rfl (of_ne rfl (of_ne rfl (of_ne rfl (of_nil _ _))))))) ?_
            refine d_q (i := 26) (v := .bool (decide ((has (at_ sets n) (at_ (at_ (leastP (refineP sets) 1) i) (0 : Int))) ≠ (has (at_ sets n) (at_ (at_ (leastP (refineP sets) 1) k) (0 : Int)))))) (fun _ => True) (fun _ ho => trivial) rfl (by decide +kernel) (by decide +kernel) (by decide +kernel) rfl rfl (fun wq hq => (x_assign rfl)) (of_ne rfl (of_ne rfl (of_ne rfl (of_ne rfl (of_ne rfl (of_ne rfl (of_nil _ _))))))) ?_
            refine ra_done (by decide +kernel) ?_
            intro wd48 gd48
            have S49 : St w.heap.size w h19 wd48 [] := S41.keep gd48
            refine run_inBlock ?_
            refine run_reg (l := [0, 1, 2]) rfl ?_
            refine p_v (v := .int .i64 n) rfl rfl rfl (x_move r19_8) ?_
            refine p_v (v := .int .i64 (n + 1)) rfl rfl rfl (x_add rfl rfl (in_i64 (by first | omega | (simp; omega) | assumption) (by first | omega | (simp; omega) | assumption))) ?_
            refine p_v (v := .int .i64 (n + 1)) rfl rfl rfl (x_assign rfl) ?_
            refine run_region_end ?_
            refine ih19 (decide ((has (at_ sets n) (at_ (at_ (leastP (refineP sets) 1) i) (0 : Int))) ≠ (has (at_ sets n) (at_ (at_ (leastP (refineP sets) 1) k) (0 : Int)))), n + 1) _ _ (by dsimp only; omega) ⟨h19, le19, S49.sub [] (by decide) rfl _ rfl, r19_0, r19_4, r19_5, r19_6, rfl, rfl, (in_i64 (by first | omega | (simp; omega) | assumption) (by first | omega | (simp; omega) | assumption)), (by exact ⟨by omega, by omega, by rw [apartTo_step _ _ _ hI19.1 (by omega), ← hI19.2.2]; first | (rw [(by assumption : apart = true)]; rfl) | (rw [(by assumption : apart = false)]; rfl)⟩)⟩
        · skip
          have ha_ := few_end sets (n := n) hI17.1 (by omega) (by omega) (by omega)
          rw [← hI19.2.2] at ha_
          refine run_exit rfl ?_
          refine run_seq ?_
          have hc50 : apart = true := by
            exact ha_.1
          obtain ⟨ad51, seg51, a51, rp51, ce51⟩ := e_index_ro (q := k) (m := 1) ld13 rfl (by first | omega | (simp; omega) | assumption) (by first | omega | (simp; omega) | assumption)
          obtain ⟨A51, c51, rfl, lc51, cm51, ld51⟩ := rp51
          have cn51 := cm51; simp only [maxLen] at cn51
          obtain ⟨ad52, seg52, a52, rp52, ce52⟩ := e_index_ro (q := (0 : Int)) (m := 1) ld51 rfl (by first | omega | (simp; omega) | assumption) (by first | omega | (simp; omega) | assumption)
          obtain ⟨rfl, in52⟩ := rp52
          have lo52 := u8_lo in52; have hi52 := u8_hi in52
          obtain ⟨ad53, seg53, a53, rp53, ce53⟩ := e_index_ro (q := i) (m := 1) ld13 rfl (by first | omega | (simp; omega) | assumption) (by first | omega | (simp; omega) | assumption)
          obtain ⟨A53, c53, rfl, lc53, cm53, ld53⟩ := rp53
          have cn53 := cm53; simp only [maxLen] at cn53
          obtain ⟨ad54, seg54, a54, rp54, ce54⟩ := e_index_ro (q := (0 : Int)) (m := 1) ld53 rfl (by first | omega | (simp; omega) | assumption) (by first | omega | (simp; omega) | assumption)
          obtain ⟨rfl, in54⟩ := rp54
          have lo54 := u8_lo in54; have hi54 := u8_hi in54
          have hf55 : (CFs ad51 [.slice A51 (at_ (leastP (refineP sets) 1) k).length c51]).1 w19 := (CF.ghost ce51 (((((le15).trans le17)).trans le19).trans S19.ghost))
          have hf56 : (CFs ad52 [.int .u8 (at_ (at_ (leastP (refineP sets) 1) k) (0 : Int))]).1 w19 := (CF.ghost ce52 (((((le15).trans le17)).trans le19).trans S19.ghost))
          have hf57 : (CFs ad53 [.slice A53 (at_ (leastP (refineP sets) 1) i).length c53]).1 w19 := (CF.ghost ce53 (((((le15).trans le17)).trans le19).trans S19.ghost))
          have hf58 : (CFs ad54 [.int .u8 (at_ (at_ (leastP (refineP sets) 1) i) (0 : Int))]).1 w19 := (CF.ghost ce54 (((((le15).trans le17)).trans le19).trans S19.ghost))
          refine da_start [(6, CFs ad51 [.slice A51 (at_ (leastP (refineP sets) 1) k).length c51]), (8, CFs ad52 [.int .u8 (at_ (at_ (leastP (refineP sets) 1) k) (0 : Int))]), (12, CFs ad53 [.slice A53 (at_ (leastP (refineP sets) 1) i).length c53]), (14, CFs ad54 [.int .u8 (at_ (at_ (leastP (refineP sets) 1) i) (0 : Int))])] 17 rfl mixed ?_
          intro wd59 gd59 hd59
          have S60 : St w.heap.size w h19 wd59 [] := S19.keep gd59
          have hf61 := (CFs ad51 [.slice A51 (at_ (leastP (refineP sets) 1) k).length c51]).2 _ _ gd59 hf55
          have hf62 := (CFs ad52 [.int .u8 (at_ (at_ (leastP (refineP sets) 1) k) (0 : Int))]).2 _ _ gd59 hf56
          have hf63 := (CFs ad53 [.slice A53 (at_ (leastP (refineP sets) 1) i).length c53]).2 _ _ gd59 hf57
          have hf64 := (CFs ad54 [.int .u8 (at_ (at_ (leastP (refineP sets) 1) i) (0 : Int))]).2 _ _ gd59 hf58
          refine d_q (i := 0) (v := .bool apart) (fun _ => True) (fun _ ho => trivial) rfl (by decide +kernel) (by decide +kernel) (by decide +kernel) rfl rfl (fun wq hq => (x_move r19_7)) (of_ne rfl (of_ne rfl (of_ne rfl (of_ne rfl (of_nil _ _))))) ?_
          refine d_q (i := 1) (v := .bool (!apart)) (fun _ => True) (fun _ ho => trivial) rfl (by decide +kernel) (by decide +kernel) (by decide +kernel) rfl rfl (fun wq hq => (x_not rfl)) (of_ne rfl (of_ne rfl (of_ne rfl (of_ne rfl (of_nil _ _))))) ?_
          refine d_q (i := 2) (v := .bool (!apart)) (fun _ => True) (fun _ ho => trivial) rfl (by decide +kernel) (by decide +kernel) (by decide +kernel) rfl rfl (fun wq hq => (x_move rfl)) (of_ne rfl (of_ne rfl (of_ne rfl (of_ne rfl (of_nil _ _))))) ?_
          refine d_q (i := 3) (v := .slice A13 (leastP (refineP sets) 1).length c13) (fun _ => True) (fun _ ho => trivial) rfl (by decide +kernel) (by decide +kernel) (by decide +kernel) (wanted_of (j := 2) (want := false) (d := 62) (b := false) rfl rfl (congrArg (fun z => Value.bool (!z)) hc50) rfl) rfl (fun wq hq => (x_move r19_4)) (of_ne rfl (of_ne rfl (of_ne rfl (of_ne rfl (of_nil _ _))))) ?_
          refine d_q (i := 4) (v := .int .i64 k) (fun _ => True) (fun _ ho => trivial) rfl (by decide +kernel) (by decide +kernel) (by decide +kernel) (wanted_of (j := 2) (want := false) (d := 62) (b := false) rfl rfl (congrArg (fun z => Value.bool (!z)) hc50) rfl) rfl (fun wq hq => (x_move r19_6)) (of_ne rfl (of_ne rfl (of_ne rfl (of_ne rfl (of_nil _ _))))) ?_
          refine d_q (i := 5) (v := .pointer (some ad51)) (fun _ => True) (fun _ ho => trivial) rfl (by decide +kernel) (by decide +kernel) (by decide +kernel) (wanted_of (j := 2) (want := false) (d := 62) (b := false) rfl rfl (congrArg (fun z => Value.bool (!z)) hc50) rfl) rfl (fun wq hq => (x_index_ro u54 t22 rfl rfl a51 (by first | omega | (simp; omega) | assumption) (by first | omega | (simp; omega) | assumption))) (of_ne rfl (of_ne rfl (of_ne rfl (of_ne rfl (of_nil _ _))))) ?_
          refine d_q (i := 6) (v := .slice A51 (at_ (leastP (refineP sets) 1) k).length c51) (CF ad51 [.slice A51 (at_ (leastP (refineP sets) 1) k).length c51]) (fun _ ho => ho _ (List.mem_of_getElem? (i := 0) rfl) rfl) rfl (by decide +kernel) (by decide +kernel) (by decide +kernel) (wanted_of (j := 2) (want := false) (d := 62) (b := false) rfl rfl (congrArg (fun z => Value.bool (!z)) hc50) rfl) rfl (fun wq hq => (x_load (seg := [.slice A51 (at_ (leastP (refineP sets) 1) k).length c51]) t22 rfl (by simp) rfl hq)) (of_eq hf61 (of_ne rfl (of_ne rfl (of_ne rfl (of_nil _ _))))) ?_
          refine d_q (i := 7) (v := .pointer (some ad52)) (fun _ => True) (fun _ ho => trivial) rfl (by decide +kernel) (by decide +kernel) (by decide +kernel) (wanted_of (j := 2) (want := false) (d := 62) (b := false) rfl rfl (congrArg (fun z => Value.bool (!z)) hc50) rfl) rfl (fun wq hq => (x_index_ro u22 t5 rfl rfl a52 (by first | omega | (simp; omega) | assumption) (by first | omega | (simp; omega) | assumption))) (of_ne rfl (of_ne rfl (of_ne rfl (of_ne rfl (of_nil _ _))))) ?_
          refine d_q (i := 8) (v := .int .u8 (at_ (at_ (leastP (refineP sets) 1) k) (0 : Int))) (CF ad52 [.int .u8 (at_ (at_ (leastP (refineP sets) 1) k) (0 : Int))]) (fun _ ho => ho _ (List.mem_of_getElem? (i := 1) rfl) rfl) rfl (by decide +kernel) (by decide +kernel) (by decide +kernel) (wanted_of (j := 2) (want := false) (d := 62) (b := false) rfl rfl (congrArg (fun z => Value.bool (!z)) hc50) rfl) rfl (fun wq hq => (x_load (seg := [.int .u8 (at_ (at_ (leastP (refineP sets) 1) k) (0 : Int))]) t5 rfl (by simp) rfl hq)) (of_ne rfl (of_eq hf62 (of_ne rfl (of_ne rfl (of_nil _ _))))) ?_
          refine d_q (i := 9) (v := .slice A13 (leastP (refineP sets) 1).length c13) (fun _ => True) (fun _ ho => trivial) rfl (by decide +kernel) (by decide +kernel) (by decide +kernel) (wanted_of (j := 2) (want := false) (d := 62) (b := false) rfl rfl (congrArg (fun z => Value.bool (!z)) hc50) rfl) rfl (fun wq hq => (x_move r19_4)) (of_ne rfl (of_ne rfl (of_ne rfl (of_ne rfl (of_nil _ _))))) ?_
          refine d_q (i := 10) (v := .int .i64 i) (fun _ => True) (fun _ ho => trivial) rfl (by decide +kernel) (by decide +kernel) (by decide +kernel) (wanted_of (j := 2) (want := false) (d := 62) (b := false) rfl rfl (congrArg (fun z => Value.bool (!z)) hc50) rfl) rfl (fun wq hq => (x_move r19_5)) (of_ne rfl (of_ne rfl (of_ne rfl (of_ne rfl (of_nil _ _))))) ?_
          refine d_q (i := 11) (v := .pointer (some ad53)) (fun _ => True) (fun _ ho => trivial) rfl (by decide +kernel) (by decide +kernel) (by decide +kernel) (wanted_of (j := 2) (want := false) (d := 62) (b := false) rfl rfl (congrArg (fun z => Value.bool (!z)) hc50) rfl) rfl (fun wq hq => (x_index_ro u54 t22 rfl rfl a53 (by first | omega | (simp; omega) | assumption) (by first | omega | (simp; omega) | assumption))) (of_ne rfl (of_ne rfl (of_ne rfl (of_ne rfl (of_nil _ _))))) ?_
          refine d_q (i := 12) (v := .slice A53 (at_ (leastP (refineP sets) 1) i).length c53) (CF ad53 [.slice A53 (at_ (leastP (refineP sets) 1) i).length c53]) (fun _ ho => ho _ (List.mem_of_getElem? (i := 2) rfl) rfl) rfl (by decide +kernel) (by decide +kernel) (by decide +kernel) (wanted_of (j := 2) (want := false) (d := 62) (b := false) rfl rfl (congrArg (fun z => Value.bool (!z)) hc50) rfl) rfl (fun wq hq => (x_load (seg := [.slice A53 (at_ (leastP (refineP sets) 1) i).length c53]) t22 rfl (by simp) rfl hq)) (of_ne rfl (of_ne rfl (of_eq hf63 (of_ne rfl (of_nil _ _))))) ?_
          refine d_q (i := 13) (v := .pointer (some ad54)) (fun _ => True) (fun _ ho => trivial) rfl (by decide +kernel) (by decide +kernel) (by decide +kernel) (wanted_of (j := 2) (want := false) (d := 62) (b := false) rfl rfl (congrArg (fun z => Value.bool (!z)) hc50) rfl) rfl (fun wq hq => (x_index_ro u22 t5 rfl rfl a54 (by first | omega | (simp; omega) | assumption) (by first | omega | (simp; omega) | assumption))) (of_ne rfl (of_ne rfl (of_ne rfl (of_ne rfl (of_nil _ _))))) ?_
          refine d_q (i := 14) (v := .int .u8 (at_ (at_ (leastP (refineP sets) 1) i) (0 : Int))) (CF ad54 [.int .u8 (at_ (at_ (leastP (refineP sets) 1) i) (0 : Int))]) (fun _ ho => ho _ (List.mem_of_getElem? (i := 3) rfl) rfl) rfl (by decide +kernel) (by decide +kernel) (by decide +kernel) (wanted_of (j := 2) (want := false) (d := 62) (b := false) rfl rfl (congrArg (fun z => Value.bool (!z)) hc50) rfl) rfl (fun wq hq => (x_load (seg := [.int .u8 (at_ (at_ (leastP (refineP sets) 1) i) (0 : Int))]) t5 rfl (by simp) rfl hq)) (of_ne rfl (of_ne rfl (of_ne rfl (of_eq hf64 (of_nil _ _))))) ?_
          refine d_q (i := 15) (v := .bool (decide ((at_ (at_ (leastP (refineP sets) 1) i) (0 : Int)) ≤ (at_ (at_ (leastP (refineP sets) 1) k) (0 : Int))))) (fun _ => True) (fun _ ho => trivial) rfl (by decide +kernel) (by decide +kernel) (by decide +kernel) (wanted_of (j := 2) (want := false) (d := 62) (b := false) rfl rfl (congrArg (fun z => Value.bool (!z)) hc50) rfl) rfl (fun wq hq => (x_geq rfl rfl)) (of_ne rfl (of_ne rfl (of_ne rfl (of_ne rfl (of_nil _ _))))) ?_
          refine d_q (i := 16) (v := .bool (decide ((at_ (at_ (leastP (refineP sets) 1) i) (0 : Int)) ≤ (at_ (at_ (leastP (refineP sets) 1) k) (0 : Int))))) (fun _ => True) (fun _ ho => trivial) rfl (by decide +kernel) (by decide +kernel) (by decide +kernel) rfl rfl (fun wq hq => (x_pick_f (congrArg (fun z => Value.bool (!z)) hc50) rfl)) (of_ne rfl (of_ne rfl (of_ne rfl (of_ne rfl (of_nil _ _))))) ?_
          refine ra_done (by decide +kernel) ?_
          intro wd65 gd65
          have S66 : St w.heap.size w h19 wd65 [] := S60.keep gd65
          have hc67 : ¬ ((at_ (at_ (leastP (refineP sets) 1) i) (0 : Int)) ≤ (at_ (at_ (leastP (refineP sets) 1) k) (0 : Int))) := by
            have := ha_.2; omega
          refine run_cond (b := false) (congrArg Value.bool (decide_eq_false hc67)) ?_
          simp only [if_true, if_false, Bool.false_eq_true]
          refine run_skip ?_
          refine run_inBlock ?_
          refine run_reg (l := [0, 1, 2]) rfl ?_
          refine p_v (v := .int .i64 k) rfl rfl rfl (x_move r19_6) ?_
          refine p_v (v := .int .i64 (k + 1)) rfl rfl rfl (x_add rfl rfl (in_i64 (by first | omega | (simp; omega) | assumption) (by first | omega | (simp; omega) | assumption))) ?_
          refine p_v (v := .int .i64 (k + 1)) rfl rfl rfl (x_assign rfl) ?_
          refine run_region_end ?_
          refine ih17 (k + 1) _ _ (by dsimp only; omega) ⟨h19, ((le17).trans le19), S66.sub [] (by decide) rfl _ rfl, r19_0, r19_4, r19_5, rfl, (in_i64 (by first | omega | (simp; omega) | assumption) (by first | omega | (simp; omega) | assumption)), (by exact ⟨by omega, by omega⟩)⟩
      · skip
        refine run_exit rfl ?_
        refine run_inBlock ?_
        refine run_reg (l := [0, 1, 2]) rfl ?_
        refine p_v (v := .int .i64 i) rfl rfl rfl (x_move r17_5) ?_
        refine p_v (v := .int .i64 (i + 1)) rfl rfl rfl (x_add rfl rfl (in_i64 (by first | omega | (simp; omega) | assumption) (by first | omega | (simp; omega) | assumption))) ?_
        refine p_v (v := .int .i64 (i + 1)) rfl rfl rfl (x_assign rfl) ?_
        refine run_region_end ?_
        refine ih15 (i + 1) _ _ (by dsimp only; omega) ⟨h17, ((le15).trans le17), S17.sub [] (by decide) rfl _ rfl, r17_0, r17_4, rfl, (in_i64 (by first | omega | (simp; omega) | assumption) (by first | omega | (simp; omega) | assumption)), (by omega)⟩
    · skip
      refine run_exit rfl ?_
      refine run_seq ?_
      refine run_reg (l := [0, 1]) rfl ?_
      refine p_c rfl rfl rfl (y_call (args := []) c26 rfl rfl) (awake2_calls w15  (Block.st S15 tb)) ?_
      rintro _ w68 ⟨h68, T68, rfl⟩
      have S69 : St w.heap.size w h15 w68 [] := S15.keep (Chg.of_below T68.below)
      refine p_v (v := .bool true) rfl rfl rfl (x_assign rfl) ?_
      refine run_region_end ?_
      refine run_ret Tryd.func9 (res1 rfl (res_tmp (v := .bool true) rfl)) ?_
      have q0 : (true : Bool) = true := rfl
      refine ⟨_, rfl, h15, ?_, ?_⟩
      · exact S69.sub [] (by decide) rfl _ rfl
      · rfl
end Go.Proofs.YtlcmimjdnhjeoaaDoor
