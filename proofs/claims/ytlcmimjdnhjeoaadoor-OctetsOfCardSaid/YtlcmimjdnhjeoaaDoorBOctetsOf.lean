/- The law OctetsOf, walked: it tells true at every input, and writes nothing that was there. -/
import Derived.Test.YtlcmimjdnhjeoaaDoorB0
namespace Go.Proofs.YtlcmimjdnhjeoaaDoor
open Go Go.RowKit Gx
set_option maxHeartbeats 1000000
set_option linter.unusedVariables false
set_option linter.unusedSimpArgs false
attribute [local irreducible] members pack listOf count first someIn has setOf setRange wbits Lib.ctz

theorem octetsOf_calls (w : World) (bs : List Int) (A0 : Option Addr) (c0 : Nat) (b0 : bs.length ≤ c0 ∧ c0 ≤ maxLen) (l0 : Leads (Kd.int .u8) (hp w) A0 bs) (tb : Block 0 tzTab w) :
    Calls Tryd.prog 3 #[.slice A0 bs.length c0] w fun e w' => ∃ v, e = .returned v ∧ ∃ (hn : Ghost), St w.heap.size w hn w' [] ∧ v = .bool true := by
  refine calls_of_run Tryd.func3 rfl Tryd.ntmps3 rfl ?_
  have S0 := St.init w
  have bb0 := b0.1; have bc0 := b0.2; simp only [maxLen] at bc0
  refine run_seq ?_
  refine run_reg (l := [0]) rfl ?_
  refine p_v (v := .bool false) rfl rfl rfl (x_assign rfl) ?_
  refine run_region_end ?_
  refine run_seq ?_
  refine run_seq ?_
  refine run_reg (l := [0, 1, 2]) rfl ?_
  refine p_v (v := .slice A0 bs.length c0) rfl rfl rfl (x_move rfl) ?_
  refine p_v (v := .int .i64 (bs.length : Int)) rfl rfl rfl (x_len_slice u22 rfl) ?_
  refine p_v (v := .bool (decide (1000 < (bs.length : Int)))) rfl rfl rfl (x_gtr rfl rfl) ?_
  refine run_region_end ?_
  refine run_cond_prop (p := 1000 < (bs.length : Int)) rfl (fun hc1 => ?_) (fun hc1 => ?_)
  · skip
    refine run_seq ?_
    refine run_reg (l := [0, 1]) rfl ?_
    refine p_c rfl rfl rfl (y_call (args := []) c13 rfl rfl) (awake_calls w  (Block.st S0 tb)) ?_
    rintro _ w2 ⟨h2, T2, rfl⟩
    have S3 : St w.heap.size w (fun _ => none) w2 [] := S0.keep (Chg.of_below T2.below)
    refine p_v (v := .bool true) rfl rfl rfl (x_assign rfl) ?_
    refine run_region_end ?_
    refine run_ret Tryd.func3 (res1 rfl (res_tmp (v := .bool true) rfl)) ?_
    have q0 : (true : Bool) = true := rfl
    refine ⟨_, rfl, (fun _ => none), ?_, ?_⟩
    · exact S3.sub [] (by decide) rfl _ rfl
    · rfl
  · skip
    refine run_skip ?_
    refine run_seq ?_
    refine run_reg (l := [0]) rfl ?_
    obtain ⟨b5, w5, r5, g5, T5⟩ := e_box (P := Tryd.prog) S0 24 (v := (.agg #[.bool false, .bool false, .bool false, .bool false, .bool false, .bool false, .bool false, .bool false, .bool false, .bool false, .bool false, .bool false, .bool false, .bool false, .bool false, .bool false, .bool false, .bool false, .bool false, .bool false, .bool false, .bool false, .bool false, .bool false, .bool false, .bool false, .bool false, .bool false, .bool false, .bool false, .bool false, .bool false, .bool false, .bool false, .bool false, .bool false, .bool false, .bool false, .bool false, .bool false, .bool false, .bool false, .bool false, .bool false, .bool false, .bool false, .bool false, .bool false, .bool false, .bool false, .bool false, .bool false, .bool false, .bool false, .bool false, .bool false, .bool false, .bool false, .bool false, .bool false, .bool false, .bool false, .bool false, .bool false, .bool false, .bool false, .bool false, .bool false, .bool false, .bool false, .bool false, .bool false, .bool false, .bool false, .bool false, .bool false, .bool false, .bool false, .bool false, .bool false, .bool false, .bool false, .bool false, .bool false, .bool false, .bool false, .bool false, .bool false, .bool false, .bool false, .bool false, .bool false, .bool false, .bool false, .bool false, .bool false, .bool false, .bool false, .bool false, .bool false, .bool false, .bool false, .bool false, .bool false, .bool false, .bool false, .bool false, .bool false, .bool false, .bool false, .bool false, .bool false, .bool false, .bool false, .bool false, .bool false, .bool false, .bool false, .bool false, .bool false, .bool false, .bool false, .bool false, .bool false, .bool false, .bool false, .bool false, .bool false, .bool false, .bool false, .bool false, .bool false, .bool false, .bool false, .bool false, .bool false, .bool false, .bool false, .bool false, .bool false, .bool false, .bool false, .bool false, .bool false, .bool false, .bool false, .bool false, .bool false, .bool false, .bool false, .bool false, .bool false, .bool false, .bool false, .bool false, .bool false, .bool false, .bool false, .bool false, .bool false, .bool false, .bool false, .bool false, .bool false, .bool false, .bool false, .bool false, .bool false, .bool false, .bool false, .bool false, .bool false, .bool false, .bool false, .bool false, .bool false, .bool false, .bool false, .bool false, .bool false, .bool false, .bool false, .bool false, .bool false, .bool false, .bool false, .bool false, .bool false, .bool false, .bool false, .bool false, .bool false, .bool false, .bool false, .bool false, .bool false, .bool false, .bool false, .bool false, .bool false, .bool false, .bool false, .bool false, .bool false, .bool false, .bool false, .bool false, .bool false, .bool false, .bool false, .bool false, .bool false, .bool false, .bool false, .bool false, .bool false, .bool false, .bool false, .bool false, .bool false, .bool false, .bool false, .bool false, .bool false, .bool false, .bool false, .bool false, .bool false, .bool false, .bool false, .bool false, .bool false, .bool false, .bool false, .bool false, .bool false, .bool false, .bool false, .bool false, .bool false, .bool false, .bool false, .bool false, .bool false, .bool false, .bool false, .bool false, .bool false, .bool false, .bool false, .bool false, .bool false, .bool false, .bool false, .bool false, .bool false])) (encBools (List.replicate 256 false)) (by kernel_rfl)
    have S6 : St w.heap.size w (fun _ => none) w5 [box b5 24 (encBools (List.replicate 256 false))] := T5
    refine p_v (v := .pointer (some ⟨b5, 0, none⟩)) rfl rfl rfl (x_alloc t24 r5) ?_
    refine run_region_end ?_
    refine run_seq ?_
    refine run_seq ?_
    refine run_reg (l := [0]) rfl ?_
    refine p_v (v := .int .i64 0) rfl rfl rfl (x_assign rfl) ?_
    refine run_region_end ?_
    refine run_block ?_
    refine run_loop (S := (List Bool) × Int) (fun (q_ : (List Bool) × Int) ρ w' => match q_ with | (l, i) => ∃ (h : Ghost), Le (fun _ => none) h ∧ St w.heap.size w h w' [box b5 24 (encBools l)] ∧ ρ 0 = .slice A0 bs.length c0 ∧ ρ 3 = .pointer (some ⟨b5, 0, none⟩) ∧ ρ 4 = .int .i64 i ∧ okBools 256 l ∧ inK .i64 i ∧ (0 ≤ i ∧ i ≤ (bs.length : Int) ∧ l = markTo bs i)) (fun q_ => match q_ with | (l, i) => (bs.length - i).toNat) ((List.replicate 256 false), 0) ⟨(fun _ => none), Le.refl _, S6.sub [0] (by decide) rfl _ rfl, rfl, rfl, rfl, (okBools_rep _ _), (in_i64 (by first | omega | (simp; omega) | assumption) (by first | omega | (simp; omega) | assumption)), (by exact ⟨by omega, by omega, markTo_0 bs⟩)⟩ ?_
    rintro ⟨l, i⟩ ih7 ρ7 w7 ⟨h7, le7, S7, r7_0, r7_3, r7_4, f7_0, f7_1, hI7⟩
    have lf7_1 := i64_lo f7_1; have hf7_1 := i64_hi f7_1
    refine run_seq ?_
    refine run_seq ?_
    refine run_reg (l := [0, 1, 2, 3]) rfl ?_
    refine p_v (v := .int .i64 i) rfl rfl rfl (x_move r7_4) ?_
    refine p_v (v := .slice A0 bs.length c0) rfl rfl rfl (x_move r7_0) ?_
    refine p_v (v := .int .i64 (bs.length : Int)) rfl rfl rfl (x_len_slice u22 rfl) ?_
    refine p_v (v := .bool (decide (i < (bs.length : Int)))) rfl rfl rfl (x_lss rfl rfl) ?_
    refine run_region_end ?_
    refine run_cond_prop (p := i < (bs.length : Int)) rfl (fun hc8 => ?_) (fun hc8 => ?_)
    · skip
      refine run_skip ?_
      refine run_seq ?_
      refine run_block ?_
      refine run_reg (l := [0, 1, 2, 3, 4, 5]) rfl ?_
      refine p_v (v := .slice A0 bs.length c0) rfl rfl rfl (x_move r7_0) ?_
      refine p_v (v := .int .i64 i) rfl rfl rfl (x_move r7_4) ?_
      obtain ⟨ad9, seg9, a9, rp9, ce9⟩ := e_index_ro (q := i) (m := 1) l0 rfl (by first | omega | (simp; omega) | assumption) (by first | omega | (simp; omega) | assumption)
      refine p_v (v := .pointer (some ad9)) rfl rfl rfl (x_index_ro u22 t5 rfl rfl a9 (by first | omega | (simp; omega) | assumption) (by first | omega | (simp; omega) | assumption)) ?_
      obtain ⟨rfl, in9⟩ := rp9
      have lo9 := u8_lo in9; have hi9 := u8_hi in9
      refine p_v (v := .int .u8 (at_ bs i)) rfl rfl rfl (x_load (seg := [.int .u8 (at_ bs i)]) t5 rfl (by simp) rfl (CF.ghost ce9 (St.le0 S7))) ?_
      refine p_v (v := .pointer (some ⟨b5, 0 + (at_ bs i).toNat * 1, none⟩)) rfl rfl rfl (x_indexAddr_arr u24 t4 r7_3 rfl (by first | omega | (simp; omega) | assumption) (by first | omega | (simp; omega) | assumption)) ?_
      obtain ⟨w10, r10, g10, T10⟩ := e_store (P := Tryd.prog) (off := 0 + (at_ bs i).toNat * 1) (v := .bool true) (vs := [.bool true]) S7 t4 rfl rfl (j := 0) rfl (by rw [encBools_len f7_0]; first | omega | (simp; omega) | assumption) (by simp [Value.oneCell'])
      rw [encBools_put] at T10
      have ok10 : okBools 256 (l.set (at_ bs i).toNat true) := okBools_set f7_0 _ _
      have S11 : St w.heap.size w h7 w10 [box b5 24 (encBools (l.set (at_ bs i).toNat true))] := T10
      refine p_s rfl rfl (x_store rfl rfl r10) ?_
      refine run_region_end ?_
      refine run_inBlock ?_
      refine run_reg (l := [0, 1, 2]) rfl ?_
      refine p_v (v := .int .i64 i) rfl rfl rfl (x_move r7_4) ?_
      refine p_v (v := .int .i64 (i + 1)) rfl rfl rfl (x_add rfl rfl (in_i64 (by first | omega | (simp; omega) | assumption) (by first | omega | (simp; omega) | assumption))) ?_
      refine p_v (v := .int .i64 (i + 1)) rfl rfl rfl (x_assign rfl) ?_
      refine run_region_end ?_
      refine ih7 (l.set (at_ bs i).toNat true, i + 1) _ _ (by dsimp only; omega) ⟨h7, le7, S11.sub [0] (by decide) rfl _ rfl, r7_0, r7_3, rfl, ok10, (in_i64 (by first | omega | (simp; omega) | assumption) (by first | omega | (simp; omega) | assumption)), (by exact ⟨by omega, by omega, by rw [hI7.2.2]; exact markTo_step bs hI7.1 (by omega) (by omega) (by omega)⟩)⟩
    · skip
      refine run_exit rfl ?_
      refine run_seq ?_
      obtain ⟨_, _, _, _, _, _, _, ok13_0⟩ := calls_some (pack_calls w7 l f7_0)
      have hc14 : ((setOf bs) = (ofWords (pack l))) := by
        rw [hI7.2.2]; exact mark_set bs (by omega)
      have hf16 : (LeadsS (Kd.int .u8) A0 bs).1 w7 := (l0.mono (St.le0 S7))
      have hf17 : (CFs ⟨b5, 0, none⟩ (encBools l)).1 w7 := (CF.box (m := 256) (S7.box_at (j := 0) rfl) (cs := (encBools l)) (encBools_full f7_0))
      have hf18 : (BlockS 0 tzTab).1 w7 := (Block.st S7 tb)
      refine da_start [(1, LeadsS (Kd.int .u8) A0 bs), (2, CFs ⟨b5, 0, none⟩ (encBools l)), (6, BlockS 0 tzTab)] 9 rfl mixed ?_
      intro wd19 gd19 hd19
      have S20 : St w.heap.size w h7 wd19 [box b5 24 (encBools l)] := S7.keep gd19
      have hf21 := (LeadsS (Kd.int .u8) A0 bs).2 _ _ gd19 hf16
      have hf22 := (CFs ⟨b5, 0, none⟩ (encBools l)).2 _ _ gd19 hf17
      have hf23 := (BlockS 0 tzTab).2 _ _ gd19 hf18
      refine d_q (i := 0) (v := .slice A0 bs.length c0) (fun _ => True) (fun _ ho => trivial) rfl (by decide +kernel) (by decide +kernel) (by decide +kernel) rfl rfl (fun wq hq => (x_move r7_0)) (of_ne rfl (of_ne rfl (of_ne rfl (of_nil _ _)))) ?_
      refine d_m (i := 1) (v := .agg (encSet (setOf bs)).toArray) (fun wf => Leads (Kd.int .u8) (hp wf) A0 bs) (fun _ ho => ho _ (List.mem_of_getElem? (i := 0) rfl) rfl) rfl (by decide +kernel) (by decide +kernel) (by decide +kernel) rfl rfl (fun wq => (y_call (args := [.slice A0 bs.length c0]) c14 rfl rfl)) (fun wq hq => (of_calls wq bs A0 c0 b0 hq).mono fun e w2 he => by obtain ⟨_, rfl, _, T, rfl⟩ := he; exact ⟨rfl, Chg.of_below T.below⟩) (of_eq hf21 (of_ne rfl (of_ne rfl (of_nil _ _)))) ?_
      refine d_q (i := 2) (v := .agg (encBools l).toArray) (CF ⟨b5, 0, none⟩ (encBools l)) (fun _ ho => ho _ (List.mem_of_getElem? (i := 1) rfl) rfl) rfl (by decide +kernel) (by decide +kernel) (by decide +kernel) rfl rfl (fun wq hq => (x_load (seg := (encBools l)) t24 (encBools_len f7_0) (by simp) r7_3 hq)) (of_ne rfl (of_eq hf22 (of_ne rfl (of_nil _ _)))) ?_
      refine d_m (i := 3) (v := .agg (encInts .u64 (pack l)).toArray) (fun _ => True) (fun _ ho => trivial) rfl (by decide +kernel) (by decide +kernel) (by decide +kernel) rfl rfl (fun wq => (y_call (args := [.agg (encBools l).toArray]) c15 rfl rfl)) (fun wq hq => (pack_calls wq l f7_0).mono fun e w2 he => by obtain ⟨_, rfl, _, T, rfl, _⟩ := he; exact ⟨rfl, Chg.of_below T.below⟩) (of_ne rfl (of_ne rfl (of_ne rfl (of_nil _ _)))) ?_
      refine d_q (i := 4) (v := .bool (decide ((setOf bs) = (ofWords (pack l))))) (fun _ => True) (fun _ ho => trivial) rfl (by decide +kernel) (by decide +kernel) (by decide +kernel) rfl rfl (fun wq hq => (x_eql_set u27 u25 t25 q27 rfl (Eq.trans (b := .agg (encInts .u64 (pack l)).toArray) rfl (congrArg (fun z : List Value => Value.agg z.toArray) (encSet_of ok13_0))))) (of_ne rfl (of_ne rfl (of_ne rfl (of_nil _ _)))) ?_
      refine d_q (i := 5) (v := .bool (decide ((setOf bs) = (ofWords (pack l))))) (fun _ => True) (fun _ ho => trivial) rfl (by decide +kernel) (by decide +kernel) (by decide +kernel) rfl rfl (fun wq hq => (x_move rfl)) (of_ne rfl (of_ne rfl (of_ne rfl (of_nil _ _)))) ?_
      refine d_m (i := 6) (v := .bool true) (fun wf => Block 0 tzTab wf) (fun _ ho => ho _ (List.mem_of_getElem? (i := 2) rfl) rfl) rfl (by decide +kernel) (by decide +kernel) (by decide +kernel) (wanted_of (j := 5) (want := true) (d := 25) (b := true) rfl rfl (congrArg Value.bool (decide_eq_true hc14)) rfl) rfl (fun wq => (y_call (args := []) c13 rfl rfl)) (fun wq hq => (awake_calls wq hq).mono fun e w2 he => by obtain ⟨_, rfl, _, T, rfl⟩ := he; exact ⟨rfl, Chg.of_below T.below⟩) (of_ne rfl (of_ne rfl (of_eq hf23 (of_nil _ _)))) ?_
      refine d_q (i := 7) (v := .bool true) (fun _ => True) (fun _ ho => trivial) rfl (by decide +kernel) (by decide +kernel) (by decide +kernel) rfl rfl (fun wq hq => (x_pick_t (congrArg Value.bool (decide_eq_true hc14)) rfl)) (of_ne rfl (of_ne rfl (of_ne rfl (of_nil _ _)))) ?_
      refine d_q (i := 8) (v := .bool true) (fun _ => True) (fun _ ho => trivial) rfl (by decide +kernel) (by decide +kernel) (by decide +kernel) rfl rfl (fun wq hq => (x_assign rfl)) (of_ne rfl (of_ne rfl (of_ne rfl (of_nil _ _)))) ?_
      refine ra_done (by decide +kernel) ?_
      intro wd24 gd24
      have S25 : St w.heap.size w h7 wd24 [box b5 24 (encBools l)] := S20.keep gd24
      refine run_ret Tryd.func3 (res1 rfl (res_tmp (v := .bool true) rfl)) ?_
      have q0 : (true : Bool) = true := rfl
      refine ⟨_, rfl, h7, ?_, ?_⟩
      · exact S25.sub [] (by decide) rfl _ rfl
      · rfl
end Go.Proofs.YtlcmimjdnhjeoaaDoor
