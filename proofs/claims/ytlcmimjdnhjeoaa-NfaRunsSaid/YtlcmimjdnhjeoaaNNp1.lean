/- Functions of this translation, each walked once; no conditions but those that each contract tells. -/
import Derived.Test.YtlcmimjdnhjeoaaTN
import Derived.Test.YtlcmimjdnhjeoaaM6
import Derived.Test.YtlcmimjdnhjeoaaM7
import Derived.Test.YtlcmimjdnhjeoaaQN
import Derived.Test.YtlcmimjdnhjeoaaN3
import Derived.Test.YtlcmimjdnhjeoaaM11
import Derived.Test.YtlcmimjdnhjeoaaNN
namespace Go.Proofs.Ytlcmimjdnhjeoaa
open Go Go.RowKit Gx
set_option maxHeartbeats 1000000
set_option linter.unusedVariables false
set_option linter.unusedSimpArgs false
attribute [local irreducible] members pack listOf count first someIn has setOf setRange wbits Lib.ctz rises rightM rowOk tab markP intoP intoTo behindP behindTo behindIn runTo endsIn endTo runM posTo mayP stepIf stepP mayTo atP lastTo greatM greatTo docAt anyTo allTo

theorem run10_calls (w : World) (m : Mach) (A0_0 : Option Addr) (c0_0 : Nat) (b0_0 : m.spots.length ≤ c0_0 ∧ c0_0 ≤ maxLen) (l0_0 : Leads kSpot (hp w) A0_0 m.spots) (A0_1 : Option Addr) (c0_1 : Nat) (b0_1 : m.first.length ≤ c0_1 ∧ c0_1 ≤ maxLen) (l0_1 : Leads (Kd.int .i64) (hp w) A0_1 m.first) (A0_2 : Option Addr) (c0_2 : Nat) (b0_2 : m.follow.length ≤ c0_2 ∧ c0_2 ≤ maxLen) (l0_2 : Leads (Kd.int .i64).slice (hp w) A0_2 m.follow) (A0_3 : Option Addr) (c0_3 : Nat) (b0_3 : m.last.length ≤ c0_3 ∧ c0_3 ≤ maxLen) (l0_3 : Leads Kd.bool (hp w) A0_3 m.last) (xw : ByteArray) (s1 : xw.size ≤ maxLen) :
    Calls Try.prog 12 #[.agg #[.slice A0_0 m.spots.length c0_0, .slice A0_1 m.first.length c0_1, .slice A0_2 m.follow.length c0_2, .slice A0_3 m.last.length c0_3, .bool m.empty], .string xw] w fun e w' => ∃ v, e = .returned v ∧ ∃ (hn : Ghost), St w.heap.size w hn w' [] ∧ v = .bool (runM m xw) := by
  refine calls_of_run Try.func12 rfl Try.ntmps12 rfl ?_
  have S0 := St.init w
  have bb0_0 := b0_0.1; have bc0_0 := b0_0.2; simp only [maxLen] at bc0_0
  have bb0_1 := b0_1.1; have bc0_1 := b0_1.2; simp only [maxLen] at bc0_1
  have bb0_2 := b0_2.1; have bc0_2 := b0_2.2; simp only [maxLen] at bc0_2
  have bb0_3 := b0_3.1; have bc0_3 := b0_3.2; simp only [maxLen] at bc0_3
  have sz1 := s1; simp only [maxLen] at sz1
  refine run_seq ?_
  refine run_reg (l := [0, 1]) rfl ?_
  obtain ⟨b1, w1, r1, g1, T1⟩ := e_box (P := Try.prog) S0 27 (v := .agg #[.slice A0_0 m.spots.length c0_0, .slice A0_1 m.first.length c0_1, .slice A0_2 m.follow.length c0_2, .slice A0_3 m.last.length c0_3, .bool m.empty]) [.slice A0_0 m.spots.length c0_0, .slice A0_1 m.first.length c0_1, .slice A0_2 m.follow.length c0_2, .slice A0_3 m.last.length c0_3, .bool m.empty] rfl
  have S2 : St w.heap.size w (fun _ => none) w1 [box b1 27 [.slice A0_0 m.spots.length c0_0, .slice A0_1 m.first.length c0_1, .slice A0_2 m.follow.length c0_2, .slice A0_3 m.last.length c0_3, .bool m.empty]] := T1
  refine p_v (v := .pointer (some ⟨b1, 0, none⟩)) rfl rfl rfl (x_box rfl r1) ?_
  refine p_v (v := .bool false) rfl rfl rfl (x_assign rfl) ?_
  refine run_region_end ?_
  refine run_seq ?_
  refine run_seq ?_
  refine run_reg (l := [0, 1, 2]) rfl ?_
  refine p_v (v := .agg #[.slice A0_0 m.spots.length c0_0, .slice A0_1 m.first.length c0_1, .slice A0_2 m.follow.length c0_2, .slice A0_3 m.last.length c0_3, .bool m.empty]) rfl rfl rfl (x_load (seg := [.slice A0_0 m.spots.length c0_0, .slice A0_1 m.first.length c0_1, .slice A0_2 m.follow.length c0_2, .slice A0_3 m.last.length c0_3, .bool m.empty]) ty27 rfl (by simp) rfl (CF.box (m := 5) (S2.box_at (j := 0) rfl) rfl)) ?_
  refine p_c rfl rfl rfl (y_call (args := [.agg #[.slice A0_0 m.spots.length c0_0, .slice A0_1 m.first.length c0_1, .slice A0_2 m.follow.length c0_2, .slice A0_3 m.last.length c0_3, .bool m.empty]]) ca10 rfl rfl) (right10_calls w1 m A0_0 c0_0 b0_0 (l0_0.mono (St.le0 S2)) A0_1 c0_1 b0_1 (l0_1.mono (St.le0 S2)) A0_2 c0_2 b0_2 (l0_2.mono (St.le0 S2)) A0_3 c0_3 b0_3 (l0_3.mono (St.le0 S2))) ?_
  rintro _ w3 ⟨h3, T3, rfl⟩
  have S4 := S2.keep (Chg.of_below T3.below)
  refine p_v (v := .bool (!(rightM m))) rfl rfl rfl (x_not rfl) ?_
  refine run_region_end ?_
  refine run_cond_nsplit (b := rightM m) rfl (fun hc5 => ?_) (fun hc5 => ?_)
  · skip
    refine run_seq ?_
    refine run_reg (l := [0]) rfl ?_
    refine p_v (v := .bool false) rfl rfl rfl (x_assign rfl) ?_
    refine run_region_end ?_
    refine run_ret Try.func12 (res1 rfl (res_tmp (v := .bool false) rfl)) ?_
    have q0 : (runM m xw : Bool) = false := by
      first | exact run_wrong m xw (by assumption) | exact run_none m xw (by assumption) (by omega) | (rw [doc_some m xw (by assumption) (by omega) (i := i) (by omega) hI_.2.2]; exact last_yes m xat hI_.1 (by omega) (by assumption)) | (rw [doc_some m xw (by assumption) (by omega) (i := i) (by omega) hI_.2.2]; exact last_end m xat (by omega) hI_.2.2)
    refine ⟨_, rfl, (fun _ => none), ?_, ?_⟩
    · exact S4.sub [] (by decide) rfl _ rfl
    · first | rfl | (simp only [q0]; rfl) | (simp only [q0])
  · skip
    have hR_ := right_iff.1 hc5
    have hsm_ := hR_.small; have hfo_ := hR_.follow; have hla_ := hR_.last
    refine run_skip ?_
    refine run_seq ?_
    refine run_seq ?_
    refine run_reg (l := [0, 1, 2]) rfl ?_
    refine p_v (v := .string xw) rfl rfl rfl (x_move rfl) ?_
    refine p_v (v := .int .i64 (xw.size : Int)) rfl rfl rfl (x_len_string u9 rfl) ?_
    refine p_v (v := .bool (decide ((xw.size : Int) = 0))) rfl rfl rfl (x_eql rfl rfl) ?_
    refine run_region_end ?_
    refine run_cond_prop (p := (xw.size : Int) = 0) rfl (fun hc6 => ?_) (fun hc6 => ?_)
    · skip
      refine run_seq ?_
      refine run_reg (l := [0, 1, 2]) rfl ?_
      refine p_v (v := .pointer (some ⟨b1, 4, none⟩)) rfl rfl rfl (x_fieldAt fd27_4 ty4 rfl rfl) ?_
      refine p_v (v := .bool m.empty) rfl rfl rfl (x_load (seg := [.bool m.empty]) ty4 rfl (by simp) rfl (CF.box (m := 1) (S4.box_at (j := 0) rfl) rfl)) ?_
      refine p_v (v := .bool m.empty) rfl rfl rfl (x_assign rfl) ?_
      refine run_region_end ?_
      refine run_ret Try.func12 (res1 rfl (res_tmp (v := .bool m.empty) rfl)) ?_
      have q0 : (runM m xw : Bool) = m.empty := by
        first | exact run_wrong m xw (by assumption) | exact run_none m xw (by assumption) (by omega) | (rw [doc_some m xw (by assumption) (by omega) (i := i) (by omega) hI_.2.2]; exact last_yes m xat hI_.1 (by omega) (by assumption)) | (rw [doc_some m xw (by assumption) (by omega) (i := i) (by omega) hI_.2.2]; exact last_end m xat (by omega) hI_.2.2)
      refine ⟨_, rfl, (fun _ => none), ?_, ?_⟩
      · exact S4.sub [] (by decide) rfl _ rfl
      · first | rfl | (simp only [q0]; rfl) | (simp only [q0])
    · skip
      refine run_skip ?_
      refine run_seq ?_
      refine run_reg (l := [0]) rfl ?_
      refine p_v (v := .slice none 0 0) rfl rfl rfl (x_assign rfl) ?_
      refine run_region_end ?_
      refine run_seq ?_
      refine run_seq ?_
      refine run_reg (l := [0]) rfl ?_
      refine p_v (v := .int .i64 0) rfl rfl rfl (x_assign rfl) ?_
      refine run_region_end ?_
      refine run_block ?_
      have T8 := S4.row_nil 3 (Kd.int .i64)
      obtain ⟨vn8, ev8, T8⟩ : ∃ v, v = (.slice none 0 0 : Value) ∧ St w.heap.size w (fun _ => none) w3 ([box b1 27 [.slice A0_0 m.spots.length c0_0, .slice A0_1 m.first.length c0_1, .slice A0_2 m.follow.length c0_2, .slice A0_3 m.last.length c0_3, .bool m.empty]] ++ [row 3 (Kd.int .i64) v []]) := ⟨_, rfl, T8⟩
      have S9 : St w.heap.size w (fun _ => none) w3 [box b1 27 [.slice A0_0 m.spots.length c0_0, .slice A0_1 m.first.length c0_1, .slice A0_2 m.follow.length c0_2, .slice A0_3 m.last.length c0_3, .bool m.empty], row 3 (Kd.int .i64) vn8 ([] : List Int)] := T8
      refine run_loop (S := (List Int) × Int) (fun (q_ : (List Int) × Int) ρ w' => match q_ with | (xat, i) => ∃ (h : Ghost) (v_xat : Value), Le (fun _ => none) h ∧ St w.heap.size w h w' [box b1 27 [.slice A0_0 m.spots.length c0_0, .slice A0_1 m.first.length c0_1, .slice A0_2 m.follow.length c0_2, .slice A0_3 m.last.length c0_3, .bool m.empty], row 3 (Kd.int .i64) v_xat xat] ∧ ρ 1 = .string xw ∧ ρ 2 = .pointer (some ⟨b1, 0, none⟩) ∧ ρ 5 = v_xat ∧ ρ 6 = .int .i64 i ∧ inK .i64 i ∧ (0 ≤ i ∧ i ≤ (xw.size : Int) ∧ xat = docAt m xw i)) (fun q_ => match q_ with | (xat, i) => (xw.size - i).toNat) (([] : List Int), 0) ⟨(fun _ => none), vn8, Le.refl _, S9.sub [0, 1] (by decide) rfl _ rfl, rfl, rfl, (ev8.symm), rfl, (in_i64 (by first|omega|(simp;omega)|assumption) (by first|omega|(simp;omega)|assumption)), (by exact ⟨by omega, by omega, docAt_0 _ _⟩)⟩ ?_
      rintro ⟨xat, i⟩ ih10 ρ10 w10 ⟨h10, v_xat, le10, S10, r10_1, r10_2, r10_5, r10_6, f10_0, hI10⟩
      have lf10_0 := i64_lo f10_0; have hf10_0 := i64_hi f10_0
      have rl10_1 := S10.row_le (j := 1) rfl; simp only [maxLen] at rl10_1
      have hat_ : ∀ x ∈ xat, 0 ≤ x ∧ x < (m.spots.length : Int) := by rw [hI10.2.2]; exact docAt_in
      refine run_seq ?_
      refine run_seq ?_
      refine run_reg (l := [0, 1, 2, 3]) rfl ?_
      refine p_v (v := .int .i64 i) rfl rfl rfl (x_move r10_6) ?_
      refine p_v (v := .string xw) rfl rfl rfl (x_move r10_1) ?_
      refine p_v (v := .int .i64 (xw.size : Int)) rfl rfl rfl (x_len_string u9 rfl) ?_
      refine p_v (v := .bool (decide (i < (xw.size : Int)))) rfl rfl rfl (x_lss rfl rfl) ?_
      refine run_region_end ?_
      refine run_cond_prop (p := i < (xw.size : Int)) rfl (fun hc11 => ?_) (fun hc11 => ?_)
      · skip
        refine run_skip ?_
        refine run_seq ?_
        refine run_block ?_
        have by12 := byt_range xw i
        have hf13 : (CFs ⟨b1, 0, none⟩ [.slice A0_0 m.spots.length c0_0, .slice A0_1 m.first.length c0_1, .slice A0_2 m.follow.length c0_2, .slice A0_3 m.last.length c0_3, .bool m.empty]).1 w10 := (CF.box (m := 5) (S10.box_at (j := 0) rfl) rfl)
        refine da_start [(0, CFs ⟨b1, 0, none⟩ [.slice A0_0 m.spots.length c0_0, .slice A0_1 m.first.length c0_1, .slice A0_2 m.follow.length c0_2, .slice A0_3 m.last.length c0_3, .bool m.empty])] 9 rfl mixed ?_
        intro wd14 gd14 hd14
        have S15 := S10.keep gd14
        have hf16 := (CFs ⟨b1, 0, none⟩ [.slice A0_0 m.spots.length c0_0, .slice A0_1 m.first.length c0_1, .slice A0_2 m.follow.length c0_2, .slice A0_3 m.last.length c0_3, .bool m.empty]).2 _ _ gd14 hf13
        refine d_q (i := 0) (v := .agg #[.slice A0_0 m.spots.length c0_0, .slice A0_1 m.first.length c0_1, .slice A0_2 m.follow.length c0_2, .slice A0_3 m.last.length c0_3, .bool m.empty]) (CF ⟨b1, 0, none⟩ [.slice A0_0 m.spots.length c0_0, .slice A0_1 m.first.length c0_1, .slice A0_2 m.follow.length c0_2, .slice A0_3 m.last.length c0_3, .bool m.empty]) (fun _ ho => ho _ (List.mem_of_getElem? (i := 0) rfl) rfl) rfl (by decide +kernel) (by decide +kernel) (by decide +kernel) rfl rfl (fun wq hq => (x_load (seg := [.slice A0_0 m.spots.length c0_0, .slice A0_1 m.first.length c0_1, .slice A0_2 m.follow.length c0_2, .slice A0_3 m.last.length c0_3, .bool m.empty]) ty27 rfl (by simp) r10_2 hq)) (of_eq hf16 (of_nil _ _)) ?_
        refine d_q (i := 1) (v := v_xat) (fun _ => True) (fun _ ho => trivial) rfl (by decide +kernel) (by decide +kernel) (by decide +kernel) rfl rfl (fun wq hq => (x_move r10_5)) (of_ne rfl (of_nil _ _)) ?_
        refine d_q (i := 2) (v := .int .i64 i) (fun _ => True) (fun _ ho => trivial) rfl (by decide +kernel) (by decide +kernel) (by decide +kernel) rfl rfl (fun wq hq => (x_move r10_6)) (of_ne rfl (of_nil _ _)) ?_
        refine d_q (i := 3) (v := .bool (decide (i = 0))) (fun _ => True) (fun _ ho => trivial) rfl (by decide +kernel) (by decide +kernel) (by decide +kernel) rfl rfl (fun wq hq => (x_eql rfl rfl)) (of_ne rfl (of_nil _ _)) ?_
        refine d_q (i := 4) (v := .string xw) (fun _ => True) (fun _ ho => trivial) rfl (by decide +kernel) (by decide +kernel) (by decide +kernel) rfl rfl (fun wq hq => (x_move r10_1)) (of_ne rfl (of_nil _ _)) ?_
        refine d_q (i := 5) (v := .int .i64 i) (fun _ => True) (fun _ ho => trivial) rfl (by decide +kernel) (by decide +kernel) (by decide +kernel) rfl rfl (fun wq hq => (x_move r10_6)) (of_ne rfl (of_nil _ _)) ?_
        refine d_q (i := 6) (v := .int .u8 (byt xw i)) (fun _ => True) (fun _ ho => trivial) rfl (by decide +kernel) (by decide +kernel) (by decide +kernel) rfl rfl (fun wq hq => (x_index_byt u9 rfl rfl (by first|omega|(simp;omega)|assumption) (by first|omega|(simp;omega)|assumption))) (of_ne rfl (of_nil _ _)) ?_
        refine ra_one (i := 7) (by decide +kernel) ?_
        intro wd17 gd17
        have S18 := S15.keep gd17
        have hf19 := (CFs ⟨b1, 0, none⟩ [.slice A0_0 m.spots.length c0_0, .slice A0_1 m.first.length c0_1, .slice A0_2 m.follow.length c0_2, .slice A0_3 m.last.length c0_3, .bool m.empty]).2 _ _ gd17 hf16
        obtain ⟨A20, c20, ev20, lc20, cm20⟩ := S18.row_val (j := 1) rfl
        refine d_c rfl rfl rfl (y_call (args := [.agg #[.slice A0_0 m.spots.length c0_0, .slice A0_1 m.first.length c0_1, .slice A0_2 m.follow.length c0_2, .slice A0_3 m.last.length c0_3, .bool m.empty], .slice A20 xat.length c20, .bool (decide (i = 0)), .int .u8 (byt xw i)]) ca26 rfl (cons_eq rfl (cons_eq ev20 (cons_eq rfl (cons_eq rfl rfl))))) (step_calls wd17 m A0_0 c0_0 b0_0 (l0_0.mono (St.le0 S18)) A0_1 c0_1 b0_1 (l0_1.mono (St.le0 S18)) A0_2 c0_2 b0_2 (l0_2.mono (St.le0 S18)) A0_3 c0_3 b0_3 (l0_3.mono (St.le0 S18)) xat A20 c20 (And.intro lc20 cm20) (row_leads_eq S18 (j := 1) rfl ev20) (decide (i = 0)) (byt xw i) (in_u8 (by first|omega|(simp;omega)|assumption) (by first|omega|(simp;omega)|assumption)) (by first | assumption | exact ⟨by assumption, by assumption⟩)) ?_
        rintro v21_0 w21 ⟨h21, _, T21, rfl⟩
        obtain ⟨k21, lk21, ll21, U21⟩ := call_joins S18 T21
        have lc21_0 := (le10).trans lk21
        have S22 : St w.heap.size w k21 w21 [box b1 27 [.slice A0_0 m.spots.length c0_0, .slice A0_1 m.first.length c0_1, .slice A0_2 m.follow.length c0_2, .slice A0_3 m.last.length c0_3, .bool m.empty], row 3 (Kd.int .i64) v_xat xat, row 3 (Kd.int .i64) v21_0 (stepP m xat (decide (i = 0)) (byt xw i))] := U21
        have hf23 := (CFs ⟨b1, 0, none⟩ [.slice A0_0 m.spots.length c0_0, .slice A0_1 m.first.length c0_1, .slice A0_2 m.follow.length c0_2, .slice A0_3 m.last.length c0_3, .bool m.empty]).2 _ _ (Chg.of_below T21.below) hf19
        refine ⟨.inl (Chg.of_below T21.below), ?_⟩
        refine d_q (i := 8) (v := v21_0) (fun _ => True) (fun _ ho => trivial) rfl (by decide +kernel) (by decide +kernel) (by decide +kernel) rfl rfl (fun wq hq => (x_assign rfl)) (of_ne rfl (of_nil _ _)) ?_
        refine ra_done (by decide +kernel) ?_
        intro wd24 gd24
        have S25 := S22.keep gd24
        refine run_inBlock ?_
        refine run_reg (l := [0, 1, 2]) rfl ?_
        refine p_v (v := .int .i64 i) rfl rfl rfl (x_move r10_6) ?_
        refine p_v (v := .int .i64 (i + 1)) rfl rfl rfl (x_add rfl rfl (in_i64 (by first|omega|(simp;omega)|assumption) (by first|omega|(simp;omega)|assumption))) ?_
        refine p_v (v := .int .i64 (i + 1)) rfl rfl rfl (x_assign rfl) ?_
        refine run_region_end ?_
        refine ih10 (stepP m xat (decide (i = 0)) (byt xw i), i + 1) _ _ (by dsimp only; omega) ⟨k21, v21_0, lc21_0, S25.sub [0, 2] (by decide) rfl _ rfl, r10_1, r10_2, rfl, rfl, (in_i64 (by first|omega|(simp;omega)|assumption) (by first|omega|(simp;omega)|assumption)), (by exact ⟨by omega, by omega, by rw [hI10.2.2]; exact docAt_step hR_ xw hI10.1⟩)⟩
      · skip
        refine run_exit rfl ?_
        refine run_seq ?_
        refine run_seq ?_
        refine run_reg (l := [0]) rfl ?_
        refine p_v (v := .int .i64 0) rfl rfl rfl (x_assign rfl) ?_
        refine run_region_end ?_
        refine run_block ?_
        refine run_loop (S := Int) (fun (q_ : Int) ρ w' => match q_ with | i2 => ∃ (h : Ghost), Le h10 h ∧ St w.heap.size w h w' [box b1 27 [.slice A0_0 m.spots.length c0_0, .slice A0_1 m.first.length c0_1, .slice A0_2 m.follow.length c0_2, .slice A0_3 m.last.length c0_3, .bool m.empty], row 3 (Kd.int .i64) v_xat xat] ∧ ρ 2 = .pointer (some ⟨b1, 0, none⟩) ∧ ρ 5 = v_xat ∧ ρ 7 = .int .i64 i2 ∧ inK .i64 i2 ∧ (0 ≤ i2 ∧ i2 ≤ (xat.length : Int) ∧ lastTo m xat i2 = false)) (fun q_ => match q_ with | i2 => (xat.length - i2).toNat) (0) ⟨h10, Le.refl _, S10.sub [0, 1] (by decide) rfl _ rfl, r10_2, r10_5, rfl, (in_i64 (by first|omega|(simp;omega)|assumption) (by first|omega|(simp;omega)|assumption)), (by exact ⟨by omega, by omega, last_0 _ _⟩)⟩ ?_
        rintro i2 ih26 ρ26 w26 ⟨h26, le26, S26, r26_2, r26_5, r26_7, f26_0, hI26⟩
        have lf26_0 := i64_lo f26_0; have hf26_0 := i64_hi f26_0
        have rl26_1 := S26.row_le (j := 1) rfl; simp only [maxLen] at rl26_1
        have hx_ : i2 < (xat.length : Int) → 0 ≤ at_ xat i2 ∧ at_ xat i2 < (m.spots.length : Int) := fun h => hat_ _ (at_mem hI26.1 h)
        refine run_seq ?_
        refine run_seq ?_
        refine run_reg (l := [0, 1, 2, 3]) rfl ?_
        refine p_v (v := .int .i64 i2) rfl rfl rfl (x_move r26_7) ?_
        refine p_v (v := v_xat) rfl rfl rfl (x_move r26_5) ?_
        have lb27 := S26.row_le (j := 1) rfl; simp only [maxLen] at lb27
        refine p_v (v := .int .i64 (xat.length : Int)) rfl rfl rfl (x_len_own u23 rfl (e_len_own S26 (j := 1) rfl)) ?_
        refine p_v (v := .bool (decide (i2 < (xat.length : Int)))) rfl rfl rfl (x_lss rfl rfl) ?_
        refine run_region_end ?_
        refine run_cond_prop (p := i2 < (xat.length : Int)) rfl (fun hc28 => ?_) (fun hc28 => ?_)
        · skip
          refine run_skip ?_
          refine run_seq ?_
          refine run_block ?_
          refine run_seq ?_
          obtain ⟨ad29, a29, at29⟩ := e_index_own (q := i2) (m := 1) S26 (j := 1) rfl rfl (by first|omega|(simp;omega)|assumption) (by first|omega|(simp;omega)|assumption)
          obtain ⟨seg30, rp30, cf30⟩ := e_load_own (q := i2) S26 (j := 1) rfl rfl at29 (by first|omega|(simp;omega)|assumption) (by first|omega|(simp;omega)|assumption)
          obtain ⟨rfl, in30⟩ := rp30
          have lo30 := i64_lo in30; have hi30 := i64_hi in30
          obtain ⟨ad31, seg31, a31, rp31, ce31⟩ := e_index_ro (q := at_ xat i2) (m := 1) l0_3 rfl (by first|omega|(simp;omega)|assumption) (by first|omega|(simp;omega)|assumption)
          obtain ⟨rfl, _⟩ := rp31
          have hf32 : (CFs ⟨b1, 3, none⟩ [.slice A0_3 m.last.length c0_3]).1 w26 := (CF.box (m := 1) (S26.box_at (j := 0) rfl) rfl)
          have hf33 : (CFs ad29 [.int .i64 (at_ xat i2)]).1 w26 := cf30
          have hf34 : (CFs ad31 [.bool (at_ m.last (at_ xat i2))]).1 w26 := (CF.ghost ce31 (St.le0 S26))
          refine da_start [(1, CFs ⟨b1, 3, none⟩ [.slice A0_3 m.last.length c0_3]), (5, CFs ad29 [.int .i64 (at_ xat i2)]), (7, CFs ad31 [.bool (at_ m.last (at_ xat i2))])] 8 rfl mixed ?_
          intro wd35 gd35 hd35
          have S36 := S26.keep gd35
          have hf37 := (CFs ⟨b1, 3, none⟩ [.slice A0_3 m.last.length c0_3]).2 _ _ gd35 hf32
          have hf38 := (CFs ad29 [.int .i64 (at_ xat i2)]).2 _ _ gd35 hf33
          have hf39 := (CFs ad31 [.bool (at_ m.last (at_ xat i2))]).2 _ _ gd35 hf34
          refine d_q (i := 0) (v := .pointer (some ⟨b1, 3, none⟩)) (fun _ => True) (fun _ ho => trivial) rfl (by decide +kernel) (by decide +kernel) (by decide +kernel) rfl rfl (fun wq hq => (x_fieldAt fd27_3 ty25 rfl r26_2)) (of_ne rfl (of_ne rfl (of_ne rfl (of_nil _ _)))) ?_
          refine d_q (i := 1) (v := .slice A0_3 m.last.length c0_3) (CF ⟨b1, 3, none⟩ [.slice A0_3 m.last.length c0_3]) (fun _ ho => ho _ (List.mem_of_getElem? (i := 0) rfl) rfl) rfl (by decide +kernel) (by decide +kernel) (by decide +kernel) rfl rfl (fun wq hq => (x_load (seg := [.slice A0_3 m.last.length c0_3]) ty25 rfl (by simp) rfl hq)) (of_eq hf37 (of_ne rfl (of_ne rfl (of_nil _ _)))) ?_
          refine d_q (i := 2) (v := v_xat) (fun _ => True) (fun _ ho => trivial) rfl (by decide +kernel) (by decide +kernel) (by decide +kernel) rfl rfl (fun wq hq => (x_move r26_5)) (of_ne rfl (of_ne rfl (of_ne rfl (of_nil _ _)))) ?_
          refine d_q (i := 3) (v := .int .i64 i2) (fun _ => True) (fun _ ho => trivial) rfl (by decide +kernel) (by decide +kernel) (by decide +kernel) rfl rfl (fun wq hq => (x_move r26_7)) (of_ne rfl (of_ne rfl (of_ne rfl (of_nil _ _)))) ?_
          refine d_q (i := 4) (v := .pointer (some ad29)) (fun _ => True) (fun _ ho => trivial) rfl (by decide +kernel) (by decide +kernel) (by decide +kernel) rfl rfl (fun wq hq => (x_index_own u23 ty3 rfl rfl a29 (by first|omega|(simp;omega)|assumption) (by first|omega|(simp;omega)|assumption))) (of_ne rfl (of_ne rfl (of_ne rfl (of_nil _ _)))) ?_
          refine d_q (i := 5) (v := .int .i64 (at_ xat i2)) (CF ad29 [.int .i64 (at_ xat i2)]) (fun _ ho => ho _ (List.mem_of_getElem? (i := 1) rfl) rfl) rfl (by decide +kernel) (by decide +kernel) (by decide +kernel) rfl rfl (fun wq hq => (x_load (seg := [.int .i64 (at_ xat i2)]) ty3 rfl (by simp) rfl hq)) (of_ne rfl (of_eq hf38 (of_ne rfl (of_nil _ _)))) ?_
          refine d_q (i := 6) (v := .pointer (some ad31)) (fun _ => True) (fun _ ho => trivial) rfl (by decide +kernel) (by decide +kernel) (by decide +kernel) rfl rfl (fun wq hq => (x_index_ro u25 ty4 rfl rfl a31 (by first|omega|(simp;omega)|assumption) (by first|omega|(simp;omega)|assumption))) (of_ne rfl (of_ne rfl (of_ne rfl (of_nil _ _)))) ?_
          refine d_q (i := 7) (v := .bool (at_ m.last (at_ xat i2))) (CF ad31 [.bool (at_ m.last (at_ xat i2))]) (fun _ ho => ho _ (List.mem_of_getElem? (i := 2) rfl) rfl) rfl (by decide +kernel) (by decide +kernel) (by decide +kernel) rfl rfl (fun wq hq => (x_load (seg := [.bool (at_ m.last (at_ xat i2))]) ty4 rfl (by simp) rfl hq)) (of_ne rfl (of_ne rfl (of_eq hf39 (of_nil _ _)))) ?_
          refine ra_done (by decide +kernel) ?_
          intro wd40 gd40
          have S41 := S36.keep gd40
          refine run_cond_split (b := at_ m.last (at_ xat i2)) rfl (fun hc42 => ?_) (fun hc42 => ?_)
          · skip
            refine run_seq ?_
            refine run_reg (l := [0]) rfl ?_
            refine p_v (v := .bool true) rfl rfl rfl (x_assign rfl) ?_
            refine run_region_end ?_
            refine run_ret Try.func12 (res1 rfl (res_tmp (v := .bool true) rfl)) ?_
            have q0 : (runM m xw : Bool) = true := by
              first | exact run_wrong m xw (by assumption) | exact run_none m xw (by assumption) (by omega) | (rw [doc_some m xw (by assumption) (by omega) (i := i) (by omega) hI10.2.2]; exact last_yes m xat hI26.1 (by omega) (by assumption)) | (rw [doc_some m xw (by assumption) (by omega) (i := i) (by omega) hI10.2.2]; exact last_end m xat (by omega) hI26.2.2)
            refine ⟨_, rfl, h26, ?_, ?_⟩
            · exact S41.sub [] (by decide) rfl _ rfl
            · first | rfl | (simp only [q0]; rfl) | (simp only [q0])
          · skip
            refine run_skip ?_
            refine run_inBlock ?_
            refine run_reg (l := [0, 1, 2]) rfl ?_
            refine p_v (v := .int .i64 i2) rfl rfl rfl (x_move r26_7) ?_
            refine p_v (v := .int .i64 (i2 + 1)) rfl rfl rfl (x_add rfl rfl (in_i64 (by first|omega|(simp;omega)|assumption) (by first|omega|(simp;omega)|assumption))) ?_
            refine p_v (v := .int .i64 (i2 + 1)) rfl rfl rfl (x_assign rfl) ?_
            refine run_region_end ?_
            refine ih26 (i2 + 1) _ _ (by dsimp only; omega) ⟨h26, le26, S41.sub [0, 1] (by decide) rfl _ rfl, r26_2, r26_5, rfl, (in_i64 (by first|omega|(simp;omega)|assumption) (by first|omega|(simp;omega)|assumption)), (by exact ⟨by omega, by omega, last_step m xat hI26.1 (by omega) hI26.2.2 (by assumption)⟩)⟩
        · skip
          refine run_exit rfl ?_
          refine run_seq ?_
          refine run_reg (l := [0]) rfl ?_
          refine p_v (v := .bool false) rfl rfl rfl (x_assign rfl) ?_
          refine run_region_end ?_
          refine run_ret Try.func12 (res1 rfl (res_tmp (v := .bool false) rfl)) ?_
          have q0 : (runM m xw : Bool) = false := by
            first | exact run_wrong m xw (by assumption) | exact run_none m xw (by assumption) (by omega) | (rw [doc_some m xw (by assumption) (by omega) (i := i) (by omega) hI10.2.2]; exact last_yes m xat hI26.1 (by omega) (by assumption)) | (rw [doc_some m xw (by assumption) (by omega) (i := i) (by omega) hI10.2.2]; exact last_end m xat (by omega) hI26.2.2)
          refine ⟨_, rfl, h26, ?_, ?_⟩
          · exact S26.sub [] (by decide) rfl _ rfl
          · first | rfl | (simp only [q0]; rfl) | (simp only [q0])
theorem great_calls (w : World) (m : Mach) (A0_0 : Option Addr) (c0_0 : Nat) (b0_0 : m.spots.length ≤ c0_0 ∧ c0_0 ≤ maxLen) (l0_0 : Leads kSpot (hp w) A0_0 m.spots) (A0_1 : Option Addr) (c0_1 : Nat) (b0_1 : m.first.length ≤ c0_1 ∧ c0_1 ≤ maxLen) (l0_1 : Leads (Kd.int .i64) (hp w) A0_1 m.first) (A0_2 : Option Addr) (c0_2 : Nat) (b0_2 : m.follow.length ≤ c0_2 ∧ c0_2 ≤ maxLen) (l0_2 : Leads (Kd.int .i64).slice (hp w) A0_2 m.follow) (A0_3 : Option Addr) (c0_3 : Nat) (b0_3 : m.last.length ≤ c0_3 ∧ c0_3 ≤ maxLen) (l0_3 : Leads Kd.bool (hp w) A0_3 m.last) :
    Calls Try.prog 7 #[.agg #[.slice A0_0 m.spots.length c0_0, .slice A0_1 m.first.length c0_1, .slice A0_2 m.follow.length c0_2, .slice A0_3 m.last.length c0_3, .bool m.empty]] w fun e w' => ∃ v, e = .returned v ∧ ∃ (hn : Ghost), St w.heap.size w hn w' [] ∧ v = .bool (greatM m) := by
  refine calls_of_run Try.func7 rfl Try.ntmps7 rfl ?_
  have S0 := St.init w
  have bb0_0 := b0_0.1; have bc0_0 := b0_0.2; simp only [maxLen] at bc0_0
  have bb0_1 := b0_1.1; have bc0_1 := b0_1.2; simp only [maxLen] at bc0_1
  have bb0_2 := b0_2.1; have bc0_2 := b0_2.2; simp only [maxLen] at bc0_2
  have bb0_3 := b0_3.1; have bc0_3 := b0_3.2; simp only [maxLen] at bc0_3
  refine run_seq ?_
  refine run_reg (l := [0, 1]) rfl ?_
  obtain ⟨b1, w1, r1, g1, T1⟩ := e_box (P := Try.prog) S0 27 (v := .agg #[.slice A0_0 m.spots.length c0_0, .slice A0_1 m.first.length c0_1, .slice A0_2 m.follow.length c0_2, .slice A0_3 m.last.length c0_3, .bool m.empty]) [.slice A0_0 m.spots.length c0_0, .slice A0_1 m.first.length c0_1, .slice A0_2 m.follow.length c0_2, .slice A0_3 m.last.length c0_3, .bool m.empty] rfl
  have S2 : St w.heap.size w (fun _ => none) w1 [box b1 27 [.slice A0_0 m.spots.length c0_0, .slice A0_1 m.first.length c0_1, .slice A0_2 m.follow.length c0_2, .slice A0_3 m.last.length c0_3, .bool m.empty]] := T1
  refine p_v (v := .pointer (some ⟨b1, 0, none⟩)) rfl rfl rfl (x_box rfl r1) ?_
  refine p_v (v := .bool false) rfl rfl rfl (x_assign rfl) ?_
  refine run_region_end ?_
  refine run_seq ?_
  refine run_seq ?_
  refine run_reg (l := [0, 1, 2, 3, 4, 5, 6, 7, 8, 9, 10, 11, 12, 13, 14, 15, 16, 17, 18, 19, 20, 21]) rfl ?_
  refine p_v (v := .pointer (some ⟨b1, 0, none⟩)) rfl rfl rfl (x_fieldAt fd27_0 ty22 rfl rfl) ?_
  refine p_v (v := .slice A0_0 m.spots.length c0_0) rfl rfl rfl (x_load (seg := [.slice A0_0 m.spots.length c0_0]) ty22 rfl (by simp) rfl (CF.box (m := 1) (S2.box_at (j := 0) rfl) rfl)) ?_
  refine p_v (v := .int .i64 (m.spots.length : Int)) rfl rfl rfl (x_len_slice u22 rfl) ?_
  refine p_v (v := .bool (decide (60 < (m.spots.length : Int)))) rfl rfl rfl (x_gtr rfl rfl) ?_
  refine p_v (v := .bool (decide (60 < (m.spots.length : Int)))) rfl rfl rfl (x_move rfl) ?_
  by_cases hc3 : 60 < (m.spots.length : Int)
  · skip
    refine p_off rfl (wanted_of (j := 4) (want := false) (d := 8) (b := true) rfl rfl (congrArg Value.bool (decide_eq_true hc3)) rfl) rfl ?_
    refine p_off rfl (wanted_of (j := 4) (want := false) (d := 8) (b := true) rfl rfl (congrArg Value.bool (decide_eq_true hc3)) rfl) rfl ?_
    refine p_off rfl (wanted_of (j := 4) (want := false) (d := 8) (b := true) rfl rfl (congrArg Value.bool (decide_eq_true hc3)) rfl) rfl ?_
    refine p_off rfl (wanted_of (j := 4) (want := false) (d := 8) (b := true) rfl rfl (congrArg Value.bool (decide_eq_true hc3)) rfl) rfl ?_
    refine p_v (v := .bool true) rfl rfl rfl (x_pick_t (congrArg Value.bool (decide_eq_true hc3)) rfl) ?_
    refine p_v (v := .bool true) rfl rfl rfl (x_move rfl) ?_
    refine p_off rfl rfl rfl ?_
    refine p_off rfl rfl rfl ?_
    refine p_off rfl rfl rfl ?_
    refine p_off rfl rfl rfl ?_
    refine p_v (v := .bool true) rfl rfl rfl (x_pick_t rfl rfl) ?_
    refine p_v (v := .bool true) rfl rfl rfl (x_move rfl) ?_
    refine p_off rfl rfl rfl ?_
    refine p_off rfl rfl rfl ?_
    refine p_off rfl rfl rfl ?_
    refine p_off rfl rfl rfl ?_
    refine p_v (v := .bool true) rfl rfl rfl (x_pick_t rfl rfl) ?_
    refine run_region_end ?_
    refine run_cond (b := true) rfl ?_
    simp only [if_true, if_false, Bool.false_eq_true]
    refine run_seq ?_
    refine run_reg (l := [0]) rfl ?_
    refine p_v (v := .bool true) rfl rfl rfl (x_assign rfl) ?_
    refine run_region_end ?_
    refine run_ret Try.func7 (res1 rfl (res_tmp (v := .bool true) rfl)) ?_
    have q0 : (greatM m : Bool) = true := by
      first | exact great_1 m (by assumption) | exact great_2 m (by assumption) | exact great_3 m (by assumption) | exact great_4 m (by assumption) | exact great_5 m hI_.1 (by omega) (by assumption) | exact great_no m (by omega) (by assumption) (by assumption) (by assumption) (by assumption) hI_.2.2
    refine ⟨_, rfl, (fun _ => none), ?_, ?_⟩
    · exact S2.sub [] (by decide) rfl _ rfl
    · first | rfl | (simp only [q0]; rfl) | (simp only [q0])
  · skip
    refine p_v (v := .pointer (some ⟨b1, 2, none⟩)) rfl (wanted_of (j := 4) (want := false) (d := 8) (b := false) rfl rfl (congrArg Value.bool (decide_eq_false hc3)) rfl) rfl (x_fieldAt fd27_2 ty24 rfl rfl) ?_
    refine p_v (v := .slice A0_2 m.follow.length c0_2) rfl (wanted_of (j := 4) (want := false) (d := 8) (b := false) rfl rfl (congrArg Value.bool (decide_eq_false hc3)) rfl) rfl (x_load (seg := [.slice A0_2 m.follow.length c0_2]) ty24 rfl (by simp) rfl (CF.box (m := 1) (S2.box_at (j := 0) rfl) rfl)) ?_
    refine p_v (v := .int .i64 (m.follow.length : Int)) rfl (wanted_of (j := 4) (want := false) (d := 8) (b := false) rfl rfl (congrArg Value.bool (decide_eq_false hc3)) rfl) rfl (x_len_slice u24 rfl) ?_
    refine p_v (v := .bool (decide (60 < (m.follow.length : Int)))) rfl (wanted_of (j := 4) (want := false) (d := 8) (b := false) rfl rfl (congrArg Value.bool (decide_eq_false hc3)) rfl) rfl (x_gtr rfl rfl) ?_
    refine p_v (v := .bool (decide (60 < (m.follow.length : Int)))) rfl rfl rfl (x_pick_f (congrArg Value.bool (decide_eq_false hc3)) rfl) ?_
    refine p_v (v := .bool (decide (60 < (m.follow.length : Int)))) rfl rfl rfl (x_move rfl) ?_
    by_cases hc4 : 60 < (m.follow.length : Int)
    · skip
      refine p_off rfl (wanted_of (j := 10) (want := false) (d := 14) (b := true) rfl rfl (congrArg Value.bool (decide_eq_true hc4)) rfl) rfl ?_
      refine p_off rfl (wanted_of (j := 10) (want := false) (d := 14) (b := true) rfl rfl (congrArg Value.bool (decide_eq_true hc4)) rfl) rfl ?_
      refine p_off rfl (wanted_of (j := 10) (want := false) (d := 14) (b := true) rfl rfl (congrArg Value.bool (decide_eq_true hc4)) rfl) rfl ?_
      refine p_off rfl (wanted_of (j := 10) (want := false) (d := 14) (b := true) rfl rfl (congrArg Value.bool (decide_eq_true hc4)) rfl) rfl ?_
      refine p_v (v := .bool true) rfl rfl rfl (x_pick_t (congrArg Value.bool (decide_eq_true hc4)) rfl) ?_
      refine p_v (v := .bool true) rfl rfl rfl (x_move rfl) ?_
      refine p_off rfl rfl rfl ?_
      refine p_off rfl rfl rfl ?_
      refine p_off rfl rfl rfl ?_
      refine p_off rfl rfl rfl ?_
      refine p_v (v := .bool true) rfl rfl rfl (x_pick_t rfl rfl) ?_
      refine run_region_end ?_
      refine run_cond (b := true) rfl ?_
      simp only [if_true, if_false, Bool.false_eq_true]
      refine run_seq ?_
      refine run_reg (l := [0]) rfl ?_
      refine p_v (v := .bool true) rfl rfl rfl (x_assign rfl) ?_
      refine run_region_end ?_
      refine run_ret Try.func7 (res1 rfl (res_tmp (v := .bool true) rfl)) ?_
      have q0 : (greatM m : Bool) = true := by
        first | exact great_1 m (by assumption) | exact great_2 m (by assumption) | exact great_3 m (by assumption) | exact great_4 m (by assumption) | exact great_5 m hI_.1 (by omega) (by assumption) | exact great_no m (by omega) (by assumption) (by assumption) (by assumption) (by assumption) hI_.2.2
      refine ⟨_, rfl, (fun _ => none), ?_, ?_⟩
      · exact S2.sub [] (by decide) rfl _ rfl
      · first | rfl | (simp only [q0]; rfl) | (simp only [q0])
    · skip
      refine p_v (v := .pointer (some ⟨b1, 3, none⟩)) rfl (wanted_of (j := 10) (want := false) (d := 14) (b := false) rfl rfl (congrArg Value.bool (decide_eq_false hc4)) rfl) rfl (x_fieldAt fd27_3 ty25 rfl rfl) ?_
      refine p_v (v := .slice A0_3 m.last.length c0_3) rfl (wanted_of (j := 10) (want := false) (d := 14) (b := false) rfl rfl (congrArg Value.bool (decide_eq_false hc4)) rfl) rfl (x_load (seg := [.slice A0_3 m.last.length c0_3]) ty25 rfl (by simp) rfl (CF.box (m := 1) (S2.box_at (j := 0) rfl) rfl)) ?_
      refine p_v (v := .int .i64 (m.last.length : Int)) rfl (wanted_of (j := 10) (want := false) (d := 14) (b := false) rfl rfl (congrArg Value.bool (decide_eq_false hc4)) rfl) rfl (x_len_slice u25 rfl) ?_
      refine p_v (v := .bool (decide (60 < (m.last.length : Int)))) rfl (wanted_of (j := 10) (want := false) (d := 14) (b := false) rfl rfl (congrArg Value.bool (decide_eq_false hc4)) rfl) rfl (x_gtr rfl rfl) ?_
      refine p_v (v := .bool (decide (60 < (m.last.length : Int)))) rfl rfl rfl (x_pick_f (congrArg Value.bool (decide_eq_false hc4)) rfl) ?_
      refine p_v (v := .bool (decide (60 < (m.last.length : Int)))) rfl rfl rfl (x_move rfl) ?_
      by_cases hc5 : 60 < (m.last.length : Int)
      · skip
        refine p_off rfl (wanted_of (j := 16) (want := false) (d := 20) (b := true) rfl rfl (congrArg Value.bool (decide_eq_true hc5)) rfl) rfl ?_
        refine p_off rfl (wanted_of (j := 16) (want := false) (d := 20) (b := true) rfl rfl (congrArg Value.bool (decide_eq_true hc5)) rfl) rfl ?_
        refine p_off rfl (wanted_of (j := 16) (want := false) (d := 20) (b := true) rfl rfl (congrArg Value.bool (decide_eq_true hc5)) rfl) rfl ?_
        refine p_off rfl (wanted_of (j := 16) (want := false) (d := 20) (b := true) rfl rfl (congrArg Value.bool (decide_eq_true hc5)) rfl) rfl ?_
        refine p_v (v := .bool true) rfl rfl rfl (x_pick_t (congrArg Value.bool (decide_eq_true hc5)) rfl) ?_
        refine run_region_end ?_
        refine run_cond (b := true) rfl ?_
        simp only [if_true, if_false, Bool.false_eq_true]
        refine run_seq ?_
        refine run_reg (l := [0]) rfl ?_
        refine p_v (v := .bool true) rfl rfl rfl (x_assign rfl) ?_
        refine run_region_end ?_
        refine run_ret Try.func7 (res1 rfl (res_tmp (v := .bool true) rfl)) ?_
        have q0 : (greatM m : Bool) = true := by
          first | exact great_1 m (by assumption) | exact great_2 m (by assumption) | exact great_3 m (by assumption) | exact great_4 m (by assumption) | exact great_5 m hI_.1 (by omega) (by assumption) | exact great_no m (by omega) (by assumption) (by assumption) (by assumption) (by assumption) hI_.2.2
        refine ⟨_, rfl, (fun _ => none), ?_, ?_⟩
        · exact S2.sub [] (by decide) rfl _ rfl
        · first | rfl | (simp only [q0]; rfl) | (simp only [q0])
      · skip
        refine p_v (v := .pointer (some ⟨b1, 1, none⟩)) rfl (wanted_of (j := 16) (want := false) (d := 20) (b := false) rfl rfl (congrArg Value.bool (decide_eq_false hc5)) rfl) rfl (x_fieldAt fd27_1 ty23 rfl rfl) ?_
        refine p_v (v := .slice A0_1 m.first.length c0_1) rfl (wanted_of (j := 16) (want := false) (d := 20) (b := false) rfl rfl (congrArg Value.bool (decide_eq_false hc5)) rfl) rfl (x_load (seg := [.slice A0_1 m.first.length c0_1]) ty23 rfl (by simp) rfl (CF.box (m := 1) (S2.box_at (j := 0) rfl) rfl)) ?_
        refine p_v (v := .int .i64 (m.first.length : Int)) rfl (wanted_of (j := 16) (want := false) (d := 20) (b := false) rfl rfl (congrArg Value.bool (decide_eq_false hc5)) rfl) rfl (x_len_slice u23 rfl) ?_
        refine p_v (v := .bool (decide (60 < (m.first.length : Int)))) rfl (wanted_of (j := 16) (want := false) (d := 20) (b := false) rfl rfl (congrArg Value.bool (decide_eq_false hc5)) rfl) rfl (x_gtr rfl rfl) ?_
        refine p_v (v := .bool (decide (60 < (m.first.length : Int)))) rfl rfl rfl (x_pick_f (congrArg Value.bool (decide_eq_false hc5)) rfl) ?_
        refine run_region_end ?_
        refine run_cond_prop (p := 60 < (m.first.length : Int)) rfl (fun hc6 => ?_) (fun hc6 => ?_)
        · skip
          refine run_seq ?_
          refine run_reg (l := [0]) rfl ?_
          refine p_v (v := .bool true) rfl rfl rfl (x_assign rfl) ?_
          refine run_region_end ?_
          refine run_ret Try.func7 (res1 rfl (res_tmp (v := .bool true) rfl)) ?_
          have q0 : (greatM m : Bool) = true := by
            first | exact great_1 m (by assumption) | exact great_2 m (by assumption) | exact great_3 m (by assumption) | exact great_4 m (by assumption) | exact great_5 m hI_.1 (by omega) (by assumption) | exact great_no m (by omega) (by assumption) (by assumption) (by assumption) (by assumption) hI_.2.2
          refine ⟨_, rfl, (fun _ => none), ?_, ?_⟩
          · exact S2.sub [] (by decide) rfl _ rfl
          · first | rfl | (simp only [q0]; rfl) | (simp only [q0])
        · skip
          refine run_skip ?_
          refine run_seq ?_
          refine run_seq ?_
          refine run_reg (l := [0]) rfl ?_
          refine p_v (v := .int .i64 0) rfl rfl rfl (x_assign rfl) ?_
          refine run_region_end ?_
          refine run_block ?_
          refine run_loop (S := Int) (fun (q_ : Int) ρ w' => match q_ with | i => ∃ (h : Ghost), Le (fun _ => none) h ∧ St w.heap.size w h w' [box b1 27 [.slice A0_0 m.spots.length c0_0, .slice A0_1 m.first.length c0_1, .slice A0_2 m.follow.length c0_2, .slice A0_3 m.last.length c0_3, .bool m.empty]] ∧ ρ 1 = .pointer (some ⟨b1, 0, none⟩) ∧ ρ 3 = .int .i64 i ∧ inK .i64 i ∧ (0 ≤ i ∧ i ≤ (m.follow.length : Int) ∧ greatTo m i = false)) (fun q_ => match q_ with | i => (m.follow.length - i).toNat) (0) ⟨(fun _ => none), Le.refl _, S2.sub [0] (by decide) rfl _ rfl, rfl, rfl, (in_i64 (by first|omega|(simp;omega)|assumption) (by first|omega|(simp;omega)|assumption)), (by exact ⟨by omega, by omega, great_0 _⟩)⟩ ?_
          rintro i ih7 ρ7 w7 ⟨h7, le7, S7, r7_1, r7_3, f7_0, hI7⟩
          have lf7_0 := i64_lo f7_0; have hf7_0 := i64_hi f7_0
          refine run_seq ?_
          refine run_seq ?_
          refine run_reg (l := [0, 1, 2, 3, 4]) rfl ?_
          refine p_v (v := .int .i64 i) rfl rfl rfl (x_move r7_3) ?_
          refine p_v (v := .pointer (some ⟨b1, 2, none⟩)) rfl rfl rfl (x_fieldAt fd27_2 ty24 rfl r7_1) ?_
          refine p_v (v := .slice A0_2 m.follow.length c0_2) rfl rfl rfl (x_load (seg := [.slice A0_2 m.follow.length c0_2]) ty24 rfl (by simp) rfl (CF.box (m := 1) (S7.box_at (j := 0) rfl) rfl)) ?_
          refine p_v (v := .int .i64 (m.follow.length : Int)) rfl rfl rfl (x_len_slice u24 rfl) ?_
          refine p_v (v := .bool (decide (i < (m.follow.length : Int)))) rfl rfl rfl (x_lss rfl rfl) ?_
          refine run_region_end ?_
          refine run_cond_prop (p := i < (m.follow.length : Int)) rfl (fun hc8 => ?_) (fun hc8 => ?_)
          · skip
            refine run_skip ?_
            refine run_seq ?_
            refine run_block ?_
            refine run_seq ?_
            refine run_reg (l := [0, 1, 2, 3, 4, 5, 6]) rfl ?_
            refine p_v (v := .pointer (some ⟨b1, 2, none⟩)) rfl rfl rfl (x_fieldAt fd27_2 ty24 rfl r7_1) ?_
            refine p_v (v := .slice A0_2 m.follow.length c0_2) rfl rfl rfl (x_load (seg := [.slice A0_2 m.follow.length c0_2]) ty24 rfl (by simp) rfl (CF.box (m := 1) (S7.box_at (j := 0) rfl) rfl)) ?_
            refine p_v (v := .int .i64 i) rfl rfl rfl (x_move r7_3) ?_
            obtain ⟨ad9, seg9, a9, rp9, ce9⟩ := e_index_ro (q := i) (m := 1) l0_2 rfl (by first|omega|(simp;omega)|assumption) (by first|omega|(simp;omega)|assumption)
            refine p_v (v := .pointer (some ad9)) rfl rfl rfl (x_index_ro u24 ty23 rfl rfl a9 (by first|omega|(simp;omega)|assumption) (by first|omega|(simp;omega)|assumption)) ?_
            obtain ⟨A9, c9, rfl, lc9, cm9, ld9⟩ := rp9
            have cn9 := cm9; simp only [maxLen] at cn9
            refine p_v (v := .slice A9 (at_ m.follow i).length c9) rfl rfl rfl (x_load (seg := [.slice A9 (at_ m.follow i).length c9]) ty23 rfl (by simp) rfl (CF.ghost ce9 (St.le0 S7))) ?_
            refine p_v (v := .int .i64 ((at_ m.follow i).length : Int)) rfl rfl rfl (x_len_slice u23 rfl) ?_
            refine p_v (v := .bool (decide (60 < ((at_ m.follow i).length : Int)))) rfl rfl rfl (x_gtr rfl rfl) ?_
            refine run_region_end ?_
            refine run_cond_prop (p := 60 < ((at_ m.follow i).length : Int)) rfl (fun hc10 => ?_) (fun hc10 => ?_)
            · skip
              refine run_seq ?_
              refine run_reg (l := [0]) rfl ?_
              refine p_v (v := .bool true) rfl rfl rfl (x_assign rfl) ?_
              refine run_region_end ?_
              refine run_ret Try.func7 (res1 rfl (res_tmp (v := .bool true) rfl)) ?_
              have q0 : (greatM m : Bool) = true := by
                first | exact great_1 m (by assumption) | exact great_2 m (by assumption) | exact great_3 m (by assumption) | exact great_4 m (by assumption) | exact great_5 m hI7.1 (by omega) (by assumption) | exact great_no m (by omega) (by assumption) (by assumption) (by assumption) (by assumption) hI7.2.2
              refine ⟨_, rfl, h7, ?_, ?_⟩
              · exact S7.sub [] (by decide) rfl _ rfl
              · first | rfl | (simp only [q0]; rfl) | (simp only [q0])
            · skip
              refine run_skip ?_
              refine run_inBlock ?_
              refine run_reg (l := [0, 1, 2]) rfl ?_
              refine p_v (v := .int .i64 i) rfl rfl rfl (x_move r7_3) ?_
              refine p_v (v := .int .i64 (i + 1)) rfl rfl rfl (x_add rfl rfl (in_i64 (by first|omega|(simp;omega)|assumption) (by first|omega|(simp;omega)|assumption))) ?_
              refine p_v (v := .int .i64 (i + 1)) rfl rfl rfl (x_assign rfl) ?_
              refine run_region_end ?_
              refine ih7 (i + 1) _ _ (by dsimp only; omega) ⟨h7, le7, S7.sub [0] (by decide) rfl _ rfl, r7_1, rfl, (in_i64 (by first|omega|(simp;omega)|assumption) (by first|omega|(simp;omega)|assumption)), (by exact ⟨by omega, by omega, great_step m hI7.1 (by omega) hI7.2.2 (by assumption)⟩)⟩
          · skip
            refine run_exit rfl ?_
            refine run_seq ?_
            refine run_reg (l := [0]) rfl ?_
            refine p_v (v := .bool false) rfl rfl rfl (x_assign rfl) ?_
            refine run_region_end ?_
            refine run_ret Try.func7 (res1 rfl (res_tmp (v := .bool false) rfl)) ?_
            have q0 : (greatM m : Bool) = false := by
              first | exact great_1 m (by assumption) | exact great_2 m (by assumption) | exact great_3 m (by assumption) | exact great_4 m (by assumption) | exact great_5 m hI7.1 (by omega) (by assumption) | exact great_no m (by omega) (by assumption) (by assumption) (by assumption) (by assumption) hI7.2.2
            refine ⟨_, rfl, h7, ?_, ?_⟩
            · exact S7.sub [] (by decide) rfl _ rfl
            · first | rfl | (simp only [q0]; rfl) | (simp only [q0])
end Go.Proofs.Ytlcmimjdnhjeoaa
