/- Functions of this translation, each walked once; no conditions but those that each contract tells. -/
import Derived.Test.YtdfkpjchnndniaaDoorTB
import Derived.Test.YtdfkpjchnndniaaDoorM6
import Derived.Test.YtdfkpjchnndniaaDoorM7
import Derived.Test.YtdfkpjchnndniaaDoorQB
import Derived.Test.YtdfkpjchnndniaaDoorTzB
import Derived.Test.YtdfkpjchnndniaaDoorN2
import Derived.Test.YtdfkpjchnndniaaDoorK1B
import Derived.Test.YtdfkpjchnndniaaDoorN3
import Derived.Test.YtdfkpjchnndniaaDoorM11
import Derived.Test.YtdfkpjchnndniaaDoorN5
import Derived.Test.YtdfkpjchnndniaaDoorNB
namespace Go.Proofs.YtdfkpjchnndniaaDoor
open Go Go.RowKit Gx
set_option maxHeartbeats 1000000
set_option linter.unusedVariables false
set_option linter.unusedSimpArgs false
attribute [local irreducible] members pack listOf count first someIn has setOf setRange wbits Lib.ctz rises rightM rowOk tab markP intoP intoTo behindP behindTo behindIn runTo endsIn endTo runM posTo mayP stepIf stepP mayTo atP lastTo greatM greatTo docAt anyTo allTo numAt numsL numsIn leftN kept lefts spotsTo lastTp followTo trimM errM comeM goesM keepM lfp seekN seekB fullS

theorem cloneI_calls (w : World) (s : List Int) (A0 : Option Addr) (c0 : Nat) (b0 : s.length ≤ c0 ∧ c0 ≤ maxLen) (l0 : Leads (Kd.int .i64) (hp w) A0 s) (pre0 : s.length ≤ 1000000) :
    Calls Tryd.prog 40 #[.slice A0 s.length c0] w fun e w' => ∃ v, e = .returned v ∧ ∃ (hn : Ghost) (r0 : Value), St w.heap.size w hn w' [row 3 (Kd.int .i64) r0 s] ∧ v = r0 := by
  refine calls_of_run Tryd.func40 rfl Tryd.ntmps40 rfl ?_
  have S0 := St.init w
  have bb0 := b0.1; have bc0 := b0.2; simp only [maxLen] at bc0
  refine run_seq ?_
  refine run_reg (l := [0]) rfl ?_
  refine p_v (v := .slice none 0 0) rfl rfl rfl (x_assign rfl) ?_
  refine run_region_end ?_
  refine run_seq ?_
  refine run_seq ?_
  refine run_reg (l := [0, 1]) rfl ?_
  refine p_v (v := .slice A0 s.length c0) rfl rfl rfl (x_move rfl) ?_
  refine p_v (v := .bool A0.isNone) rfl rfl rfl (x_eql_nil u23 rfl rfl) ?_
  refine run_region_end ?_
  refine run_cond_split (b := A0.isNone) rfl (fun hc1 => ?_) (fun hc1 => ?_)
  · skip
    have hnil := leads_isNone l0 hc1
    refine run_seq ?_
    refine run_reg (l := [0]) rfl ?_
    refine p_v (v := .slice none 0 0) rfl rfl rfl (x_assign rfl) ?_
    refine run_region_end ?_
    have T2 := S0.row_nil 3 (Kd.int .i64)
    have S3 : St w.heap.size w (fun _ => none) w [row 3 (Kd.int .i64) (.slice none 0 0) ([] : List Int)] := T2
    refine run_ret Tryd.func40 (res1 rfl (res_tmp (v := .slice none 0 0) rfl)) ?_
    have q0 : (s : List Int) = ([] : List Int) := by
      exact hnil
    refine ⟨_, rfl, (fun _ => none), (.slice none 0 0), ?_, ?_⟩
    · rw [q0]; exact S3.sub [0] (by decide) rfl _ rfl
    · first | rfl | (simp only [q0]; rfl) | (simp only [q0])
  · skip
    refine run_skip ?_
    refine run_seq ?_
    refine run_reg (l := [0, 1, 2, 3]) rfl ?_
    obtain ⟨v4, w4, r4, g4, T4⟩ := e_build_ones (kd := (Kd.int .i64)) (xs := ([] : List Int)) (len := 0) [] S0 u23 ty3 rfl rfl rfl rfl rfl ones_nil [] (Elems.nil _ _) rfl
    have S5 : St w.heap.size w (fun _ => none) w4 [row 3 (Kd.int .i64) v4 ([] : List Int)] := T4
    refine p_v (v := v4) rfl rfl rfl (y_build_slice (pv := []) rfl r4) ?_
    refine p_v (v := .slice A0 s.length c0) rfl rfl rfl (x_move rfl) ?_
    obtain ⟨v7, w7, r7, g7, T7⟩ := e_append (kd := (Kd.int .i64)) (A := A0) (c := c0) (ys := s) (len := s.length) 23 S5 u23 ty3 rfl rfl (j := 0) rfl rfl (news_flat (l0.mono (St.le0 S5)) (fun _ _ hr => hr)) (by first|omega|(simp;omega)|assumption) (by first|omega|(simp;omega)|assumption)
    have S8 : St w.heap.size w (fun _ => none) w7 [row 3 (Kd.int .i64) v7 (([] : List Int) ++ s)] := T7
    refine p_v (v := v7) rfl rfl rfl (x_append rfl rfl r7) ?_
    refine p_v (v := v7) rfl rfl rfl (x_assign rfl) ?_
    refine run_region_end ?_
    refine run_ret Tryd.func40 (res1 rfl (res_tmp (v := v7) rfl)) ?_
    have q0 : (s : List Int) = ([] : List Int) ++ s := by
      rfl
    refine ⟨_, rfl, (fun _ => none), v7, ?_, ?_⟩
    · rw [q0]; exact S8.sub [0] (by decide) rfl _ rfl
    · first | rfl | (simp only [q0]; rfl) | (simp only [q0])
theorem equalS_calls (w : World) (s1 : List Spot) (A0 : Option Addr) (c0 : Nat) (b0 : s1.length ≤ c0 ∧ c0 ≤ maxLen) (l0 : Leads kSpot (hp w) A0 s1) (s2 : List Spot) (A1 : Option Addr) (c1 : Nat) (b1 : s2.length ≤ c1 ∧ c1 ≤ maxLen) (l1 : Leads kSpot (hp w) A1 s2) :
    Calls Tryd.prog 21 #[.slice A0 s1.length c0, .slice A1 s2.length c1] w fun e w' => ∃ v, e = .returned v ∧ ∃ (hn : Ghost), St w.heap.size w hn w' [] ∧ v = .bool (decide (s1 = s2)) := by
  refine calls_of_run Tryd.func21 rfl Tryd.ntmps21 rfl ?_
  have S0 := St.init w
  have bb0 := b0.1; have bc0 := b0.2; simp only [maxLen] at bc0
  have bb1 := b1.1; have bc1 := b1.2; simp only [maxLen] at bc1
  refine run_seq ?_
  refine run_reg (l := [0]) rfl ?_
  refine p_v (v := .bool false) rfl rfl rfl (x_assign rfl) ?_
  refine run_region_end ?_
  refine run_seq ?_
  refine run_seq ?_
  refine run_reg (l := [0, 1, 2, 3, 4]) rfl ?_
  refine p_v (v := .slice A0 s1.length c0) rfl rfl rfl (x_move rfl) ?_
  refine p_v (v := .int .i64 (s1.length : Int)) rfl rfl rfl (x_len_slice u22 rfl) ?_
  refine p_v (v := .slice A1 s2.length c1) rfl rfl rfl (x_move rfl) ?_
  refine p_v (v := .int .i64 (s2.length : Int)) rfl rfl rfl (x_len_slice u22 rfl) ?_
  refine p_v (v := .bool (decide ((s1.length : Int) ≠ (s2.length : Int)))) rfl rfl rfl (x_neq rfl rfl) ?_
  refine run_region_end ?_
  refine run_cond_prop (p := (s1.length : Int) ≠ (s2.length : Int)) rfl (fun hc1 => ?_) (fun hc1 => ?_)
  · skip
    refine run_seq ?_
    refine run_reg (l := [0]) rfl ?_
    refine p_v (v := .bool false) rfl rfl rfl (x_assign rfl) ?_
    refine run_region_end ?_
    refine run_ret Tryd.func21 (res1 rfl (res_tmp (v := .bool false) rfl)) ?_
    have q0 : (decide (s1 = s2) : Bool) = false := by
      first | exact eq_no1 (by assumption) | exact eq_no2 (t := t13) (by assumption) | exact eq_yes (t := t13) (by omega) (by omega) hI_.2.2
    refine ⟨_, rfl, (fun _ => none), ?_, ?_⟩
    · exact S0.sub [] (by decide) rfl _ rfl
    · first | rfl | (simp only [q0]; rfl) | (simp only [q0])
  · skip
    refine run_skip ?_
    refine run_seq ?_
    refine run_seq ?_
    refine run_reg (l := [0, 1, 2]) rfl ?_
    refine p_v (v := .slice A0 s1.length c0) rfl rfl rfl (x_move rfl) ?_
    refine p_v (v := .int .i64 (s1.length : Int)) rfl rfl rfl (x_len_slice u22 rfl) ?_
    refine p_v (v := .int .i64 0) rfl rfl rfl (x_move rfl) ?_
    refine run_region_end ?_
    refine run_block ?_
    refine run_loop (S := Int) (fun (q_ : Int) ρ w' => match q_ with | t13 => ∃ (h : Ghost), Le (fun _ => none) h ∧ St w.heap.size w h w' [] ∧ ρ 0 = .slice A0 s1.length c0 ∧ ρ 1 = .slice A1 s2.length c1 ∧ ρ 12 = .int .i64 (s1.length : Int) ∧ ρ 13 = .int .i64 t13 ∧ inK .i64 t13 ∧ (0 ≤ t13 ∧ t13 ≤ (s1.length : Int) ∧ s1.take t13.toNat = s2.take t13.toNat)) (fun q_ => match q_ with | t13 => (s1.length - t13).toNat) (0) ⟨(fun _ => none), Le.refl _, S0.sub [] (by decide) rfl _ rfl, rfl, rfl, rfl, rfl, (in_i64 (by first|omega|(simp;omega)|assumption) (by first|omega|(simp;omega)|assumption)), (by exact ⟨by omega, by omega, rfl⟩)⟩ ?_
    rintro t13 ih2 ρ2 w2 ⟨h2, le2, S2, r2_0, r2_1, r2_12, r2_13, f2_0, hI2⟩
    have lf2_0 := i64_lo f2_0; have hf2_0 := i64_hi f2_0
    refine run_seq ?_
    refine run_reg (l := [0]) rfl ?_
    refine p_v (v := .bool (decide (t13 < (s1.length : Int)))) rfl rfl rfl (x_lss r2_13 r2_12) ?_
    refine run_region_end ?_
    refine run_seq ?_
    refine run_cond_prop (p := t13 < (s1.length : Int)) rfl (fun hc3 => ?_) (fun hc3 => ?_)
    · skip
      refine run_skip ?_
      refine run_seq ?_
      refine run_block ?_
      refine run_seq ?_
      refine run_reg (l := [0, 1]) rfl ?_
      refine p_v (v := .int .i64 t13) rfl rfl rfl (x_move r2_13) ?_
      refine p_v (v := .int .i64 t13) rfl rfl rfl (x_assign rfl) ?_
      refine run_region_end ?_
      refine run_seq ?_
      obtain ⟨ad4, seg4, a4, rp4, ce4⟩ := e_index_ro (q := t13) (m := 5) l0 rfl (by first|omega|(simp;omega)|assumption) (by first|omega|(simp;omega)|assumption)
      obtain ⟨rfl, ok4⟩ := rp4
      have slook4 := u8_lo ok4; have shiok4 := u8_hi ok4
      obtain ⟨ad5, seg5, a5, rp5, ce5⟩ := e_index_ro (q := t13) (m := 5) l1 rfl (by first|omega|(simp;omega)|assumption) (by first|omega|(simp;omega)|assumption)
      obtain ⟨rfl, ok5⟩ := rp5
      have slook5 := u8_lo ok5; have shiok5 := u8_hi ok5
      have hf6 : (CFs ad4 (encSpot (at_ s1 t13))).1 w2 := (CF.ghost ce4 (St.le0 S2))
      have hf7 : (CFs ad5 (encSpot (at_ s2 t13))).1 w2 := (CF.ghost ce5 (St.le0 S2))
      refine da_start [(3, CFs ad4 (encSpot (at_ s1 t13))), (7, CFs ad5 (encSpot (at_ s2 t13)))] 9 rfl mixed ?_
      intro wd8 gd8 hd8
      have S9 := S2.keep gd8
      have hf10 := (CFs ad4 (encSpot (at_ s1 t13))).2 _ _ gd8 hf6
      have hf11 := (CFs ad5 (encSpot (at_ s2 t13))).2 _ _ gd8 hf7
      refine d_q (i := 0) (v := .slice A0 s1.length c0) (fun _ => True) (fun _ ho => trivial) rfl (by decide +kernel) (by decide +kernel) (by decide +kernel) rfl rfl (fun wq hq => (x_move r2_0)) (of_ne rfl (of_ne rfl (of_nil _ _))) ?_
      refine d_q (i := 1) (v := .int .i64 t13) (fun _ => True) (fun _ ho => trivial) rfl (by decide +kernel) (by decide +kernel) (by decide +kernel) rfl rfl (fun wq hq => (x_move rfl)) (of_ne rfl (of_ne rfl (of_nil _ _))) ?_
      refine d_q (i := 2) (v := .pointer (some ad4)) (fun _ => True) (fun _ ho => trivial) rfl (by decide +kernel) (by decide +kernel) (by decide +kernel) rfl rfl (fun wq hq => (x_index_ro u22 ty55 rfl rfl a4 (by first|omega|(simp;omega)|assumption) (by first|omega|(simp;omega)|assumption))) (of_ne rfl (of_ne rfl (of_nil _ _))) ?_
      refine d_q (i := 3) (v := .agg (encSpot (at_ s1 t13)).toArray) (CF ad4 (encSpot (at_ s1 t13))) (fun _ ho => ho _ (List.mem_of_getElem? (i := 0) rfl) rfl) rfl (by decide +kernel) (by decide +kernel) (by decide +kernel) rfl rfl (fun wq hq => (x_load (seg := (encSpot (at_ s1 t13))) ty55 rfl (by simp) rfl hq)) (of_eq hf10 (of_ne rfl (of_nil _ _))) ?_
      refine d_q (i := 4) (v := .slice A1 s2.length c1) (fun _ => True) (fun _ ho => trivial) rfl (by decide +kernel) (by decide +kernel) (by decide +kernel) rfl rfl (fun wq hq => (x_move r2_1)) (of_ne rfl (of_ne rfl (of_nil _ _))) ?_
      refine d_q (i := 5) (v := .int .i64 t13) (fun _ => True) (fun _ ho => trivial) rfl (by decide +kernel) (by decide +kernel) (by decide +kernel) rfl rfl (fun wq hq => (x_move rfl)) (of_ne rfl (of_ne rfl (of_nil _ _))) ?_
      refine d_q (i := 6) (v := .pointer (some ad5)) (fun _ => True) (fun _ ho => trivial) rfl (by decide +kernel) (by decide +kernel) (by decide +kernel) rfl rfl (fun wq hq => (x_index_ro u22 ty55 rfl rfl a5 (by first|omega|(simp;omega)|assumption) (by first|omega|(simp;omega)|assumption))) (of_ne rfl (of_ne rfl (of_nil _ _))) ?_
      refine d_q (i := 7) (v := .agg (encSpot (at_ s2 t13)).toArray) (CF ad5 (encSpot (at_ s2 t13))) (fun _ ho => ho _ (List.mem_of_getElem? (i := 1) rfl) rfl) rfl (by decide +kernel) (by decide +kernel) (by decide +kernel) rfl rfl (fun wq hq => (x_load (seg := (encSpot (at_ s2 t13))) ty55 rfl (by simp) rfl hq)) (of_ne rfl (of_eq hf11 (of_nil _ _))) ?_
      refine d_q (i := 8) (v := .bool (decide ((at_ s1 t13) ≠ (at_ s2 t13)))) (fun _ => True) (fun _ ho => trivial) rfl (by decide +kernel) (by decide +kernel) (by decide +kernel) rfl rfl (fun wq hq => (x_neq_agg eqk55 ok4 ok5 q55 rfl rfl)) (of_ne rfl (of_ne rfl (of_nil _ _))) ?_
      refine ra_done (by decide +kernel) ?_
      intro wd12 gd12
      have S13 := S9.keep gd12
      refine run_cond_prop (p := (at_ s1 t13) ≠ (at_ s2 t13)) rfl (fun hc14 => ?_) (fun hc14 => ?_)
      · skip
        refine run_seq ?_
        refine run_reg (l := [0]) rfl ?_
        refine p_v (v := .bool false) rfl rfl rfl (x_assign rfl) ?_
        refine run_region_end ?_
        refine run_ret Tryd.func21 (res1 rfl (res_tmp (v := .bool false) rfl)) ?_
        have q0 : (decide (s1 = s2) : Bool) = false := by
          first | exact eq_no1 (by assumption) | exact eq_no2 (t := t13) (by assumption) | exact eq_yes (t := t13) (by omega) (by omega) hI2.2.2
        refine ⟨_, rfl, h2, ?_, ?_⟩
        · exact S13.sub [] (by decide) rfl _ rfl
        · first | rfl | (simp only [q0]; rfl) | (simp only [q0])
      · skip
        refine run_skip ?_
        refine run_inBlock ?_
        refine run_reg (l := [0, 1]) rfl ?_
        refine p_v (v := .int .i64 (t13 + 1)) rfl rfl rfl (x_add r2_13 rfl (in_i64 (by first|omega|(simp;omega)|assumption) (by first|omega|(simp;omega)|assumption))) ?_
        refine p_v (v := .int .i64 (t13 + 1)) rfl rfl rfl (x_move rfl) ?_
        refine run_region_end ?_
        refine ih2 (t13 + 1) _ _ (by dsimp only; omega) ⟨h2, le2, S13.sub [] (by decide) rfl _ rfl, r2_0, r2_1, r2_12, rfl, (in_i64 (by first|omega|(simp;omega)|assumption) (by first|omega|(simp;omega)|assumption)), (by exact ⟨by omega, by omega, eq_step hI2.1 (by omega) (by omega) hI2.2.2 (by first | exact Decidable.not_not.1 (by assumption) | exact of_decide_eq_true (by assumption))⟩)⟩
    · skip
      refine run_exit rfl ?_
      refine run_seq ?_
      refine run_reg (l := [0]) rfl ?_
      refine p_v (v := .bool true) rfl rfl rfl (x_assign rfl) ?_
      refine run_region_end ?_
      refine run_ret Tryd.func21 (res1 rfl (res_tmp (v := .bool true) rfl)) ?_
      have q0 : (decide (s1 = s2) : Bool) = true := by
        first | exact eq_no1 (by assumption) | exact eq_no2 (t := t13) (by assumption) | exact eq_yes (t := t13) (by omega) (by omega) hI2.2.2
      refine ⟨_, rfl, h2, ?_, ?_⟩
      · exact S2.sub [] (by decide) rfl _ rfl
      · first | rfl | (simp only [q0]; rfl) | (simp only [q0])
theorem equalI_calls (w : World) (s1 : List Int) (A0 : Option Addr) (c0 : Nat) (b0 : s1.length ≤ c0 ∧ c0 ≤ maxLen) (l0 : Leads (Kd.int .i64) (hp w) A0 s1) (s2 : List Int) (A1 : Option Addr) (c1 : Nat) (b1 : s2.length ≤ c1 ∧ c1 ≤ maxLen) (l1 : Leads (Kd.int .i64) (hp w) A1 s2) :
    Calls Tryd.prog 22 #[.slice A0 s1.length c0, .slice A1 s2.length c1] w fun e w' => ∃ v, e = .returned v ∧ ∃ (hn : Ghost), St w.heap.size w hn w' [] ∧ v = .bool (decide (s1 = s2)) := by
  refine calls_of_run Tryd.func22 rfl Tryd.ntmps22 rfl ?_
  have S0 := St.init w
  have bb0 := b0.1; have bc0 := b0.2; simp only [maxLen] at bc0
  have bb1 := b1.1; have bc1 := b1.2; simp only [maxLen] at bc1
  refine run_seq ?_
  refine run_reg (l := [0]) rfl ?_
  refine p_v (v := .bool false) rfl rfl rfl (x_assign rfl) ?_
  refine run_region_end ?_
  refine run_seq ?_
  refine run_seq ?_
  refine run_reg (l := [0, 1, 2, 3, 4]) rfl ?_
  refine p_v (v := .slice A0 s1.length c0) rfl rfl rfl (x_move rfl) ?_
  refine p_v (v := .int .i64 (s1.length : Int)) rfl rfl rfl (x_len_slice u23 rfl) ?_
  refine p_v (v := .slice A1 s2.length c1) rfl rfl rfl (x_move rfl) ?_
  refine p_v (v := .int .i64 (s2.length : Int)) rfl rfl rfl (x_len_slice u23 rfl) ?_
  refine p_v (v := .bool (decide ((s1.length : Int) ≠ (s2.length : Int)))) rfl rfl rfl (x_neq rfl rfl) ?_
  refine run_region_end ?_
  refine run_cond_prop (p := (s1.length : Int) ≠ (s2.length : Int)) rfl (fun hc1 => ?_) (fun hc1 => ?_)
  · skip
    refine run_seq ?_
    refine run_reg (l := [0]) rfl ?_
    refine p_v (v := .bool false) rfl rfl rfl (x_assign rfl) ?_
    refine run_region_end ?_
    refine run_ret Tryd.func22 (res1 rfl (res_tmp (v := .bool false) rfl)) ?_
    have q0 : (decide (s1 = s2) : Bool) = false := by
      first | exact eq_no1 (by assumption) | exact eq_no2 (t := t13) (by assumption) | exact eq_yes (t := t13) (by omega) (by omega) hI_.2.2
    refine ⟨_, rfl, (fun _ => none), ?_, ?_⟩
    · exact S0.sub [] (by decide) rfl _ rfl
    · first | rfl | (simp only [q0]; rfl) | (simp only [q0])
  · skip
    refine run_skip ?_
    refine run_seq ?_
    refine run_seq ?_
    refine run_reg (l := [0, 1, 2]) rfl ?_
    refine p_v (v := .slice A0 s1.length c0) rfl rfl rfl (x_move rfl) ?_
    refine p_v (v := .int .i64 (s1.length : Int)) rfl rfl rfl (x_len_slice u23 rfl) ?_
    refine p_v (v := .int .i64 0) rfl rfl rfl (x_move rfl) ?_
    refine run_region_end ?_
    refine run_block ?_
    refine run_loop (S := Int) (fun (q_ : Int) ρ w' => match q_ with | t13 => ∃ (h : Ghost), Le (fun _ => none) h ∧ St w.heap.size w h w' [] ∧ ρ 0 = .slice A0 s1.length c0 ∧ ρ 1 = .slice A1 s2.length c1 ∧ ρ 12 = .int .i64 (s1.length : Int) ∧ ρ 13 = .int .i64 t13 ∧ inK .i64 t13 ∧ (0 ≤ t13 ∧ t13 ≤ (s1.length : Int) ∧ s1.take t13.toNat = s2.take t13.toNat)) (fun q_ => match q_ with | t13 => (s1.length - t13).toNat) (0) ⟨(fun _ => none), Le.refl _, S0.sub [] (by decide) rfl _ rfl, rfl, rfl, rfl, rfl, (in_i64 (by first|omega|(simp;omega)|assumption) (by first|omega|(simp;omega)|assumption)), (by exact ⟨by omega, by omega, rfl⟩)⟩ ?_
    rintro t13 ih2 ρ2 w2 ⟨h2, le2, S2, r2_0, r2_1, r2_12, r2_13, f2_0, hI2⟩
    have lf2_0 := i64_lo f2_0; have hf2_0 := i64_hi f2_0
    refine run_seq ?_
    refine run_reg (l := [0]) rfl ?_
    refine p_v (v := .bool (decide (t13 < (s1.length : Int)))) rfl rfl rfl (x_lss r2_13 r2_12) ?_
    refine run_region_end ?_
    refine run_seq ?_
    refine run_cond_prop (p := t13 < (s1.length : Int)) rfl (fun hc3 => ?_) (fun hc3 => ?_)
    · skip
      refine run_skip ?_
      refine run_seq ?_
      refine run_block ?_
      refine run_seq ?_
      refine run_reg (l := [0, 1]) rfl ?_
      refine p_v (v := .int .i64 t13) rfl rfl rfl (x_move r2_13) ?_
      refine p_v (v := .int .i64 t13) rfl rfl rfl (x_assign rfl) ?_
      refine run_region_end ?_
      refine run_seq ?_
      obtain ⟨ad4, seg4, a4, rp4, ce4⟩ := e_index_ro (q := t13) (m := 1) l0 rfl (by first|omega|(simp;omega)|assumption) (by first|omega|(simp;omega)|assumption)
      obtain ⟨rfl, in4⟩ := rp4
      have lo4 := i64_lo in4; have hi4 := i64_hi in4
      obtain ⟨ad5, seg5, a5, rp5, ce5⟩ := e_index_ro (q := t13) (m := 1) l1 rfl (by first|omega|(simp;omega)|assumption) (by first|omega|(simp;omega)|assumption)
      obtain ⟨rfl, in5⟩ := rp5
      have lo5 := i64_lo in5; have hi5 := i64_hi in5
      have hf6 : (CFs ad4 [.int .i64 (at_ s1 t13)]).1 w2 := (CF.ghost ce4 (St.le0 S2))
      have hf7 : (CFs ad5 [.int .i64 (at_ s2 t13)]).1 w2 := (CF.ghost ce5 (St.le0 S2))
      refine da_start [(3, CFs ad4 [.int .i64 (at_ s1 t13)]), (7, CFs ad5 [.int .i64 (at_ s2 t13)])] 9 rfl mixed ?_
      intro wd8 gd8 hd8
      have S9 := S2.keep gd8
      have hf10 := (CFs ad4 [.int .i64 (at_ s1 t13)]).2 _ _ gd8 hf6
      have hf11 := (CFs ad5 [.int .i64 (at_ s2 t13)]).2 _ _ gd8 hf7
      refine d_q (i := 0) (v := .slice A0 s1.length c0) (fun _ => True) (fun _ ho => trivial) rfl (by decide +kernel) (by decide +kernel) (by decide +kernel) rfl rfl (fun wq hq => (x_move r2_0)) (of_ne rfl (of_ne rfl (of_nil _ _))) ?_
      refine d_q (i := 1) (v := .int .i64 t13) (fun _ => True) (fun _ ho => trivial) rfl (by decide +kernel) (by decide +kernel) (by decide +kernel) rfl rfl (fun wq hq => (x_move rfl)) (of_ne rfl (of_ne rfl (of_nil _ _))) ?_
      refine d_q (i := 2) (v := .pointer (some ad4)) (fun _ => True) (fun _ ho => trivial) rfl (by decide +kernel) (by decide +kernel) (by decide +kernel) rfl rfl (fun wq hq => (x_index_ro u23 ty3 rfl rfl a4 (by first|omega|(simp;omega)|assumption) (by first|omega|(simp;omega)|assumption))) (of_ne rfl (of_ne rfl (of_nil _ _))) ?_
      refine d_q (i := 3) (v := .int .i64 (at_ s1 t13)) (CF ad4 [.int .i64 (at_ s1 t13)]) (fun _ ho => ho _ (List.mem_of_getElem? (i := 0) rfl) rfl) rfl (by decide +kernel) (by decide +kernel) (by decide +kernel) rfl rfl (fun wq hq => (x_load (seg := [.int .i64 (at_ s1 t13)]) ty3 rfl (by simp) rfl hq)) (of_eq hf10 (of_ne rfl (of_nil _ _))) ?_
      refine d_q (i := 4) (v := .slice A1 s2.length c1) (fun _ => True) (fun _ ho => trivial) rfl (by decide +kernel) (by decide +kernel) (by decide +kernel) rfl rfl (fun wq hq => (x_move r2_1)) (of_ne rfl (of_ne rfl (of_nil _ _))) ?_
      refine d_q (i := 5) (v := .int .i64 t13) (fun _ => True) (fun _ ho => trivial) rfl (by decide +kernel) (by decide +kernel) (by decide +kernel) rfl rfl (fun wq hq => (x_move rfl)) (of_ne rfl (of_ne rfl (of_nil _ _))) ?_
      refine d_q (i := 6) (v := .pointer (some ad5)) (fun _ => True) (fun _ ho => trivial) rfl (by decide +kernel) (by decide +kernel) (by decide +kernel) rfl rfl (fun wq hq => (x_index_ro u23 ty3 rfl rfl a5 (by first|omega|(simp;omega)|assumption) (by first|omega|(simp;omega)|assumption))) (of_ne rfl (of_ne rfl (of_nil _ _))) ?_
      refine d_q (i := 7) (v := .int .i64 (at_ s2 t13)) (CF ad5 [.int .i64 (at_ s2 t13)]) (fun _ ho => ho _ (List.mem_of_getElem? (i := 1) rfl) rfl) rfl (by decide +kernel) (by decide +kernel) (by decide +kernel) rfl rfl (fun wq hq => (x_load (seg := [.int .i64 (at_ s2 t13)]) ty3 rfl (by simp) rfl hq)) (of_ne rfl (of_eq hf11 (of_nil _ _))) ?_
      refine d_q (i := 8) (v := .bool (decide ((at_ s1 t13) ≠ (at_ s2 t13)))) (fun _ => True) (fun _ ho => trivial) rfl (by decide +kernel) (by decide +kernel) (by decide +kernel) rfl rfl (fun wq hq => (x_neq rfl rfl)) (of_ne rfl (of_ne rfl (of_nil _ _))) ?_
      refine ra_done (by decide +kernel) ?_
      intro wd12 gd12
      have S13 := S9.keep gd12
      refine run_cond_prop (p := (at_ s1 t13) ≠ (at_ s2 t13)) rfl (fun hc14 => ?_) (fun hc14 => ?_)
      · skip
        refine run_seq ?_
        refine run_reg (l := [0]) rfl ?_
        refine p_v (v := .bool false) rfl rfl rfl (x_assign rfl) ?_
        refine run_region_end ?_
        refine run_ret Tryd.func22 (res1 rfl (res_tmp (v := .bool false) rfl)) ?_
        have q0 : (decide (s1 = s2) : Bool) = false := by
          first | exact eq_no1 (by assumption) | exact eq_no2 (t := t13) (by assumption) | exact eq_yes (t := t13) (by omega) (by omega) hI2.2.2
        refine ⟨_, rfl, h2, ?_, ?_⟩
        · exact S13.sub [] (by decide) rfl _ rfl
        · first | rfl | (simp only [q0]; rfl) | (simp only [q0])
      · skip
        refine run_skip ?_
        refine run_inBlock ?_
        refine run_reg (l := [0, 1]) rfl ?_
        refine p_v (v := .int .i64 (t13 + 1)) rfl rfl rfl (x_add r2_13 rfl (in_i64 (by first|omega|(simp;omega)|assumption) (by first|omega|(simp;omega)|assumption))) ?_
        refine p_v (v := .int .i64 (t13 + 1)) rfl rfl rfl (x_move rfl) ?_
        refine run_region_end ?_
        refine ih2 (t13 + 1) _ _ (by dsimp only; omega) ⟨h2, le2, S13.sub [] (by decide) rfl _ rfl, r2_0, r2_1, r2_12, rfl, (in_i64 (by first|omega|(simp;omega)|assumption) (by first|omega|(simp;omega)|assumption)), (by exact ⟨by omega, by omega, eq_step hI2.1 (by omega) (by omega) hI2.2.2 (by first | exact Decidable.not_not.1 (by assumption) | exact of_decide_eq_true (by assumption))⟩)⟩
    · skip
      refine run_exit rfl ?_
      refine run_seq ?_
      refine run_reg (l := [0]) rfl ?_
      refine p_v (v := .bool true) rfl rfl rfl (x_assign rfl) ?_
      refine run_region_end ?_
      refine run_ret Tryd.func22 (res1 rfl (res_tmp (v := .bool true) rfl)) ?_
      have q0 : (decide (s1 = s2) : Bool) = true := by
        first | exact eq_no1 (by assumption) | exact eq_no2 (t := t13) (by assumption) | exact eq_yes (t := t13) (by omega) (by omega) hI2.2.2
      refine ⟨_, rfl, h2, ?_, ?_⟩
      · exact S2.sub [] (by decide) rfl _ rfl
      · first | rfl | (simp only [q0]; rfl) | (simp only [q0])
theorem equalB_calls (w : World) (s1 : List Bool) (A0 : Option Addr) (c0 : Nat) (b0 : s1.length ≤ c0 ∧ c0 ≤ maxLen) (l0 : Leads Kd.bool (hp w) A0 s1) (s2 : List Bool) (A1 : Option Addr) (c1 : Nat) (b1 : s2.length ≤ c1 ∧ c1 ≤ maxLen) (l1 : Leads Kd.bool (hp w) A1 s2) :
    Calls Tryd.prog 24 #[.slice A0 s1.length c0, .slice A1 s2.length c1] w fun e w' => ∃ v, e = .returned v ∧ ∃ (hn : Ghost), St w.heap.size w hn w' [] ∧ v = .bool (decide (s1 = s2)) := by
  refine calls_of_run Tryd.func24 rfl Tryd.ntmps24 rfl ?_
  have S0 := St.init w
  have bb0 := b0.1; have bc0 := b0.2; simp only [maxLen] at bc0
  have bb1 := b1.1; have bc1 := b1.2; simp only [maxLen] at bc1
  refine run_seq ?_
  refine run_reg (l := [0]) rfl ?_
  refine p_v (v := .bool false) rfl rfl rfl (x_assign rfl) ?_
  refine run_region_end ?_
  refine run_seq ?_
  refine run_seq ?_
  refine run_reg (l := [0, 1, 2, 3, 4]) rfl ?_
  refine p_v (v := .slice A0 s1.length c0) rfl rfl rfl (x_move rfl) ?_
  refine p_v (v := .int .i64 (s1.length : Int)) rfl rfl rfl (x_len_slice u25 rfl) ?_
  refine p_v (v := .slice A1 s2.length c1) rfl rfl rfl (x_move rfl) ?_
  refine p_v (v := .int .i64 (s2.length : Int)) rfl rfl rfl (x_len_slice u25 rfl) ?_
  refine p_v (v := .bool (decide ((s1.length : Int) ≠ (s2.length : Int)))) rfl rfl rfl (x_neq rfl rfl) ?_
  refine run_region_end ?_
  refine run_cond_prop (p := (s1.length : Int) ≠ (s2.length : Int)) rfl (fun hc1 => ?_) (fun hc1 => ?_)
  · skip
    refine run_seq ?_
    refine run_reg (l := [0]) rfl ?_
    refine p_v (v := .bool false) rfl rfl rfl (x_assign rfl) ?_
    refine run_region_end ?_
    refine run_ret Tryd.func24 (res1 rfl (res_tmp (v := .bool false) rfl)) ?_
    have q0 : (decide (s1 = s2) : Bool) = false := by
      first | exact eq_no1 (by assumption) | exact eq_no2 (t := t13) (by assumption) | exact eq_yes (t := t13) (by omega) (by omega) hI_.2.2
    refine ⟨_, rfl, (fun _ => none), ?_, ?_⟩
    · exact S0.sub [] (by decide) rfl _ rfl
    · first | rfl | (simp only [q0]; rfl) | (simp only [q0])
  · skip
    refine run_skip ?_
    refine run_seq ?_
    refine run_seq ?_
    refine run_reg (l := [0, 1, 2]) rfl ?_
    refine p_v (v := .slice A0 s1.length c0) rfl rfl rfl (x_move rfl) ?_
    refine p_v (v := .int .i64 (s1.length : Int)) rfl rfl rfl (x_len_slice u25 rfl) ?_
    refine p_v (v := .int .i64 0) rfl rfl rfl (x_move rfl) ?_
    refine run_region_end ?_
    refine run_block ?_
    refine run_loop (S := Int) (fun (q_ : Int) ρ w' => match q_ with | t13 => ∃ (h : Ghost), Le (fun _ => none) h ∧ St w.heap.size w h w' [] ∧ ρ 0 = .slice A0 s1.length c0 ∧ ρ 1 = .slice A1 s2.length c1 ∧ ρ 12 = .int .i64 (s1.length : Int) ∧ ρ 13 = .int .i64 t13 ∧ inK .i64 t13 ∧ (0 ≤ t13 ∧ t13 ≤ (s1.length : Int) ∧ s1.take t13.toNat = s2.take t13.toNat)) (fun q_ => match q_ with | t13 => (s1.length - t13).toNat) (0) ⟨(fun _ => none), Le.refl _, S0.sub [] (by decide) rfl _ rfl, rfl, rfl, rfl, rfl, (in_i64 (by first|omega|(simp;omega)|assumption) (by first|omega|(simp;omega)|assumption)), (by exact ⟨by omega, by omega, rfl⟩)⟩ ?_
    rintro t13 ih2 ρ2 w2 ⟨h2, le2, S2, r2_0, r2_1, r2_12, r2_13, f2_0, hI2⟩
    have lf2_0 := i64_lo f2_0; have hf2_0 := i64_hi f2_0
    refine run_seq ?_
    refine run_reg (l := [0]) rfl ?_
    refine p_v (v := .bool (decide (t13 < (s1.length : Int)))) rfl rfl rfl (x_lss r2_13 r2_12) ?_
    refine run_region_end ?_
    refine run_seq ?_
    refine run_cond_prop (p := t13 < (s1.length : Int)) rfl (fun hc3 => ?_) (fun hc3 => ?_)
    · skip
      refine run_skip ?_
      refine run_seq ?_
      refine run_block ?_
      refine run_seq ?_
      refine run_reg (l := [0, 1]) rfl ?_
      refine p_v (v := .int .i64 t13) rfl rfl rfl (x_move r2_13) ?_
      refine p_v (v := .int .i64 t13) rfl rfl rfl (x_assign rfl) ?_
      refine run_region_end ?_
      refine run_seq ?_
      obtain ⟨ad4, seg4, a4, rp4, ce4⟩ := e_index_ro (q := t13) (m := 1) l0 rfl (by first|omega|(simp;omega)|assumption) (by first|omega|(simp;omega)|assumption)
      obtain ⟨rfl, _⟩ := rp4
      obtain ⟨ad5, seg5, a5, rp5, ce5⟩ := e_index_ro (q := t13) (m := 1) l1 rfl (by first|omega|(simp;omega)|assumption) (by first|omega|(simp;omega)|assumption)
      obtain ⟨rfl, _⟩ := rp5
      have hf6 : (CFs ad4 [.bool (at_ s1 t13)]).1 w2 := (CF.ghost ce4 (St.le0 S2))
      have hf7 : (CFs ad5 [.bool (at_ s2 t13)]).1 w2 := (CF.ghost ce5 (St.le0 S2))
      refine da_start [(3, CFs ad4 [.bool (at_ s1 t13)]), (7, CFs ad5 [.bool (at_ s2 t13)])] 9 rfl mixed ?_
      intro wd8 gd8 hd8
      have S9 := S2.keep gd8
      have hf10 := (CFs ad4 [.bool (at_ s1 t13)]).2 _ _ gd8 hf6
      have hf11 := (CFs ad5 [.bool (at_ s2 t13)]).2 _ _ gd8 hf7
      refine d_q (i := 0) (v := .slice A0 s1.length c0) (fun _ => True) (fun _ ho => trivial) rfl (by decide +kernel) (by decide +kernel) (by decide +kernel) rfl rfl (fun wq hq => (x_move r2_0)) (of_ne rfl (of_ne rfl (of_nil _ _))) ?_
      refine d_q (i := 1) (v := .int .i64 t13) (fun _ => True) (fun _ ho => trivial) rfl (by decide +kernel) (by decide +kernel) (by decide +kernel) rfl rfl (fun wq hq => (x_move rfl)) (of_ne rfl (of_ne rfl (of_nil _ _))) ?_
      refine d_q (i := 2) (v := .pointer (some ad4)) (fun _ => True) (fun _ ho => trivial) rfl (by decide +kernel) (by decide +kernel) (by decide +kernel) rfl rfl (fun wq hq => (x_index_ro u25 ty4 rfl rfl a4 (by first|omega|(simp;omega)|assumption) (by first|omega|(simp;omega)|assumption))) (of_ne rfl (of_ne rfl (of_nil _ _))) ?_
      refine d_q (i := 3) (v := .bool (at_ s1 t13)) (CF ad4 [.bool (at_ s1 t13)]) (fun _ ho => ho _ (List.mem_of_getElem? (i := 0) rfl) rfl) rfl (by decide +kernel) (by decide +kernel) (by decide +kernel) rfl rfl (fun wq hq => (x_load (seg := [.bool (at_ s1 t13)]) ty4 rfl (by simp) rfl hq)) (of_eq hf10 (of_ne rfl (of_nil _ _))) ?_
      refine d_q (i := 4) (v := .slice A1 s2.length c1) (fun _ => True) (fun _ ho => trivial) rfl (by decide +kernel) (by decide +kernel) (by decide +kernel) rfl rfl (fun wq hq => (x_move r2_1)) (of_ne rfl (of_ne rfl (of_nil _ _))) ?_
      refine d_q (i := 5) (v := .int .i64 t13) (fun _ => True) (fun _ ho => trivial) rfl (by decide +kernel) (by decide +kernel) (by decide +kernel) rfl rfl (fun wq hq => (x_move rfl)) (of_ne rfl (of_ne rfl (of_nil _ _))) ?_
      refine d_q (i := 6) (v := .pointer (some ad5)) (fun _ => True) (fun _ ho => trivial) rfl (by decide +kernel) (by decide +kernel) (by decide +kernel) rfl rfl (fun wq hq => (x_index_ro u25 ty4 rfl rfl a5 (by first|omega|(simp;omega)|assumption) (by first|omega|(simp;omega)|assumption))) (of_ne rfl (of_ne rfl (of_nil _ _))) ?_
      refine d_q (i := 7) (v := .bool (at_ s2 t13)) (CF ad5 [.bool (at_ s2 t13)]) (fun _ ho => ho _ (List.mem_of_getElem? (i := 1) rfl) rfl) rfl (by decide +kernel) (by decide +kernel) (by decide +kernel) rfl rfl (fun wq hq => (x_load (seg := [.bool (at_ s2 t13)]) ty4 rfl (by simp) rfl hq)) (of_ne rfl (of_eq hf11 (of_nil _ _))) ?_
      refine d_q (i := 8) (v := .bool (decide ((at_ s1 t13) ≠ (at_ s2 t13)))) (fun _ => True) (fun _ ho => trivial) rfl (by decide +kernel) (by decide +kernel) (by decide +kernel) rfl rfl (fun wq hq => (x_neq_bool u4 rfl rfl)) (of_ne rfl (of_ne rfl (of_nil _ _))) ?_
      refine ra_done (by decide +kernel) ?_
      intro wd12 gd12
      have S13 := S9.keep gd12
      refine run_cond_prop (p := (at_ s1 t13) ≠ (at_ s2 t13)) rfl (fun hc14 => ?_) (fun hc14 => ?_)
      · skip
        refine run_seq ?_
        refine run_reg (l := [0]) rfl ?_
        refine p_v (v := .bool false) rfl rfl rfl (x_assign rfl) ?_
        refine run_region_end ?_
        refine run_ret Tryd.func24 (res1 rfl (res_tmp (v := .bool false) rfl)) ?_
        have q0 : (decide (s1 = s2) : Bool) = false := by
          first | exact eq_no1 (by assumption) | exact eq_no2 (t := t13) (by assumption) | exact eq_yes (t := t13) (by omega) (by omega) hI2.2.2
        refine ⟨_, rfl, h2, ?_, ?_⟩
        · exact S13.sub [] (by decide) rfl _ rfl
        · first | rfl | (simp only [q0]; rfl) | (simp only [q0])
      · skip
        refine run_skip ?_
        refine run_inBlock ?_
        refine run_reg (l := [0, 1]) rfl ?_
        refine p_v (v := .int .i64 (t13 + 1)) rfl rfl rfl (x_add r2_13 rfl (in_i64 (by first|omega|(simp;omega)|assumption) (by first|omega|(simp;omega)|assumption))) ?_
        refine p_v (v := .int .i64 (t13 + 1)) rfl rfl rfl (x_move rfl) ?_
        refine run_region_end ?_
        refine ih2 (t13 + 1) _ _ (by dsimp only; omega) ⟨h2, le2, S13.sub [] (by decide) rfl _ rfl, r2_0, r2_1, r2_12, rfl, (in_i64 (by first|omega|(simp;omega)|assumption) (by first|omega|(simp;omega)|assumption)), (by exact ⟨by omega, by omega, eq_step hI2.1 (by omega) (by omega) hI2.2.2 (by first | exact Decidable.not_not.1 (by assumption) | exact of_decide_eq_true (by assumption))⟩)⟩
    · skip
      refine run_exit rfl ?_
      refine run_seq ?_
      refine run_reg (l := [0]) rfl ?_
      refine p_v (v := .bool true) rfl rfl rfl (x_assign rfl) ?_
      refine run_region_end ?_
      refine run_ret Tryd.func24 (res1 rfl (res_tmp (v := .bool true) rfl)) ?_
      have q0 : (decide (s1 = s2) : Bool) = true := by
        first | exact eq_no1 (by assumption) | exact eq_no2 (t := t13) (by assumption) | exact eq_yes (t := t13) (by omega) (by omega) hI2.2.2
      refine ⟨_, rfl, h2, ?_, ?_⟩
      · exact S2.sub [] (by decide) rfl _ rfl
      · first | rfl | (simp only [q0]; rfl) | (simp only [q0])
theorem equalF_calls (w : World) (s1 : List (List Int)) (A0 : Option Addr) (c0 : Nat) (b0 : s1.length ≤ c0 ∧ c0 ≤ maxLen) (l0 : Leads (Kd.int .i64).slice (hp w) A0 s1) (s2 : List (List Int)) (A1 : Option Addr) (c1 : Nat) (b1 : s2.length ≤ c1 ∧ c1 ≤ maxLen) (l1 : Leads (Kd.int .i64).slice (hp w) A1 s2) (fq : Unit) :
    Calls Tryd.prog 23 #[.slice A0 s1.length c0, .slice A1 s2.length c1, .func (.func 22) #[] #[]] w fun e w' => ∃ v, e = .returned v ∧ ∃ (hn : Ghost), St w.heap.size w hn w' [] ∧ v = .bool (decide (s1 = s2)) := by
  refine calls_of_run Tryd.func23 rfl Tryd.ntmps23 rfl ?_
  have S0 := St.init w
  have bb0 := b0.1; have bc0 := b0.2; simp only [maxLen] at bc0
  have bb1 := b1.1; have bc1 := b1.2; simp only [maxLen] at bc1
  refine run_seq ?_
  refine run_reg (l := [0]) rfl ?_
  refine p_v (v := .bool false) rfl rfl rfl (x_assign rfl) ?_
  refine run_region_end ?_
  refine run_seq ?_
  refine run_seq ?_
  refine run_reg (l := [0, 1, 2, 3, 4]) rfl ?_
  refine p_v (v := .slice A0 s1.length c0) rfl rfl rfl (x_move rfl) ?_
  refine p_v (v := .int .i64 (s1.length : Int)) rfl rfl rfl (x_len_slice u24 rfl) ?_
  refine p_v (v := .slice A1 s2.length c1) rfl rfl rfl (x_move rfl) ?_
  refine p_v (v := .int .i64 (s2.length : Int)) rfl rfl rfl (x_len_slice u24 rfl) ?_
  refine p_v (v := .bool (decide ((s1.length : Int) ≠ (s2.length : Int)))) rfl rfl rfl (x_neq rfl rfl) ?_
  refine run_region_end ?_
  refine run_cond_prop (p := (s1.length : Int) ≠ (s2.length : Int)) rfl (fun hc1 => ?_) (fun hc1 => ?_)
  · skip
    refine run_seq ?_
    refine run_reg (l := [0]) rfl ?_
    refine p_v (v := .bool false) rfl rfl rfl (x_assign rfl) ?_
    refine run_region_end ?_
    refine run_ret Tryd.func23 (res1 rfl (res_tmp (v := .bool false) rfl)) ?_
    have q0 : (decide (s1 = s2) : Bool) = false := by
      first | exact eq_no1 (by assumption) | exact eq_no2 (t := t17) (of_decide_eq_false (by assumption)) | exact eq_yes (t := t17) (by omega) (by omega) hI_.2.2
    refine ⟨_, rfl, (fun _ => none), ?_, ?_⟩
    · exact S0.sub [] (by decide) rfl _ rfl
    · first | rfl | (simp only [q0]; rfl) | (simp only [q0])
  · skip
    refine run_skip ?_
    refine run_seq ?_
    refine run_seq ?_
    refine run_reg (l := [0, 1, 2]) rfl ?_
    refine p_v (v := .slice A0 s1.length c0) rfl rfl rfl (x_move rfl) ?_
    refine p_v (v := .int .i64 (s1.length : Int)) rfl rfl rfl (x_len_slice u24 rfl) ?_
    refine p_v (v := .int .i64 0) rfl rfl rfl (x_move rfl) ?_
    refine run_region_end ?_
    refine run_block ?_
    refine run_loop (S := Int) (fun (q_ : Int) ρ w' => match q_ with | t17 => ∃ (h : Ghost), Le (fun _ => none) h ∧ St w.heap.size w h w' [] ∧ ρ 1 = .slice A1 s2.length c1 ∧ ρ 2 = .func (.func 22) #[] #[] ∧ ρ 15 = .slice A0 s1.length c0 ∧ ρ 16 = .int .i64 (s1.length : Int) ∧ ρ 17 = .int .i64 t17 ∧ inK .i64 t17 ∧ (0 ≤ t17 ∧ t17 ≤ (s1.length : Int) ∧ s1.take t17.toNat = s2.take t17.toNat)) (fun q_ => match q_ with | t17 => (s1.length - t17).toNat) (0) ⟨(fun _ => none), Le.refl _, S0.sub [] (by decide) rfl _ rfl, rfl, rfl, rfl, rfl, rfl, (in_i64 (by first|omega|(simp;omega)|assumption) (by first|omega|(simp;omega)|assumption)), (by exact ⟨by omega, by omega, rfl⟩)⟩ ?_
    rintro t17 ih2 ρ2 w2 ⟨h2, le2, S2, r2_1, r2_2, r2_15, r2_16, r2_17, f2_0, hI2⟩
    have lf2_0 := i64_lo f2_0; have hf2_0 := i64_hi f2_0
    refine run_seq ?_
    refine run_reg (l := [0]) rfl ?_
    refine p_v (v := .bool (decide (t17 < (s1.length : Int)))) rfl rfl rfl (x_lss r2_17 r2_16) ?_
    refine run_region_end ?_
    refine run_seq ?_
    refine run_cond_prop (p := t17 < (s1.length : Int)) rfl (fun hc3 => ?_) (fun hc3 => ?_)
    · skip
      refine run_skip ?_
      refine run_seq ?_
      refine run_block ?_
      refine run_seq ?_
      refine run_reg (l := [0, 1, 2, 3, 4]) rfl ?_
      refine p_v (v := .int .i64 t17) rfl rfl rfl (x_move r2_17) ?_
      obtain ⟨ad4, seg4, a4, rp4, ce4⟩ := e_index_ro (q := t17) (m := 1) l0 rfl (by first|omega|(simp;omega)|assumption) (by first|omega|(simp;omega)|assumption)
      refine p_v (v := .pointer (some ad4)) rfl rfl rfl (x_index_ro u24 ty23 r2_15 r2_17 a4 (by first|omega|(simp;omega)|assumption) (by first|omega|(simp;omega)|assumption)) ?_
      obtain ⟨A4, c4, rfl, lc4, cm4, ld4⟩ := rp4
      have cn4 := cm4; simp only [maxLen] at cn4
      refine p_v (v := .slice A4 (at_ s1 t17).length c4) rfl rfl rfl (x_load (seg := [.slice A4 (at_ s1 t17).length c4]) ty23 rfl (by simp) rfl (CF.ghost ce4 (St.le0 S2))) ?_
      refine p_v (v := .int .i64 t17) rfl rfl rfl (x_assign rfl) ?_
      refine p_v (v := .slice A4 (at_ s1 t17).length c4) rfl rfl rfl (x_assign rfl) ?_
      refine run_region_end ?_
      refine run_seq ?_
      refine run_reg (l := [0, 1, 2, 3, 4]) rfl ?_
      refine p_v (v := .slice A1 s2.length c1) rfl rfl rfl (x_move r2_1) ?_
      refine p_v (v := .int .i64 t17) rfl rfl rfl (x_move rfl) ?_
      obtain ⟨ad5, seg5, a5, rp5, ce5⟩ := e_index_ro (q := t17) (m := 1) l1 rfl (by first|omega|(simp;omega)|assumption) (by first|omega|(simp;omega)|assumption)
      refine p_v (v := .pointer (some ad5)) rfl rfl rfl (x_index_ro u24 ty23 rfl rfl a5 (by first|omega|(simp;omega)|assumption) (by first|omega|(simp;omega)|assumption)) ?_
      obtain ⟨A5, c5, rfl, lc5, cm5, ld5⟩ := rp5
      have cn5 := cm5; simp only [maxLen] at cn5
      refine p_v (v := .slice A5 (at_ s2 t17).length c5) rfl rfl rfl (x_load (seg := [.slice A5 (at_ s2 t17).length c5]) ty23 rfl (by simp) rfl (CF.ghost ce5 (St.le0 S2))) ?_
      refine p_v (v := .slice A5 (at_ s2 t17).length c5) rfl rfl rfl (x_assign rfl) ?_
      refine run_region_end ?_
      refine run_seq ?_
      refine run_reg (l := [0, 1, 2, 3, 4]) rfl ?_
      refine p_v (v := .func (.func 22) #[] #[]) rfl rfl rfl (x_move r2_2) ?_
      refine p_v (v := .slice A4 (at_ s1 t17).length c4) rfl rfl rfl (x_move rfl) ?_
      refine p_v (v := .slice A5 (at_ s2 t17).length c5) rfl rfl rfl (x_move rfl) ?_
      refine p_c rfl rfl rfl (y_call (args := [.slice A4 (at_ s1 t17).length c4, .slice A5 (at_ s2 t17).length c5]) ca22 rfl rfl) (equalI_calls w2 (at_ s1 t17) A4 c4 (And.intro lc4 cm4) (ld4.mono (St.le0 S2)) (at_ s2 t17) A5 c5 (And.intro lc5 cm5) (ld5.mono (St.le0 S2))) ?_
      rintro _ w6 ⟨h6, T6, rfl⟩
      have S7 := S2.keep (Chg.of_below T6.below)
      refine p_v (v := .bool (!(decide ((at_ s1 t17) = (at_ s2 t17))))) rfl rfl rfl (x_not rfl) ?_
      refine run_region_end ?_
      refine run_cond_nsplit (b := decide ((at_ s1 t17) = (at_ s2 t17))) rfl (fun hc8 => ?_) (fun hc8 => ?_)
      · skip
        refine run_seq ?_
        refine run_reg (l := [0]) rfl ?_
        refine p_v (v := .bool false) rfl rfl rfl (x_assign rfl) ?_
        refine run_region_end ?_
        refine run_ret Tryd.func23 (res1 rfl (res_tmp (v := .bool false) rfl)) ?_
        have q0 : (decide (s1 = s2) : Bool) = false := by
          first | exact eq_no1 (by assumption) | exact eq_no2 (t := t17) (of_decide_eq_false (by assumption)) | exact eq_yes (t := t17) (by omega) (by omega) hI2.2.2
        refine ⟨_, rfl, h2, ?_, ?_⟩
        · exact S7.sub [] (by decide) rfl _ rfl
        · first | rfl | (simp only [q0]; rfl) | (simp only [q0])
      · skip
        refine run_skip ?_
        refine run_inBlock ?_
        refine run_reg (l := [0, 1]) rfl ?_
        refine p_v (v := .int .i64 (t17 + 1)) rfl rfl rfl (x_add r2_17 rfl (in_i64 (by first|omega|(simp;omega)|assumption) (by first|omega|(simp;omega)|assumption))) ?_
        refine p_v (v := .int .i64 (t17 + 1)) rfl rfl rfl (x_move rfl) ?_
        refine run_region_end ?_
        refine ih2 (t17 + 1) _ _ (by dsimp only; omega) ⟨h2, le2, S7.sub [] (by decide) rfl _ rfl, r2_1, r2_2, r2_15, r2_16, rfl, (in_i64 (by first|omega|(simp;omega)|assumption) (by first|omega|(simp;omega)|assumption)), (by exact ⟨by omega, by omega, eq_step hI2.1 (by omega) (by omega) hI2.2.2 (by first | exact Decidable.not_not.1 (by assumption) | exact of_decide_eq_true (by assumption))⟩)⟩
    · skip
      refine run_exit rfl ?_
      refine run_seq ?_
      refine run_reg (l := [0]) rfl ?_
      refine p_v (v := .bool true) rfl rfl rfl (x_assign rfl) ?_
      refine run_region_end ?_
      refine run_ret Tryd.func23 (res1 rfl (res_tmp (v := .bool true) rfl)) ?_
      have q0 : (decide (s1 = s2) : Bool) = true := by
        first | exact eq_no1 (by assumption) | exact eq_no2 (t := t17) (of_decide_eq_false (by assumption)) | exact eq_yes (t := t17) (by omega) (by omega) hI2.2.2
      refine ⟨_, rfl, h2, ?_, ?_⟩
      · exact S2.sub [] (by decide) rfl _ rfl
      · first | rfl | (simp only [q0]; rfl) | (simp only [q0])
theorem sameN_calls (w : World) (a : Mach) (A0_0 : Option Addr) (c0_0 : Nat) (b0_0 : a.spots.length ≤ c0_0 ∧ c0_0 ≤ maxLen) (l0_0 : Leads kSpot (hp w) A0_0 a.spots) (A0_1 : Option Addr) (c0_1 : Nat) (b0_1 : a.first.length ≤ c0_1 ∧ c0_1 ≤ maxLen) (l0_1 : Leads (Kd.int .i64) (hp w) A0_1 a.first) (A0_2 : Option Addr) (c0_2 : Nat) (b0_2 : a.follow.length ≤ c0_2 ∧ c0_2 ≤ maxLen) (l0_2 : Leads (Kd.int .i64).slice (hp w) A0_2 a.follow) (A0_3 : Option Addr) (c0_3 : Nat) (b0_3 : a.last.length ≤ c0_3 ∧ c0_3 ≤ maxLen) (l0_3 : Leads Kd.bool (hp w) A0_3 a.last) (b : Mach) (A1_0 : Option Addr) (c1_0 : Nat) (b1_0 : b.spots.length ≤ c1_0 ∧ c1_0 ≤ maxLen) (l1_0 : Leads kSpot (hp w) A1_0 b.spots) (A1_1 : Option Addr) (c1_1 : Nat) (b1_1 : b.first.length ≤ c1_1 ∧ c1_1 ≤ maxLen) (l1_1 : Leads (Kd.int .i64) (hp w) A1_1 b.first) (A1_2 : Option Addr) (c1_2 : Nat) (b1_2 : b.follow.length ≤ c1_2 ∧ c1_2 ≤ maxLen) (l1_2 : Leads (Kd.int .i64).slice (hp w) A1_2 b.follow) (A1_3 : Option Addr) (c1_3 : Nat) (b1_3 : b.last.length ≤ c1_3 ∧ c1_3 ≤ maxLen) (l1_3 : Leads Kd.bool (hp w) A1_3 b.last) :
    Calls Tryd.prog 9 #[.agg #[.slice A0_0 a.spots.length c0_0, .slice A0_1 a.first.length c0_1, .slice A0_2 a.follow.length c0_2, .slice A0_3 a.last.length c0_3, .bool a.empty], .agg #[.slice A1_0 b.spots.length c1_0, .slice A1_1 b.first.length c1_1, .slice A1_2 b.follow.length c1_2, .slice A1_3 b.last.length c1_3, .bool b.empty]] w fun e w' => ∃ v, e = .returned v ∧ ∃ (hn : Ghost), St w.heap.size w hn w' [] ∧ v = .bool (decide (a = b)) := by
  refine calls_of_run Tryd.func9 rfl Tryd.ntmps9 rfl ?_
  have S0 := St.init w
  have bb0_0 := b0_0.1; have bc0_0 := b0_0.2; simp only [maxLen] at bc0_0
  have bb0_1 := b0_1.1; have bc0_1 := b0_1.2; simp only [maxLen] at bc0_1
  have bb0_2 := b0_2.1; have bc0_2 := b0_2.2; simp only [maxLen] at bc0_2
  have bb0_3 := b0_3.1; have bc0_3 := b0_3.2; simp only [maxLen] at bc0_3
  have bb1_0 := b1_0.1; have bc1_0 := b1_0.2; simp only [maxLen] at bc1_0
  have bb1_1 := b1_1.1; have bc1_1 := b1_1.2; simp only [maxLen] at bc1_1
  have bb1_2 := b1_2.1; have bc1_2 := b1_2.2; simp only [maxLen] at bc1_2
  have bb1_3 := b1_3.1; have bc1_3 := b1_3.2; simp only [maxLen] at bc1_3
  refine run_seq ?_
  refine run_reg (l := [0, 1, 2]) rfl ?_
  obtain ⟨b1, w1, r1, g1, T1⟩ := e_box (P := Tryd.prog) S0 27 (v := .agg #[.slice A0_0 a.spots.length c0_0, .slice A0_1 a.first.length c0_1, .slice A0_2 a.follow.length c0_2, .slice A0_3 a.last.length c0_3, .bool a.empty]) [.slice A0_0 a.spots.length c0_0, .slice A0_1 a.first.length c0_1, .slice A0_2 a.follow.length c0_2, .slice A0_3 a.last.length c0_3, .bool a.empty] rfl
  have S2 : St w.heap.size w (fun _ => none) w1 [box b1 27 [.slice A0_0 a.spots.length c0_0, .slice A0_1 a.first.length c0_1, .slice A0_2 a.follow.length c0_2, .slice A0_3 a.last.length c0_3, .bool a.empty]] := T1
  refine p_v (v := .pointer (some ⟨b1, 0, none⟩)) rfl rfl rfl (x_box rfl r1) ?_
  obtain ⟨b3, w3, r3, g3, T3⟩ := e_box (P := Tryd.prog) S2 27 (v := .agg #[.slice A1_0 b.spots.length c1_0, .slice A1_1 b.first.length c1_1, .slice A1_2 b.follow.length c1_2, .slice A1_3 b.last.length c1_3, .bool b.empty]) [.slice A1_0 b.spots.length c1_0, .slice A1_1 b.first.length c1_1, .slice A1_2 b.follow.length c1_2, .slice A1_3 b.last.length c1_3, .bool b.empty] rfl
  have S4 : St w.heap.size w (fun _ => none) w3 [box b1 27 [.slice A0_0 a.spots.length c0_0, .slice A0_1 a.first.length c0_1, .slice A0_2 a.follow.length c0_2, .slice A0_3 a.last.length c0_3, .bool a.empty], box b3 27 [.slice A1_0 b.spots.length c1_0, .slice A1_1 b.first.length c1_1, .slice A1_2 b.follow.length c1_2, .slice A1_3 b.last.length c1_3, .bool b.empty]] := T3
  refine p_v (v := .pointer (some ⟨b3, 0, none⟩)) rfl rfl rfl (x_box rfl r3) ?_
  refine p_v (v := .bool false) rfl rfl rfl (x_assign rfl) ?_
  refine run_region_end ?_
  refine run_seq ?_
  refine run_reg (l := [0, 1, 2, 3, 4, 5, 6, 7, 8, 9, 10, 11, 12, 13, 14, 15, 16, 17, 18, 19, 20, 21, 22, 23, 24, 25, 26, 27, 28, 29, 30, 31, 32, 33]) rfl ?_
  refine p_v (v := .pointer (some ⟨b1, 0, none⟩)) rfl rfl rfl (x_fieldAt fd27_0 ty22 rfl rfl) ?_
  refine p_v (v := .slice A0_0 a.spots.length c0_0) rfl rfl rfl (x_load (seg := [.slice A0_0 a.spots.length c0_0]) ty22 rfl (by simp) rfl (CF.box (m := 1) (S4.box_at (j := 0) rfl) rfl)) ?_
  refine p_v (v := .pointer (some ⟨b3, 0, none⟩)) rfl rfl rfl (x_fieldAt fd27_0 ty22 rfl rfl) ?_
  refine p_v (v := .slice A1_0 b.spots.length c1_0) rfl rfl rfl (x_load (seg := [.slice A1_0 b.spots.length c1_0]) ty22 rfl (by simp) rfl (CF.box (m := 1) (S4.box_at (j := 1) rfl) rfl)) ?_
  refine p_c rfl rfl rfl (y_call (args := [.slice A0_0 a.spots.length c0_0, .slice A1_0 b.spots.length c1_0]) ca21 rfl rfl) (equalS_calls w3 a.spots A0_0 c0_0 b0_0 (l0_0.mono (St.le0 S4)) b.spots A1_0 c1_0 b1_0 (l1_0.mono (St.le0 S4))) ?_
  rintro _ w5 ⟨h5, T5, rfl⟩
  have S6 := S4.keep (Chg.of_below T5.below)
  refine p_v (v := .bool (decide (a.spots = b.spots))) rfl rfl rfl (x_move rfl) ?_
  rcases Bool.eq_false_or_eq_true (decide (a.spots = b.spots)) with hc7 | hc7
  · skip
    refine p_v (v := .pointer (some ⟨b1, 1, none⟩)) rfl (wanted_of (j := 5) (want := true) (d := 10) (b := true) rfl rfl (congrArg Value.bool hc7) rfl) rfl (x_fieldAt fd27_1 ty23 rfl rfl) ?_
    refine p_v (v := .slice A0_1 a.first.length c0_1) rfl (wanted_of (j := 5) (want := true) (d := 10) (b := true) rfl rfl (congrArg Value.bool hc7) rfl) rfl (x_load (seg := [.slice A0_1 a.first.length c0_1]) ty23 rfl (by simp) rfl (CF.box (m := 1) (S6.box_at (j := 0) rfl) rfl)) ?_
    refine p_v (v := .pointer (some ⟨b3, 1, none⟩)) rfl (wanted_of (j := 5) (want := true) (d := 10) (b := true) rfl rfl (congrArg Value.bool hc7) rfl) rfl (x_fieldAt fd27_1 ty23 rfl rfl) ?_
    refine p_v (v := .slice A1_1 b.first.length c1_1) rfl (wanted_of (j := 5) (want := true) (d := 10) (b := true) rfl rfl (congrArg Value.bool hc7) rfl) rfl (x_load (seg := [.slice A1_1 b.first.length c1_1]) ty23 rfl (by simp) rfl (CF.box (m := 1) (S6.box_at (j := 1) rfl) rfl)) ?_
    refine p_c rfl (wanted_of (j := 5) (want := true) (d := 10) (b := true) rfl rfl (congrArg Value.bool hc7) rfl) rfl (y_call (args := [.slice A0_1 a.first.length c0_1, .slice A1_1 b.first.length c1_1]) ca22 rfl rfl) (equalI_calls w5 a.first A0_1 c0_1 b0_1 (l0_1.mono (St.le0 S6)) b.first A1_1 c1_1 b1_1 (l1_1.mono (St.le0 S6))) ?_
    rintro _ w8 ⟨h8, T8, rfl⟩
    have S9 := S6.keep (Chg.of_below T8.below)
    refine p_v (v := .bool (decide (a.first = b.first))) rfl rfl rfl (x_pick_t (congrArg Value.bool hc7) rfl) ?_
    refine p_v (v := .bool (decide (a.first = b.first))) rfl rfl rfl (x_move rfl) ?_
    rcases Bool.eq_false_or_eq_true (decide (a.first = b.first)) with hc10 | hc10
    · skip
      refine p_v (v := .pointer (some ⟨b1, 2, none⟩)) rfl (wanted_of (j := 12) (want := true) (d := 17) (b := true) rfl rfl (congrArg Value.bool hc10) rfl) rfl (x_fieldAt fd27_2 ty24 rfl rfl) ?_
      refine p_v (v := .slice A0_2 a.follow.length c0_2) rfl (wanted_of (j := 12) (want := true) (d := 17) (b := true) rfl rfl (congrArg Value.bool hc10) rfl) rfl (x_load (seg := [.slice A0_2 a.follow.length c0_2]) ty24 rfl (by simp) rfl (CF.box (m := 1) (S9.box_at (j := 0) rfl) rfl)) ?_
      refine p_v (v := .pointer (some ⟨b3, 2, none⟩)) rfl (wanted_of (j := 12) (want := true) (d := 17) (b := true) rfl rfl (congrArg Value.bool hc10) rfl) rfl (x_fieldAt fd27_2 ty24 rfl rfl) ?_
      refine p_v (v := .slice A1_2 b.follow.length c1_2) rfl (wanted_of (j := 12) (want := true) (d := 17) (b := true) rfl rfl (congrArg Value.bool hc10) rfl) rfl (x_load (seg := [.slice A1_2 b.follow.length c1_2]) ty24 rfl (by simp) rfl (CF.box (m := 1) (S9.box_at (j := 1) rfl) rfl)) ?_
      refine p_c rfl (wanted_of (j := 12) (want := true) (d := 17) (b := true) rfl rfl (congrArg Value.bool hc10) rfl) rfl (y_call (args := [.slice A0_2 a.follow.length c0_2, .slice A1_2 b.follow.length c1_2, .func (.func 22) #[] #[]]) ca23 rfl rfl) (equalF_calls w8 a.follow A0_2 c0_2 b0_2 (l0_2.mono (St.le0 S9)) b.follow A1_2 c1_2 b1_2 (l1_2.mono (St.le0 S9)) ()) ?_
      rintro _ w11 ⟨h11, T11, rfl⟩
      have S12 := S9.keep (Chg.of_below T11.below)
      refine p_v (v := .bool (decide (a.follow = b.follow))) rfl rfl rfl (x_pick_t (congrArg Value.bool hc10) rfl) ?_
      refine p_v (v := .bool (decide (a.follow = b.follow))) rfl rfl rfl (x_move rfl) ?_
      rcases Bool.eq_false_or_eq_true (decide (a.follow = b.follow)) with hc13 | hc13
      · skip
        refine p_v (v := .pointer (some ⟨b1, 3, none⟩)) rfl (wanted_of (j := 19) (want := true) (d := 24) (b := true) rfl rfl (congrArg Value.bool hc13) rfl) rfl (x_fieldAt fd27_3 ty25 rfl rfl) ?_
        refine p_v (v := .slice A0_3 a.last.length c0_3) rfl (wanted_of (j := 19) (want := true) (d := 24) (b := true) rfl rfl (congrArg Value.bool hc13) rfl) rfl (x_load (seg := [.slice A0_3 a.last.length c0_3]) ty25 rfl (by simp) rfl (CF.box (m := 1) (S12.box_at (j := 0) rfl) rfl)) ?_
        refine p_v (v := .pointer (some ⟨b3, 3, none⟩)) rfl (wanted_of (j := 19) (want := true) (d := 24) (b := true) rfl rfl (congrArg Value.bool hc13) rfl) rfl (x_fieldAt fd27_3 ty25 rfl rfl) ?_
        refine p_v (v := .slice A1_3 b.last.length c1_3) rfl (wanted_of (j := 19) (want := true) (d := 24) (b := true) rfl rfl (congrArg Value.bool hc13) rfl) rfl (x_load (seg := [.slice A1_3 b.last.length c1_3]) ty25 rfl (by simp) rfl (CF.box (m := 1) (S12.box_at (j := 1) rfl) rfl)) ?_
        refine p_c rfl (wanted_of (j := 19) (want := true) (d := 24) (b := true) rfl rfl (congrArg Value.bool hc13) rfl) rfl (y_call (args := [.slice A0_3 a.last.length c0_3, .slice A1_3 b.last.length c1_3]) ca24 rfl rfl) (equalB_calls w11 a.last A0_3 c0_3 b0_3 (l0_3.mono (St.le0 S12)) b.last A1_3 c1_3 b1_3 (l1_3.mono (St.le0 S12))) ?_
        rintro _ w14 ⟨h14, T14, rfl⟩
        have S15 := S12.keep (Chg.of_below T14.below)
        refine p_v (v := .bool (decide (a.last = b.last))) rfl rfl rfl (x_pick_t (congrArg Value.bool hc13) rfl) ?_
        refine p_v (v := .bool (decide (a.last = b.last))) rfl rfl rfl (x_move rfl) ?_
        rcases Bool.eq_false_or_eq_true (decide (a.last = b.last)) with hc16 | hc16
        · skip
          refine p_v (v := .pointer (some ⟨b1, 4, none⟩)) rfl (wanted_of (j := 26) (want := true) (d := 31) (b := true) rfl rfl (congrArg Value.bool hc16) rfl) rfl (x_fieldAt fd27_4 ty4 rfl rfl) ?_
          refine p_v (v := .bool a.empty) rfl (wanted_of (j := 26) (want := true) (d := 31) (b := true) rfl rfl (congrArg Value.bool hc16) rfl) rfl (x_load (seg := [.bool a.empty]) ty4 rfl (by simp) rfl (CF.box (m := 1) (S15.box_at (j := 0) rfl) rfl)) ?_
          refine p_v (v := .pointer (some ⟨b3, 4, none⟩)) rfl (wanted_of (j := 26) (want := true) (d := 31) (b := true) rfl rfl (congrArg Value.bool hc16) rfl) rfl (x_fieldAt fd27_4 ty4 rfl rfl) ?_
          refine p_v (v := .bool b.empty) rfl (wanted_of (j := 26) (want := true) (d := 31) (b := true) rfl rfl (congrArg Value.bool hc16) rfl) rfl (x_load (seg := [.bool b.empty]) ty4 rfl (by simp) rfl (CF.box (m := 1) (S15.box_at (j := 1) rfl) rfl)) ?_
          refine p_v (v := .bool (decide (a.empty = b.empty))) rfl (wanted_of (j := 26) (want := true) (d := 31) (b := true) rfl rfl (congrArg Value.bool hc16) rfl) rfl (x_eql_bool u4 rfl rfl) ?_
          refine p_v (v := .bool (decide (a.empty = b.empty))) rfl rfl rfl (x_pick_t (congrArg Value.bool hc16) rfl) ?_
          refine p_v (v := .bool (decide (a.empty = b.empty))) rfl rfl rfl (x_assign rfl) ?_
          refine run_region_end ?_
          refine run_ret Tryd.func9 (res1 rfl (res_tmp (v := .bool (decide (a.empty = b.empty))) rfl)) ?_
          have q0 : (decide (a = b) : Bool) = decide (a.empty = b.empty) := by
            rw [mach_eq]; first | (rw [(by assumption : decide (a.spots = b.spots) = false)]; rfl) | (rw [(by assumption : decide (a.spots = b.spots) = true), (by assumption : decide (a.first = b.first) = false)]; rfl) | (rw [(by assumption : decide (a.spots = b.spots) = true), (by assumption : decide (a.first = b.first) = true), (by assumption : decide (a.follow = b.follow) = false)]; rfl) | (rw [(by assumption : decide (a.spots = b.spots) = true), (by assumption : decide (a.first = b.first) = true), (by assumption : decide (a.follow = b.follow) = true), (by assumption : decide (a.last = b.last) = false)]; rfl) | (rw [(by assumption : decide (a.spots = b.spots) = true), (by assumption : decide (a.first = b.first) = true), (by assumption : decide (a.follow = b.follow) = true), (by assumption : decide (a.last = b.last) = true)]; simp)
          refine ⟨_, rfl, (fun _ => none), ?_, ?_⟩
          · exact S15.sub [] (by decide) rfl _ rfl
          · first | rfl | (simp only [q0]; rfl) | (simp only [q0])
        · skip
          refine p_off rfl (wanted_of (j := 26) (want := true) (d := 31) (b := false) rfl rfl (congrArg Value.bool hc16) rfl) rfl ?_
          refine p_off rfl (wanted_of (j := 26) (want := true) (d := 31) (b := false) rfl rfl (congrArg Value.bool hc16) rfl) rfl ?_
          refine p_off rfl (wanted_of (j := 26) (want := true) (d := 31) (b := false) rfl rfl (congrArg Value.bool hc16) rfl) rfl ?_
          refine p_off rfl (wanted_of (j := 26) (want := true) (d := 31) (b := false) rfl rfl (congrArg Value.bool hc16) rfl) rfl ?_
          refine p_off rfl (wanted_of (j := 26) (want := true) (d := 31) (b := false) rfl rfl (congrArg Value.bool hc16) rfl) rfl ?_
          refine p_v (v := .bool false) rfl rfl rfl (x_pick_f (congrArg Value.bool hc16) rfl) ?_
          refine p_v (v := .bool false) rfl rfl rfl (x_assign rfl) ?_
          refine run_region_end ?_
          refine run_ret Tryd.func9 (res1 rfl (res_tmp (v := .bool false) rfl)) ?_
          have q0 : (decide (a = b) : Bool) = false := by
            rw [mach_eq]; first | (rw [(by assumption : decide (a.spots = b.spots) = false)]; rfl) | (rw [(by assumption : decide (a.spots = b.spots) = true), (by assumption : decide (a.first = b.first) = false)]; rfl) | (rw [(by assumption : decide (a.spots = b.spots) = true), (by assumption : decide (a.first = b.first) = true), (by assumption : decide (a.follow = b.follow) = false)]; rfl) | (rw [(by assumption : decide (a.spots = b.spots) = true), (by assumption : decide (a.first = b.first) = true), (by assumption : decide (a.follow = b.follow) = true), (by assumption : decide (a.last = b.last) = false)]; rfl) | (rw [(by assumption : decide (a.spots = b.spots) = true), (by assumption : decide (a.first = b.first) = true), (by assumption : decide (a.follow = b.follow) = true), (by assumption : decide (a.last = b.last) = true)]; simp)
          refine ⟨_, rfl, (fun _ => none), ?_, ?_⟩
          · exact S15.sub [] (by decide) rfl _ rfl
          · first | rfl | (simp only [q0]; rfl) | (simp only [q0])
      · skip
        refine p_off rfl (wanted_of (j := 19) (want := true) (d := 24) (b := false) rfl rfl (congrArg Value.bool hc13) rfl) rfl ?_
        refine p_off rfl (wanted_of (j := 19) (want := true) (d := 24) (b := false) rfl rfl (congrArg Value.bool hc13) rfl) rfl ?_
        refine p_off rfl (wanted_of (j := 19) (want := true) (d := 24) (b := false) rfl rfl (congrArg Value.bool hc13) rfl) rfl ?_
        refine p_off rfl (wanted_of (j := 19) (want := true) (d := 24) (b := false) rfl rfl (congrArg Value.bool hc13) rfl) rfl ?_
        refine p_off rfl (wanted_of (j := 19) (want := true) (d := 24) (b := false) rfl rfl (congrArg Value.bool hc13) rfl) rfl ?_
        refine p_v (v := .bool false) rfl rfl rfl (x_pick_f (congrArg Value.bool hc13) rfl) ?_
        refine p_v (v := .bool false) rfl rfl rfl (x_move rfl) ?_
        refine p_off rfl rfl rfl ?_
        refine p_off rfl rfl rfl ?_
        refine p_off rfl rfl rfl ?_
        refine p_off rfl rfl rfl ?_
        refine p_off rfl rfl rfl ?_
        refine p_v (v := .bool false) rfl rfl rfl (x_pick_f rfl rfl) ?_
        refine p_v (v := .bool false) rfl rfl rfl (x_assign rfl) ?_
        refine run_region_end ?_
        refine run_ret Tryd.func9 (res1 rfl (res_tmp (v := .bool false) rfl)) ?_
        have q0 : (decide (a = b) : Bool) = false := by
          rw [mach_eq]; first | (rw [(by assumption : decide (a.spots = b.spots) = false)]; rfl) | (rw [(by assumption : decide (a.spots = b.spots) = true), (by assumption : decide (a.first = b.first) = false)]; rfl) | (rw [(by assumption : decide (a.spots = b.spots) = true), (by assumption : decide (a.first = b.first) = true), (by assumption : decide (a.follow = b.follow) = false)]; rfl) | (rw [(by assumption : decide (a.spots = b.spots) = true), (by assumption : decide (a.first = b.first) = true), (by assumption : decide (a.follow = b.follow) = true), (by assumption : decide (a.last = b.last) = false)]; rfl) | (rw [(by assumption : decide (a.spots = b.spots) = true), (by assumption : decide (a.first = b.first) = true), (by assumption : decide (a.follow = b.follow) = true), (by assumption : decide (a.last = b.last) = true)]; simp)
        refine ⟨_, rfl, (fun _ => none), ?_, ?_⟩
        · exact S12.sub [] (by decide) rfl _ rfl
        · first | rfl | (simp only [q0]; rfl) | (simp only [q0])
    · skip
      refine p_off rfl (wanted_of (j := 12) (want := true) (d := 17) (b := false) rfl rfl (congrArg Value.bool hc10) rfl) rfl ?_
      refine p_off rfl (wanted_of (j := 12) (want := true) (d := 17) (b := false) rfl rfl (congrArg Value.bool hc10) rfl) rfl ?_
      refine p_off rfl (wanted_of (j := 12) (want := true) (d := 17) (b := false) rfl rfl (congrArg Value.bool hc10) rfl) rfl ?_
      refine p_off rfl (wanted_of (j := 12) (want := true) (d := 17) (b := false) rfl rfl (congrArg Value.bool hc10) rfl) rfl ?_
      refine p_off rfl (wanted_of (j := 12) (want := true) (d := 17) (b := false) rfl rfl (congrArg Value.bool hc10) rfl) rfl ?_
      refine p_v (v := .bool false) rfl rfl rfl (x_pick_f (congrArg Value.bool hc10) rfl) ?_
      refine p_v (v := .bool false) rfl rfl rfl (x_move rfl) ?_
      refine p_off rfl rfl rfl ?_
      refine p_off rfl rfl rfl ?_
      refine p_off rfl rfl rfl ?_
      refine p_off rfl rfl rfl ?_
      refine p_off rfl rfl rfl ?_
      refine p_v (v := .bool false) rfl rfl rfl (x_pick_f rfl rfl) ?_
      refine p_v (v := .bool false) rfl rfl rfl (x_move rfl) ?_
      refine p_off rfl rfl rfl ?_
      refine p_off rfl rfl rfl ?_
      refine p_off rfl rfl rfl ?_
      refine p_off rfl rfl rfl ?_
      refine p_off rfl rfl rfl ?_
      refine p_v (v := .bool false) rfl rfl rfl (x_pick_f rfl rfl) ?_
      refine p_v (v := .bool false) rfl rfl rfl (x_assign rfl) ?_
      refine run_region_end ?_
      refine run_ret Tryd.func9 (res1 rfl (res_tmp (v := .bool false) rfl)) ?_
      have q0 : (decide (a = b) : Bool) = false := by
        rw [mach_eq]; first | (rw [(by assumption : decide (a.spots = b.spots) = false)]; rfl) | (rw [(by assumption : decide (a.spots = b.spots) = true), (by assumption : decide (a.first = b.first) = false)]; rfl) | (rw [(by assumption : decide (a.spots = b.spots) = true), (by assumption : decide (a.first = b.first) = true), (by assumption : decide (a.follow = b.follow) = false)]; rfl) | (rw [(by assumption : decide (a.spots = b.spots) = true), (by assumption : decide (a.first = b.first) = true), (by assumption : decide (a.follow = b.follow) = true), (by assumption : decide (a.last = b.last) = false)]; rfl) | (rw [(by assumption : decide (a.spots = b.spots) = true), (by assumption : decide (a.first = b.first) = true), (by assumption : decide (a.follow = b.follow) = true), (by assumption : decide (a.last = b.last) = true)]; simp)
      refine ⟨_, rfl, (fun _ => none), ?_, ?_⟩
      · exact S9.sub [] (by decide) rfl _ rfl
      · first | rfl | (simp only [q0]; rfl) | (simp only [q0])
  · skip
    refine p_off rfl (wanted_of (j := 5) (want := true) (d := 10) (b := false) rfl rfl (congrArg Value.bool hc7) rfl) rfl ?_
    refine p_off rfl (wanted_of (j := 5) (want := true) (d := 10) (b := false) rfl rfl (congrArg Value.bool hc7) rfl) rfl ?_
    refine p_off rfl (wanted_of (j := 5) (want := true) (d := 10) (b := false) rfl rfl (congrArg Value.bool hc7) rfl) rfl ?_
    refine p_off rfl (wanted_of (j := 5) (want := true) (d := 10) (b := false) rfl rfl (congrArg Value.bool hc7) rfl) rfl ?_
    refine p_off rfl (wanted_of (j := 5) (want := true) (d := 10) (b := false) rfl rfl (congrArg Value.bool hc7) rfl) rfl ?_
    refine p_v (v := .bool false) rfl rfl rfl (x_pick_f (congrArg Value.bool hc7) rfl) ?_
    refine p_v (v := .bool false) rfl rfl rfl (x_move rfl) ?_
    refine p_off rfl rfl rfl ?_
    refine p_off rfl rfl rfl ?_
    refine p_off rfl rfl rfl ?_
    refine p_off rfl rfl rfl ?_
    refine p_off rfl rfl rfl ?_
    refine p_v (v := .bool false) rfl rfl rfl (x_pick_f rfl rfl) ?_
    refine p_v (v := .bool false) rfl rfl rfl (x_move rfl) ?_
    refine p_off rfl rfl rfl ?_
    refine p_off rfl rfl rfl ?_
    refine p_off rfl rfl rfl ?_
    refine p_off rfl rfl rfl ?_
    refine p_off rfl rfl rfl ?_
    refine p_v (v := .bool false) rfl rfl rfl (x_pick_f rfl rfl) ?_
    refine p_v (v := .bool false) rfl rfl rfl (x_move rfl) ?_
    refine p_off rfl rfl rfl ?_
    refine p_off rfl rfl rfl ?_
    refine p_off rfl rfl rfl ?_
    refine p_off rfl rfl rfl ?_
    refine p_off rfl rfl rfl ?_
    refine p_v (v := .bool false) rfl rfl rfl (x_pick_f rfl rfl) ?_
    refine p_v (v := .bool false) rfl rfl rfl (x_assign rfl) ?_
    refine run_region_end ?_
    refine run_ret Tryd.func9 (res1 rfl (res_tmp (v := .bool false) rfl)) ?_
    have q0 : (decide (a = b) : Bool) = false := by
      rw [mach_eq]; first | (rw [(by assumption : decide (a.spots = b.spots) = false)]; rfl) | (rw [(by assumption : decide (a.spots = b.spots) = true), (by assumption : decide (a.first = b.first) = false)]; rfl) | (rw [(by assumption : decide (a.spots = b.spots) = true), (by assumption : decide (a.first = b.first) = true), (by assumption : decide (a.follow = b.follow) = false)]; rfl) | (rw [(by assumption : decide (a.spots = b.spots) = true), (by assumption : decide (a.first = b.first) = true), (by assumption : decide (a.follow = b.follow) = true), (by assumption : decide (a.last = b.last) = false)]; rfl) | (rw [(by assumption : decide (a.spots = b.spots) = true), (by assumption : decide (a.first = b.first) = true), (by assumption : decide (a.follow = b.follow) = true), (by assumption : decide (a.last = b.last) = true)]; simp)
    refine ⟨_, rfl, (fun _ => none), ?_, ?_⟩
    · exact S6.sub [] (by decide) rfl _ rfl
    · first | rfl | (simp only [q0]; rfl) | (simp only [q0])
theorem some_calls (w : World) (s : Spot) (o0 : okSpot s) :
    Calls Tryd.prog 41 #[.agg (encSpot s).toArray] w fun e w' => ∃ v, e = .returned v ∧ ∃ (hn : Ghost), St w.heap.size w hn w' [] ∧ v = .bool (decide (s.set ≠ 0)) := by
  refine calls_of_run Tryd.func41 rfl Tryd.ntmps41 rfl ?_
  have S0 := St.init w
  have sloo0 := u8_lo o0; have shio0 := u8_hi o0
  refine run_seq ?_
  refine run_reg (l := [0, 1]) rfl ?_
  obtain ⟨b1, w1, r1, g1, T1⟩ := e_box (P := Tryd.prog) S0 55 (v := .agg (encSpot s).toArray) (encSpot s) rfl
  have S2 : St w.heap.size w (fun _ => none) w1 [box b1 55 (encSpot s)] := T1
  refine p_v (v := .pointer (some ⟨b1, 0, none⟩)) rfl rfl rfl (x_box rfl r1) ?_
  refine p_v (v := .bool false) rfl rfl rfl (x_assign rfl) ?_
  refine run_region_end ?_
  refine run_seq ?_
  refine run_reg (l := [0, 1, 2, 3, 4]) rfl ?_
  refine p_v (v := .pointer (some ⟨b1, 0, none⟩)) rfl rfl rfl (x_fieldAt fd55_0 ty49 rfl rfl) ?_
  refine p_v (v := .agg (encSet s.set).toArray) rfl rfl rfl (x_load (seg := (encSet s.set)) ty49 rfl (by simp) rfl (CF.box (m := 4) (S2.box_at (j := 0) rfl) rfl)) ?_
  refine p_c rfl rfl rfl (y_call (args := [.agg (encSet s.set).toArray]) ca43 rfl rfl) (count_calls w1 s.set) ?_
  rintro _ w3 ⟨h3, T3, rfl, in3_0⟩
  have S4 := S2.keep (Chg.of_below T3.below)
  have lo_in3_0 := i64_lo in3_0; have hi_in3_0 := i64_hi in3_0
  have cl3 := count_le s.set
  refine p_v (v := .bool (decide (0 < (count s.set)))) rfl rfl rfl (x_gtr rfl rfl) ?_
  refine p_v (v := .bool (decide (0 < (count s.set)))) rfl rfl rfl (x_assign rfl) ?_
  refine run_region_end ?_
  refine run_ret Tryd.func41 (res1 rfl (res_tmp (v := .bool (decide (0 < (count s.set)))) rfl)) ?_
  have q0 : (decide (s.set ≠ 0) : Bool) = decide (0 < (count s.set)) := by
    exact (some_full _).symm
  refine ⟨_, rfl, (fun _ => none), ?_, ?_⟩
  · exact S4.sub [] (by decide) rfl _ rfl
  · first | rfl | (simp only [q0]; rfl) | (simp only [q0])
theorem reached_calls (w : World) (m : Mach) (A0_0 : Option Addr) (c0_0 : Nat) (b0_0 : m.spots.length ≤ c0_0 ∧ c0_0 ≤ maxLen) (l0_0 : Leads kSpot (hp w) A0_0 m.spots) (A0_1 : Option Addr) (c0_1 : Nat) (b0_1 : m.first.length ≤ c0_1 ∧ c0_1 ≤ maxLen) (l0_1 : Leads (Kd.int .i64) (hp w) A0_1 m.first) (A0_2 : Option Addr) (c0_2 : Nat) (b0_2 : m.follow.length ≤ c0_2 ∧ c0_2 ≤ maxLen) (l0_2 : Leads (Kd.int .i64).slice (hp w) A0_2 m.follow) (A0_3 : Option Addr) (c0_3 : Nat) (b0_3 : m.last.length ≤ c0_3 ∧ c0_3 ≤ maxLen) (l0_3 : Leads Kd.bool (hp w) A0_3 m.last) (pre0 : Right m) :
    Calls Tryd.prog 34 #[.agg #[.slice A0_0 m.spots.length c0_0, .slice A0_1 m.first.length c0_1, .slice A0_2 m.follow.length c0_2, .slice A0_3 m.last.length c0_3, .bool m.empty]] w fun e w' => ∃ v, e = .returned v ∧ ∃ (hn : Ghost) (r0 : Value), St w.heap.size w hn w' [row 4 Kd.bool r0 (comeM m)] ∧ v = r0 := by
  refine calls_of_run Tryd.func34 rfl Tryd.ntmps34 rfl ?_
  have S0 := St.init w
  have bb0_0 := b0_0.1; have bc0_0 := b0_0.2; simp only [maxLen] at bc0_0
  have bb0_1 := b0_1.1; have bc0_1 := b0_1.2; simp only [maxLen] at bc0_1
  have bb0_2 := b0_2.1; have bc0_2 := b0_2.2; simp only [maxLen] at bc0_2
  have bb0_3 := b0_3.1; have bc0_3 := b0_3.2; simp only [maxLen] at bc0_3
  have hsm_ := pre0.small; have hfo_ := pre0.follow; have hla_ := pre0.last; have hfi_ := pre0.small'.first
  refine run_seq ?_
  refine run_reg (l := [0, 1]) rfl ?_
  obtain ⟨b1, w1, r1, g1, T1⟩ := e_box (P := Tryd.prog) S0 27 (v := .agg #[.slice A0_0 m.spots.length c0_0, .slice A0_1 m.first.length c0_1, .slice A0_2 m.follow.length c0_2, .slice A0_3 m.last.length c0_3, .bool m.empty]) [.slice A0_0 m.spots.length c0_0, .slice A0_1 m.first.length c0_1, .slice A0_2 m.follow.length c0_2, .slice A0_3 m.last.length c0_3, .bool m.empty] rfl
  have S2 : St w.heap.size w (fun _ => none) w1 [box b1 27 [.slice A0_0 m.spots.length c0_0, .slice A0_1 m.first.length c0_1, .slice A0_2 m.follow.length c0_2, .slice A0_3 m.last.length c0_3, .bool m.empty]] := T1
  refine p_v (v := .pointer (some ⟨b1, 0, none⟩)) rfl rfl rfl (x_box rfl r1) ?_
  refine p_v (v := .slice none 0 0) rfl rfl rfl (x_assign rfl) ?_
  refine run_region_end ?_
  refine run_seq ?_
  refine run_reg (l := [0, 1, 2, 3, 4]) rfl ?_
  refine p_v (v := .pointer (some ⟨b1, 0, none⟩)) rfl rfl rfl (x_fieldAt fd27_0 ty22 rfl rfl) ?_
  refine p_v (v := .slice A0_0 m.spots.length c0_0) rfl rfl rfl (x_load (seg := [.slice A0_0 m.spots.length c0_0]) ty22 rfl (by simp) rfl (CF.box (m := 1) (S2.box_at (j := 0) rfl) rfl)) ?_
  refine p_v (v := .int .i64 (m.spots.length : Int)) rfl rfl rfl (x_len_slice u22 rfl) ?_
  obtain ⟨v3, w3, r3, g3, T3⟩ := e_make (kk := .i64) (kk' := .i64) (kd := Kd.bool) (q := (m.spots.length : Int)) (z := false) (zc := [.bool false]) S2 u25 ty4 rfl rfl ⟨rfl, trivial⟩ (by first|omega|(simp;omega)|assumption) (by first|omega|(simp;omega)|assumption) (by first|omega|(simp;omega)|assumption)
  have S4 : St w.heap.size w (fun _ => none) w3 [box b1 27 [.slice A0_0 m.spots.length c0_0, .slice A0_1 m.first.length c0_1, .slice A0_2 m.follow.length c0_2, .slice A0_3 m.last.length c0_3, .bool m.empty], row 4 Kd.bool v3 (List.replicate ((m.spots.length : Int)).toNat false)] := T3
  refine p_v (v := v3) rfl rfl rfl (x_make rfl rfl r3) ?_
  refine p_v (v := v3) rfl rfl rfl (x_assign rfl) ?_
  refine run_region_end ?_
  refine run_seq ?_
  refine run_reg (l := [0, 1, 2, 3]) rfl ?_
  refine p_v (v := .pointer (some ⟨b1, 1, none⟩)) rfl rfl rfl (x_fieldAt fd27_1 ty23 rfl rfl) ?_
  refine p_v (v := .slice A0_1 m.first.length c0_1) rfl rfl rfl (x_load (seg := [.slice A0_1 m.first.length c0_1]) ty23 rfl (by simp) rfl (CF.box (m := 1) (S4.box_at (j := 0) rfl) rfl)) ?_
  refine p_c rfl rfl rfl (y_call (args := [.slice A0_1 m.first.length c0_1]) ca40 rfl rfl) (cloneI_calls w3 m.first A0_1 c0_1 b0_1 (l0_1.mono (St.le0 S4)) (by omega)) ?_
  rintro v5_0 w5 ⟨h5, _, T5, rfl⟩
  obtain ⟨k5, lk5, ll5, U5⟩ := call_joins S4 T5
  have S6 : St w.heap.size w k5 w5 [box b1 27 [.slice A0_0 m.spots.length c0_0, .slice A0_1 m.first.length c0_1, .slice A0_2 m.follow.length c0_2, .slice A0_3 m.last.length c0_3, .bool m.empty], row 4 Kd.bool v3 (List.replicate ((m.spots.length : Int)).toNat false), row 3 (Kd.int .i64) v5_0 m.first] := U5
  refine p_v (v := v5_0) rfl rfl rfl (x_assign rfl) ?_
  refine run_region_end ?_
  refine run_seq ?_
  refine run_block ?_
  refine run_loop (S := (List Bool) × (List Int)) (fun (q_ : (List Bool) × (List Int)) ρ w' => match q_ with | (out, todo) => ∃ (h : Ghost) (v_out : Value) (v_todo : Value), Le k5 h ∧ St w.heap.size w h w' [box b1 27 [.slice A0_0 m.spots.length c0_0, .slice A0_1 m.first.length c0_1, .slice A0_2 m.follow.length c0_2, .slice A0_3 m.last.length c0_3, .bool m.empty], row 4 Kd.bool v_out out, row 3 (Kd.int .i64) v_todo todo] ∧ ρ 1 = .pointer (some ⟨b1, 0, none⟩) ∧ ρ 3 = v_out ∧ ρ 4 = v_todo ∧ (Seek m out todo ∧ seekB m out todo)) (fun q_ => match q_ with | (out, todo) => seekN m out todo) (List.replicate ((m.spots.length : Int)).toNat false, m.first) ⟨k5, v3, v5_0, Le.refl _, S6.sub [0, 1, 2] (by decide) rfl _ rfl, rfl, rfl, rfl, (by exact ⟨seek_0 pre0, seek_b0 pre0⟩)⟩ ?_
  rintro ⟨out, todo⟩ ih7 ρ7 w7 ⟨h7, v_out, v_todo, le7, S7, r7_1, r7_3, r7_4, hI7⟩
  have rl7_1 := S7.row_le (j := 1) rfl; simp only [maxLen] at rl7_1
  have rl7_2 := S7.row_le (j := 2) rfl; simp only [maxLen] at rl7_2
  have hi_ := seek_in hI7.1; have hb_ := seek_b pre0 hI7.2; have hol_ := hI7.1.len
  have hr_ : 0 < (todo.length : Int) → ((at_ m.follow (at_ todo ((todo.length : Int) - 1))).length : Int) ≤ 250 := fun h => pre0.small'.row _ (hi_ h).1 (by rw [pre0.follow]; exact (hi_ h).2)
  refine run_seq ?_
  refine run_seq ?_
  refine run_reg (l := [0, 1, 2]) rfl ?_
  refine p_v (v := v_todo) rfl rfl rfl (x_move r7_4) ?_
  have lb8 := S7.row_le (j := 2) rfl; simp only [maxLen] at lb8
  refine p_v (v := .int .i64 (todo.length : Int)) rfl rfl rfl (x_len_own u23 rfl (e_len_own S7 (j := 2) rfl)) ?_
  refine p_v (v := .bool (decide (0 < (todo.length : Int)))) rfl rfl rfl (x_gtr rfl rfl) ?_
  refine run_region_end ?_
  refine run_cond_prop (p := 0 < (todo.length : Int)) rfl (fun hc9 => ?_) (fun hc9 => ?_)
  · skip
    refine run_skip ?_
    refine run_block ?_
    refine run_seq ?_
    refine run_reg (l := [0, 1, 2, 3, 4, 5, 6]) rfl ?_
    refine p_v (v := v_todo) rfl rfl rfl (x_move r7_4) ?_
    refine p_v (v := v_todo) rfl rfl rfl (x_move r7_4) ?_
    have lb10 := S7.row_le (j := 2) rfl; simp only [maxLen] at lb10
    refine p_v (v := .int .i64 (todo.length : Int)) rfl rfl rfl (x_len_own u23 rfl (e_len_own S7 (j := 2) rfl)) ?_
    refine p_v (v := .int .i64 ((todo.length : Int) - 1)) rfl rfl rfl (x_sub rfl rfl (in_i64 (by first|omega|(simp;omega)|assumption) (by first|omega|(simp;omega)|assumption))) ?_
    obtain ⟨ad11, a11, at11⟩ := e_index_own (q := (todo.length : Int) - 1) (m := 1) S7 (j := 2) rfl rfl (by first|omega|(simp;omega)|assumption) (by first|omega|(simp;omega)|assumption)
    refine p_v (v := .pointer (some ad11)) rfl rfl rfl (x_index_own u23 ty3 rfl rfl a11 (by first|omega|(simp;omega)|assumption) (by first|omega|(simp;omega)|assumption)) ?_
    obtain ⟨seg12, rp12, cf12⟩ := e_load_own (q := (todo.length : Int) - 1) S7 (j := 2) rfl rfl at11 (by first|omega|(simp;omega)|assumption) (by first|omega|(simp;omega)|assumption)
    obtain ⟨rfl, in12⟩ := rp12
    have lo12 := i64_lo in12; have hi12 := i64_hi in12
    refine p_v (v := .int .i64 (at_ todo ((todo.length : Int) - 1))) rfl rfl rfl (x_load (seg := [.int .i64 (at_ todo ((todo.length : Int) - 1))]) ty3 rfl (by simp) rfl cf12) ?_
    refine p_v (v := .int .i64 (at_ todo ((todo.length : Int) - 1))) rfl rfl rfl (x_assign rfl) ?_
    refine run_region_end ?_
    refine run_seq ?_
    refine run_reg (l := [0, 1, 2, 3, 4, 5]) rfl ?_
    refine p_v (v := v_todo) rfl rfl rfl (x_move r7_4) ?_
    refine p_v (v := v_todo) rfl rfl rfl (x_move r7_4) ?_
    have lb13 := S7.row_le (j := 2) rfl; simp only [maxLen] at lb13
    refine p_v (v := .int .i64 (todo.length : Int)) rfl rfl rfl (x_len_own u23 rfl (e_len_own S7 (j := 2) rfl)) ?_
    refine p_v (v := .int .i64 ((todo.length : Int) - 1)) rfl rfl rfl (x_sub rfl rfl (in_i64 (by first|omega|(simp;omega)|assumption) (by first|omega|(simp;omega)|assumption))) ?_
    obtain ⟨v14, r14, T14⟩ := e_slice_hi (q := (todo.length : Int) - 1) (kk := .i64) S7 u23 ty3 (j := 2) rfl (by first|omega|(simp;omega)|assumption) (by first|omega|(simp;omega)|assumption)
    have S15 : St w.heap.size w h7 w7 [box b1 27 [.slice A0_0 m.spots.length c0_0, .slice A0_1 m.first.length c0_1, .slice A0_2 m.follow.length c0_2, .slice A0_3 m.last.length c0_3, .bool m.empty], row 4 Kd.bool v_out out, row 3 (Kd.int .i64) v14 (todo.take ((todo.length : Int) - 1).toNat)] := T14
    refine p_v (v := v14) rfl rfl rfl (x_slice (lv := none) (hv := some (.int .i64 ((todo.length : Int) - 1))) rfl rfl rfl r14) ?_
    refine p_v (v := v14) rfl rfl rfl (x_assign rfl) ?_
    refine run_region_end ?_
    refine run_seq ?_
    refine run_seq ?_
    refine run_reg (l := [0, 1, 2, 3, 4, 5, 6, 7, 8, 9, 10, 11, 12]) rfl ?_
    refine p_v (v := v_out) rfl rfl rfl (x_move r7_3) ?_
    refine p_v (v := .int .i64 (at_ todo ((todo.length : Int) - 1))) rfl rfl rfl (x_move rfl) ?_
    obtain ⟨ad16, a16, at16⟩ := e_index_own (q := at_ todo ((todo.length : Int) - 1)) (m := 1) S15 (j := 1) rfl rfl (by first|omega|(simp;omega)|assumption) (by first|omega|(simp;omega)|assumption)
    refine p_v (v := .pointer (some ad16)) rfl rfl rfl (x_index_own u25 ty4 rfl rfl a16 (by first|omega|(simp;omega)|assumption) (by first|omega|(simp;omega)|assumption)) ?_
    obtain ⟨seg17, rp17, cf17⟩ := e_load_own (q := at_ todo ((todo.length : Int) - 1)) S15 (j := 1) rfl rfl at16 (by first|omega|(simp;omega)|assumption) (by first|omega|(simp;omega)|assumption)
    obtain ⟨rfl, _⟩ := rp17
    refine p_v (v := .bool (at_ out (at_ todo ((todo.length : Int) - 1)))) rfl rfl rfl (x_load (seg := [.bool (at_ out (at_ todo ((todo.length : Int) - 1)))]) ty4 rfl (by simp) rfl cf17) ?_
    refine p_v (v := .bool (at_ out (at_ todo ((todo.length : Int) - 1)))) rfl rfl rfl (x_move rfl) ?_
    rcases Bool.eq_false_or_eq_true (at_ out (at_ todo ((todo.length : Int) - 1))) with hc18 | hc18
    · skip
      refine p_off rfl (wanted_of (j := 4) (want := false) (d := 31) (b := true) rfl rfl (congrArg Value.bool hc18) rfl) rfl ?_
      refine p_off rfl (wanted_of (j := 4) (want := false) (d := 31) (b := true) rfl rfl (congrArg Value.bool hc18) rfl) rfl ?_
      refine p_off rfl (wanted_of (j := 4) (want := false) (d := 31) (b := true) rfl rfl (congrArg Value.bool hc18) rfl) rfl ?_
      refine p_off rfl (wanted_of (j := 4) (want := false) (d := 31) (b := true) rfl rfl (congrArg Value.bool hc18) rfl) rfl ?_
      refine p_off rfl (wanted_of (j := 4) (want := false) (d := 31) (b := true) rfl rfl (congrArg Value.bool hc18) rfl) rfl ?_
      refine p_off rfl (wanted_of (j := 4) (want := false) (d := 31) (b := true) rfl rfl (congrArg Value.bool hc18) rfl) rfl ?_
      refine p_off rfl (wanted_of (j := 4) (want := false) (d := 31) (b := true) rfl rfl (congrArg Value.bool hc18) rfl) rfl ?_
      refine p_v (v := .bool true) rfl rfl rfl (x_pick_t (congrArg Value.bool hc18) rfl) ?_
      refine run_region_end ?_
      refine run_cond (b := true) rfl ?_
      simp only [if_true, if_false, Bool.false_eq_true]
      refine run_exit rfl ?_
      refine ih7 (out, todo.take ((todo.length : Int) - 1).toNat) _ _ (by first | exact seek_dec1 (by assumption) | exact seek_dec2 pre0 hI7.1 (by assumption) (by assumption)) ⟨h7, v_out, v14, le7, S15.sub [0, 1, 2] (by decide) rfl _ rfl, r7_1, r7_3, rfl, (by first | exact ⟨seek_old hI7.1 (by assumption) (.inl (by assumption)), seek_b1 hI7.2⟩ | exact ⟨seek_old hI7.1 (by assumption) (.inr (by unfold fullS; rw [Int.toNat_of_nonneg (hi_ (by assumption)).1]; assumption)), seek_b1 hI7.2⟩ | exact ⟨seek_new pre0 hI7.1 (by assumption) (by unfold fullS; rw [Int.toNat_of_nonneg (hi_ (by assumption)).1]; assumption), seek_b2 pre0 hI7.1 hI7.2 (by assumption) (by assumption)⟩)⟩
    · skip
      refine p_v (v := .pointer (some ⟨b1, 0, none⟩)) rfl (wanted_of (j := 4) (want := false) (d := 31) (b := false) rfl rfl (congrArg Value.bool hc18) rfl) rfl (x_fieldAt fd27_0 ty22 rfl r7_1) ?_
      refine p_v (v := .slice A0_0 m.spots.length c0_0) rfl (wanted_of (j := 4) (want := false) (d := 31) (b := false) rfl rfl (congrArg Value.bool hc18) rfl) rfl (x_load (seg := [.slice A0_0 m.spots.length c0_0]) ty22 rfl (by simp) rfl (CF.box (m := 1) (S15.box_at (j := 0) rfl) rfl)) ?_
      refine p_v (v := .int .i64 (at_ todo ((todo.length : Int) - 1))) rfl (wanted_of (j := 4) (want := false) (d := 31) (b := false) rfl rfl (congrArg Value.bool hc18) rfl) rfl (x_move rfl) ?_
      obtain ⟨ad19, seg19, a19, rp19, ce19⟩ := e_index_ro (q := at_ todo ((todo.length : Int) - 1)) (m := 5) l0_0 rfl (by first|omega|(simp;omega)|assumption) (by first|omega|(simp;omega)|assumption)
      refine p_v (v := .pointer (some ad19)) rfl (wanted_of (j := 4) (want := false) (d := 31) (b := false) rfl rfl (congrArg Value.bool hc18) rfl) rfl (x_index_ro u22 ty55 rfl rfl a19 (by first|omega|(simp;omega)|assumption) (by first|omega|(simp;omega)|assumption)) ?_
      obtain ⟨rfl, ok19⟩ := rp19
      have slook19 := u8_lo ok19; have shiok19 := u8_hi ok19
      refine p_v (v := .agg (encSpot (at_ m.spots (at_ todo ((todo.length : Int) - 1)))).toArray) rfl (wanted_of (j := 4) (want := false) (d := 31) (b := false) rfl rfl (congrArg Value.bool hc18) rfl) rfl (x_load (seg := (encSpot (at_ m.spots (at_ todo ((todo.length : Int) - 1))))) ty55 rfl (by simp) rfl (CF.ghost ce19 (St.le0 S15))) ?_
      refine p_c rfl (wanted_of (j := 4) (want := false) (d := 31) (b := false) rfl rfl (congrArg Value.bool hc18) rfl) rfl (y_call (args := [.agg (encSpot (at_ m.spots (at_ todo ((todo.length : Int) - 1)))).toArray]) ca41 rfl rfl) (some_calls w7 (at_ m.spots (at_ todo ((todo.length : Int) - 1))) ok19) ?_
      rintro _ w20 ⟨h20, T20, rfl⟩
      have S21 := S15.keep (Chg.of_below T20.below)
      refine p_v (v := .bool (!(decide ((at_ m.spots (at_ todo ((todo.length : Int) - 1))).set ≠ 0)))) rfl (wanted_of (j := 4) (want := false) (d := 31) (b := false) rfl rfl (congrArg Value.bool hc18) rfl) rfl (x_not rfl) ?_
      refine p_v (v := .bool (!(decide ((at_ m.spots (at_ todo ((todo.length : Int) - 1))).set ≠ 0)))) rfl rfl rfl (x_pick_f (congrArg Value.bool hc18) rfl) ?_
      refine run_region_end ?_
      refine run_cond_nsplit (b := decide ((at_ m.spots (at_ todo ((todo.length : Int) - 1))).set ≠ 0)) rfl (fun hc22 => ?_) (fun hc22 => ?_)
      · skip
        refine run_exit rfl ?_
        refine ih7 (out, todo.take ((todo.length : Int) - 1).toNat) _ _ (by first | exact seek_dec1 (by assumption) | exact seek_dec2 pre0 hI7.1 (by assumption) (by assumption)) ⟨h7, v_out, v14, le7, S21.sub [0, 1, 2] (by decide) rfl _ rfl, r7_1, r7_3, rfl, (by first | exact ⟨seek_old hI7.1 (by assumption) (.inl (by assumption)), seek_b1 hI7.2⟩ | exact ⟨seek_old hI7.1 (by assumption) (.inr (by unfold fullS; rw [Int.toNat_of_nonneg (hi_ (by assumption)).1]; assumption)), seek_b1 hI7.2⟩ | exact ⟨seek_new pre0 hI7.1 (by assumption) (by unfold fullS; rw [Int.toNat_of_nonneg (hi_ (by assumption)).1]; assumption), seek_b2 pre0 hI7.1 hI7.2 (by assumption) (by assumption)⟩)⟩
      · skip
        refine run_skip ?_
        refine run_seq ?_
        refine run_reg (l := [0, 1, 2, 3]) rfl ?_
        refine p_v (v := v_out) rfl rfl rfl (x_move r7_3) ?_
        refine p_v (v := .int .i64 (at_ todo ((todo.length : Int) - 1))) rfl rfl rfl (x_move rfl) ?_
        obtain ⟨ad23, a23, at23⟩ := e_index_own (q := at_ todo ((todo.length : Int) - 1)) (m := 1) S21 (j := 1) rfl rfl (by first|omega|(simp;omega)|assumption) (by first|omega|(simp;omega)|assumption)
        refine p_v (v := .pointer (some ad23)) rfl rfl rfl (x_index_own u25 ty4 rfl rfl a23 (by first|omega|(simp;omega)|assumption) (by first|omega|(simp;omega)|assumption)) ?_
        obtain ⟨w24, r24, g24, T24⟩ := e_store_own (u := .bool true) (q := at_ todo ((todo.length : Int) - 1)) true (vs := [.bool true]) S21 ty4 rfl (j := 1) rfl rfl ⟨rfl, trivial⟩ at23 (by first|omega|(simp;omega)|assumption) (by first|omega|(simp;omega)|assumption)
        have S25 : St w.heap.size w h7 w24 [box b1 27 [.slice A0_0 m.spots.length c0_0, .slice A0_1 m.first.length c0_1, .slice A0_2 m.follow.length c0_2, .slice A0_3 m.last.length c0_3, .bool m.empty], row 4 Kd.bool v_out (out.set (at_ todo ((todo.length : Int) - 1)).toNat true), row 3 (Kd.int .i64) v14 (todo.take ((todo.length : Int) - 1).toNat)] := T24
        refine p_s rfl rfl (x_store rfl rfl r24) ?_
        refine run_region_end ?_
        refine run_reg (l := [0, 1, 2, 3, 4, 5, 6, 7]) rfl ?_
        refine p_v (v := v14) rfl rfl rfl (x_move rfl) ?_
        refine p_v (v := .pointer (some ⟨b1, 2, none⟩)) rfl rfl rfl (x_fieldAt fd27_2 ty24 rfl r7_1) ?_
        refine p_v (v := .slice A0_2 m.follow.length c0_2) rfl rfl rfl (x_load (seg := [.slice A0_2 m.follow.length c0_2]) ty24 rfl (by simp) rfl (CF.box (m := 1) (S25.box_at (j := 0) rfl) rfl)) ?_
        refine p_v (v := .int .i64 (at_ todo ((todo.length : Int) - 1))) rfl rfl rfl (x_move rfl) ?_
        obtain ⟨ad26, seg26, a26, rp26, ce26⟩ := e_index_ro (q := at_ todo ((todo.length : Int) - 1)) (m := 1) l0_2 rfl (by first|omega|(simp;omega)|assumption) (by first|omega|(simp;omega)|assumption)
        refine p_v (v := .pointer (some ad26)) rfl rfl rfl (x_index_ro u24 ty23 rfl rfl a26 (by first|omega|(simp;omega)|assumption) (by first|omega|(simp;omega)|assumption)) ?_
        obtain ⟨A26, c26, rfl, lc26, cm26, ld26⟩ := rp26
        have cn26 := cm26; simp only [maxLen] at cn26
        refine p_v (v := .slice A26 (at_ m.follow (at_ todo ((todo.length : Int) - 1))).length c26) rfl rfl rfl (x_load (seg := [.slice A26 (at_ m.follow (at_ todo ((todo.length : Int) - 1))).length c26]) ty23 rfl (by simp) rfl (CF.ghost ce26 (St.le0 S25))) ?_
        obtain ⟨v28, w28, r28, g28, T28⟩ := e_append (kd := (Kd.int .i64)) (A := A26) (c := c26) (ys := (at_ m.follow (at_ todo ((todo.length : Int) - 1)))) (len := (at_ m.follow (at_ todo ((todo.length : Int) - 1))).length) 23 S25 u23 ty3 rfl rfl (j := 2) rfl rfl (news_flat (ld26.mono (St.le0 S25)) (fun _ _ hr => hr)) (by first|omega|(simp;omega)|assumption) (by first|omega|(simp;omega)|assumption)
        have S29 : St w.heap.size w h7 w28 [box b1 27 [.slice A0_0 m.spots.length c0_0, .slice A0_1 m.first.length c0_1, .slice A0_2 m.follow.length c0_2, .slice A0_3 m.last.length c0_3, .bool m.empty], row 4 Kd.bool v_out (out.set (at_ todo ((todo.length : Int) - 1)).toNat true), row 3 (Kd.int .i64) v28 ((todo.take ((todo.length : Int) - 1).toNat) ++ (at_ m.follow (at_ todo ((todo.length : Int) - 1))))] := T28
        refine p_v (v := v28) rfl rfl rfl (x_append rfl rfl r28) ?_
        refine p_v (v := v28) rfl rfl rfl (x_assign rfl) ?_
        refine run_region_end ?_
        refine run_inBlock ?_
        refine ih7 (out.set (at_ todo ((todo.length : Int) - 1)).toNat true, (todo.take ((todo.length : Int) - 1).toNat) ++ (at_ m.follow (at_ todo ((todo.length : Int) - 1)))) _ _ (by first | exact seek_dec1 (by assumption) | exact seek_dec2 pre0 hI7.1 (by assumption) (by assumption)) ⟨h7, v_out, v28, le7, S29.sub [0, 1, 2] (by decide) rfl _ rfl, r7_1, r7_3, rfl, (by first | exact ⟨seek_old hI7.1 (by assumption) (.inl (by assumption)), seek_b1 hI7.2⟩ | exact ⟨seek_old hI7.1 (by assumption) (.inr (by unfold fullS; rw [Int.toNat_of_nonneg (hi_ (by assumption)).1]; assumption)), seek_b1 hI7.2⟩ | exact ⟨seek_new pre0 hI7.1 (by assumption) (by unfold fullS; rw [Int.toNat_of_nonneg (hi_ (by assumption)).1]; assumption), seek_b2 pre0 hI7.1 hI7.2 (by assumption) (by assumption)⟩)⟩
  · skip
    refine run_exit rfl ?_
    refine run_seq ?_
    refine run_reg (l := [0, 1]) rfl ?_
    refine p_v (v := v_out) rfl rfl rfl (x_move r7_3) ?_
    refine p_v (v := v_out) rfl rfl rfl (x_assign rfl) ?_
    refine run_region_end ?_
    refine run_ret Tryd.func34 (res1 rfl (res_tmp (v := v_out) rfl)) ?_
    have q0 : (comeM m : List Bool) = out := by
      exact seek_end hI7.1 (by assumption)
    refine ⟨_, rfl, h7, v_out, ?_, ?_⟩
    · rw [q0]; exact S7.sub [1] (by decide) rfl _ rfl
    · first | rfl | (simp only [q0]; rfl) | (simp only [q0])
end Go.Proofs.YtdfkpjchnndniaaDoor
