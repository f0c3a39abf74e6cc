/- Functions of this translation, each walked once; no conditions but those that each contract tells. -/
import Derived.Test.YtdfkpjchnndniaaDoorTB
import Derived.Test.YtdfkpjchnndniaaDoorM6
import Derived.Test.YtdfkpjchnndniaaDoorM7
import Derived.Test.YtdfkpjchnndniaaDoorQB
import Derived.Test.YtdfkpjchnndniaaDoorTzB
import Derived.Test.YtdfkpjchnndniaaDoorN2
import Derived.Test.YtdfkpjchnndniaaDoorK1B
import Derived.Test.YtdfkpjchnndniaaDoorN3
import Derived.Test.YtdfkpjchnndniaaDoorM11
import Derived.Test.YtdfkpjchnndniaaDoorN5
import Derived.Test.YtdfkpjchnndniaaDoorN6
import Derived.Test.YtdfkpjchnndniaaDoorN7
import Derived.Test.YtdfkpjchnndniaaDoorRB
namespace Go.Proofs.YtdfkpjchnndniaaDoor
open Go Go.RowKit Gx
set_option maxHeartbeats 1000000
set_option linter.unusedVariables false
set_option linter.unusedSimpArgs false
attribute [local irreducible] members pack listOf count first someIn has setOf setRange wbits Lib.ctz rises rightM rowOk tab markP intoP intoTo behindP behindTo behindIn runTo endsIn endTo runM posTo mayP stepIf stepP mayTo atP lastTo greatM greatTo docAt anyTo allTo numAt numsL numsIn leftN kept lefts spotsTo lastTp followTo trimM errM comeM goesM keepM lfp seekN seekB fullS placeF okC okG clC clG clC2 clG2 firstC lastG andTo useN trues addS setsOfTo setsM

theorem indexS_calls (w : World) (s : List BSet) (A0 : Option Addr) (c0 : Nat) (b0 : s.length ≤ c0 ∧ c0 ≤ maxLen) (l0 : Leads kSet (hp w) A0 s) (x : BSet) :
    Calls Tryd.prog 38 #[.slice A0 s.length c0, .agg (encSet x).toArray] w fun e w' => ∃ v, e = .returned v ∧ ∃ (hn : Ghost), St w.heap.size w hn w' [] ∧ v = .int .i64 (placeF (fun z_ => decide (x = z_)) s 0) ∧ inK .i64 (placeF (fun z_ => decide (x = z_)) s 0) := by
  refine calls_of_run Tryd.func38 rfl Tryd.ntmps38 rfl ?_
  have S0 := St.init w
  have bb0 := b0.1; have bc0 := b0.2; simp only [maxLen] at bc0
  refine run_seq ?_
  refine run_reg (l := [0, 1]) rfl ?_
  obtain ⟨b1, w1, r1, g1, T1⟩ := e_box (P := Tryd.prog) S0 49 (v := .agg (encSet x).toArray) (encSet x) rfl
  have S2 : St w.heap.size w (fun _ => none) w1 [box b1 49 (encSet x)] := T1
  refine p_v (v := .pointer (some ⟨b1, 0, none⟩)) rfl rfl rfl (x_box rfl r1) ?_
  refine p_v (v := .int .i64 0) rfl rfl rfl (x_assign rfl) ?_
  refine run_region_end ?_
  refine run_seq ?_
  refine run_seq ?_
  refine run_reg (l := [0, 1, 2]) rfl ?_
  refine p_v (v := .slice A0 s.length c0) rfl rfl rfl (x_move rfl) ?_
  refine p_v (v := .int .i64 (s.length : Int)) rfl rfl rfl (x_len_slice u43 rfl) ?_
  refine p_v (v := .int .i64 0) rfl rfl rfl (x_move rfl) ?_
  refine run_region_end ?_
  refine run_block ?_
  refine run_loop (S := Int) (fun (q_ : Int) ρ w' => match q_ with | t8 => ∃ (h : Ghost), Le (fun _ => none) h ∧ St w.heap.size w h w' [box b1 49 (encSet x)] ∧ ρ 0 = .slice A0 s.length c0 ∧ ρ 3 = .pointer (some ⟨b1, 0, none⟩) ∧ ρ 7 = .int .i64 (s.length : Int) ∧ ρ 8 = .int .i64 t8 ∧ inK .i64 t8 ∧ (0 ≤ t8 ∧ t8 ≤ (s.length : Int) ∧ placeF (fun y => decide (x = y)) s 0 = placeF (fun y => decide (x = y)) (s.drop t8.toNat) t8)) (fun q_ => match q_ with | t8 => (s.length - t8).toNat) (0) ⟨(fun _ => none), Le.refl _, S2.sub [0] (by decide) rfl _ rfl, rfl, rfl, rfl, rfl, (in_i64 (by first|omega|(simp;omega)|assumption) (by first|omega|(simp;omega)|assumption)), (by exact ⟨by omega, by omega, rfl⟩)⟩ ?_
  rintro t8 ih3 ρ3 w3 ⟨h3, le3, S3, r3_0, r3_3, r3_7, r3_8, f3_0, hI3⟩
  have lf3_0 := i64_lo f3_0; have hf3_0 := i64_hi f3_0
  refine run_seq ?_
  refine run_reg (l := [0]) rfl ?_
  refine p_v (v := .bool (decide (t8 < (s.length : Int)))) rfl rfl rfl (x_lss r3_8 r3_7) ?_
  refine run_region_end ?_
  refine run_seq ?_
  refine run_cond_prop (p := t8 < (s.length : Int)) rfl (fun hc4 => ?_) (fun hc4 => ?_)
  · skip
    refine run_skip ?_
    refine run_seq ?_
    refine run_block ?_
    refine run_seq ?_
    refine run_reg (l := [0, 1]) rfl ?_
    refine p_v (v := .int .i64 t8) rfl rfl rfl (x_move r3_8) ?_
    refine p_v (v := .int .i64 t8) rfl rfl rfl (x_assign rfl) ?_
    refine run_region_end ?_
    refine run_seq ?_
    obtain ⟨ad5, seg5, a5, rp5, ce5⟩ := e_index_ro (q := t8) (m := 4) l0 rfl (by first|omega|(simp;omega)|assumption) (by first|omega|(simp;omega)|assumption)
    obtain ⟨rfl, ok5⟩ := rp5
    have hf6 : (CFs ⟨b1, 0, none⟩ (encSet x)).1 w3 := (CF.box (m := 4) (S3.box_at (j := 0) rfl) rfl)
    have hf7 : (CFs ad5 (encSet (at_ s t8))).1 w3 := (CF.ghost ce5 (St.le0 S3))
    refine da_start [(0, CFs ⟨b1, 0, none⟩ (encSet x)), (4, CFs ad5 (encSet (at_ s t8)))] 6 rfl mixed ?_
    intro wd8 gd8 hd8
    have S9 := S3.keep gd8
    have hf10 := (CFs ⟨b1, 0, none⟩ (encSet x)).2 _ _ gd8 hf6
    have hf11 := (CFs ad5 (encSet (at_ s t8))).2 _ _ gd8 hf7
    refine d_q (i := 0) (v := .agg (encSet x).toArray) (CF ⟨b1, 0, none⟩ (encSet x)) (fun _ ho => ho _ (List.mem_of_getElem? (i := 0) rfl) rfl) rfl (by decide +kernel) (by decide +kernel) (by decide +kernel) rfl rfl (fun wq hq => (x_load (seg := (encSet x)) ty49 rfl (by simp) r3_3 hq)) (of_eq hf10 (of_ne rfl (of_nil _ _))) ?_
    refine d_q (i := 1) (v := .slice A0 s.length c0) (fun _ => True) (fun _ ho => trivial) rfl (by decide +kernel) (by decide +kernel) (by decide +kernel) rfl rfl (fun wq hq => (x_move r3_0)) (of_ne rfl (of_ne rfl (of_nil _ _))) ?_
    refine d_q (i := 2) (v := .int .i64 t8) (fun _ => True) (fun _ ho => trivial) rfl (by decide +kernel) (by decide +kernel) (by decide +kernel) rfl rfl (fun wq hq => (x_move rfl)) (of_ne rfl (of_ne rfl (of_nil _ _))) ?_
    refine d_q (i := 3) (v := .pointer (some ad5)) (fun _ => True) (fun _ ho => trivial) rfl (by decide +kernel) (by decide +kernel) (by decide +kernel) rfl rfl (fun wq hq => (x_index_ro u43 ty49 rfl rfl a5 (by first|omega|(simp;omega)|assumption) (by first|omega|(simp;omega)|assumption))) (of_ne rfl (of_ne rfl (of_nil _ _))) ?_
    refine d_q (i := 4) (v := .agg (encSet (at_ s t8)).toArray) (CF ad5 (encSet (at_ s t8))) (fun _ ho => ho _ (List.mem_of_getElem? (i := 1) rfl) rfl) rfl (by decide +kernel) (by decide +kernel) (by decide +kernel) rfl rfl (fun wq hq => (x_load (seg := (encSet (at_ s t8))) ty49 rfl (by simp) rfl hq)) (of_ne rfl (of_eq hf11 (of_nil _ _))) ?_
    refine d_q (i := 5) (v := .bool (decide (x = (at_ s t8)))) (fun _ => True) (fun _ ho => trivial) rfl (by decide +kernel) (by decide +kernel) (by decide +kernel) rfl rfl (fun wq hq => (x_eql_set u49 u47 ty47 q49 rfl rfl)) (of_ne rfl (of_ne rfl (of_nil _ _))) ?_
    refine ra_done (by decide +kernel) ?_
    intro wd12 gd12
    have S13 := S9.keep gd12
    refine run_cond_prop (p := x = (at_ s t8)) rfl (fun hc14 => ?_) (fun hc14 => ?_)
    · skip
      refine run_seq ?_
      refine run_reg (l := [0, 1]) rfl ?_
      refine p_v (v := .int .i64 t8) rfl rfl rfl (x_move rfl) ?_
      refine p_v (v := .int .i64 t8) rfl rfl rfl (x_assign rfl) ?_
      refine run_region_end ?_
      refine run_ret Tryd.func38 (res1 rfl (res_tmp (v := .int .i64 t8) rfl)) ?_
      have q0 : (placeF (fun z_ => decide (x = z_)) s 0 : Int) = t8 := by
        rw [hI3.2.2, placeF_drop _ _ hI3.1 (by omega), if_pos (decide_eq_true (by assumption))]
      refine ⟨_, rfl, h3, ?_, ?_, ?_⟩
      · exact S13.sub [] (by decide) rfl _ rfl
      · first | rfl | (simp only [q0]; rfl) | (simp only [q0])
      · rw [q0]; exact f3_0
    · skip
      refine run_skip ?_
      refine run_inBlock ?_
      refine run_reg (l := [0, 1]) rfl ?_
      refine p_v (v := .int .i64 (t8 + 1)) rfl rfl rfl (x_add r3_8 rfl (in_i64 (by first|omega|(simp;omega)|assumption) (by first|omega|(simp;omega)|assumption))) ?_
      refine p_v (v := .int .i64 (t8 + 1)) rfl rfl rfl (x_move rfl) ?_
      refine run_region_end ?_
      refine ih3 (t8 + 1) _ _ (by dsimp only; omega) ⟨h3, le3, S13.sub [0] (by decide) rfl _ rfl, r3_0, r3_3, r3_7, rfl, (in_i64 (by first|omega|(simp;omega)|assumption) (by first|omega|(simp;omega)|assumption)), (by exact ⟨by omega, by omega, by rw [hI3.2.2, placeF_drop _ _ hI3.1 (by omega), if_neg (by simpa using (by assumption : ¬ x = at_ s t8))]⟩)⟩
  · skip
    refine run_exit rfl ?_
    refine run_seq ?_
    refine run_reg (l := [0]) rfl ?_
    refine p_v (v := .int .i64 (-1)) rfl rfl rfl (x_assign rfl) ?_
    refine run_region_end ?_
    refine run_ret Tryd.func38 (res1 rfl (res_tmp (v := .int .i64 (-1)) rfl)) ?_
    have q0 : (placeF (fun z_ => decide (x = z_)) s 0 : Int) = (-1) := by
      rw [hI3.2.2, List.drop_of_length_le (by omega)]; exact placeF_nil _ _
    refine ⟨_, rfl, h3, ?_, ?_, ?_⟩
    · exact S3.sub [] (by decide) rfl _ rfl
    · first | rfl | (simp only [q0]; rfl) | (simp only [q0])
    · rw [q0]; exact (in_i64 (by first|omega|(simp;omega)|assumption) (by first|omega|(simp;omega)|assumption))
theorem containsS_calls (w : World) (s : List BSet) (A0 : Option Addr) (c0 : Nat) (b0 : s.length ≤ c0 ∧ c0 ≤ maxLen) (l0 : Leads kSet (hp w) A0 s) (x : BSet) :
    Calls Tryd.prog 30 #[.slice A0 s.length c0, .agg (encSet x).toArray] w fun e w' => ∃ v, e = .returned v ∧ ∃ (hn : Ghost), St w.heap.size w hn w' [] ∧ v = .bool (s.any fun z_ => decide (x = z_)) := by
  refine calls_of_run Tryd.func30 rfl Tryd.ntmps30 rfl ?_
  have S0 := St.init w
  have bb0 := b0.1; have bc0 := b0.2; simp only [maxLen] at bc0
  refine run_seq ?_
  refine run_reg (l := [0, 1]) rfl ?_
  obtain ⟨b1, w1, r1, g1, T1⟩ := e_box (P := Tryd.prog) S0 49 (v := .agg (encSet x).toArray) (encSet x) rfl
  have S2 : St w.heap.size w (fun _ => none) w1 [box b1 49 (encSet x)] := T1
  refine p_v (v := .pointer (some ⟨b1, 0, none⟩)) rfl rfl rfl (x_box rfl r1) ?_
  refine p_v (v := .bool false) rfl rfl rfl (x_assign rfl) ?_
  refine run_region_end ?_
  refine run_seq ?_
  refine run_reg (l := [0, 1, 2, 3, 4]) rfl ?_
  refine p_v (v := .slice A0 s.length c0) rfl rfl rfl (x_move rfl) ?_
  refine p_v (v := .agg (encSet x).toArray) rfl rfl rfl (x_load (seg := (encSet x)) ty49 rfl (by simp) rfl (CF.box (m := 4) (S2.box_at (j := 0) rfl) rfl)) ?_
  refine p_c rfl rfl rfl (y_call (args := [.slice A0 s.length c0, .agg (encSet x).toArray]) ca38 rfl rfl) (indexS_calls w1 s A0 c0 b0 (l0.mono (St.le0 S2)) x) ?_
  rintro _ w3 ⟨h3, T3, rfl, in3_0⟩
  have S4 := S2.keep (Chg.of_below T3.below)
  have lo_in3_0 := i64_lo in3_0; have hi_in3_0 := i64_hi in3_0
  refine p_v (v := .bool (decide (0 ≤ (placeF (fun z_ => decide (x = z_)) s 0)))) rfl rfl rfl (x_geq rfl rfl) ?_
  refine p_v (v := .bool (decide (0 ≤ (placeF (fun z_ => decide (x = z_)) s 0)))) rfl rfl rfl (x_assign rfl) ?_
  refine run_region_end ?_
  refine run_ret Tryd.func30 (res1 rfl (res_tmp (v := .bool (decide (0 ≤ (placeF (fun z_ => decide (x = z_)) s 0)))) rfl)) ?_
  have q0 : (s.any fun z_ => decide (x = z_) : Bool) = decide (0 ≤ (placeF (fun z_ => decide (x = z_)) s 0)) := by
    exact (placeF_any _ _ _ (by omega)).symm
  refine ⟨_, rfl, (fun _ => none), ?_, ?_⟩
  · exact S4.sub [] (by decide) rfl _ rfl
  · first | rfl | (simp only [q0]; rfl) | (simp only [q0])
theorem setsN_calls (w : World) (m : Mach) (A0_0 : Option Addr) (c0_0 : Nat) (b0_0 : m.spots.length ≤ c0_0 ∧ c0_0 ≤ maxLen) (l0_0 : Leads kSpot (hp w) A0_0 m.spots) (A0_1 : Option Addr) (c0_1 : Nat) (b0_1 : m.first.length ≤ c0_1 ∧ c0_1 ≤ maxLen) (l0_1 : Leads (Kd.int .i64) (hp w) A0_1 m.first) (A0_2 : Option Addr) (c0_2 : Nat) (b0_2 : m.follow.length ≤ c0_2 ∧ c0_2 ≤ maxLen) (l0_2 : Leads (Kd.int .i64).slice (hp w) A0_2 m.follow) (A0_3 : Option Addr) (c0_3 : Nat) (b0_3 : m.last.length ≤ c0_3 ∧ c0_3 ≤ maxLen) (l0_3 : Leads Kd.bool (hp w) A0_3 m.last) (pre0 : (m.spots.length : Int) ≤ 1000) :
    Calls Tryd.prog 14 #[.agg #[.slice A0_0 m.spots.length c0_0, .slice A0_1 m.first.length c0_1, .slice A0_2 m.follow.length c0_2, .slice A0_3 m.last.length c0_3, .bool m.empty]] w fun e w' => ∃ v, e = .returned v ∧ ∃ (hn : Ghost) (r0 : Value), St w.heap.size w hn w' [row 49 kSet r0 (setsM m)] ∧ v = r0 := by
  refine calls_of_run Tryd.func14 rfl Tryd.ntmps14 rfl ?_
  have S0 := St.init w
  have bb0_0 := b0_0.1; have bc0_0 := b0_0.2; simp only [maxLen] at bc0_0
  have bb0_1 := b0_1.1; have bc0_1 := b0_1.2; simp only [maxLen] at bc0_1
  have bb0_2 := b0_2.1; have bc0_2 := b0_2.2; simp only [maxLen] at bc0_2
  have bb0_3 := b0_3.1; have bc0_3 := b0_3.2; simp only [maxLen] at bc0_3
  refine run_seq ?_
  refine run_reg (l := [0, 1]) rfl ?_
  obtain ⟨b1, w1, r1, g1, T1⟩ := e_box (P := Tryd.prog) S0 27 (v := .agg #[.slice A0_0 m.spots.length c0_0, .slice A0_1 m.first.length c0_1, .slice A0_2 m.follow.length c0_2, .slice A0_3 m.last.length c0_3, .bool m.empty]) [.slice A0_0 m.spots.length c0_0, .slice A0_1 m.first.length c0_1, .slice A0_2 m.follow.length c0_2, .slice A0_3 m.last.length c0_3, .bool m.empty] rfl
  have S2 : St w.heap.size w (fun _ => none) w1 [box b1 27 [.slice A0_0 m.spots.length c0_0, .slice A0_1 m.first.length c0_1, .slice A0_2 m.follow.length c0_2, .slice A0_3 m.last.length c0_3, .bool m.empty]] := T1
  refine p_v (v := .pointer (some ⟨b1, 0, none⟩)) rfl rfl rfl (x_box rfl r1) ?_
  refine p_v (v := .slice none 0 0) rfl rfl rfl (x_assign rfl) ?_
  refine run_region_end ?_
  refine run_seq ?_
  refine run_reg (l := [0]) rfl ?_
  refine p_v (v := .slice none 0 0) rfl rfl rfl (x_assign rfl) ?_
  refine run_region_end ?_
  refine run_seq ?_
  refine run_seq ?_
  refine run_reg (l := [0, 1, 2, 3]) rfl ?_
  refine p_v (v := .pointer (some ⟨b1, 0, none⟩)) rfl rfl rfl (x_fieldAt fd27_0 ty22 rfl rfl) ?_
  refine p_v (v := .slice A0_0 m.spots.length c0_0) rfl rfl rfl (x_load (seg := [.slice A0_0 m.spots.length c0_0]) ty22 rfl (by simp) rfl (CF.box (m := 1) (S2.box_at (j := 0) rfl) rfl)) ?_
  refine p_v (v := .int .i64 (m.spots.length : Int)) rfl rfl rfl (x_len_slice u22 rfl) ?_
  refine p_v (v := .int .i64 0) rfl rfl rfl (x_move rfl) ?_
  refine run_region_end ?_
  refine run_block ?_
  have T3 := S2.row_nil 49 kSet
  obtain ⟨vn3, ev3, T3⟩ : ∃ v, v = (.slice none 0 0 : Value) ∧ St w.heap.size w (fun _ => none) w1 ([box b1 27 [.slice A0_0 m.spots.length c0_0, .slice A0_1 m.first.length c0_1, .slice A0_2 m.follow.length c0_2, .slice A0_3 m.last.length c0_3, .bool m.empty]] ++ [row 49 kSet v []]) := ⟨_, rfl, T3⟩
  have S4 : St w.heap.size w (fun _ => none) w1 [box b1 27 [.slice A0_0 m.spots.length c0_0, .slice A0_1 m.first.length c0_1, .slice A0_2 m.follow.length c0_2, .slice A0_3 m.last.length c0_3, .bool m.empty], row 49 kSet vn3 ([] : List BSet)] := T3
  refine run_loop (S := (List BSet) × Int) (fun (q_ : (List BSet) × Int) ρ w' => match q_ with | (out, t9) => ∃ (h : Ghost) (v_out : Value), Le (fun _ => none) h ∧ St w.heap.size w h w' [row 49 kSet v_out out] ∧ ρ 3 = v_out ∧ ρ 7 = .slice A0_0 m.spots.length c0_0 ∧ ρ 8 = .int .i64 (m.spots.length : Int) ∧ ρ 9 = .int .i64 t9 ∧ inK .i64 t9 ∧ (0 ≤ t9 ∧ t9 ≤ (m.spots.length : Int) ∧ out = setsOfTo m t9)) (fun q_ => match q_ with | (out, t9) => (m.spots.length - t9).toNat) (([] : List BSet), 0) ⟨(fun _ => none), vn3, Le.refl _, S4.sub [1] (by decide) rfl _ rfl, (ev3.symm), rfl, rfl, rfl, (in_i64 (by first|omega|(simp;omega)|assumption) (by first|omega|(simp;omega)|assumption)), (by exact ⟨by omega, by omega, sets_0 m⟩)⟩ ?_
  rintro ⟨out, t9⟩ ih5 ρ5 w5 ⟨h5, v_out, le5, S5, r5_3, r5_7, r5_8, r5_9, f5_0, hI5⟩
  have lf5_0 := i64_lo f5_0; have hf5_0 := i64_hi f5_0
  have rl5_0 := S5.row_le (j := 0) rfl; simp only [maxLen] at rl5_0
  have hl_ : (out.length : Int) ≤ t9 := by rw [hI5.2.2]; exact setsTo_len' m hI5.1
  refine run_seq ?_
  refine run_reg (l := [0]) rfl ?_
  refine p_v (v := .bool (decide (t9 < (m.spots.length : Int)))) rfl rfl rfl (x_lss r5_9 r5_8) ?_
  refine run_region_end ?_
  refine run_seq ?_
  refine run_cond_prop (p := t9 < (m.spots.length : Int)) rfl (fun hc6 => ?_) (fun hc6 => ?_)
  · skip
    refine run_skip ?_
    refine run_seq ?_
    refine run_block ?_
    refine run_seq ?_
    refine run_reg (l := [0, 1, 2, 3]) rfl ?_
    obtain ⟨ad7, seg7, a7, rp7, ce7⟩ := e_index_ro (q := t9) (m := 5) l0_0 rfl (by first|omega|(simp;omega)|assumption) (by first|omega|(simp;omega)|assumption)
    refine p_v (v := .pointer (some ad7)) rfl rfl rfl (x_index_ro u22 ty55 r5_7 r5_9 a7 (by first|omega|(simp;omega)|assumption) (by first|omega|(simp;omega)|assumption)) ?_
    obtain ⟨rfl, ok7⟩ := rp7
    have slook7 := u8_lo ok7; have shiok7 := u8_hi ok7
    refine p_v (v := .agg (encSpot (at_ m.spots t9)).toArray) rfl rfl rfl (x_load (seg := (encSpot (at_ m.spots t9))) ty55 rfl (by simp) rfl (CF.ghost ce7 (St.le0 S5))) ?_
    obtain ⟨b8, w8, r8, g8, T8⟩ := e_box (P := Tryd.prog) S5 55 (v := (.agg #[.int .u64 0, .int .u64 0, .int .u64 0, .int .u64 0, .int .u8 0])) (encSpot (⟨0, 0⟩ : Spot)) rfl
    have S9 : St w.heap.size w h5 w8 [row 49 kSet v_out out, box b8 55 (encSpot (⟨0, 0⟩ : Spot))] := T8
    refine p_v (v := .pointer (some ⟨b8, 0, none⟩)) rfl rfl rfl (x_alloc ty55 r8) ?_
    obtain ⟨w10, r10, g10, T10⟩ := e_store (P := Tryd.prog) (off := 0) (v := .agg (encSpot (at_ m.spots t9)).toArray) (vs := (encSpot (at_ m.spots t9))) S9 ty55 rfl rfl (j := 1) rfl (by first | decide | exact Nat.le_of_ble_eq_true rfl) (encSpot_one _)
    have S11 : St w.heap.size w h5 w10 [row 49 kSet v_out out, box b8 55 (encSpot (at_ m.spots t9))] := T10
    refine p_s rfl rfl (x_store rfl rfl r10) ?_
    refine run_region_end ?_
    refine run_seq ?_
    refine run_reg (l := [0, 1, 2, 3, 4]) rfl ?_
    refine p_v (v := v_out) rfl rfl rfl (x_move r5_3) ?_
    refine p_v (v := .pointer (some ⟨b8, 0, none⟩)) rfl rfl rfl (x_fieldAt fd55_0 ty49 rfl rfl) ?_
    refine p_v (v := .agg (encSet ((at_ m.spots t9).set)).toArray) rfl rfl rfl (x_load (seg := (encSet ((at_ m.spots t9).set))) ty49 rfl (by simp) rfl (CF.box (m := 4) (S11.box_at (j := 1) rfl) rfl)) ?_
    obtain ⟨A12, c12, ev12, lc12, cm12⟩ := S11.row_val (j := 0) rfl
    refine p_c rfl rfl rfl (y_call (args := [.slice A12 out.length c12, .agg (encSet ((at_ m.spots t9).set)).toArray]) ca30 rfl (cons_eq ev12 (cons_eq rfl rfl))) (containsS_calls w10 out A12 c12 (And.intro lc12 cm12) (row_leads_eq S11 (j := 0) rfl ev12) ((at_ m.spots t9).set)) ?_
    rintro _ w13 ⟨h13, T13, rfl⟩
    have S14 := S11.keep (Chg.of_below T13.below)
    refine p_v (v := .bool (!(out.any fun z_ => decide (((at_ m.spots t9).set) = z_)))) rfl rfl rfl (x_not rfl) ?_
    refine run_region_end ?_
    refine run_cond_nsplit (b := out.any fun z_ => decide (((at_ m.spots t9).set) = z_)) rfl (fun hc15 => ?_) (fun hc15 => ?_)
    · skip
      refine run_reg (l := [0, 1, 2, 3, 4, 5]) rfl ?_
      refine p_v (v := v_out) rfl rfl rfl (x_move r5_3) ?_
      refine p_v (v := .pointer (some ⟨b8, 0, none⟩)) rfl rfl rfl (x_fieldAt fd55_0 ty49 rfl rfl) ?_
      refine p_v (v := .agg (encSet ((at_ m.spots t9).set)).toArray) rfl rfl rfl (x_load (seg := (encSet ((at_ m.spots t9).set))) ty49 rfl (by simp) rfl (CF.box (m := 4) (S14.box_at (j := 1) rfl) rfl)) ?_
      obtain ⟨v16, w16, r16, g16, T16⟩ := e_build_segs (kd := kSet) (xs := ([(at_ m.spots t9).set] : List BSet)) (len := 1) (m := 4) [(.agg (encSet ((at_ m.spots t9).set)).toArray, (encSet ((at_ m.spots t9).set)))] S14 u43 ty49 rfl rfl rfl rfl (segs_cons rfl rfl segs_nil) (cs := (encSet ((at_ m.spots t9).set))) (Elems.single (k := kSet) (h := h5) (x := (at_ m.spots t9).set) (cs := (encSet ((at_ m.spots t9).set))) ⟨rfl, trivial⟩) (by simp)
      have S17 : St w.heap.size w h5 w16 [row 49 kSet v_out out, box b8 55 (encSpot (at_ m.spots t9)), row 49 kSet v16 ([(at_ m.spots t9).set] : List BSet)] := T16
      refine p_v (v := v16) rfl rfl rfl (y_build_slice (pv := [(0, .agg (encSet ((at_ m.spots t9).set)).toArray)]) rfl r16) ?_
      obtain ⟨A19, c19, ev19, lc19, cm19⟩ := S17.row_val (j := 2) rfl
      obtain ⟨v20, w20, r20, g20, T20⟩ := e_append (kd := kSet) (A := A19) (c := c19) (ys := ([(at_ m.spots t9).set] : List BSet)) (len := ([(at_ m.spots t9).set] : List BSet).length) 43 S17 u43 ty49 rfl rfl (j := 0) rfl rfl (news_own S17 (j := 2) rfl ev19) (by first|omega|(simp;omega)|assumption) (by first|omega|(simp;omega)|assumption)
      have S21 : St w.heap.size w h5 w20 [row 49 kSet v20 (out ++ ([(at_ m.spots t9).set] : List BSet)), box b8 55 (encSpot (at_ m.spots t9)), row 49 kSet v16 ([(at_ m.spots t9).set] : List BSet)] := T20
      refine p_v (v := v20) rfl rfl rfl (x_append rfl ev19 r20) ?_
      refine p_v (v := v20) rfl rfl rfl (x_assign rfl) ?_
      refine run_region_end ?_
      refine run_inBlock ?_
      refine run_reg (l := [0, 1]) rfl ?_
      refine p_v (v := .int .i64 (t9 + 1)) rfl rfl rfl (x_add r5_9 rfl (in_i64 (by first|omega|(simp;omega)|assumption) (by first|omega|(simp;omega)|assumption))) ?_
      refine p_v (v := .int .i64 (t9 + 1)) rfl rfl rfl (x_move rfl) ?_
      refine run_region_end ?_
      refine ih5 (out ++ ([(at_ m.spots t9).set] : List BSet), t9 + 1) _ _ (by dsimp only; omega) ⟨h5, v20, le5, S21.sub [0] (by decide) rfl _ rfl, rfl, r5_7, r5_8, rfl, (in_i64 (by first|omega|(simp;omega)|assumption) (by first|omega|(simp;omega)|assumption)), (by first | exact ⟨by omega, by omega, sets_old m hI5.1 (by omega) hI5.2.2 (by assumption)⟩ | exact ⟨by omega, by omega, sets_new m hI5.1 (by omega) hI5.2.2 (by assumption)⟩)⟩
    · skip
      refine run_skip ?_
      refine run_inBlock ?_
      refine run_reg (l := [0, 1]) rfl ?_
      refine p_v (v := .int .i64 (t9 + 1)) rfl rfl rfl (x_add r5_9 rfl (in_i64 (by first|omega|(simp;omega)|assumption) (by first|omega|(simp;omega)|assumption))) ?_
      refine p_v (v := .int .i64 (t9 + 1)) rfl rfl rfl (x_move rfl) ?_
      refine run_region_end ?_
      refine ih5 (out, t9 + 1) _ _ (by dsimp only; omega) ⟨h5, v_out, le5, S14.sub [0] (by decide) rfl _ rfl, r5_3, r5_7, r5_8, rfl, (in_i64 (by first|omega|(simp;omega)|assumption) (by first|omega|(simp;omega)|assumption)), (by first | exact ⟨by omega, by omega, sets_old m hI5.1 (by omega) hI5.2.2 (by assumption)⟩ | exact ⟨by omega, by omega, sets_new m hI5.1 (by omega) hI5.2.2 (by assumption)⟩)⟩
  · skip
    refine run_exit rfl ?_
    refine run_seq ?_
    refine run_reg (l := [0, 1]) rfl ?_
    refine p_v (v := v_out) rfl rfl rfl (x_move r5_3) ?_
    refine p_v (v := v_out) rfl rfl rfl (x_assign rfl) ?_
    refine run_region_end ?_
    refine run_ret Tryd.func14 (res1 rfl (res_tmp (v := v_out) rfl)) ?_
    have q0 : (setsM m : List BSet) = out := by
      rw [hI5.2.2]; exact sets_end m (by omega)
    refine ⟨_, rfl, h5, v_out, ?_, ?_⟩
    · rw [q0]; exact S5.sub [0] (by decide) rfl _ rfl
    · first | rfl | (simp only [q0]; rfl) | (simp only [q0])
theorem some10_calls (w : World) :
    Calls Tryd.prog 17 #[] w fun e w' => ∃ v, e = .returned v ∧ ∃ (hn : Ghost) (r0 : Value) (r1 : Value) (r2 : Value) (r3 : Value), St w.heap.size w hn w' [row 55 kSpot r0 someM.spots, row 3 (Kd.int .i64) r1 someM.first, row 23 (Kd.int .i64).slice r2 someM.follow, row 4 Kd.bool r3 someM.last] ∧ v = .agg #[r0, r1, r2, r3, .bool someM.empty] := by
  refine calls_of_run Tryd.func17 rfl Tryd.ntmps17 rfl ?_
  have S0 := St.init w
  refine run_seq ?_
  refine run_reg (l := [0]) rfl ?_
  obtain ⟨b1, w1, r1, g1, T1⟩ := e_box (P := Tryd.prog) S0 27 (v := (.agg #[.slice none 0 0, .slice none 0 0, .slice none 0 0, .slice none 0 0, .bool false])) [.slice none 0 0, .slice none 0 0, .slice none 0 0, .slice none 0 0, .bool false] rfl
  have S2 : St w.heap.size w (fun _ => none) w1 [box b1 27 [.slice none 0 0, .slice none 0 0, .slice none 0 0, .slice none 0 0, .bool false]] := T1
  refine p_v (v := .pointer (some ⟨b1, 0, none⟩)) rfl rfl rfl (x_alloc ty27 r1) ?_
  refine run_region_end ?_
  refine run_seq ?_
  refine run_reg (l := [0, 1, 2, 3, 4, 5, 6, 7, 8, 9, 10, 11, 12, 13, 14, 15, 16, 17]) rfl ?_
  obtain ⟨v3, w3, r3, g3, T3⟩ := e_build_ones (kd := (Kd.int .u8)) (xs := ([97] : List Int)) (len := 1) [.int .u8 97] S2 u38 ty5 rfl rfl rfl rfl rfl (ones_cons rfl ones_nil) [.int .u8 97] (Elems.single (k := (Kd.int .u8)) (h := (fun _ => none)) (x := 97) (cs := [.int .u8 97]) ⟨rfl, (in_u8 (by first|omega|(simp;omega)|assumption) (by first|omega|(simp;omega)|assumption))⟩) rfl
  have S4 : St w.heap.size w (fun _ => none) w3 [box b1 27 [.slice none 0 0, .slice none 0 0, .slice none 0 0, .slice none 0 0, .bool false], row 5 (Kd.int .u8) v3 ([97] : List Int)] := T3
  refine p_v (v := v3) rfl rfl rfl (y_build_slice (pv := [(0, .int .u8 97)]) rfl r3) ?_
  obtain ⟨A5, c5, ev5, lc5, cm5⟩ := S4.row_val (j := 1) rfl
  refine p_c rfl rfl rfl (y_call (args := [.slice A5 ([97] : List Int).length c5]) ca32 rfl (cons_eq ev5 rfl)) (of_calls w3 ([97] : List Int) A5 c5 (And.intro lc5 cm5) (row_leads_eq S4 (j := 1) rfl ev5)) ?_
  rintro _ w6 ⟨h6, T6, rfl⟩
  have S7 := S4.keep (Chg.of_below T6.below)
  refine p_v (v := .agg (encSpot (⟨setOf ([97] : List Int), 0⟩ : Spot)).toArray) rfl rfl rfl (y_build (pv := [(0, .agg (encSet (setOf ([97] : List Int))).toArray)]) rfl (run_build_struct pl55 ty55 rfl (cs := (encSpot (⟨setOf ([97] : List Int), 0⟩ : Spot))) rfl)) ?_
  obtain ⟨v8, w8, r8, g8, T8⟩ := e_build_ones (kd := (Kd.int .u8)) (xs := ([98] : List Int)) (len := 1) [.int .u8 98] S7 u38 ty5 rfl rfl rfl rfl rfl (ones_cons rfl ones_nil) [.int .u8 98] (Elems.single (k := (Kd.int .u8)) (h := (fun _ => none)) (x := 98) (cs := [.int .u8 98]) ⟨rfl, (in_u8 (by first|omega|(simp;omega)|assumption) (by first|omega|(simp;omega)|assumption))⟩) rfl
  have S9 : St w.heap.size w (fun _ => none) w8 [box b1 27 [.slice none 0 0, .slice none 0 0, .slice none 0 0, .slice none 0 0, .bool false], row 5 (Kd.int .u8) v3 ([97] : List Int), row 5 (Kd.int .u8) v8 ([98] : List Int)] := T8
  refine p_v (v := v8) rfl rfl rfl (y_build_slice (pv := [(0, .int .u8 98)]) rfl r8) ?_
  obtain ⟨A10, c10, ev10, lc10, cm10⟩ := S9.row_val (j := 2) rfl
  refine p_c rfl rfl rfl (y_call (args := [.slice A10 ([98] : List Int).length c10]) ca32 rfl (cons_eq ev10 rfl)) (of_calls w8 ([98] : List Int) A10 c10 (And.intro lc10 cm10) (row_leads_eq S9 (j := 2) rfl ev10)) ?_
  rintro _ w11 ⟨h11, T11, rfl⟩
  have S12 := S9.keep (Chg.of_below T11.below)
  refine p_v (v := .agg (encSpot (⟨setOf ([98] : List Int), 0⟩ : Spot)).toArray) rfl rfl rfl (y_build (pv := [(0, .agg (encSet (setOf ([98] : List Int))).toArray)]) rfl (run_build_struct pl55 ty55 rfl (cs := (encSpot (⟨setOf ([98] : List Int), 0⟩ : Spot))) rfl)) ?_
  obtain ⟨v13, w13, r13, g13, T13⟩ := e_build_ones (kd := (Kd.int .u8)) (xs := ([99] : List Int)) (len := 1) [.int .u8 99] S12 u38 ty5 rfl rfl rfl rfl rfl (ones_cons rfl ones_nil) [.int .u8 99] (Elems.single (k := (Kd.int .u8)) (h := (fun _ => none)) (x := 99) (cs := [.int .u8 99]) ⟨rfl, (in_u8 (by first|omega|(simp;omega)|assumption) (by first|omega|(simp;omega)|assumption))⟩) rfl
  have S14 : St w.heap.size w (fun _ => none) w13 [box b1 27 [.slice none 0 0, .slice none 0 0, .slice none 0 0, .slice none 0 0, .bool false], row 5 (Kd.int .u8) v3 ([97] : List Int), row 5 (Kd.int .u8) v8 ([98] : List Int), row 5 (Kd.int .u8) v13 ([99] : List Int)] := T13
  refine p_v (v := v13) rfl rfl rfl (y_build_slice (pv := [(0, .int .u8 99)]) rfl r13) ?_
  obtain ⟨A15, c15, ev15, lc15, cm15⟩ := S14.row_val (j := 3) rfl
  refine p_c rfl rfl rfl (y_call (args := [.slice A15 ([99] : List Int).length c15]) ca32 rfl (cons_eq ev15 rfl)) (of_calls w13 ([99] : List Int) A15 c15 (And.intro lc15 cm15) (row_leads_eq S14 (j := 3) rfl ev15)) ?_
  rintro _ w16 ⟨h16, T16, rfl⟩
  have S17 := S14.keep (Chg.of_below T16.below)
  refine p_v (v := .agg (encSpot (⟨setOf ([99] : List Int), 0⟩ : Spot)).toArray) rfl rfl rfl (y_build (pv := [(0, .agg (encSet (setOf ([99] : List Int))).toArray)]) rfl (run_build_struct pl55 ty55 rfl (cs := (encSpot (⟨setOf ([99] : List Int), 0⟩ : Spot))) rfl)) ?_
  obtain ⟨v18, w18, r18, g18, T18⟩ := e_build_segs (kd := kSpot) (xs := ([(⟨setOf ([97] : List Int), 0⟩ : Spot), (⟨setOf ([98] : List Int), 0⟩ : Spot), (⟨setOf ([99] : List Int), 0⟩ : Spot)] : List Spot)) (len := 3) (m := 5) [(.agg (encSpot (⟨setOf ([97] : List Int), 0⟩ : Spot)).toArray, (encSpot (⟨setOf ([97] : List Int), 0⟩ : Spot))), (.agg (encSpot (⟨setOf ([98] : List Int), 0⟩ : Spot)).toArray, (encSpot (⟨setOf ([98] : List Int), 0⟩ : Spot))), (.agg (encSpot (⟨setOf ([99] : List Int), 0⟩ : Spot)).toArray, (encSpot (⟨setOf ([99] : List Int), 0⟩ : Spot)))] S17 u22 ty55 rfl rfl rfl rfl (segs_cons rfl rfl (segs_cons rfl rfl (segs_cons rfl rfl segs_nil))) (cs := ((encSpot (⟨setOf ([97] : List Int), 0⟩ : Spot)) ++ (encSpot (⟨setOf ([98] : List Int), 0⟩ : Spot)) ++ (encSpot (⟨setOf ([99] : List Int), 0⟩ : Spot)))) (Elems.cons (k := kSpot) (h := (fun _ => none)) (x := (⟨setOf ([97] : List Int), 0⟩ : Spot)) (cs := (encSpot (⟨setOf ([97] : List Int), 0⟩ : Spot))) ⟨rfl, (by first | assumption | (show inK .u8 _; constructor <;> decide) | (constructor <;> simp [IntKind.min, IntKind.max] <;> omega))⟩ (Elems.cons (k := kSpot) (h := (fun _ => none)) (x := (⟨setOf ([98] : List Int), 0⟩ : Spot)) (cs := (encSpot (⟨setOf ([98] : List Int), 0⟩ : Spot))) ⟨rfl, (by first | assumption | (show inK .u8 _; constructor <;> decide) | (constructor <;> simp [IntKind.min, IntKind.max] <;> omega))⟩ (Elems.single (k := kSpot) (h := (fun _ => none)) (x := (⟨setOf ([99] : List Int), 0⟩ : Spot)) (cs := (encSpot (⟨setOf ([99] : List Int), 0⟩ : Spot))) ⟨rfl, (by first | assumption | (show inK .u8 _; constructor <;> decide) | (constructor <;> simp [IntKind.min, IntKind.max] <;> omega))⟩))) (by simp)
  have S19 : St w.heap.size w (fun _ => none) w18 [box b1 27 [.slice none 0 0, .slice none 0 0, .slice none 0 0, .slice none 0 0, .bool false], row 5 (Kd.int .u8) v3 ([97] : List Int), row 5 (Kd.int .u8) v8 ([98] : List Int), row 5 (Kd.int .u8) v13 ([99] : List Int), row 55 kSpot v18 ([(⟨setOf ([97] : List Int), 0⟩ : Spot), (⟨setOf ([98] : List Int), 0⟩ : Spot), (⟨setOf ([99] : List Int), 0⟩ : Spot)] : List Spot)] := T18
  refine p_v (v := v18) rfl rfl rfl (y_build_slice (pv := [(0, .agg (encSpot (⟨setOf ([97] : List Int), 0⟩ : Spot)).toArray), (1, .agg (encSpot (⟨setOf ([98] : List Int), 0⟩ : Spot)).toArray), (2, .agg (encSpot (⟨setOf ([99] : List Int), 0⟩ : Spot)).toArray)]) rfl r18) ?_
  obtain ⟨v20, w20, r20, g20, T20⟩ := e_build_ones (kd := (Kd.int .i64)) (xs := ([0] : List Int)) (len := 1) [.int .i64 0] S19 u23 ty3 rfl rfl rfl rfl rfl (ones_cons rfl ones_nil) [.int .i64 0] (Elems.single (k := (Kd.int .i64)) (h := (fun _ => none)) (x := 0) (cs := [.int .i64 0]) ⟨rfl, (in_i64 (by first|omega|(simp;omega)|assumption) (by first|omega|(simp;omega)|assumption))⟩) rfl
  have S21 : St w.heap.size w (fun _ => none) w20 [box b1 27 [.slice none 0 0, .slice none 0 0, .slice none 0 0, .slice none 0 0, .bool false], row 5 (Kd.int .u8) v3 ([97] : List Int), row 5 (Kd.int .u8) v8 ([98] : List Int), row 5 (Kd.int .u8) v13 ([99] : List Int), row 55 kSpot v18 ([(⟨setOf ([97] : List Int), 0⟩ : Spot), (⟨setOf ([98] : List Int), 0⟩ : Spot), (⟨setOf ([99] : List Int), 0⟩ : Spot)] : List Spot), row 3 (Kd.int .i64) v20 ([0] : List Int)] := T20
  refine p_v (v := v20) rfl rfl rfl (y_build_slice (pv := [(0, .int .i64 0)]) rfl r20) ?_
  obtain ⟨v22, w22, r22, g22, T22⟩ := e_build_ones (kd := (Kd.int .i64)) (xs := ([1, 2] : List Int)) (len := 2) [.int .i64 1, .int .i64 2] S21 u23 ty3 rfl rfl rfl rfl rfl (ones_cons rfl (ones_cons rfl ones_nil)) ([.int .i64 1] ++ [.int .i64 2]) (Elems.cons (k := (Kd.int .i64)) (h := (fun _ => none)) (x := 1) (cs := [.int .i64 1]) ⟨rfl, (in_i64 (by first|omega|(simp;omega)|assumption) (by first|omega|(simp;omega)|assumption))⟩ (Elems.single (k := (Kd.int .i64)) (h := (fun _ => none)) (x := 2) (cs := [.int .i64 2]) ⟨rfl, (in_i64 (by first|omega|(simp;omega)|assumption) (by first|omega|(simp;omega)|assumption))⟩)) rfl
  have S23 : St w.heap.size w (fun _ => none) w22 [box b1 27 [.slice none 0 0, .slice none 0 0, .slice none 0 0, .slice none 0 0, .bool false], row 5 (Kd.int .u8) v3 ([97] : List Int), row 5 (Kd.int .u8) v8 ([98] : List Int), row 5 (Kd.int .u8) v13 ([99] : List Int), row 55 kSpot v18 ([(⟨setOf ([97] : List Int), 0⟩ : Spot), (⟨setOf ([98] : List Int), 0⟩ : Spot), (⟨setOf ([99] : List Int), 0⟩ : Spot)] : List Spot), row 3 (Kd.int .i64) v20 ([0] : List Int), row 3 (Kd.int .i64) v22 ([1, 2] : List Int)] := T22
  refine p_v (v := v22) rfl rfl rfl (y_build_slice (pv := [(0, .int .i64 1), (1, .int .i64 2)]) rfl r22) ?_
  obtain ⟨v24, w24, r24, g24, T24⟩ := e_build_ones (kd := (Kd.int .i64)) (xs := ([] : List Int)) (len := 0) [] S23 u23 ty3 rfl rfl rfl rfl rfl ones_nil [] (Elems.nil _ _) rfl
  have S25 : St w.heap.size w (fun _ => none) w24 [box b1 27 [.slice none 0 0, .slice none 0 0, .slice none 0 0, .slice none 0 0, .bool false], row 5 (Kd.int .u8) v3 ([97] : List Int), row 5 (Kd.int .u8) v8 ([98] : List Int), row 5 (Kd.int .u8) v13 ([99] : List Int), row 55 kSpot v18 ([(⟨setOf ([97] : List Int), 0⟩ : Spot), (⟨setOf ([98] : List Int), 0⟩ : Spot), (⟨setOf ([99] : List Int), 0⟩ : Spot)] : List Spot), row 3 (Kd.int .i64) v20 ([0] : List Int), row 3 (Kd.int .i64) v22 ([1, 2] : List Int), row 3 (Kd.int .i64) v24 ([] : List Int)] := T24
  refine p_v (v := v24) rfl rfl rfl (y_build_slice (pv := []) rfl r24) ?_
  obtain ⟨v26, w26, r26, g26, T26⟩ := e_build_ones (kd := (Kd.int .i64)) (xs := ([] : List Int)) (len := 0) [] S25 u23 ty3 rfl rfl rfl rfl rfl ones_nil [] (Elems.nil _ _) rfl
  have S27 : St w.heap.size w (fun _ => none) w26 [box b1 27 [.slice none 0 0, .slice none 0 0, .slice none 0 0, .slice none 0 0, .bool false], row 5 (Kd.int .u8) v3 ([97] : List Int), row 5 (Kd.int .u8) v8 ([98] : List Int), row 5 (Kd.int .u8) v13 ([99] : List Int), row 55 kSpot v18 ([(⟨setOf ([97] : List Int), 0⟩ : Spot), (⟨setOf ([98] : List Int), 0⟩ : Spot), (⟨setOf ([99] : List Int), 0⟩ : Spot)] : List Spot), row 3 (Kd.int .i64) v20 ([0] : List Int), row 3 (Kd.int .i64) v22 ([1, 2] : List Int), row 3 (Kd.int .i64) v24 ([] : List Int), row 3 (Kd.int .i64) v26 ([] : List Int)] := T26
  refine p_v (v := v26) rfl rfl rfl (y_build_slice (pv := []) rfl r26) ?_
  obtain ⟨h29, le29, T29, rp29⟩ := S27.freeze (i := 6) rfl
  have S30 : St w.heap.size w h29 w26 [box b1 27 [.slice none 0 0, .slice none 0 0, .slice none 0 0, .slice none 0 0, .bool false], row 5 (Kd.int .u8) v3 ([97] : List Int), row 5 (Kd.int .u8) v8 ([98] : List Int), row 5 (Kd.int .u8) v13 ([99] : List Int), row 55 kSpot v18 ([(⟨setOf ([97] : List Int), 0⟩ : Spot), (⟨setOf ([98] : List Int), 0⟩ : Spot), (⟨setOf ([99] : List Int), 0⟩ : Spot)] : List Spot), row 3 (Kd.int .i64) v20 ([0] : List Int), emp, row 3 (Kd.int .i64) v24 ([] : List Int), row 3 (Kd.int .i64) v26 ([] : List Int)] := T29
  obtain ⟨A29, c29, e29, lc29, cm29, ld29⟩ := rp29
  injection e29 with e29 _; subst e29
  have cn29 := cm29; simp only [maxLen] at cn29
  obtain ⟨h31, le31, T31, rp31⟩ := S30.freeze (i := 7) rfl
  have lf31_0 := (le29).trans le31
  have S32 : St w.heap.size w h31 w26 [box b1 27 [.slice none 0 0, .slice none 0 0, .slice none 0 0, .slice none 0 0, .bool false], row 5 (Kd.int .u8) v3 ([97] : List Int), row 5 (Kd.int .u8) v8 ([98] : List Int), row 5 (Kd.int .u8) v13 ([99] : List Int), row 55 kSpot v18 ([(⟨setOf ([97] : List Int), 0⟩ : Spot), (⟨setOf ([98] : List Int), 0⟩ : Spot), (⟨setOf ([99] : List Int), 0⟩ : Spot)] : List Spot), row 3 (Kd.int .i64) v20 ([0] : List Int), emp, emp, row 3 (Kd.int .i64) v26 ([] : List Int)] := T31
  obtain ⟨A31, c31, e31, lc31, cm31, ld31⟩ := rp31
  injection e31 with e31 _; subst e31
  have cn31 := cm31; simp only [maxLen] at cn31
  obtain ⟨h33, le33, T33, rp33⟩ := S32.freeze (i := 8) rfl
  have lf33_0 := (lf31_0).trans le33
  have lf33_1 := (le31).trans le33
  have S34 : St w.heap.size w h33 w26 [box b1 27 [.slice none 0 0, .slice none 0 0, .slice none 0 0, .slice none 0 0, .bool false], row 5 (Kd.int .u8) v3 ([97] : List Int), row 5 (Kd.int .u8) v8 ([98] : List Int), row 5 (Kd.int .u8) v13 ([99] : List Int), row 55 kSpot v18 ([(⟨setOf ([97] : List Int), 0⟩ : Spot), (⟨setOf ([98] : List Int), 0⟩ : Spot), (⟨setOf ([99] : List Int), 0⟩ : Spot)] : List Spot), row 3 (Kd.int .i64) v20 ([0] : List Int), emp, emp, emp] := T33
  obtain ⟨A33, c33, e33, lc33, cm33, ld33⟩ := rp33
  injection e33 with e33 _; subst e33
  have cn33 := cm33; simp only [maxLen] at cn33
  obtain ⟨v28, w28, r28, g28, T28⟩ := e_build_ones (kd := (Kd.int .i64).slice) (xs := ([([1, 2] : List Int), ([] : List Int), ([] : List Int)] : List (List Int))) (len := 3) [.slice A29 ([1, 2] : List Int).length c29, .slice A31 ([] : List Int).length c31, .slice A33 ([] : List Int).length c33] S34 u24 ty23 rfl rfl rfl rfl rfl (ones_cons rfl (ones_cons rfl (ones_cons rfl ones_nil))) ([.slice A29 ([1, 2] : List Int).length c29] ++ [.slice A31 ([] : List Int).length c31] ++ [.slice A33 ([] : List Int).length c33]) (Elems.cons (k := (Kd.int .i64).slice) (h := h33) (x := ([1, 2] : List Int)) (cs := [.slice A29 ([1, 2] : List Int).length c29]) ⟨_, _, rfl, (And.intro lc29 cm29).1, (And.intro lc29 cm29).2, ld29.mono lf33_1⟩ (Elems.cons (k := (Kd.int .i64).slice) (h := h33) (x := ([] : List Int)) (cs := [.slice A31 ([] : List Int).length c31]) ⟨_, _, rfl, (And.intro lc31 cm31).1, (And.intro lc31 cm31).2, ld31.mono le33⟩ (Elems.single (k := (Kd.int .i64).slice) (h := h33) (x := ([] : List Int)) (cs := [.slice A33 ([] : List Int).length c33]) ⟨_, _, rfl, (And.intro lc33 cm33).1, (And.intro lc33 cm33).2, ld33.mono (Le.refl _)⟩))) rfl
  have S35 : St w.heap.size w h33 w28 [box b1 27 [.slice none 0 0, .slice none 0 0, .slice none 0 0, .slice none 0 0, .bool false], row 5 (Kd.int .u8) v3 ([97] : List Int), row 5 (Kd.int .u8) v8 ([98] : List Int), row 5 (Kd.int .u8) v13 ([99] : List Int), row 55 kSpot v18 ([(⟨setOf ([97] : List Int), 0⟩ : Spot), (⟨setOf ([98] : List Int), 0⟩ : Spot), (⟨setOf ([99] : List Int), 0⟩ : Spot)] : List Spot), row 3 (Kd.int .i64) v20 ([0] : List Int), emp, emp, emp, row 23 (Kd.int .i64).slice v28 ([([1, 2] : List Int), ([] : List Int), ([] : List Int)] : List (List Int))] := T28
  refine p_v (v := v28) rfl rfl rfl (y_build_slice (pv := [(0, .slice A29 ([1, 2] : List Int).length c29), (1, .slice A31 ([] : List Int).length c31), (2, .slice A33 ([] : List Int).length c33)]) rfl r28) ?_
  obtain ⟨v36, w36, r36, g36, T36⟩ := e_build_ones (kd := Kd.bool) (xs := ([false, true, false] : List Bool)) (len := 3) [.bool false, .bool true, .bool false] S35 u25 ty4 rfl rfl rfl rfl rfl (ones_cons rfl (ones_cons rfl (ones_cons rfl ones_nil))) ([.bool false] ++ [.bool true] ++ [.bool false]) (Elems.cons (k := Kd.bool) (h := h33) (x := false) (cs := [.bool false]) ⟨rfl, trivial⟩ (Elems.cons (k := Kd.bool) (h := h33) (x := true) (cs := [.bool true]) ⟨rfl, trivial⟩ (Elems.single (k := Kd.bool) (h := h33) (x := false) (cs := [.bool false]) ⟨rfl, trivial⟩))) rfl
  have S37 : St w.heap.size w h33 w36 [box b1 27 [.slice none 0 0, .slice none 0 0, .slice none 0 0, .slice none 0 0, .bool false], row 5 (Kd.int .u8) v3 ([97] : List Int), row 5 (Kd.int .u8) v8 ([98] : List Int), row 5 (Kd.int .u8) v13 ([99] : List Int), row 55 kSpot v18 ([(⟨setOf ([97] : List Int), 0⟩ : Spot), (⟨setOf ([98] : List Int), 0⟩ : Spot), (⟨setOf ([99] : List Int), 0⟩ : Spot)] : List Spot), row 3 (Kd.int .i64) v20 ([0] : List Int), emp, emp, emp, row 23 (Kd.int .i64).slice v28 ([([1, 2] : List Int), ([] : List Int), ([] : List Int)] : List (List Int)), row 4 Kd.bool v36 ([false, true, false] : List Bool)] := T36
  refine p_v (v := v36) rfl rfl rfl (y_build_slice (pv := [(0, .bool false), (1, .bool true), (2, .bool false)]) rfl r36) ?_
  refine p_v (v := .agg #[v18, v20, v28, v36, .bool true]) rfl rfl rfl (y_build (pv := [(0, v18), (1, v20), (2, v28), (3, v36), (4, .bool true)]) rfl (run_build_struct pl27 ty27 rfl (cs := [v18, v20, v28, v36, .bool true]) (fill_any (vc := [v18]) rfl (row_cells S37 (j := 4) rfl) rfl rfl (fill_any (vc := [v20]) rfl (row_cells S37 (j := 5) rfl) rfl rfl (fill_any (vc := [v28]) rfl (row_cells S37 (j := 9) rfl) rfl rfl (fill_any (vc := [v36]) rfl (row_cells S37 (j := 10) rfl) rfl rfl (fill_any (vc := [.bool true]) rfl rfl rfl rfl (fill_end rfl)))))))) ?_
  have oc39 := row_one S37 (j := 4) rfl
  have oc40 := row_one S37 (j := 5) rfl
  have oc41 := row_one S37 (j := 9) rfl
  have oc42 := row_one S37 (j := 10) rfl
  obtain ⟨w38, r38, g38, T38⟩ := e_store (P := Tryd.prog) (off := 0) (v := .agg #[v18, v20, v28, v36, .bool true]) (vs := [v18, v20, v28, v36, .bool true]) S37 ty27 rfl rfl (j := 0) rfl (by first | decide | exact Nat.le_of_ble_eq_true rfl) (one_cons oc39 (one_cons oc40 (one_cons oc41 (one_cons oc42 (one_cons rfl one_nil)))))
  have S43 : St w.heap.size w h33 w38 [box b1 27 [v18, v20, v28, v36, .bool true], row 5 (Kd.int .u8) v3 ([97] : List Int), row 5 (Kd.int .u8) v8 ([98] : List Int), row 5 (Kd.int .u8) v13 ([99] : List Int), row 55 kSpot v18 ([(⟨setOf ([97] : List Int), 0⟩ : Spot), (⟨setOf ([98] : List Int), 0⟩ : Spot), (⟨setOf ([99] : List Int), 0⟩ : Spot)] : List Spot), row 3 (Kd.int .i64) v20 ([0] : List Int), emp, emp, emp, row 23 (Kd.int .i64).slice v28 ([([1, 2] : List Int), ([] : List Int), ([] : List Int)] : List (List Int)), row 4 Kd.bool v36 ([false, true, false] : List Bool)] := T38
  refine p_s rfl rfl (x_store rfl rfl r38) ?_
  refine run_region_end ?_
  refine run_ret Tryd.func17 (res1 rfl (res_cell S43 ty27 rfl (j := 0) rfl rfl (by simp) rfl)) ?_
  have q0 : (someM.spots : List Spot) = ([(⟨setOf ([97] : List Int), 0⟩ : Spot), (⟨setOf ([98] : List Int), 0⟩ : Spot), (⟨setOf ([99] : List Int), 0⟩ : Spot)] : List Spot) := by
    rfl
  have q1 : (someM.first : List Int) = ([0] : List Int) := by
    rfl
  have q2 : (someM.follow : List (List Int)) = ([([1, 2] : List Int), ([] : List Int), ([] : List Int)] : List (List Int)) := by
    rfl
  have q3 : (someM.last : List Bool) = ([false, true, false] : List Bool) := by
    rfl
  have q4 : (someM.empty : Bool) = true := by
    rfl
  refine ⟨_, rfl, h33, v18, v20, v28, v36, ?_, ?_⟩
  · rw [q0]; rw [q1]; rw [q2]; rw [q3]; exact S43.sub [4, 5, 9, 10] (by decide) rfl _ rfl
  · first | rfl | (simp only [q0, q1, q2, q3, q4]; rfl) | (simp only [q0, q1, q2, q3, q4])
end Go.Proofs.YtdfkpjchnndniaaDoor
