/- Functions of this translation, each walked once; no conditions but those that each contract tells. -/
import Derived.Test.YtdfkpjchnndniaaDoorTB
import Derived.Test.YtdfkpjchnndniaaDoorM6
import Derived.Test.YtdfkpjchnndniaaDoorM7
import Derived.Test.YtdfkpjchnndniaaDoorQB
import Derived.Test.YtdfkpjchnndniaaDoorTzB
import Derived.Test.YtdfkpjchnndniaaDoorN2
import Derived.Test.YtdfkpjchnndniaaDoorK1B
import Derived.Test.YtdfkpjchnndniaaDoorN3
import Derived.Test.YtdfkpjchnndniaaDoorM11
import Derived.Test.YtdfkpjchnndniaaDoorAB
namespace Go.Proofs.YtdfkpjchnndniaaDoor
open Go Go.RowKit Gx
set_option maxHeartbeats 1000000
set_option linter.unusedVariables false
set_option linter.unusedSimpArgs false
attribute [local irreducible] members pack listOf count first someIn has setOf setRange wbits Lib.ctz rises rightM rowOk tab markP intoP intoTo behindP behindTo behindIn runTo endsIn endTo runM posTo mayP stepIf stepP mayTo atP lastTo greatM greatTo docAt anyTo allTo

theorem rising_calls (w : World) (l : List Int) (A0 : Option Addr) (c0 : Nat) (b0 : l.length ≤ c0 ∧ c0 ≤ maxLen) (l0 : Leads (Kd.int .i64) (hp w) A0 l) (bound : Int) (i1 : inK .i64 bound) :
    Calls Tryd.prog 20 #[.slice A0 l.length c0, .int .i64 bound] w fun e w' => ∃ v, e = .returned v ∧ ∃ (hn : Ghost), St w.heap.size w hn w' [] ∧ v = .bool (rises bound (-1) l) := by
  refine calls_of_run Tryd.func20 rfl Tryd.ntmps20 rfl ?_
  have S0 := St.init w
  have bb0 := b0.1; have bc0 := b0.2; simp only [maxLen] at bc0
  have lo1 := i64_lo i1; have hi1 := i64_hi i1
  refine run_seq ?_
  refine run_reg (l := [0]) rfl ?_
  refine p_v (v := .bool false) rfl rfl rfl (x_assign rfl) ?_
  refine run_region_end ?_
  refine run_seq ?_
  refine run_reg (l := [0]) rfl ?_
  refine p_v (v := .int .i64 (-1)) rfl rfl rfl (x_assign rfl) ?_
  refine run_region_end ?_
  refine run_seq ?_
  refine run_seq ?_
  refine run_reg (l := [0, 1, 2]) rfl ?_
  refine p_v (v := .slice A0 l.length c0) rfl rfl rfl (x_move rfl) ?_
  refine p_v (v := .int .i64 (l.length : Int)) rfl rfl rfl (x_len_slice u23 rfl) ?_
  refine p_v (v := .int .i64 0) rfl rfl rfl (x_move rfl) ?_
  refine run_region_end ?_
  refine run_block ?_
  refine run_loop (S := Int × Int) (fun (q_ : Int × Int) ρ w' => match q_ with | (last, t10) => ∃ (h : Ghost), Le (fun _ => none) h ∧ St w.heap.size w h w' [] ∧ ρ 1 = .int .i64 bound ∧ ρ 5 = .int .i64 last ∧ ρ 8 = .slice A0 l.length c0 ∧ ρ 9 = .int .i64 (l.length : Int) ∧ ρ 10 = .int .i64 t10 ∧ inK .i64 last ∧ inK .i64 t10 ∧ (0 ≤ t10 ∧ t10 ≤ (l.length : Int) ∧ rises bound (-1) l = rises bound last (l.drop t10.toNat))) (fun q_ => match q_ with | (last, t10) => (l.length - t10).toNat) ((-1), 0) ⟨(fun _ => none), Le.refl _, S0.sub [] (by decide) rfl _ rfl, rfl, rfl, rfl, rfl, rfl, (in_i64 (by first|omega|(simp;omega)|assumption) (by first|omega|(simp;omega)|assumption)), (in_i64 (by first|omega|(simp;omega)|assumption) (by first|omega|(simp;omega)|assumption)), (by exact ⟨by omega, by omega, rfl⟩)⟩ ?_
  rintro ⟨last, t10⟩ ih1 ρ1 w1 ⟨h1, le1, S1, r1_1, r1_5, r1_8, r1_9, r1_10, f1_0, f1_1, hI1⟩
  have lf1_0 := i64_lo f1_0; have hf1_0 := i64_hi f1_0
  have lf1_1 := i64_lo f1_1; have hf1_1 := i64_hi f1_1
  refine run_seq ?_
  refine run_reg (l := [0]) rfl ?_
  refine p_v (v := .bool (decide (t10 < (l.length : Int)))) rfl rfl rfl (x_lss r1_10 r1_9) ?_
  refine run_region_end ?_
  refine run_seq ?_
  refine run_cond_prop (p := t10 < (l.length : Int)) rfl (fun hc2 => ?_) (fun hc2 => ?_)
  · skip
    refine run_skip ?_
    refine run_seq ?_
    refine run_block ?_
    refine run_seq ?_
    refine run_reg (l := [0, 1, 2]) rfl ?_
    obtain ⟨ad3, seg3, a3, rp3, ce3⟩ := e_index_ro (q := t10) (m := 1) l0 rfl (by first|omega|(simp;omega)|assumption) (by first|omega|(simp;omega)|assumption)
    refine p_v (v := .pointer (some ad3)) rfl rfl rfl (x_index_ro u23 ty3 r1_8 r1_10 a3 (by first|omega|(simp;omega)|assumption) (by first|omega|(simp;omega)|assumption)) ?_
    obtain ⟨rfl, in3⟩ := rp3
    have lo3 := i64_lo in3; have hi3 := i64_hi in3
    refine p_v (v := .int .i64 (at_ l t10)) rfl rfl rfl (x_load (seg := [.int .i64 (at_ l t10)]) ty3 rfl (by simp) rfl (CF.ghost ce3 (St.le0 S1))) ?_
    refine p_v (v := .int .i64 (at_ l t10)) rfl rfl rfl (x_assign rfl) ?_
    refine run_region_end ?_
    refine run_seq ?_
    refine run_seq ?_
    refine run_reg (l := [0, 1, 2, 3, 4, 5, 6, 7]) rfl ?_
    refine p_v (v := .int .i64 (at_ l t10)) rfl rfl rfl (x_move rfl) ?_
    refine p_v (v := .int .i64 last) rfl rfl rfl (x_move r1_5) ?_
    refine p_v (v := .bool (decide ((at_ l t10) ≤ last))) rfl rfl rfl (x_leq rfl rfl) ?_
    refine p_v (v := .bool (decide ((at_ l t10) ≤ last))) rfl rfl rfl (x_move rfl) ?_
    by_cases hc4 : (at_ l t10) ≤ last
    · skip
      refine p_off rfl (wanted_of (j := 3) (want := false) (d := 17) (b := true) rfl rfl (congrArg Value.bool (decide_eq_true hc4)) rfl) rfl ?_
      refine p_off rfl (wanted_of (j := 3) (want := false) (d := 17) (b := true) rfl rfl (congrArg Value.bool (decide_eq_true hc4)) rfl) rfl ?_
      refine p_off rfl (wanted_of (j := 3) (want := false) (d := 17) (b := true) rfl rfl (congrArg Value.bool (decide_eq_true hc4)) rfl) rfl ?_
      refine p_v (v := .bool true) rfl rfl rfl (x_pick_t (congrArg Value.bool (decide_eq_true hc4)) rfl) ?_
      refine run_region_end ?_
      refine run_cond (b := true) rfl ?_
      simp only [if_true, if_false, Bool.false_eq_true]
      refine run_seq ?_
      refine run_reg (l := [0]) rfl ?_
      refine p_v (v := .bool false) rfl rfl rfl (x_assign rfl) ?_
      refine run_region_end ?_
      refine run_ret Tryd.func20 (res1 rfl (res_tmp (v := .bool false) rfl)) ?_
      have q0 : (rises bound (-1) l : Bool) = false := by
        rw [hI1.2.2, rises_step l hI1.1 (by omega), decide_eq_false (by omega)]; rfl
      refine ⟨_, rfl, h1, ?_, ?_⟩
      · exact S1.sub [] (by decide) rfl _ rfl
      · first | rfl | (simp only [q0]; rfl) | (simp only [q0])
    · skip
      refine p_v (v := .int .i64 (at_ l t10)) rfl (wanted_of (j := 3) (want := false) (d := 17) (b := false) rfl rfl (congrArg Value.bool (decide_eq_false hc4)) rfl) rfl (x_move rfl) ?_
      refine p_v (v := .int .i64 bound) rfl (wanted_of (j := 3) (want := false) (d := 17) (b := false) rfl rfl (congrArg Value.bool (decide_eq_false hc4)) rfl) rfl (x_move r1_1) ?_
      refine p_v (v := .bool (decide (bound ≤ (at_ l t10)))) rfl (wanted_of (j := 3) (want := false) (d := 17) (b := false) rfl rfl (congrArg Value.bool (decide_eq_false hc4)) rfl) rfl (x_geq rfl rfl) ?_
      refine p_v (v := .bool (decide (bound ≤ (at_ l t10)))) rfl rfl rfl (x_pick_f (congrArg Value.bool (decide_eq_false hc4)) rfl) ?_
      refine run_region_end ?_
      refine run_cond_prop (p := bound ≤ (at_ l t10)) rfl (fun hc5 => ?_) (fun hc5 => ?_)
      · skip
        refine run_seq ?_
        refine run_reg (l := [0]) rfl ?_
        refine p_v (v := .bool false) rfl rfl rfl (x_assign rfl) ?_
        refine run_region_end ?_
        refine run_ret Tryd.func20 (res1 rfl (res_tmp (v := .bool false) rfl)) ?_
        have q0 : (rises bound (-1) l : Bool) = false := by
          rw [hI1.2.2, rises_step l hI1.1 (by omega), decide_eq_true (by omega), decide_eq_false (by omega)]; rfl
        refine ⟨_, rfl, h1, ?_, ?_⟩
        · exact S1.sub [] (by decide) rfl _ rfl
        · first | rfl | (simp only [q0]; rfl) | (simp only [q0])
      · skip
        refine run_skip ?_
        refine run_reg (l := [0, 1]) rfl ?_
        refine p_v (v := .int .i64 (at_ l t10)) rfl rfl rfl (x_move rfl) ?_
        refine p_v (v := .int .i64 (at_ l t10)) rfl rfl rfl (x_assign rfl) ?_
        refine run_region_end ?_
        refine run_inBlock ?_
        refine run_reg (l := [0, 1]) rfl ?_
        refine p_v (v := .int .i64 (t10 + 1)) rfl rfl rfl (x_add r1_10 rfl (in_i64 (by first|omega|(simp;omega)|assumption) (by first|omega|(simp;omega)|assumption))) ?_
        refine p_v (v := .int .i64 (t10 + 1)) rfl rfl rfl (x_move rfl) ?_
        refine run_region_end ?_
        refine ih1 (at_ l t10, t10 + 1) _ _ (by dsimp only; omega) ⟨h1, le1, S1.sub [] (by decide) rfl _ rfl, r1_1, rfl, r1_8, r1_9, rfl, (in_i64 (by first|omega|(simp;omega)|assumption) (by first|omega|(simp;omega)|assumption)), (in_i64 (by first|omega|(simp;omega)|assumption) (by first|omega|(simp;omega)|assumption)), (by exact ⟨by omega, by omega, by rw [hI1.2.2, rises_step l hI1.1 (by omega), decide_eq_true (by omega), decide_eq_true (by omega)]; rfl⟩)⟩
  · skip
    refine run_exit rfl ?_
    refine run_seq ?_
    refine run_reg (l := [0]) rfl ?_
    refine p_v (v := .bool true) rfl rfl rfl (x_assign rfl) ?_
    refine run_region_end ?_
    refine run_ret Tryd.func20 (res1 rfl (res_tmp (v := .bool true) rfl)) ?_
    have q0 : (rises bound (-1) l : Bool) = true := by
      rw [hI1.2.2, drop_end l (by omega), rises_nil]
    refine ⟨_, rfl, h1, ?_, ?_⟩
    · exact S1.sub [] (by decide) rfl _ rfl
    · first | rfl | (simp only [q0]; rfl) | (simp only [q0])
theorem rightN_calls (w : World) (m : Mach) (A0_0 : Option Addr) (c0_0 : Nat) (b0_0 : m.spots.length ≤ c0_0 ∧ c0_0 ≤ maxLen) (l0_0 : Leads kSpot (hp w) A0_0 m.spots) (A0_1 : Option Addr) (c0_1 : Nat) (b0_1 : m.first.length ≤ c0_1 ∧ c0_1 ≤ maxLen) (l0_1 : Leads (Kd.int .i64) (hp w) A0_1 m.first) (A0_2 : Option Addr) (c0_2 : Nat) (b0_2 : m.follow.length ≤ c0_2 ∧ c0_2 ≤ maxLen) (l0_2 : Leads (Kd.int .i64).slice (hp w) A0_2 m.follow) (A0_3 : Option Addr) (c0_3 : Nat) (b0_3 : m.last.length ≤ c0_3 ∧ c0_3 ≤ maxLen) (l0_3 : Leads Kd.bool (hp w) A0_3 m.last) :
    Calls Tryd.prog 8 #[.agg #[.slice A0_0 m.spots.length c0_0, .slice A0_1 m.first.length c0_1, .slice A0_2 m.follow.length c0_2, .slice A0_3 m.last.length c0_3, .bool m.empty]] w fun e w' => ∃ v, e = .returned v ∧ ∃ (hn : Ghost), St w.heap.size w hn w' [] ∧ v = .bool (rightM m) := by
  refine calls_of_run Tryd.func8 rfl Tryd.ntmps8 rfl ?_
  have S0 := St.init w
  have bb0_0 := b0_0.1; have bc0_0 := b0_0.2; simp only [maxLen] at bc0_0
  have bb0_1 := b0_1.1; have bc0_1 := b0_1.2; simp only [maxLen] at bc0_1
  have bb0_2 := b0_2.1; have bc0_2 := b0_2.2; simp only [maxLen] at bc0_2
  have bb0_3 := b0_3.1; have bc0_3 := b0_3.2; simp only [maxLen] at bc0_3
  refine run_seq ?_
  refine run_reg (l := [0, 1]) rfl ?_
  obtain ⟨b1, w1, r1, g1, T1⟩ := e_box (P := Tryd.prog) S0 27 (v := .agg #[.slice A0_0 m.spots.length c0_0, .slice A0_1 m.first.length c0_1, .slice A0_2 m.follow.length c0_2, .slice A0_3 m.last.length c0_3, .bool m.empty]) [.slice A0_0 m.spots.length c0_0, .slice A0_1 m.first.length c0_1, .slice A0_2 m.follow.length c0_2, .slice A0_3 m.last.length c0_3, .bool m.empty] rfl
  have S2 : St w.heap.size w (fun _ => none) w1 [box b1 27 [.slice A0_0 m.spots.length c0_0, .slice A0_1 m.first.length c0_1, .slice A0_2 m.follow.length c0_2, .slice A0_3 m.last.length c0_3, .bool m.empty]] := T1
  refine p_v (v := .pointer (some ⟨b1, 0, none⟩)) rfl rfl rfl (x_box rfl r1) ?_
  refine p_v (v := .bool false) rfl rfl rfl (x_assign rfl) ?_
  refine run_region_end ?_
  refine run_seq ?_
  refine run_reg (l := [0, 1, 2, 3]) rfl ?_
  refine p_v (v := .pointer (some ⟨b1, 0, none⟩)) rfl rfl rfl (x_fieldAt fd27_0 ty22 rfl rfl) ?_
  refine p_v (v := .slice A0_0 m.spots.length c0_0) rfl rfl rfl (x_load (seg := [.slice A0_0 m.spots.length c0_0]) ty22 rfl (by simp) rfl (CF.box (m := 1) (S2.box_at (j := 0) rfl) rfl)) ?_
  refine p_v (v := .int .i64 (m.spots.length : Int)) rfl rfl rfl (x_len_slice u22 rfl) ?_
  refine p_v (v := .int .i64 (m.spots.length : Int)) rfl rfl rfl (x_assign rfl) ?_
  refine run_region_end ?_
  refine run_seq ?_
  refine run_seq ?_
  refine run_reg (l := [0, 1, 2, 3, 4, 5, 6, 7, 8, 9, 10, 11, 12, 13, 14, 15, 16, 17, 18, 19, 20, 21, 22]) rfl ?_
  refine p_v (v := .int .i64 (m.spots.length : Int)) rfl rfl rfl (x_move rfl) ?_
  refine p_v (v := .bool (decide (250 < (m.spots.length : Int)))) rfl rfl rfl (x_gtr rfl rfl) ?_
  refine p_v (v := .bool (decide (250 < (m.spots.length : Int)))) rfl rfl rfl (x_move rfl) ?_
  by_cases hc3 : 250 < (m.spots.length : Int)
  · skip
    refine p_off rfl (wanted_of (j := 2) (want := false) (d := 11) (b := true) rfl rfl (congrArg Value.bool (decide_eq_true hc3)) rfl) rfl ?_
    refine p_off rfl (wanted_of (j := 2) (want := false) (d := 11) (b := true) rfl rfl (congrArg Value.bool (decide_eq_true hc3)) rfl) rfl ?_
    refine p_off rfl (wanted_of (j := 2) (want := false) (d := 11) (b := true) rfl rfl (congrArg Value.bool (decide_eq_true hc3)) rfl) rfl ?_
    refine p_off rfl (wanted_of (j := 2) (want := false) (d := 11) (b := true) rfl rfl (congrArg Value.bool (decide_eq_true hc3)) rfl) rfl ?_
    refine p_off rfl (wanted_of (j := 2) (want := false) (d := 11) (b := true) rfl rfl (congrArg Value.bool (decide_eq_true hc3)) rfl) rfl ?_
    refine p_v (v := .bool true) rfl rfl rfl (x_pick_t (congrArg Value.bool (decide_eq_true hc3)) rfl) ?_
    refine p_v (v := .bool true) rfl rfl rfl (x_move rfl) ?_
    refine p_off rfl rfl rfl ?_
    refine p_off rfl rfl rfl ?_
    refine p_off rfl rfl rfl ?_
    refine p_off rfl rfl rfl ?_
    refine p_off rfl rfl rfl ?_
    refine p_v (v := .bool true) rfl rfl rfl (x_pick_t rfl rfl) ?_
    refine p_v (v := .bool true) rfl rfl rfl (x_move rfl) ?_
    refine p_off rfl rfl rfl ?_
    refine p_off rfl rfl rfl ?_
    refine p_off rfl rfl rfl ?_
    refine p_off rfl rfl rfl ?_
    refine p_off rfl rfl rfl ?_
    refine p_v (v := .bool true) rfl rfl rfl (x_pick_t rfl rfl) ?_
    refine run_region_end ?_
    refine run_cond (b := true) rfl ?_
    simp only [if_true, if_false, Bool.false_eq_true]
    refine run_seq ?_
    refine run_reg (l := [0]) rfl ?_
    refine p_v (v := .bool false) rfl rfl rfl (x_assign rfl) ?_
    refine run_region_end ?_
    refine run_ret Tryd.func8 (res1 rfl (res_tmp (v := .bool false) rfl)) ?_
    have q0 : (rightM m : Bool) = false := by
      first | exact right_no1 m (by assumption) | exact right_no2 m (by assumption) | exact right_no3 m (by assumption) | exact right_no4 m (by assumption) | exact right_no5 m hI_.1 (by omega) (by assumption) | exact right_no6 m hI_.1 (by omega) (by assumption) | exact right_ok m (by omega) (by assumption) (by assumption) (by assumption) (by assumption) hI_.2.2
    refine ⟨_, rfl, (fun _ => none), ?_, ?_⟩
    · exact S2.sub [] (by decide) rfl _ rfl
    · first | rfl | (simp only [q0]; rfl) | (simp only [q0])
  · skip
    refine p_v (v := .pointer (some ⟨b1, 2, none⟩)) rfl (wanted_of (j := 2) (want := false) (d := 11) (b := false) rfl rfl (congrArg Value.bool (decide_eq_false hc3)) rfl) rfl (x_fieldAt fd27_2 ty24 rfl rfl) ?_
    refine p_v (v := .slice A0_2 m.follow.length c0_2) rfl (wanted_of (j := 2) (want := false) (d := 11) (b := false) rfl rfl (congrArg Value.bool (decide_eq_false hc3)) rfl) rfl (x_load (seg := [.slice A0_2 m.follow.length c0_2]) ty24 rfl (by simp) rfl (CF.box (m := 1) (S2.box_at (j := 0) rfl) rfl)) ?_
    refine p_v (v := .int .i64 (m.follow.length : Int)) rfl (wanted_of (j := 2) (want := false) (d := 11) (b := false) rfl rfl (congrArg Value.bool (decide_eq_false hc3)) rfl) rfl (x_len_slice u24 rfl) ?_
    refine p_v (v := .int .i64 (m.spots.length : Int)) rfl (wanted_of (j := 2) (want := false) (d := 11) (b := false) rfl rfl (congrArg Value.bool (decide_eq_false hc3)) rfl) rfl (x_move rfl) ?_
    refine p_v (v := .bool (decide ((m.follow.length : Int) ≠ (m.spots.length : Int)))) rfl (wanted_of (j := 2) (want := false) (d := 11) (b := false) rfl rfl (congrArg Value.bool (decide_eq_false hc3)) rfl) rfl (x_neq rfl rfl) ?_
    refine p_v (v := .bool (decide ((m.follow.length : Int) ≠ (m.spots.length : Int)))) rfl rfl rfl (x_pick_f (congrArg Value.bool (decide_eq_false hc3)) rfl) ?_
    refine p_v (v := .bool (decide ((m.follow.length : Int) ≠ (m.spots.length : Int)))) rfl rfl rfl (x_move rfl) ?_
    by_cases hc4 : (m.follow.length : Int) ≠ (m.spots.length : Int)
    · skip
      refine p_off rfl (wanted_of (j := 9) (want := false) (d := 18) (b := true) rfl rfl (congrArg Value.bool (decide_eq_true hc4)) rfl) rfl ?_
      refine p_off rfl (wanted_of (j := 9) (want := false) (d := 18) (b := true) rfl rfl (congrArg Value.bool (decide_eq_true hc4)) rfl) rfl ?_
      refine p_off rfl (wanted_of (j := 9) (want := false) (d := 18) (b := true) rfl rfl (congrArg Value.bool (decide_eq_true hc4)) rfl) rfl ?_
      refine p_off rfl (wanted_of (j := 9) (want := false) (d := 18) (b := true) rfl rfl (congrArg Value.bool (decide_eq_true hc4)) rfl) rfl ?_
      refine p_off rfl (wanted_of (j := 9) (want := false) (d := 18) (b := true) rfl rfl (congrArg Value.bool (decide_eq_true hc4)) rfl) rfl ?_
      refine p_v (v := .bool true) rfl rfl rfl (x_pick_t (congrArg Value.bool (decide_eq_true hc4)) rfl) ?_
      refine p_v (v := .bool true) rfl rfl rfl (x_move rfl) ?_
      refine p_off rfl rfl rfl ?_
      refine p_off rfl rfl rfl ?_
      refine p_off rfl rfl rfl ?_
      refine p_off rfl rfl rfl ?_
      refine p_off rfl rfl rfl ?_
      refine p_v (v := .bool true) rfl rfl rfl (x_pick_t rfl rfl) ?_
      refine run_region_end ?_
      refine run_cond (b := true) rfl ?_
      simp only [if_true, if_false, Bool.false_eq_true]
      refine run_seq ?_
      refine run_reg (l := [0]) rfl ?_
      refine p_v (v := .bool false) rfl rfl rfl (x_assign rfl) ?_
      refine run_region_end ?_
      refine run_ret Tryd.func8 (res1 rfl (res_tmp (v := .bool false) rfl)) ?_
      have q0 : (rightM m : Bool) = false := by
        first | exact right_no1 m (by assumption) | exact right_no2 m (by assumption) | exact right_no3 m (by assumption) | exact right_no4 m (by assumption) | exact right_no5 m hI_.1 (by omega) (by assumption) | exact right_no6 m hI_.1 (by omega) (by assumption) | exact right_ok m (by omega) (by assumption) (by assumption) (by assumption) (by assumption) hI_.2.2
      refine ⟨_, rfl, (fun _ => none), ?_, ?_⟩
      · exact S2.sub [] (by decide) rfl _ rfl
      · first | rfl | (simp only [q0]; rfl) | (simp only [q0])
    · skip
      refine p_v (v := .pointer (some ⟨b1, 3, none⟩)) rfl (wanted_of (j := 9) (want := false) (d := 18) (b := false) rfl rfl (congrArg Value.bool (decide_eq_false hc4)) rfl) rfl (x_fieldAt fd27_3 ty25 rfl rfl) ?_
      refine p_v (v := .slice A0_3 m.last.length c0_3) rfl (wanted_of (j := 9) (want := false) (d := 18) (b := false) rfl rfl (congrArg Value.bool (decide_eq_false hc4)) rfl) rfl (x_load (seg := [.slice A0_3 m.last.length c0_3]) ty25 rfl (by simp) rfl (CF.box (m := 1) (S2.box_at (j := 0) rfl) rfl)) ?_
      refine p_v (v := .int .i64 (m.last.length : Int)) rfl (wanted_of (j := 9) (want := false) (d := 18) (b := false) rfl rfl (congrArg Value.bool (decide_eq_false hc4)) rfl) rfl (x_len_slice u25 rfl) ?_
      refine p_v (v := .int .i64 (m.spots.length : Int)) rfl (wanted_of (j := 9) (want := false) (d := 18) (b := false) rfl rfl (congrArg Value.bool (decide_eq_false hc4)) rfl) rfl (x_move rfl) ?_
      refine p_v (v := .bool (decide ((m.last.length : Int) ≠ (m.spots.length : Int)))) rfl (wanted_of (j := 9) (want := false) (d := 18) (b := false) rfl rfl (congrArg Value.bool (decide_eq_false hc4)) rfl) rfl (x_neq rfl rfl) ?_
      refine p_v (v := .bool (decide ((m.last.length : Int) ≠ (m.spots.length : Int)))) rfl rfl rfl (x_pick_f (congrArg Value.bool (decide_eq_false hc4)) rfl) ?_
      refine p_v (v := .bool (decide ((m.last.length : Int) ≠ (m.spots.length : Int)))) rfl rfl rfl (x_move rfl) ?_
      by_cases hc5 : (m.last.length : Int) ≠ (m.spots.length : Int)
      · skip
        refine p_off rfl (wanted_of (j := 16) (want := false) (d := 25) (b := true) rfl rfl (congrArg Value.bool (decide_eq_true hc5)) rfl) rfl ?_
        refine p_off rfl (wanted_of (j := 16) (want := false) (d := 25) (b := true) rfl rfl (congrArg Value.bool (decide_eq_true hc5)) rfl) rfl ?_
        refine p_off rfl (wanted_of (j := 16) (want := false) (d := 25) (b := true) rfl rfl (congrArg Value.bool (decide_eq_true hc5)) rfl) rfl ?_
        refine p_off rfl (wanted_of (j := 16) (want := false) (d := 25) (b := true) rfl rfl (congrArg Value.bool (decide_eq_true hc5)) rfl) rfl ?_
        refine p_off rfl (wanted_of (j := 16) (want := false) (d := 25) (b := true) rfl rfl (congrArg Value.bool (decide_eq_true hc5)) rfl) rfl ?_
        refine p_v (v := .bool true) rfl rfl rfl (x_pick_t (congrArg Value.bool (decide_eq_true hc5)) rfl) ?_
        refine run_region_end ?_
        refine run_cond (b := true) rfl ?_
        simp only [if_true, if_false, Bool.false_eq_true]
        refine run_seq ?_
        refine run_reg (l := [0]) rfl ?_
        refine p_v (v := .bool false) rfl rfl rfl (x_assign rfl) ?_
        refine run_region_end ?_
        refine run_ret Tryd.func8 (res1 rfl (res_tmp (v := .bool false) rfl)) ?_
        have q0 : (rightM m : Bool) = false := by
          first | exact right_no1 m (by assumption) | exact right_no2 m (by assumption) | exact right_no3 m (by assumption) | exact right_no4 m (by assumption) | exact right_no5 m hI_.1 (by omega) (by assumption) | exact right_no6 m hI_.1 (by omega) (by assumption) | exact right_ok m (by omega) (by assumption) (by assumption) (by assumption) (by assumption) hI_.2.2
        refine ⟨_, rfl, (fun _ => none), ?_, ?_⟩
        · exact S2.sub [] (by decide) rfl _ rfl
        · first | rfl | (simp only [q0]; rfl) | (simp only [q0])
      · skip
        refine p_v (v := .pointer (some ⟨b1, 1, none⟩)) rfl (wanted_of (j := 16) (want := false) (d := 25) (b := false) rfl rfl (congrArg Value.bool (decide_eq_false hc5)) rfl) rfl (x_fieldAt fd27_1 ty23 rfl rfl) ?_
        refine p_v (v := .slice A0_1 m.first.length c0_1) rfl (wanted_of (j := 16) (want := false) (d := 25) (b := false) rfl rfl (congrArg Value.bool (decide_eq_false hc5)) rfl) rfl (x_load (seg := [.slice A0_1 m.first.length c0_1]) ty23 rfl (by simp) rfl (CF.box (m := 1) (S2.box_at (j := 0) rfl) rfl)) ?_
        refine p_v (v := .int .i64 (m.spots.length : Int)) rfl (wanted_of (j := 16) (want := false) (d := 25) (b := false) rfl rfl (congrArg Value.bool (decide_eq_false hc5)) rfl) rfl (x_move rfl) ?_
        refine p_c rfl (wanted_of (j := 16) (want := false) (d := 25) (b := false) rfl rfl (congrArg Value.bool (decide_eq_false hc5)) rfl) rfl (y_call (args := [.slice A0_1 m.first.length c0_1, .int .i64 (m.spots.length : Int)]) ca20 rfl rfl) (rising_calls w1 m.first A0_1 c0_1 b0_1 (l0_1.mono (St.le0 S2)) (m.spots.length : Int) (in_i64 (by first|omega|(simp;omega)|assumption) (by first|omega|(simp;omega)|assumption))) ?_
        rintro _ w6 ⟨h6, T6, rfl⟩
        have S7 := S2.keep (Chg.of_below T6.below)
        refine p_v (v := .bool (!(rises (m.spots.length : Int) (-1) m.first))) rfl (wanted_of (j := 16) (want := false) (d := 25) (b := false) rfl rfl (congrArg Value.bool (decide_eq_false hc5)) rfl) rfl (x_not rfl) ?_
        refine p_v (v := .bool (!(rises (m.spots.length : Int) (-1) m.first))) rfl rfl rfl (x_pick_f (congrArg Value.bool (decide_eq_false hc5)) rfl) ?_
        refine run_region_end ?_
        refine run_cond_nsplit (b := rises (m.spots.length : Int) (-1) m.first) rfl (fun hc8 => ?_) (fun hc8 => ?_)
        · skip
          refine run_seq ?_
          refine run_reg (l := [0]) rfl ?_
          refine p_v (v := .bool false) rfl rfl rfl (x_assign rfl) ?_
          refine run_region_end ?_
          refine run_ret Tryd.func8 (res1 rfl (res_tmp (v := .bool false) rfl)) ?_
          have q0 : (rightM m : Bool) = false := by
            first | exact right_no1 m (by assumption) | exact right_no2 m (by assumption) | exact right_no3 m (by assumption) | exact right_no4 m (by assumption) | exact right_no5 m hI_.1 (by omega) (by assumption) | exact right_no6 m hI_.1 (by omega) (by assumption) | exact right_ok m (by omega) (by assumption) (by assumption) (by assumption) (by assumption) hI_.2.2
          refine ⟨_, rfl, (fun _ => none), ?_, ?_⟩
          · exact S7.sub [] (by decide) rfl _ rfl
          · first | rfl | (simp only [q0]; rfl) | (simp only [q0])
        · skip
          refine run_skip ?_
          refine run_seq ?_
          refine run_seq ?_
          refine run_reg (l := [0, 1, 2, 3]) rfl ?_
          refine p_v (v := .pointer (some ⟨b1, 0, none⟩)) rfl rfl rfl (x_fieldAt fd27_0 ty22 rfl rfl) ?_
          refine p_v (v := .slice A0_0 m.spots.length c0_0) rfl rfl rfl (x_load (seg := [.slice A0_0 m.spots.length c0_0]) ty22 rfl (by simp) rfl (CF.box (m := 1) (S7.box_at (j := 0) rfl) rfl)) ?_
          refine p_v (v := .int .i64 (m.spots.length : Int)) rfl rfl rfl (x_len_slice u22 rfl) ?_
          refine p_v (v := .int .i64 0) rfl rfl rfl (x_move rfl) ?_
          refine run_region_end ?_
          refine run_block ?_
          refine run_loop (S := Int) (fun (q_ : Int) ρ w' => match q_ with | t35 => ∃ (h : Ghost), Le (fun _ => none) h ∧ St w.heap.size w h w' [box b1 27 [.slice A0_0 m.spots.length c0_0, .slice A0_1 m.first.length c0_1, .slice A0_2 m.follow.length c0_2, .slice A0_3 m.last.length c0_3, .bool m.empty]] ∧ ρ 1 = .pointer (some ⟨b1, 0, none⟩) ∧ ρ 3 = .int .i64 (m.spots.length : Int) ∧ ρ 33 = .slice A0_0 m.spots.length c0_0 ∧ ρ 34 = .int .i64 (m.spots.length : Int) ∧ ρ 35 = .int .i64 t35 ∧ inK .i64 t35 ∧ (0 ≤ t35 ∧ t35 ≤ (m.spots.length : Int) ∧ allTo (rowOk m) t35 = true)) (fun q_ => match q_ with | t35 => (m.spots.length - t35).toNat) (0) ⟨(fun _ => none), Le.refl _, S7.sub [0] (by decide) rfl _ rfl, rfl, rfl, rfl, rfl, rfl, (in_i64 (by first|omega|(simp;omega)|assumption) (by first|omega|(simp;omega)|assumption)), (by exact ⟨by omega, by omega, allTo_0 _⟩)⟩ ?_
          rintro t35 ih9 ρ9 w9 ⟨h9, le9, S9, r9_1, r9_3, r9_33, r9_34, r9_35, f9_0, hI9⟩
          have lf9_0 := i64_lo f9_0; have hf9_0 := i64_hi f9_0
          refine run_seq ?_
          refine run_reg (l := [0]) rfl ?_
          refine p_v (v := .bool (decide (t35 < (m.spots.length : Int)))) rfl rfl rfl (x_lss r9_35 r9_34) ?_
          refine run_region_end ?_
          refine run_seq ?_
          refine run_cond_prop (p := t35 < (m.spots.length : Int)) rfl (fun hc10 => ?_) (fun hc10 => ?_)
          · skip
            refine run_skip ?_
            refine run_seq ?_
            refine run_block ?_
            refine run_seq ?_
            refine run_reg (l := [0, 1, 2, 3, 4, 5]) rfl ?_
            refine p_v (v := .int .i64 t35) rfl rfl rfl (x_move r9_35) ?_
            obtain ⟨ad11, seg11, a11, rp11, ce11⟩ := e_index_ro (q := t35) (m := 5) l0_0 rfl (by first|omega|(simp;omega)|assumption) (by first|omega|(simp;omega)|assumption)
            refine p_v (v := .pointer (some ad11)) rfl rfl rfl (x_index_ro u22 ty55 r9_33 r9_35 a11 (by first|omega|(simp;omega)|assumption) (by first|omega|(simp;omega)|assumption)) ?_
            obtain ⟨rfl, ok11⟩ := rp11
            have slook11 := u8_lo ok11; have shiok11 := u8_hi ok11
            refine p_v (v := .agg (encSpot (at_ m.spots t35)).toArray) rfl rfl rfl (x_load (seg := (encSpot (at_ m.spots t35))) ty55 rfl (by simp) rfl (CF.ghost ce11 (St.le0 S9))) ?_
            obtain ⟨b12, w12, r12, g12, T12⟩ := e_box (P := Tryd.prog) S9 55 (v := (.agg #[.int .u64 0, .int .u64 0, .int .u64 0, .int .u64 0, .int .u8 0])) (encSpot (⟨0, 0⟩ : Spot)) rfl
            have S13 : St w.heap.size w h9 w12 [box b1 27 [.slice A0_0 m.spots.length c0_0, .slice A0_1 m.first.length c0_1, .slice A0_2 m.follow.length c0_2, .slice A0_3 m.last.length c0_3, .bool m.empty], box b12 55 (encSpot (⟨0, 0⟩ : Spot))] := T12
            refine p_v (v := .pointer (some ⟨b12, 0, none⟩)) rfl rfl rfl (x_alloc ty55 r12) ?_
            refine p_v (v := .int .i64 t35) rfl rfl rfl (x_assign rfl) ?_
            obtain ⟨w14, r14, g14, T14⟩ := e_store (P := Tryd.prog) (off := 0) (v := .agg (encSpot (at_ m.spots t35)).toArray) (vs := (encSpot (at_ m.spots t35))) S13 ty55 rfl rfl (j := 1) rfl (by first | decide | exact Nat.le_of_ble_eq_true rfl) (encSpot_one _)
            have S15 : St w.heap.size w h9 w14 [box b1 27 [.slice A0_0 m.spots.length c0_0, .slice A0_1 m.first.length c0_1, .slice A0_2 m.follow.length c0_2, .slice A0_3 m.last.length c0_3, .bool m.empty], box b12 55 (encSpot (at_ m.spots t35))] := T14
            refine p_s rfl rfl (x_store rfl rfl r14) ?_
            refine run_region_end ?_
            refine run_seq ?_
            refine run_reg (l := [0, 1, 2, 3, 4, 5, 6, 7, 8, 9, 10, 11, 12]) rfl ?_
            refine p_v (v := .pointer (some ⟨b12, 4, none⟩)) rfl rfl rfl (x_fieldAt fd55_1 ty5 rfl rfl) ?_
            refine p_v (v := .int .u8 ((at_ m.spots t35).tag)) rfl rfl rfl (x_load (seg := [.int .u8 ((at_ m.spots t35).tag)]) ty5 rfl (by simp) rfl (CF.box (m := 1) (S15.box_at (j := 1) rfl) rfl)) ?_
            refine p_v (v := .bool (decide (2 < ((at_ m.spots t35).tag)))) rfl rfl rfl (x_gtr rfl rfl) ?_
            refine p_v (v := .bool (decide (2 < ((at_ m.spots t35).tag)))) rfl rfl rfl (x_move rfl) ?_
            by_cases hc16 : 2 < ((at_ m.spots t35).tag)
            · skip
              refine p_off rfl (wanted_of (j := 3) (want := false) (d := 43) (b := true) rfl rfl (congrArg Value.bool (decide_eq_true hc16)) rfl) rfl ?_
              refine p_off rfl (wanted_of (j := 3) (want := false) (d := 43) (b := true) rfl rfl (congrArg Value.bool (decide_eq_true hc16)) rfl) rfl ?_
              refine p_off rfl (wanted_of (j := 3) (want := false) (d := 43) (b := true) rfl rfl (congrArg Value.bool (decide_eq_true hc16)) rfl) rfl ?_
              refine p_off rfl (wanted_of (j := 3) (want := false) (d := 43) (b := true) rfl rfl (congrArg Value.bool (decide_eq_true hc16)) rfl) rfl ?_
              refine p_off rfl (wanted_of (j := 3) (want := false) (d := 43) (b := true) rfl rfl (congrArg Value.bool (decide_eq_true hc16)) rfl) rfl ?_
              refine p_off rfl (wanted_of (j := 3) (want := false) (d := 43) (b := true) rfl rfl (congrArg Value.bool (decide_eq_true hc16)) rfl) rfl ?_
              refine p_off rfl (wanted_of (j := 3) (want := false) (d := 43) (b := true) rfl rfl (congrArg Value.bool (decide_eq_true hc16)) rfl) rfl ?_
              refine p_off rfl (wanted_of (j := 3) (want := false) (d := 43) (b := true) rfl rfl (congrArg Value.bool (decide_eq_true hc16)) rfl) rfl ?_
              refine p_v (v := .bool true) rfl rfl rfl (x_pick_t (congrArg Value.bool (decide_eq_true hc16)) rfl) ?_
              refine run_region_end ?_
              refine run_cond (b := true) rfl ?_
              simp only [if_true, if_false, Bool.false_eq_true]
              refine run_seq ?_
              refine run_reg (l := [0]) rfl ?_
              refine p_v (v := .bool false) rfl rfl rfl (x_assign rfl) ?_
              refine run_region_end ?_
              refine run_ret Tryd.func8 (res1 rfl (res_tmp (v := .bool false) rfl)) ?_
              have q0 : (rightM m : Bool) = false := by
                first | exact right_no1 m (by assumption) | exact right_no2 m (by assumption) | exact right_no3 m (by assumption) | exact right_no4 m (by assumption) | exact right_no5 m hI9.1 (by omega) (by assumption) | exact right_no6 m hI9.1 (by omega) (by assumption) | exact right_ok m (by omega) (by assumption) (by assumption) (by assumption) (by assumption) hI9.2.2
              refine ⟨_, rfl, h9, ?_, ?_⟩
              · exact S15.sub [] (by decide) rfl _ rfl
              · first | rfl | (simp only [q0]; rfl) | (simp only [q0])
            · skip
              refine p_v (v := .pointer (some ⟨b1, 2, none⟩)) rfl (wanted_of (j := 3) (want := false) (d := 43) (b := false) rfl rfl (congrArg Value.bool (decide_eq_false hc16)) rfl) rfl (x_fieldAt fd27_2 ty24 rfl r9_1) ?_
              refine p_v (v := .slice A0_2 m.follow.length c0_2) rfl (wanted_of (j := 3) (want := false) (d := 43) (b := false) rfl rfl (congrArg Value.bool (decide_eq_false hc16)) rfl) rfl (x_load (seg := [.slice A0_2 m.follow.length c0_2]) ty24 rfl (by simp) rfl (CF.box (m := 1) (S15.box_at (j := 0) rfl) rfl)) ?_
              refine p_v (v := .int .i64 t35) rfl (wanted_of (j := 3) (want := false) (d := 43) (b := false) rfl rfl (congrArg Value.bool (decide_eq_false hc16)) rfl) rfl (x_move rfl) ?_
              obtain ⟨ad17, seg17, a17, rp17, ce17⟩ := e_index_ro (q := t35) (m := 1) l0_2 rfl (by first|omega|(simp;omega)|assumption) (by first|omega|(simp;omega)|assumption)
              refine p_v (v := .pointer (some ad17)) rfl (wanted_of (j := 3) (want := false) (d := 43) (b := false) rfl rfl (congrArg Value.bool (decide_eq_false hc16)) rfl) rfl (x_index_ro u24 ty23 rfl rfl a17 (by first|omega|(simp;omega)|assumption) (by first|omega|(simp;omega)|assumption)) ?_
              obtain ⟨A17, c17, rfl, lc17, cm17, ld17⟩ := rp17
              have cn17 := cm17; simp only [maxLen] at cn17
              refine p_v (v := .slice A17 (at_ m.follow t35).length c17) rfl (wanted_of (j := 3) (want := false) (d := 43) (b := false) rfl rfl (congrArg Value.bool (decide_eq_false hc16)) rfl) rfl (x_load (seg := [.slice A17 (at_ m.follow t35).length c17]) ty23 rfl (by simp) rfl (CF.ghost ce17 (St.le0 S15))) ?_
              refine p_v (v := .int .i64 (m.spots.length : Int)) rfl (wanted_of (j := 3) (want := false) (d := 43) (b := false) rfl rfl (congrArg Value.bool (decide_eq_false hc16)) rfl) rfl (x_move r9_3) ?_
              refine p_c rfl (wanted_of (j := 3) (want := false) (d := 43) (b := false) rfl rfl (congrArg Value.bool (decide_eq_false hc16)) rfl) rfl (y_call (args := [.slice A17 (at_ m.follow t35).length c17, .int .i64 (m.spots.length : Int)]) ca20 rfl rfl) (rising_calls w14 (at_ m.follow t35) A17 c17 (And.intro lc17 cm17) (ld17.mono (St.le0 S15)) (m.spots.length : Int) (in_i64 (by first|omega|(simp;omega)|assumption) (by first|omega|(simp;omega)|assumption))) ?_
              rintro _ w18 ⟨h18, T18, rfl⟩
              have S19 := S15.keep (Chg.of_below T18.below)
              refine p_v (v := .bool (!(rises (m.spots.length : Int) (-1) (at_ m.follow t35)))) rfl (wanted_of (j := 3) (want := false) (d := 43) (b := false) rfl rfl (congrArg Value.bool (decide_eq_false hc16)) rfl) rfl (x_not rfl) ?_
              refine p_v (v := .bool (!(rises (m.spots.length : Int) (-1) (at_ m.follow t35)))) rfl rfl rfl (x_pick_f (congrArg Value.bool (decide_eq_false hc16)) rfl) ?_
              refine run_region_end ?_
              refine run_cond_nsplit (b := rises (m.spots.length : Int) (-1) (at_ m.follow t35)) rfl (fun hc20 => ?_) (fun hc20 => ?_)
              · skip
                refine run_seq ?_
                refine run_reg (l := [0]) rfl ?_
                refine p_v (v := .bool false) rfl rfl rfl (x_assign rfl) ?_
                refine run_region_end ?_
                refine run_ret Tryd.func8 (res1 rfl (res_tmp (v := .bool false) rfl)) ?_
                have q0 : (rightM m : Bool) = false := by
                  first | exact right_no1 m (by assumption) | exact right_no2 m (by assumption) | exact right_no3 m (by assumption) | exact right_no4 m (by assumption) | exact right_no5 m hI9.1 (by omega) (by assumption) | exact right_no6 m hI9.1 (by omega) (by assumption) | exact right_ok m (by omega) (by assumption) (by assumption) (by assumption) (by assumption) hI9.2.2
                refine ⟨_, rfl, h9, ?_, ?_⟩
                · exact S19.sub [] (by decide) rfl _ rfl
                · first | rfl | (simp only [q0]; rfl) | (simp only [q0])
              · skip
                refine run_skip ?_
                refine run_inBlock ?_
                refine run_reg (l := [0, 1]) rfl ?_
                refine p_v (v := .int .i64 (t35 + 1)) rfl rfl rfl (x_add r9_35 rfl (in_i64 (by first|omega|(simp;omega)|assumption) (by first|omega|(simp;omega)|assumption))) ?_
                refine p_v (v := .int .i64 (t35 + 1)) rfl rfl rfl (x_move rfl) ?_
                refine run_region_end ?_
                refine ih9 (t35 + 1) _ _ (by dsimp only; omega) ⟨h9, le9, S19.sub [0] (by decide) rfl _ rfl, r9_1, r9_3, r9_33, r9_34, rfl, (in_i64 (by first|omega|(simp;omega)|assumption) (by first|omega|(simp;omega)|assumption)), (by exact ⟨by omega, by omega, allTo_step hI9.1 hI9.2.2 (by unfold rowOk; rw [Int.toNat_of_nonneg hI9.1, decide_eq_true (by omega), (by assumption : rises _ _ _ = true)]; rfl)⟩)⟩
          · skip
            refine run_exit rfl ?_
            refine run_seq ?_
            refine run_reg (l := [0]) rfl ?_
            refine p_v (v := .bool true) rfl rfl rfl (x_assign rfl) ?_
            refine run_region_end ?_
            refine run_ret Tryd.func8 (res1 rfl (res_tmp (v := .bool true) rfl)) ?_
            have q0 : (rightM m : Bool) = true := by
              first | exact right_no1 m (by assumption) | exact right_no2 m (by assumption) | exact right_no3 m (by assumption) | exact right_no4 m (by assumption) | exact right_no5 m hI9.1 (by omega) (by assumption) | exact right_no6 m hI9.1 (by omega) (by assumption) | exact right_ok m (by omega) (by assumption) (by assumption) (by assumption) (by assumption) hI9.2.2
            refine ⟨_, rfl, h9, ?_, ?_⟩
            · exact S9.sub [] (by decide) rfl _ rfl
            · first | rfl | (simp only [q0]; rfl) | (simp only [q0])
theorem into_calls (w : World) (m : Mach) (A0_0 : Option Addr) (c0_0 : Nat) (b0_0 : m.spots.length ≤ c0_0 ∧ c0_0 ≤ maxLen) (l0_0 : Leads kSpot (hp w) A0_0 m.spots) (A0_1 : Option Addr) (c0_1 : Nat) (b0_1 : m.first.length ≤ c0_1 ∧ c0_1 ≤ maxLen) (l0_1 : Leads (Kd.int .i64) (hp w) A0_1 m.first) (A0_2 : Option Addr) (c0_2 : Nat) (b0_2 : m.follow.length ≤ c0_2 ∧ c0_2 ≤ maxLen) (l0_2 : Leads (Kd.int .i64).slice (hp w) A0_2 m.follow) (A0_3 : Option Addr) (c0_3 : Nat) (b0_3 : m.last.length ≤ c0_3 ∧ c0_3 ≤ maxLen) (l0_3 : Leads Kd.bool (hp w) A0_3 m.last) (next : List Bool) (A1 : Option Addr) (c1 : Nat) (b1 : next.length ≤ c1 ∧ c1 ≤ maxLen) (l1 : Leads Kd.bool (hp w) A1 next) (c : Int) (i2 : inK .u8 c) (pre0 : Right m ∧ (next.length : Int) = m.spots.length) :
    Calls Tryd.prog 25 #[.agg #[.slice A0_0 m.spots.length c0_0, .slice A0_1 m.first.length c0_1, .slice A0_2 m.follow.length c0_2, .slice A0_3 m.last.length c0_3, .bool m.empty], .slice A1 next.length c1, .int .u8 c] w fun e w' => ∃ v, e = .returned v ∧ ∃ (hn : Ghost) (r0 : Value), St w.heap.size w hn w' [row 4 Kd.bool r0 (intoP m next c)] ∧ v = r0 := by
  refine calls_of_run Tryd.func25 rfl Tryd.ntmps25 rfl ?_
  have S0 := St.init w
  have bb0_0 := b0_0.1; have bc0_0 := b0_0.2; simp only [maxLen] at bc0_0
  have bb0_1 := b0_1.1; have bc0_1 := b0_1.2; simp only [maxLen] at bc0_1
  have bb0_2 := b0_2.1; have bc0_2 := b0_2.2; simp only [maxLen] at bc0_2
  have bb0_3 := b0_3.1; have bc0_3 := b0_3.2; simp only [maxLen] at bc0_3
  have bb1 := b1.1; have bc1 := b1.2; simp only [maxLen] at bc1
  have lo2 := u8_lo i2; have hi2 := u8_hi i2
  have hsm_ := pre0.1.small; have hfo_ := pre0.1.follow; have hla_ := pre0.1.last
  refine run_seq ?_
  refine run_reg (l := [0, 1]) rfl ?_
  obtain ⟨b1, w1, r1, g1, T1⟩ := e_box (P := Tryd.prog) S0 27 (v := .agg #[.slice A0_0 m.spots.length c0_0, .slice A0_1 m.first.length c0_1, .slice A0_2 m.follow.length c0_2, .slice A0_3 m.last.length c0_3, .bool m.empty]) [.slice A0_0 m.spots.length c0_0, .slice A0_1 m.first.length c0_1, .slice A0_2 m.follow.length c0_2, .slice A0_3 m.last.length c0_3, .bool m.empty] rfl
  have S2 : St w.heap.size w (fun _ => none) w1 [box b1 27 [.slice A0_0 m.spots.length c0_0, .slice A0_1 m.first.length c0_1, .slice A0_2 m.follow.length c0_2, .slice A0_3 m.last.length c0_3, .bool m.empty]] := T1
  refine p_v (v := .pointer (some ⟨b1, 0, none⟩)) rfl rfl rfl (x_box rfl r1) ?_
  refine p_v (v := .slice none 0 0) rfl rfl rfl (x_assign rfl) ?_
  refine run_region_end ?_
  refine run_seq ?_
  refine run_reg (l := [0, 1, 2, 3, 4]) rfl ?_
  refine p_v (v := .pointer (some ⟨b1, 0, none⟩)) rfl rfl rfl (x_fieldAt fd27_0 ty22 rfl rfl) ?_
  refine p_v (v := .slice A0_0 m.spots.length c0_0) rfl rfl rfl (x_load (seg := [.slice A0_0 m.spots.length c0_0]) ty22 rfl (by simp) rfl (CF.box (m := 1) (S2.box_at (j := 0) rfl) rfl)) ?_
  refine p_v (v := .int .i64 (m.spots.length : Int)) rfl rfl rfl (x_len_slice u22 rfl) ?_
  obtain ⟨v3, w3, r3, g3, T3⟩ := e_make (kk := .i64) (kk' := .i64) (kd := Kd.bool) (q := (m.spots.length : Int)) (z := false) (zc := [.bool false]) S2 u25 ty4 rfl rfl ⟨rfl, trivial⟩ (by first|omega|(simp;omega)|assumption) (by first|omega|(simp;omega)|assumption) (by first|omega|(simp;omega)|assumption)
  have S4 : St w.heap.size w (fun _ => none) w3 [box b1 27 [.slice A0_0 m.spots.length c0_0, .slice A0_1 m.first.length c0_1, .slice A0_2 m.follow.length c0_2, .slice A0_3 m.last.length c0_3, .bool m.empty], row 4 Kd.bool v3 (List.replicate ((m.spots.length : Int)).toNat false)] := T3
  refine p_v (v := v3) rfl rfl rfl (x_make rfl rfl r3) ?_
  refine p_v (v := v3) rfl rfl rfl (x_assign rfl) ?_
  refine run_region_end ?_
  refine run_seq ?_
  refine run_seq ?_
  refine run_reg (l := [0, 1, 2, 3]) rfl ?_
  refine p_v (v := .pointer (some ⟨b1, 0, none⟩)) rfl rfl rfl (x_fieldAt fd27_0 ty22 rfl rfl) ?_
  refine p_v (v := .slice A0_0 m.spots.length c0_0) rfl rfl rfl (x_load (seg := [.slice A0_0 m.spots.length c0_0]) ty22 rfl (by simp) rfl (CF.box (m := 1) (S4.box_at (j := 0) rfl) rfl)) ?_
  refine p_v (v := .int .i64 (m.spots.length : Int)) rfl rfl rfl (x_len_slice u22 rfl) ?_
  refine p_v (v := .int .i64 0) rfl rfl rfl (x_move rfl) ?_
  refine run_region_end ?_
  refine run_block ?_
  refine run_loop (S := (List Bool) × Int) (fun (q_ : (List Bool) × Int) ρ w' => match q_ with | (out, t17) => ∃ (h : Ghost) (v_out : Value), Le (fun _ => none) h ∧ St w.heap.size w h w' [row 4 Kd.bool v_out out] ∧ ρ 1 = .slice A1 next.length c1 ∧ ρ 2 = .int .u8 c ∧ ρ 7 = v_out ∧ ρ 15 = .slice A0_0 m.spots.length c0_0 ∧ ρ 16 = .int .i64 (m.spots.length : Int) ∧ ρ 17 = .int .i64 t17 ∧ inK .i64 t17 ∧ (0 ≤ t17 ∧ t17 ≤ (m.spots.length : Int) ∧ out = intoTo m next c t17)) (fun q_ => match q_ with | (out, t17) => (m.spots.length - t17).toNat) (List.replicate ((m.spots.length : Int)).toNat false, 0) ⟨(fun _ => none), v3, Le.refl _, S4.sub [1] (by decide) rfl _ rfl, rfl, rfl, rfl, rfl, rfl, rfl, (in_i64 (by first|omega|(simp;omega)|assumption) (by first|omega|(simp;omega)|assumption)), (by exact ⟨by omega, by omega, into_0 m next c (by omega)⟩)⟩ ?_
  rintro ⟨out, t17⟩ ih5 ρ5 w5 ⟨h5, v_out, le5, S5, r5_1, r5_2, r5_7, r5_15, r5_16, r5_17, f5_0, hI5⟩
  have lf5_0 := i64_lo f5_0; have hf5_0 := i64_hi f5_0
  have rl5_0 := S5.row_le (j := 0) rfl; simp only [maxLen] at rl5_0
  have hl_ : (out.length : Int) = m.spots.length := by rw [hI5.2.2, intoTo_len]
  refine run_seq ?_
  refine run_reg (l := [0]) rfl ?_
  refine p_v (v := .bool (decide (t17 < (m.spots.length : Int)))) rfl rfl rfl (x_lss r5_17 r5_16) ?_
  refine run_region_end ?_
  refine run_seq ?_
  refine run_cond_prop (p := t17 < (m.spots.length : Int)) rfl (fun hc6 => ?_) (fun hc6 => ?_)
  · skip
    refine run_skip ?_
    refine run_seq ?_
    refine run_block ?_
    refine run_seq ?_
    refine run_reg (l := [0, 1, 2, 3, 4, 5]) rfl ?_
    refine p_v (v := .int .i64 t17) rfl rfl rfl (x_move r5_17) ?_
    obtain ⟨ad7, seg7, a7, rp7, ce7⟩ := e_index_ro (q := t17) (m := 5) l0_0 rfl (by first|omega|(simp;omega)|assumption) (by first|omega|(simp;omega)|assumption)
    refine p_v (v := .pointer (some ad7)) rfl rfl rfl (x_index_ro u22 ty55 r5_15 r5_17 a7 (by first|omega|(simp;omega)|assumption) (by first|omega|(simp;omega)|assumption)) ?_
    obtain ⟨rfl, ok7⟩ := rp7
    have slook7 := u8_lo ok7; have shiok7 := u8_hi ok7
    refine p_v (v := .agg (encSpot (at_ m.spots t17)).toArray) rfl rfl rfl (x_load (seg := (encSpot (at_ m.spots t17))) ty55 rfl (by simp) rfl (CF.ghost ce7 (St.le0 S5))) ?_
    obtain ⟨b8, w8, r8, g8, T8⟩ := e_box (P := Tryd.prog) S5 55 (v := (.agg #[.int .u64 0, .int .u64 0, .int .u64 0, .int .u64 0, .int .u8 0])) (encSpot (⟨0, 0⟩ : Spot)) rfl
    have S9 : St w.heap.size w h5 w8 [row 4 Kd.bool v_out out, box b8 55 (encSpot (⟨0, 0⟩ : Spot))] := T8
    refine p_v (v := .pointer (some ⟨b8, 0, none⟩)) rfl rfl rfl (x_alloc ty55 r8) ?_
    refine p_v (v := .int .i64 t17) rfl rfl rfl (x_assign rfl) ?_
    obtain ⟨w10, r10, g10, T10⟩ := e_store (P := Tryd.prog) (off := 0) (v := .agg (encSpot (at_ m.spots t17)).toArray) (vs := (encSpot (at_ m.spots t17))) S9 ty55 rfl rfl (j := 1) rfl (by first | decide | exact Nat.le_of_ble_eq_true rfl) (encSpot_one _)
    have S11 : St w.heap.size w h5 w10 [row 4 Kd.bool v_out out, box b8 55 (encSpot (at_ m.spots t17))] := T10
    refine p_s rfl rfl (x_store rfl rfl r10) ?_
    refine run_region_end ?_
    refine run_reg (l := [0, 1, 2, 3, 4, 5, 6, 7, 8, 9, 10, 11, 12, 13]) rfl ?_
    refine p_v (v := v_out) rfl rfl rfl (x_move r5_7) ?_
    refine p_v (v := .int .i64 t17) rfl rfl rfl (x_move rfl) ?_
    refine p_v (v := .slice A1 next.length c1) rfl rfl rfl (x_move r5_1) ?_
    refine p_v (v := .int .i64 t17) rfl rfl rfl (x_move rfl) ?_
    obtain ⟨ad12, seg12, a12, rp12, ce12⟩ := e_index_ro (q := t17) (m := 1) l1 rfl (by first|omega|(simp;omega)|assumption) (by first|omega|(simp;omega)|assumption)
    refine p_v (v := .pointer (some ad12)) rfl rfl rfl (x_index_ro u25 ty4 rfl rfl a12 (by first|omega|(simp;omega)|assumption) (by first|omega|(simp;omega)|assumption)) ?_
    obtain ⟨rfl, _⟩ := rp12
    refine p_v (v := .bool (at_ next t17)) rfl rfl rfl (x_load (seg := [.bool (at_ next t17)]) ty4 rfl (by simp) rfl (CF.ghost ce12 (St.le0 S11))) ?_
    refine p_v (v := .bool (at_ next t17)) rfl rfl rfl (x_move rfl) ?_
    rcases Bool.eq_false_or_eq_true (at_ next t17) with hc13 | hc13
    · skip
      refine p_v (v := .pointer (some ⟨b8, 0, none⟩)) rfl (wanted_of (j := 6) (want := true) (d := 28) (b := true) rfl rfl (congrArg Value.bool hc13) rfl) rfl (x_fieldAt fd55_0 ty49 rfl rfl) ?_
      refine p_v (v := .agg (encSet ((at_ m.spots t17).set)).toArray) rfl (wanted_of (j := 6) (want := true) (d := 28) (b := true) rfl rfl (congrArg Value.bool hc13) rfl) rfl (x_load (seg := (encSet ((at_ m.spots t17).set))) ty49 rfl (by simp) rfl (CF.box (m := 4) (S11.box_at (j := 1) rfl) rfl)) ?_
      refine p_v (v := .int .u8 c) rfl (wanted_of (j := 6) (want := true) (d := 28) (b := true) rfl rfl (congrArg Value.bool hc13) rfl) rfl (x_move r5_2) ?_
      refine p_c rfl (wanted_of (j := 6) (want := true) (d := 28) (b := true) rfl rfl (congrArg Value.bool hc13) rfl) rfl (y_call (args := [.agg (encSet ((at_ m.spots t17).set)).toArray, .int .u8 c]) ca37 rfl rfl) (has_calls w10 ((at_ m.spots t17).set) c (in_u8 (by first|omega|(simp;omega)|assumption) (by first|omega|(simp;omega)|assumption))) ?_
      rintro _ w14 ⟨h14, T14, rfl⟩
      have S15 := S11.keep (Chg.of_below T14.below)
      refine p_v (v := .bool (has ((at_ m.spots t17).set) c)) rfl rfl rfl (x_pick_t (congrArg Value.bool hc13) rfl) ?_
      obtain ⟨ad16, a16, at16⟩ := e_index_own (q := t17) (m := 1) S15 (j := 0) rfl rfl (by first|omega|(simp;omega)|assumption) (by first|omega|(simp;omega)|assumption)
      refine p_v (v := .pointer (some ad16)) rfl rfl rfl (x_index_own u25 ty4 rfl rfl a16 (by first|omega|(simp;omega)|assumption) (by first|omega|(simp;omega)|assumption)) ?_
      obtain ⟨w17, r17, g17, T17⟩ := e_store_own (u := .bool (has ((at_ m.spots t17).set) c)) (q := t17) (has ((at_ m.spots t17).set) c) (vs := [.bool (has ((at_ m.spots t17).set) c)]) S15 ty4 rfl (j := 0) rfl rfl ⟨rfl, trivial⟩ at16 (by first|omega|(simp;omega)|assumption) (by first|omega|(simp;omega)|assumption)
      have S18 : St w.heap.size w h5 w17 [row 4 Kd.bool v_out (out.set (t17).toNat (has ((at_ m.spots t17).set) c)), box b8 55 (encSpot (at_ m.spots t17))] := T17
      refine p_s rfl rfl (x_store rfl rfl r17) ?_
      refine run_region_end ?_
      refine run_inBlock ?_
      refine run_reg (l := [0, 1]) rfl ?_
      refine p_v (v := .int .i64 (t17 + 1)) rfl rfl rfl (x_add r5_17 rfl (in_i64 (by first|omega|(simp;omega)|assumption) (by first|omega|(simp;omega)|assumption))) ?_
      refine p_v (v := .int .i64 (t17 + 1)) rfl rfl rfl (x_move rfl) ?_
      refine run_region_end ?_
      refine ih5 (out.set (t17).toNat (has ((at_ m.spots t17).set) c), t17 + 1) _ _ (by dsimp only; omega) ⟨h5, v_out, le5, S18.sub [0] (by decide) rfl _ rfl, r5_1, r5_2, r5_7, r5_15, r5_16, rfl, (in_i64 (by first|omega|(simp;omega)|assumption) (by first|omega|(simp;omega)|assumption)), (by exact ⟨by omega, by omega, by rw [hI5.2.2]; exact into_step m next c hI5.1 (by first | (rw [(by assumption : at_ next t17 = true)]; rfl) | (rw [(by assumption : at_ next t17 = false)]; rfl))⟩)⟩
    · skip
      refine p_off rfl (wanted_of (j := 6) (want := true) (d := 28) (b := false) rfl rfl (congrArg Value.bool hc13) rfl) rfl ?_
      refine p_off rfl (wanted_of (j := 6) (want := true) (d := 28) (b := false) rfl rfl (congrArg Value.bool hc13) rfl) rfl ?_
      refine p_off rfl (wanted_of (j := 6) (want := true) (d := 28) (b := false) rfl rfl (congrArg Value.bool hc13) rfl) rfl ?_
      refine p_off rfl (wanted_of (j := 6) (want := true) (d := 28) (b := false) rfl rfl (congrArg Value.bool hc13) rfl) rfl ?_
      refine p_v (v := .bool false) rfl rfl rfl (x_pick_f (congrArg Value.bool hc13) rfl) ?_
      obtain ⟨ad19, a19, at19⟩ := e_index_own (q := t17) (m := 1) S11 (j := 0) rfl rfl (by first|omega|(simp;omega)|assumption) (by first|omega|(simp;omega)|assumption)
      refine p_v (v := .pointer (some ad19)) rfl rfl rfl (x_index_own u25 ty4 rfl rfl a19 (by first|omega|(simp;omega)|assumption) (by first|omega|(simp;omega)|assumption)) ?_
      obtain ⟨w20, r20, g20, T20⟩ := e_store_own (u := .bool false) (q := t17) false (vs := [.bool false]) S11 ty4 rfl (j := 0) rfl rfl ⟨rfl, trivial⟩ at19 (by first|omega|(simp;omega)|assumption) (by first|omega|(simp;omega)|assumption)
      have S21 : St w.heap.size w h5 w20 [row 4 Kd.bool v_out (out.set (t17).toNat false), box b8 55 (encSpot (at_ m.spots t17))] := T20
      refine p_s rfl rfl (x_store rfl rfl r20) ?_
      refine run_region_end ?_
      refine run_inBlock ?_
      refine run_reg (l := [0, 1]) rfl ?_
      refine p_v (v := .int .i64 (t17 + 1)) rfl rfl rfl (x_add r5_17 rfl (in_i64 (by first|omega|(simp;omega)|assumption) (by first|omega|(simp;omega)|assumption))) ?_
      refine p_v (v := .int .i64 (t17 + 1)) rfl rfl rfl (x_move rfl) ?_
      refine run_region_end ?_
      refine ih5 (out.set (t17).toNat false, t17 + 1) _ _ (by dsimp only; omega) ⟨h5, v_out, le5, S21.sub [0] (by decide) rfl _ rfl, r5_1, r5_2, r5_7, r5_15, r5_16, rfl, (in_i64 (by first|omega|(simp;omega)|assumption) (by first|omega|(simp;omega)|assumption)), (by exact ⟨by omega, by omega, by rw [hI5.2.2]; exact into_step m next c hI5.1 (by first | (rw [(by assumption : at_ next t17 = true)]; rfl) | (rw [(by assumption : at_ next t17 = false)]; rfl))⟩)⟩
  · skip
    refine run_exit rfl ?_
    refine run_seq ?_
    refine run_reg (l := [0, 1]) rfl ?_
    refine p_v (v := v_out) rfl rfl rfl (x_move r5_7) ?_
    refine p_v (v := v_out) rfl rfl rfl (x_assign rfl) ?_
    refine run_region_end ?_
    refine run_ret Tryd.func25 (res1 rfl (res_tmp (v := v_out) rfl)) ?_
    have q0 : (intoP m next c : List Bool) = out := by
      rw [hI5.2.2]; exact (into_end m next c (by omega)).symm
    refine ⟨_, rfl, h5, v_out, ?_, ?_⟩
    · rw [q0]; exact S5.sub [0] (by decide) rfl _ rfl
    · first | rfl | (simp only [q0]; rfl) | (simp only [q0])
theorem marked_calls (w : World) (m : Mach) (A0_0 : Option Addr) (c0_0 : Nat) (b0_0 : m.spots.length ≤ c0_0 ∧ c0_0 ≤ maxLen) (l0_0 : Leads kSpot (hp w) A0_0 m.spots) (A0_1 : Option Addr) (c0_1 : Nat) (b0_1 : m.first.length ≤ c0_1 ∧ c0_1 ≤ maxLen) (l0_1 : Leads (Kd.int .i64) (hp w) A0_1 m.first) (A0_2 : Option Addr) (c0_2 : Nat) (b0_2 : m.follow.length ≤ c0_2 ∧ c0_2 ≤ maxLen) (l0_2 : Leads (Kd.int .i64).slice (hp w) A0_2 m.follow) (A0_3 : Option Addr) (c0_3 : Nat) (b0_3 : m.last.length ≤ c0_3 ∧ c0_3 ≤ maxLen) (l0_3 : Leads Kd.bool (hp w) A0_3 m.last) (l : List Int) (A1 : Option Addr) (c1 : Nat) (b1 : l.length ≤ c1 ∧ c1 ≤ maxLen) (l1 : Leads (Kd.int .i64) (hp w) A1 l) (pre0 : Right m ∧ ∀ x ∈ l, 0 ≤ x ∧ x < (m.spots.length : Int)) :
    Calls Tryd.prog 26 #[.agg #[.slice A0_0 m.spots.length c0_0, .slice A0_1 m.first.length c0_1, .slice A0_2 m.follow.length c0_2, .slice A0_3 m.last.length c0_3, .bool m.empty], .slice A1 l.length c1] w fun e w' => ∃ v, e = .returned v ∧ ∃ (hn : Ghost) (r0 : Value), St w.heap.size w hn w' [row 4 Kd.bool r0 (markP m.spots.length l)] ∧ v = r0 := by
  refine calls_of_run Tryd.func26 rfl Tryd.ntmps26 rfl ?_
  have S0 := St.init w
  have bb0_0 := b0_0.1; have bc0_0 := b0_0.2; simp only [maxLen] at bc0_0
  have bb0_1 := b0_1.1; have bc0_1 := b0_1.2; simp only [maxLen] at bc0_1
  have bb0_2 := b0_2.1; have bc0_2 := b0_2.2; simp only [maxLen] at bc0_2
  have bb0_3 := b0_3.1; have bc0_3 := b0_3.2; simp only [maxLen] at bc0_3
  have bb1 := b1.1; have bc1 := b1.2; simp only [maxLen] at bc1
  have hsm_ := pre0.1.small; have hfo_ := pre0.1.follow; have hla_ := pre0.1.last
  refine run_seq ?_
  refine run_reg (l := [0, 1]) rfl ?_
  obtain ⟨b1, w1, r1, g1, T1⟩ := e_box (P := Tryd.prog) S0 27 (v := .agg #[.slice A0_0 m.spots.length c0_0, .slice A0_1 m.first.length c0_1, .slice A0_2 m.follow.length c0_2, .slice A0_3 m.last.length c0_3, .bool m.empty]) [.slice A0_0 m.spots.length c0_0, .slice A0_1 m.first.length c0_1, .slice A0_2 m.follow.length c0_2, .slice A0_3 m.last.length c0_3, .bool m.empty] rfl
  have S2 : St w.heap.size w (fun _ => none) w1 [box b1 27 [.slice A0_0 m.spots.length c0_0, .slice A0_1 m.first.length c0_1, .slice A0_2 m.follow.length c0_2, .slice A0_3 m.last.length c0_3, .bool m.empty]] := T1
  refine p_v (v := .pointer (some ⟨b1, 0, none⟩)) rfl rfl rfl (x_box rfl r1) ?_
  refine p_v (v := .slice none 0 0) rfl rfl rfl (x_assign rfl) ?_
  refine run_region_end ?_
  refine run_seq ?_
  refine run_reg (l := [0, 1, 2, 3, 4]) rfl ?_
  refine p_v (v := .pointer (some ⟨b1, 0, none⟩)) rfl rfl rfl (x_fieldAt fd27_0 ty22 rfl rfl) ?_
  refine p_v (v := .slice A0_0 m.spots.length c0_0) rfl rfl rfl (x_load (seg := [.slice A0_0 m.spots.length c0_0]) ty22 rfl (by simp) rfl (CF.box (m := 1) (S2.box_at (j := 0) rfl) rfl)) ?_
  refine p_v (v := .int .i64 (m.spots.length : Int)) rfl rfl rfl (x_len_slice u22 rfl) ?_
  obtain ⟨v3, w3, r3, g3, T3⟩ := e_make (kk := .i64) (kk' := .i64) (kd := Kd.bool) (q := (m.spots.length : Int)) (z := false) (zc := [.bool false]) S2 u25 ty4 rfl rfl ⟨rfl, trivial⟩ (by first|omega|(simp;omega)|assumption) (by first|omega|(simp;omega)|assumption) (by first|omega|(simp;omega)|assumption)
  have S4 : St w.heap.size w (fun _ => none) w3 [box b1 27 [.slice A0_0 m.spots.length c0_0, .slice A0_1 m.first.length c0_1, .slice A0_2 m.follow.length c0_2, .slice A0_3 m.last.length c0_3, .bool m.empty], row 4 Kd.bool v3 (List.replicate ((m.spots.length : Int)).toNat false)] := T3
  refine p_v (v := v3) rfl rfl rfl (x_make rfl rfl r3) ?_
  refine p_v (v := v3) rfl rfl rfl (x_assign rfl) ?_
  refine run_region_end ?_
  refine run_seq ?_
  refine run_seq ?_
  refine run_reg (l := [0, 1, 2]) rfl ?_
  refine p_v (v := .slice A1 l.length c1) rfl rfl rfl (x_move rfl) ?_
  refine p_v (v := .int .i64 (l.length : Int)) rfl rfl rfl (x_len_slice u23 rfl) ?_
  refine p_v (v := .int .i64 0) rfl rfl rfl (x_move rfl) ?_
  refine run_region_end ?_
  refine run_block ?_
  refine run_loop (S := (List Bool) × Int) (fun (q_ : (List Bool) × Int) ρ w' => match q_ with | (out, t14) => ∃ (h : Ghost) (v_out : Value), Le (fun _ => none) h ∧ St w.heap.size w h w' [row 4 Kd.bool v_out out] ∧ ρ 5 = v_out ∧ ρ 12 = .slice A1 l.length c1 ∧ ρ 13 = .int .i64 (l.length : Int) ∧ ρ 14 = .int .i64 t14 ∧ inK .i64 t14 ∧ (0 ≤ t14 ∧ t14 ≤ (l.length : Int) ∧ out = markP m.spots.length (l.take t14.toNat))) (fun q_ => match q_ with | (out, t14) => (l.length - t14).toNat) (List.replicate ((m.spots.length : Int)).toNat false, 0) ⟨(fun _ => none), v3, Le.refl _, S4.sub [1] (by decide) rfl _ rfl, rfl, rfl, rfl, rfl, (in_i64 (by first|omega|(simp;omega)|assumption) (by first|omega|(simp;omega)|assumption)), (by exact ⟨by omega, by omega, by rw [Int.toNat_natCast]; exact mark_0 _ _⟩)⟩ ?_
  rintro ⟨out, t14⟩ ih5 ρ5 w5 ⟨h5, v_out, le5, S5, r5_5, r5_12, r5_13, r5_14, f5_0, hI5⟩
  have lf5_0 := i64_lo f5_0; have hf5_0 := i64_hi f5_0
  have rl5_0 := S5.row_le (j := 0) rfl; simp only [maxLen] at rl5_0
  have hl_ : (out.length : Int) = m.spots.length := by rw [hI5.2.2, markP_len]
  have hx_ : t14 < (l.length : Int) → 0 ≤ at_ l t14 ∧ at_ l t14 < (m.spots.length : Int) := fun h => pre0.2 _ (at_mem hI5.1 h)
  refine run_seq ?_
  refine run_reg (l := [0]) rfl ?_
  refine p_v (v := .bool (decide (t14 < (l.length : Int)))) rfl rfl rfl (x_lss r5_14 r5_13) ?_
  refine run_region_end ?_
  refine run_seq ?_
  refine run_cond_prop (p := t14 < (l.length : Int)) rfl (fun hc6 => ?_) (fun hc6 => ?_)
  · skip
    refine run_skip ?_
    refine run_seq ?_
    refine run_block ?_
    refine run_seq ?_
    refine run_reg (l := [0, 1, 2]) rfl ?_
    obtain ⟨ad7, seg7, a7, rp7, ce7⟩ := e_index_ro (q := t14) (m := 1) l1 rfl (by first|omega|(simp;omega)|assumption) (by first|omega|(simp;omega)|assumption)
    refine p_v (v := .pointer (some ad7)) rfl rfl rfl (x_index_ro u23 ty3 r5_12 r5_14 a7 (by first|omega|(simp;omega)|assumption) (by first|omega|(simp;omega)|assumption)) ?_
    obtain ⟨rfl, in7⟩ := rp7
    have lo7 := i64_lo in7; have hi7 := i64_hi in7
    refine p_v (v := .int .i64 (at_ l t14)) rfl rfl rfl (x_load (seg := [.int .i64 (at_ l t14)]) ty3 rfl (by simp) rfl (CF.ghost ce7 (St.le0 S5))) ?_
    refine p_v (v := .int .i64 (at_ l t14)) rfl rfl rfl (x_assign rfl) ?_
    refine run_region_end ?_
    refine run_reg (l := [0, 1, 2, 3]) rfl ?_
    refine p_v (v := v_out) rfl rfl rfl (x_move r5_5) ?_
    refine p_v (v := .int .i64 (at_ l t14)) rfl rfl rfl (x_move rfl) ?_
    obtain ⟨ad8, a8, at8⟩ := e_index_own (q := at_ l t14) (m := 1) S5 (j := 0) rfl rfl (by first|omega|(simp;omega)|assumption) (by first|omega|(simp;omega)|assumption)
    refine p_v (v := .pointer (some ad8)) rfl rfl rfl (x_index_own u25 ty4 rfl rfl a8 (by first|omega|(simp;omega)|assumption) (by first|omega|(simp;omega)|assumption)) ?_
    obtain ⟨w9, r9, g9, T9⟩ := e_store_own (u := .bool true) (q := at_ l t14) true (vs := [.bool true]) S5 ty4 rfl (j := 0) rfl rfl ⟨rfl, trivial⟩ at8 (by first|omega|(simp;omega)|assumption) (by first|omega|(simp;omega)|assumption)
    have S10 : St w.heap.size w h5 w9 [row 4 Kd.bool v_out (out.set (at_ l t14).toNat true)] := T9
    refine p_s rfl rfl (x_store rfl rfl r9) ?_
    refine run_region_end ?_
    refine run_inBlock ?_
    refine run_reg (l := [0, 1]) rfl ?_
    refine p_v (v := .int .i64 (t14 + 1)) rfl rfl rfl (x_add r5_14 rfl (in_i64 (by first|omega|(simp;omega)|assumption) (by first|omega|(simp;omega)|assumption))) ?_
    refine p_v (v := .int .i64 (t14 + 1)) rfl rfl rfl (x_move rfl) ?_
    refine run_region_end ?_
    refine ih5 (out.set (at_ l t14).toNat true, t14 + 1) _ _ (by dsimp only; omega) ⟨h5, v_out, le5, S10.sub [0] (by decide) rfl _ rfl, r5_5, r5_12, r5_13, rfl, (in_i64 (by first|omega|(simp;omega)|assumption) (by first|omega|(simp;omega)|assumption)), (by exact ⟨by omega, by omega, by rw [hI5.2.2]; exact mark_step l hI5.1 (by omega) (hx_ (by omega)).1⟩)⟩
  · skip
    refine run_exit rfl ?_
    refine run_seq ?_
    refine run_reg (l := [0, 1]) rfl ?_
    refine p_v (v := v_out) rfl rfl rfl (x_move r5_5) ?_
    refine p_v (v := v_out) rfl rfl rfl (x_assign rfl) ?_
    refine run_region_end ?_
    refine run_ret Tryd.func26 (res1 rfl (res_tmp (v := v_out) rfl)) ?_
    have q0 : (markP m.spots.length l : List Bool) = out := by
      rw [hI5.2.2]; exact (mark_end l (by omega)).symm
    refine ⟨_, rfl, h5, v_out, ?_, ?_⟩
    · rw [q0]; exact S5.sub [0] (by decide) rfl _ rfl
    · first | rfl | (simp only [q0]; rfl) | (simp only [q0])
theorem behind_calls (w : World) (m : Mach) (A0_0 : Option Addr) (c0_0 : Nat) (b0_0 : m.spots.length ≤ c0_0 ∧ c0_0 ≤ maxLen) (l0_0 : Leads kSpot (hp w) A0_0 m.spots) (A0_1 : Option Addr) (c0_1 : Nat) (b0_1 : m.first.length ≤ c0_1 ∧ c0_1 ≤ maxLen) (l0_1 : Leads (Kd.int .i64) (hp w) A0_1 m.first) (A0_2 : Option Addr) (c0_2 : Nat) (b0_2 : m.follow.length ≤ c0_2 ∧ c0_2 ≤ maxLen) (l0_2 : Leads (Kd.int .i64).slice (hp w) A0_2 m.follow) (A0_3 : Option Addr) (c0_3 : Nat) (b0_3 : m.last.length ≤ c0_3 ∧ c0_3 ≤ maxLen) (l0_3 : Leads Kd.bool (hp w) A0_3 m.last) (xat : List Bool) (A1 : Option Addr) (c1 : Nat) (b1 : xat.length ≤ c1 ∧ c1 ≤ maxLen) (l1 : Leads Kd.bool (hp w) A1 xat) (pre0 : Right m ∧ (xat.length : Int) = m.spots.length) :
    Calls Tryd.prog 27 #[.agg #[.slice A0_0 m.spots.length c0_0, .slice A0_1 m.first.length c0_1, .slice A0_2 m.follow.length c0_2, .slice A0_3 m.last.length c0_3, .bool m.empty], .slice A1 xat.length c1] w fun e w' => ∃ v, e = .returned v ∧ ∃ (hn : Ghost) (r0 : Value), St w.heap.size w hn w' [row 4 Kd.bool r0 (behindP m xat)] ∧ v = r0 := by
  refine calls_of_run Tryd.func27 rfl Tryd.ntmps27 rfl ?_
  have S0 := St.init w
  have bb0_0 := b0_0.1; have bc0_0 := b0_0.2; simp only [maxLen] at bc0_0
  have bb0_1 := b0_1.1; have bc0_1 := b0_1.2; simp only [maxLen] at bc0_1
  have bb0_2 := b0_2.1; have bc0_2 := b0_2.2; simp only [maxLen] at bc0_2
  have bb0_3 := b0_3.1; have bc0_3 := b0_3.2; simp only [maxLen] at bc0_3
  have bb1 := b1.1; have bc1 := b1.2; simp only [maxLen] at bc1
  have hsm_ := pre0.1.small; have hfo_ := pre0.1.follow; have hla_ := pre0.1.last
  refine run_seq ?_
  refine run_reg (l := [0, 1]) rfl ?_
  obtain ⟨b1, w1, r1, g1, T1⟩ := e_box (P := Tryd.prog) S0 27 (v := .agg #[.slice A0_0 m.spots.length c0_0, .slice A0_1 m.first.length c0_1, .slice A0_2 m.follow.length c0_2, .slice A0_3 m.last.length c0_3, .bool m.empty]) [.slice A0_0 m.spots.length c0_0, .slice A0_1 m.first.length c0_1, .slice A0_2 m.follow.length c0_2, .slice A0_3 m.last.length c0_3, .bool m.empty] rfl
  have S2 : St w.heap.size w (fun _ => none) w1 [box b1 27 [.slice A0_0 m.spots.length c0_0, .slice A0_1 m.first.length c0_1, .slice A0_2 m.follow.length c0_2, .slice A0_3 m.last.length c0_3, .bool m.empty]] := T1
  refine p_v (v := .pointer (some ⟨b1, 0, none⟩)) rfl rfl rfl (x_box rfl r1) ?_
  refine p_v (v := .slice none 0 0) rfl rfl rfl (x_assign rfl) ?_
  refine run_region_end ?_
  refine run_seq ?_
  refine run_reg (l := [0, 1, 2, 3, 4]) rfl ?_
  refine p_v (v := .pointer (some ⟨b1, 0, none⟩)) rfl rfl rfl (x_fieldAt fd27_0 ty22 rfl rfl) ?_
  refine p_v (v := .slice A0_0 m.spots.length c0_0) rfl rfl rfl (x_load (seg := [.slice A0_0 m.spots.length c0_0]) ty22 rfl (by simp) rfl (CF.box (m := 1) (S2.box_at (j := 0) rfl) rfl)) ?_
  refine p_v (v := .int .i64 (m.spots.length : Int)) rfl rfl rfl (x_len_slice u22 rfl) ?_
  obtain ⟨v3, w3, r3, g3, T3⟩ := e_make (kk := .i64) (kk' := .i64) (kd := Kd.bool) (q := (m.spots.length : Int)) (z := false) (zc := [.bool false]) S2 u25 ty4 rfl rfl ⟨rfl, trivial⟩ (by first|omega|(simp;omega)|assumption) (by first|omega|(simp;omega)|assumption) (by first|omega|(simp;omega)|assumption)
  have S4 : St w.heap.size w (fun _ => none) w3 [box b1 27 [.slice A0_0 m.spots.length c0_0, .slice A0_1 m.first.length c0_1, .slice A0_2 m.follow.length c0_2, .slice A0_3 m.last.length c0_3, .bool m.empty], row 4 Kd.bool v3 (List.replicate ((m.spots.length : Int)).toNat false)] := T3
  refine p_v (v := v3) rfl rfl rfl (x_make rfl rfl r3) ?_
  refine p_v (v := v3) rfl rfl rfl (x_assign rfl) ?_
  refine run_region_end ?_
  refine run_seq ?_
  refine run_seq ?_
  refine run_reg (l := [0, 1, 2]) rfl ?_
  refine p_v (v := .slice A1 xat.length c1) rfl rfl rfl (x_move rfl) ?_
  refine p_v (v := .int .i64 (xat.length : Int)) rfl rfl rfl (x_len_slice u25 rfl) ?_
  refine p_v (v := .int .i64 0) rfl rfl rfl (x_move rfl) ?_
  refine run_region_end ?_
  refine run_block ?_
  refine run_loop (S := (List Bool) × Int) (fun (q_ : (List Bool) × Int) ρ w' => match q_ with | (out, t16) => ∃ (h : Ghost) (v_out : Value), Le (fun _ => none) h ∧ St w.heap.size w h w' [box b1 27 [.slice A0_0 m.spots.length c0_0, .slice A0_1 m.first.length c0_1, .slice A0_2 m.follow.length c0_2, .slice A0_3 m.last.length c0_3, .bool m.empty], row 4 Kd.bool v_out out] ∧ ρ 2 = .pointer (some ⟨b1, 0, none⟩) ∧ ρ 5 = v_out ∧ ρ 14 = .slice A1 xat.length c1 ∧ ρ 15 = .int .i64 (xat.length : Int) ∧ ρ 16 = .int .i64 t16 ∧ inK .i64 t16 ∧ (0 ≤ t16 ∧ t16 ≤ (xat.length : Int) ∧ out = behindTo m xat t16)) (fun q_ => match q_ with | (out, t16) => (xat.length - t16).toNat) (List.replicate ((m.spots.length : Int)).toNat false, 0) ⟨(fun _ => none), v3, Le.refl _, S4.sub [0, 1] (by decide) rfl _ rfl, rfl, rfl, rfl, rfl, rfl, (in_i64 (by first|omega|(simp;omega)|assumption) (by first|omega|(simp;omega)|assumption)), (by exact ⟨by omega, by omega, behind_0 m xat (by omega)⟩)⟩ ?_
  rintro ⟨out, t16⟩ ih5 ρ5 w5 ⟨h5, v_out, le5, S5, r5_2, r5_5, r5_14, r5_15, r5_16, f5_0, hI5⟩
  have lf5_0 := i64_lo f5_0; have hf5_0 := i64_hi f5_0
  have rl5_1 := S5.row_le (j := 1) rfl; simp only [maxLen] at rl5_1
  have hf_ := pre0.1.follow; have hn_ := pre0.2
  have hl_ : (out.length : Int) = m.spots.length := by rw [hI5.2.2, behindTo_len]
  refine run_seq ?_
  refine run_reg (l := [0]) rfl ?_
  refine p_v (v := .bool (decide (t16 < (xat.length : Int)))) rfl rfl rfl (x_lss r5_16 r5_15) ?_
  refine run_region_end ?_
  refine run_seq ?_
  refine run_cond_prop (p := t16 < (xat.length : Int)) rfl (fun hc6 => ?_) (fun hc6 => ?_)
  · skip
    refine run_skip ?_
    refine run_seq ?_
    refine run_block ?_
    refine run_seq ?_
    refine run_reg (l := [0, 1, 2, 3, 4]) rfl ?_
    refine p_v (v := .int .i64 t16) rfl rfl rfl (x_move r5_16) ?_
    obtain ⟨ad7, seg7, a7, rp7, ce7⟩ := e_index_ro (q := t16) (m := 1) l1 rfl (by first|omega|(simp;omega)|assumption) (by first|omega|(simp;omega)|assumption)
    refine p_v (v := .pointer (some ad7)) rfl rfl rfl (x_index_ro u25 ty4 r5_14 r5_16 a7 (by first|omega|(simp;omega)|assumption) (by first|omega|(simp;omega)|assumption)) ?_
    obtain ⟨rfl, _⟩ := rp7
    refine p_v (v := .bool (at_ xat t16)) rfl rfl rfl (x_load (seg := [.bool (at_ xat t16)]) ty4 rfl (by simp) rfl (CF.ghost ce7 (St.le0 S5))) ?_
    refine p_v (v := .int .i64 t16) rfl rfl rfl (x_assign rfl) ?_
    refine p_v (v := .bool (at_ xat t16)) rfl rfl rfl (x_assign rfl) ?_
    refine run_region_end ?_
    refine run_seq ?_
    refine run_seq ?_
    refine run_reg (l := [0, 1]) rfl ?_
    refine p_v (v := .bool (at_ xat t16)) rfl rfl rfl (x_move rfl) ?_
    refine p_v (v := .bool (!(at_ xat t16))) rfl rfl rfl (x_not rfl) ?_
    refine run_region_end ?_
    refine run_cond_nsplit (b := at_ xat t16) rfl (fun hc8 => ?_) (fun hc8 => ?_)
    · skip
      refine run_exit rfl ?_
      refine run_reg (l := [0, 1]) rfl ?_
      refine p_v (v := .int .i64 (t16 + 1)) rfl rfl rfl (x_add r5_16 rfl (in_i64 (by first|omega|(simp;omega)|assumption) (by first|omega|(simp;omega)|assumption))) ?_
      refine p_v (v := .int .i64 (t16 + 1)) rfl rfl rfl (x_move rfl) ?_
      refine run_region_end ?_
      refine ih5 (out, t16 + 1) _ _ (by dsimp only; omega) ⟨h5, v_out, le5, S5.sub [0, 1] (by decide) rfl _ rfl, r5_2, r5_5, r5_14, r5_15, rfl, (in_i64 (by first|omega|(simp;omega)|assumption) (by first|omega|(simp;omega)|assumption)), (by first | exact ⟨by omega, by omega, by rw [hI5.2.2]; exact behind_no m xat hI5.1 (by assumption)⟩ | exact ⟨by omega, by omega, by rw [hI9.2.2]; exact behind_in1 m xat hI5.1 (by omega) (by assumption)⟩)⟩
    · skip
      refine run_skip ?_
      refine run_seq ?_
      refine run_reg (l := [0, 1, 2, 3, 4, 5, 6]) rfl ?_
      refine p_v (v := .pointer (some ⟨b1, 2, none⟩)) rfl rfl rfl (x_fieldAt fd27_2 ty24 rfl r5_2) ?_
      refine p_v (v := .slice A0_2 m.follow.length c0_2) rfl rfl rfl (x_load (seg := [.slice A0_2 m.follow.length c0_2]) ty24 rfl (by simp) rfl (CF.box (m := 1) (S5.box_at (j := 0) rfl) rfl)) ?_
      refine p_v (v := .int .i64 t16) rfl rfl rfl (x_move rfl) ?_
      obtain ⟨ad9, seg9, a9, rp9, ce9⟩ := e_index_ro (q := t16) (m := 1) l0_2 rfl (by first|omega|(simp;omega)|assumption) (by first|omega|(simp;omega)|assumption)
      refine p_v (v := .pointer (some ad9)) rfl rfl rfl (x_index_ro u24 ty23 rfl rfl a9 (by first|omega|(simp;omega)|assumption) (by first|omega|(simp;omega)|assumption)) ?_
      obtain ⟨A9, c9, rfl, lc9, cm9, ld9⟩ := rp9
      have cn9 := cm9; simp only [maxLen] at cn9
      refine p_v (v := .slice A9 (at_ m.follow t16).length c9) rfl rfl rfl (x_load (seg := [.slice A9 (at_ m.follow t16).length c9]) ty23 rfl (by simp) rfl (CF.ghost ce9 (St.le0 S5))) ?_
      refine p_v (v := .int .i64 ((at_ m.follow t16).length : Int)) rfl rfl rfl (x_len_slice u23 rfl) ?_
      refine p_v (v := .int .i64 0) rfl rfl rfl (x_move rfl) ?_
      refine run_region_end ?_
      refine run_block ?_
      refine run_loop (S := (List Bool) × Int) (fun (q_ : (List Bool) × Int) ρ w' => match q_ with | (out2, t29) => ∃ (h : Ghost) (v_out2 : Value), Le h5 h ∧ St w.heap.size w h w' [box b1 27 [.slice A0_0 m.spots.length c0_0, .slice A0_1 m.first.length c0_1, .slice A0_2 m.follow.length c0_2, .slice A0_3 m.last.length c0_3, .bool m.empty], row 4 Kd.bool v_out2 out2] ∧ ρ 2 = .pointer (some ⟨b1, 0, none⟩) ∧ ρ 5 = v_out2 ∧ ρ 14 = .slice A1 xat.length c1 ∧ ρ 15 = .int .i64 (xat.length : Int) ∧ ρ 16 = .int .i64 t16 ∧ ρ 27 = .slice A9 (at_ m.follow t16).length c9 ∧ ρ 28 = .int .i64 ((at_ m.follow t16).length : Int) ∧ ρ 29 = .int .i64 t29 ∧ inK .i64 t29 ∧ (0 ≤ t29 ∧ t29 ≤ ((at_ m.follow t16).length : Int) ∧ out2 = behindIn m xat t16 t29)) (fun q_ => match q_ with | (out2, t29) => ((at_ m.follow t16).length - t29).toNat) (out, 0) ⟨h5, v_out, Le.refl _, S5.sub [0, 1] (by decide) rfl _ rfl, r5_2, r5_5, r5_14, r5_15, r5_16, rfl, rfl, rfl, (in_i64 (by first|omega|(simp;omega)|assumption) (by first|omega|(simp;omega)|assumption)), (by exact ⟨by omega, by omega, by rw [hI5.2.2]; exact behind_in0 m xat t16⟩)⟩ ?_
      rintro ⟨out2, t29⟩ ih10 ρ10 w10 ⟨h10, v_out2, le10, S10, r10_2, r10_5, r10_14, r10_15, r10_16, r10_27, r10_28, r10_29, f10_0, hI10⟩
      have lf10_0 := i64_lo f10_0; have hf10_0 := i64_hi f10_0
      have rl10_1 := S10.row_le (j := 1) rfl; simp only [maxLen] at rl10_1
      have hl2_ : (out2.length : Int) = m.spots.length := by rw [hI10.2.2, behindIn_len]
      have hx_ : t29 < ((at_ m.follow t16).length : Int) → 0 ≤ at_ (at_ m.follow t16) t29 ∧ at_ (at_ m.follow t16) t29 < (m.spots.length : Int) := fun h => pre0.1.rows hI5.1 (by omega) _ (at_mem hI10.1 h)
      refine run_seq ?_
      refine run_reg (l := [0]) rfl ?_
      refine p_v (v := .bool (decide (t29 < ((at_ m.follow t16).length : Int)))) rfl rfl rfl (x_lss r10_29 r10_28) ?_
      refine run_region_end ?_
      refine run_seq ?_
      refine run_cond_prop (p := t29 < ((at_ m.follow t16).length : Int)) rfl (fun hc11 => ?_) (fun hc11 => ?_)
      · skip
        refine run_skip ?_
        refine run_seq ?_
        refine run_block ?_
        refine run_seq ?_
        refine run_reg (l := [0, 1, 2]) rfl ?_
        obtain ⟨ad12, seg12, a12, rp12, ce12⟩ := e_index_ro (q := t29) (m := 1) ld9 rfl (by first|omega|(simp;omega)|assumption) (by first|omega|(simp;omega)|assumption)
        refine p_v (v := .pointer (some ad12)) rfl rfl rfl (x_index_ro u23 ty3 r10_27 r10_29 a12 (by first|omega|(simp;omega)|assumption) (by first|omega|(simp;omega)|assumption)) ?_
        obtain ⟨rfl, in12⟩ := rp12
        have lo12 := i64_lo in12; have hi12 := i64_hi in12
        refine p_v (v := .int .i64 (at_ (at_ m.follow t16) t29)) rfl rfl rfl (x_load (seg := [.int .i64 (at_ (at_ m.follow t16) t29)]) ty3 rfl (by simp) rfl (CF.ghost ce12 (St.le0 S10))) ?_
        refine p_v (v := .int .i64 (at_ (at_ m.follow t16) t29)) rfl rfl rfl (x_assign rfl) ?_
        refine run_region_end ?_
        refine run_reg (l := [0, 1, 2, 3]) rfl ?_
        refine p_v (v := v_out2) rfl rfl rfl (x_move r10_5) ?_
        refine p_v (v := .int .i64 (at_ (at_ m.follow t16) t29)) rfl rfl rfl (x_move rfl) ?_
        obtain ⟨ad13, a13, at13⟩ := e_index_own (q := at_ (at_ m.follow t16) t29) (m := 1) S10 (j := 1) rfl rfl (by first|omega|(simp;omega)|assumption) (by first|omega|(simp;omega)|assumption)
        refine p_v (v := .pointer (some ad13)) rfl rfl rfl (x_index_own u25 ty4 rfl rfl a13 (by first|omega|(simp;omega)|assumption) (by first|omega|(simp;omega)|assumption)) ?_
        obtain ⟨w14, r14, g14, T14⟩ := e_store_own (u := .bool true) (q := at_ (at_ m.follow t16) t29) true (vs := [.bool true]) S10 ty4 rfl (j := 1) rfl rfl ⟨rfl, trivial⟩ at13 (by first|omega|(simp;omega)|assumption) (by first|omega|(simp;omega)|assumption)
        have S15 : St w.heap.size w h10 w14 [box b1 27 [.slice A0_0 m.spots.length c0_0, .slice A0_1 m.first.length c0_1, .slice A0_2 m.follow.length c0_2, .slice A0_3 m.last.length c0_3, .bool m.empty], row 4 Kd.bool v_out2 (out2.set (at_ (at_ m.follow t16) t29).toNat true)] := T14
        refine p_s rfl rfl (x_store rfl rfl r14) ?_
        refine run_region_end ?_
        refine run_inBlock ?_
        refine run_reg (l := [0, 1]) rfl ?_
        refine p_v (v := .int .i64 (t29 + 1)) rfl rfl rfl (x_add r10_29 rfl (in_i64 (by first|omega|(simp;omega)|assumption) (by first|omega|(simp;omega)|assumption))) ?_
        refine p_v (v := .int .i64 (t29 + 1)) rfl rfl rfl (x_move rfl) ?_
        refine run_region_end ?_
        refine ih10 (out2.set (at_ (at_ m.follow t16) t29).toNat true, t29 + 1) _ _ (by dsimp only; omega) ⟨h10, v_out2, le10, S15.sub [0, 1] (by decide) rfl _ rfl, r10_2, r10_5, r10_14, r10_15, r10_16, r10_27, r10_28, rfl, (in_i64 (by first|omega|(simp;omega)|assumption) (by first|omega|(simp;omega)|assumption)), (by exact ⟨by omega, by omega, by rw [hI10.2.2]; exact behind_step m xat hI10.1 (by omega) (hx_ (by omega)).1⟩)⟩
      · skip
        refine run_exit rfl ?_
        refine run_inBlock ?_
        refine run_reg (l := [0, 1]) rfl ?_
        refine p_v (v := .int .i64 (t16 + 1)) rfl rfl rfl (x_add r10_16 rfl (in_i64 (by first|omega|(simp;omega)|assumption) (by first|omega|(simp;omega)|assumption))) ?_
        refine p_v (v := .int .i64 (t16 + 1)) rfl rfl rfl (x_move rfl) ?_
        refine run_region_end ?_
        refine ih5 (out2, t16 + 1) _ _ (by dsimp only; omega) ⟨h10, v_out2, ((le5).trans le10), S10.sub [0, 1] (by decide) rfl _ rfl, r10_2, r10_5, r10_14, r10_15, rfl, (in_i64 (by first|omega|(simp;omega)|assumption) (by first|omega|(simp;omega)|assumption)), (by first | exact ⟨by omega, by omega, by rw [hI5.2.2]; exact behind_no m xat hI5.1 (by assumption)⟩ | exact ⟨by omega, by omega, by rw [hI10.2.2]; exact behind_in1 m xat hI5.1 (by omega) (by assumption)⟩)⟩
  · skip
    refine run_exit rfl ?_
    refine run_seq ?_
    refine run_reg (l := [0, 1]) rfl ?_
    refine p_v (v := v_out) rfl rfl rfl (x_move r5_5) ?_
    refine p_v (v := v_out) rfl rfl rfl (x_assign rfl) ?_
    refine run_region_end ?_
    refine run_ret Tryd.func27 (res1 rfl (res_tmp (v := v_out) rfl)) ?_
    have q0 : (behindP m xat : List Bool) = out := by
      rw [hI5.2.2]; exact behind_end2 m xat (by omega)
    refine ⟨_, rfl, h5, v_out, ?_, ?_⟩
    · rw [q0]; exact S5.sub [1] (by decide) rfl _ rfl
    · first | rfl | (simp only [q0]; rfl) | (simp only [q0])
theorem runN_calls (w : World) (m : Mach) (A0_0 : Option Addr) (c0_0 : Nat) (b0_0 : m.spots.length ≤ c0_0 ∧ c0_0 ≤ maxLen) (l0_0 : Leads kSpot (hp w) A0_0 m.spots) (A0_1 : Option Addr) (c0_1 : Nat) (b0_1 : m.first.length ≤ c0_1 ∧ c0_1 ≤ maxLen) (l0_1 : Leads (Kd.int .i64) (hp w) A0_1 m.first) (A0_2 : Option Addr) (c0_2 : Nat) (b0_2 : m.follow.length ≤ c0_2 ∧ c0_2 ≤ maxLen) (l0_2 : Leads (Kd.int .i64).slice (hp w) A0_2 m.follow) (A0_3 : Option Addr) (c0_3 : Nat) (b0_3 : m.last.length ≤ c0_3 ∧ c0_3 ≤ maxLen) (l0_3 : Leads Kd.bool (hp w) A0_3 m.last) (xw : ByteArray) (s1 : xw.size ≤ maxLen) :
    Calls Tryd.prog 10 #[.agg #[.slice A0_0 m.spots.length c0_0, .slice A0_1 m.first.length c0_1, .slice A0_2 m.follow.length c0_2, .slice A0_3 m.last.length c0_3, .bool m.empty], .string xw] w fun e w' => ∃ v, e = .returned v ∧ ∃ (hn : Ghost), St w.heap.size w hn w' [] ∧ v = .bool (runM m xw) := by
  refine calls_of_run Tryd.func10 rfl Tryd.ntmps10 rfl ?_
  have S0 := St.init w
  have bb0_0 := b0_0.1; have bc0_0 := b0_0.2; simp only [maxLen] at bc0_0
  have bb0_1 := b0_1.1; have bc0_1 := b0_1.2; simp only [maxLen] at bc0_1
  have bb0_2 := b0_2.1; have bc0_2 := b0_2.2; simp only [maxLen] at bc0_2
  have bb0_3 := b0_3.1; have bc0_3 := b0_3.2; simp only [maxLen] at bc0_3
  have sz1 := s1; simp only [maxLen] at sz1
  refine run_seq ?_
  refine run_reg (l := [0, 1]) rfl ?_
  obtain ⟨b1, w1, r1, g1, T1⟩ := e_box (P := Tryd.prog) S0 27 (v := .agg #[.slice A0_0 m.spots.length c0_0, .slice A0_1 m.first.length c0_1, .slice A0_2 m.follow.length c0_2, .slice A0_3 m.last.length c0_3, .bool m.empty]) [.slice A0_0 m.spots.length c0_0, .slice A0_1 m.first.length c0_1, .slice A0_2 m.follow.length c0_2, .slice A0_3 m.last.length c0_3, .bool m.empty] rfl
  have S2 : St w.heap.size w (fun _ => none) w1 [box b1 27 [.slice A0_0 m.spots.length c0_0, .slice A0_1 m.first.length c0_1, .slice A0_2 m.follow.length c0_2, .slice A0_3 m.last.length c0_3, .bool m.empty]] := T1
  refine p_v (v := .pointer (some ⟨b1, 0, none⟩)) rfl rfl rfl (x_box rfl r1) ?_
  refine p_v (v := .bool false) rfl rfl rfl (x_assign rfl) ?_
  refine run_region_end ?_
  refine run_seq ?_
  refine run_seq ?_
  refine run_reg (l := [0, 1, 2]) rfl ?_
  refine p_v (v := .agg #[.slice A0_0 m.spots.length c0_0, .slice A0_1 m.first.length c0_1, .slice A0_2 m.follow.length c0_2, .slice A0_3 m.last.length c0_3, .bool m.empty]) rfl rfl rfl (x_load (seg := [.slice A0_0 m.spots.length c0_0, .slice A0_1 m.first.length c0_1, .slice A0_2 m.follow.length c0_2, .slice A0_3 m.last.length c0_3, .bool m.empty]) ty27 rfl (by simp) rfl (CF.box (m := 5) (S2.box_at (j := 0) rfl) rfl)) ?_
  refine p_c rfl rfl rfl (y_call (args := [.agg #[.slice A0_0 m.spots.length c0_0, .slice A0_1 m.first.length c0_1, .slice A0_2 m.follow.length c0_2, .slice A0_3 m.last.length c0_3, .bool m.empty]]) ca8 rfl rfl) (rightN_calls w1 m A0_0 c0_0 b0_0 (l0_0.mono (St.le0 S2)) A0_1 c0_1 b0_1 (l0_1.mono (St.le0 S2)) A0_2 c0_2 b0_2 (l0_2.mono (St.le0 S2)) A0_3 c0_3 b0_3 (l0_3.mono (St.le0 S2))) ?_
  rintro _ w3 ⟨h3, T3, rfl⟩
  have S4 := S2.keep (Chg.of_below T3.below)
  refine p_v (v := .bool (!(rightM m))) rfl rfl rfl (x_not rfl) ?_
  refine run_region_end ?_
  refine run_cond_nsplit (b := rightM m) rfl (fun hc5 => ?_) (fun hc5 => ?_)
  · skip
    refine run_seq ?_
    refine run_reg (l := [0]) rfl ?_
    refine p_v (v := .bool false) rfl rfl rfl (x_assign rfl) ?_
    refine run_region_end ?_
    refine run_ret Tryd.func10 (res1 rfl (res_tmp (v := .bool false) rfl)) ?_
    have q0 : (runM m xw : Bool) = false := by
      first | exact run_wrong m xw (by assumption) | exact run_none m xw (by assumption) (size_empty (by assumption)) | (rw [run_some m xw (by assumption) hz_ (i := i) (by omega), ← hI_.2.2]; exact ends_yes m xat hI_.1 (by omega) (by assumption) (by assumption)) | (rw [run_some m xw (by assumption) hz_ (i := i) (by omega), ← hI_.2.2]; exact end_end m xat (by omega) hI_.2.2)
    refine ⟨_, rfl, (fun _ => none), ?_, ?_⟩
    · exact S4.sub [] (by decide) rfl _ rfl
    · first | rfl | (simp only [q0]; rfl) | (simp only [q0])
  · skip
    have hR_ := right_iff.1 hc5
    have hsm_ := hR_.small; have hfo_ := hR_.follow; have hla_ := hR_.last
    refine run_skip ?_
    refine run_seq ?_
    refine run_seq ?_
    refine run_reg (l := [0, 1]) rfl ?_
    refine p_v (v := .string xw) rfl rfl rfl (x_move rfl) ?_
    refine p_v (v := .bool (decide (xw = (⟨#[]⟩ : ByteArray)))) rfl rfl rfl (x_eql_string rfl rfl) ?_
    refine run_region_end ?_
    refine run_cond_prop (p := xw = (⟨#[]⟩ : ByteArray)) rfl (fun hc6 => ?_) (fun hc6 => ?_)
    · skip
      refine run_seq ?_
      refine run_reg (l := [0, 1, 2]) rfl ?_
      refine p_v (v := .pointer (some ⟨b1, 4, none⟩)) rfl rfl rfl (x_fieldAt fd27_4 ty4 rfl rfl) ?_
      refine p_v (v := .bool m.empty) rfl rfl rfl (x_load (seg := [.bool m.empty]) ty4 rfl (by simp) rfl (CF.box (m := 1) (S4.box_at (j := 0) rfl) rfl)) ?_
      refine p_v (v := .bool m.empty) rfl rfl rfl (x_assign rfl) ?_
      refine run_region_end ?_
      refine run_ret Tryd.func10 (res1 rfl (res_tmp (v := .bool m.empty) rfl)) ?_
      have q0 : (runM m xw : Bool) = m.empty := by
        first | exact run_wrong m xw (by assumption) | exact run_none m xw (by assumption) (size_empty (by assumption)) | (rw [run_some m xw (by assumption) hz_ (i := i) (by omega), ← hI_.2.2]; exact ends_yes m xat hI_.1 (by omega) (by assumption) (by assumption)) | (rw [run_some m xw (by assumption) hz_ (i := i) (by omega), ← hI_.2.2]; exact end_end m xat (by omega) hI_.2.2)
      refine ⟨_, rfl, (fun _ => none), ?_, ?_⟩
      · exact S4.sub [] (by decide) rfl _ rfl
      · first | rfl | (simp only [q0]; rfl) | (simp only [q0])
    · skip
      have hz_ := size_some hc6
      refine run_skip ?_
      refine run_seq ?_
      have by8 := byt_range xw 0
      have hf9 : (CFs ⟨b1, 0, none⟩ [.slice A0_0 m.spots.length c0_0, .slice A0_1 m.first.length c0_1, .slice A0_2 m.follow.length c0_2, .slice A0_3 m.last.length c0_3, .bool m.empty]).1 w3 := (CF.box (m := 5) (S4.box_at (j := 0) rfl) rfl)
      have hf10 : (CFs ⟨b1, 0, none⟩ [.slice A0_0 m.spots.length c0_0, .slice A0_1 m.first.length c0_1, .slice A0_2 m.follow.length c0_2, .slice A0_3 m.last.length c0_3, .bool m.empty]).1 w3 := (CF.box (m := 5) (S4.box_at (j := 0) rfl) rfl)
      have hf11 : (CFs ⟨b1, 1, none⟩ [.slice A0_1 m.first.length c0_1]).1 w3 := (CF.box (m := 1) (S4.box_at (j := 0) rfl) rfl)
      refine da_start [(0, CFs ⟨b1, 0, none⟩ [.slice A0_0 m.spots.length c0_0, .slice A0_1 m.first.length c0_1, .slice A0_2 m.follow.length c0_2, .slice A0_3 m.last.length c0_3, .bool m.empty]), (1, CFs ⟨b1, 0, none⟩ [.slice A0_0 m.spots.length c0_0, .slice A0_1 m.first.length c0_1, .slice A0_2 m.follow.length c0_2, .slice A0_3 m.last.length c0_3, .bool m.empty]), (3, CFs ⟨b1, 1, none⟩ [.slice A0_1 m.first.length c0_1])] 9 rfl mixed ?_
      intro wd12 gd12 hd12
      have S13 := S4.keep gd12
      have hf14 := (CFs ⟨b1, 0, none⟩ [.slice A0_0 m.spots.length c0_0, .slice A0_1 m.first.length c0_1, .slice A0_2 m.follow.length c0_2, .slice A0_3 m.last.length c0_3, .bool m.empty]).2 _ _ gd12 hf9
      have hf15 := (CFs ⟨b1, 0, none⟩ [.slice A0_0 m.spots.length c0_0, .slice A0_1 m.first.length c0_1, .slice A0_2 m.follow.length c0_2, .slice A0_3 m.last.length c0_3, .bool m.empty]).2 _ _ gd12 hf10
      have hf16 := (CFs ⟨b1, 1, none⟩ [.slice A0_1 m.first.length c0_1]).2 _ _ gd12 hf11
      refine d_q (i := 0) (v := .agg #[.slice A0_0 m.spots.length c0_0, .slice A0_1 m.first.length c0_1, .slice A0_2 m.follow.length c0_2, .slice A0_3 m.last.length c0_3, .bool m.empty]) (CF ⟨b1, 0, none⟩ [.slice A0_0 m.spots.length c0_0, .slice A0_1 m.first.length c0_1, .slice A0_2 m.follow.length c0_2, .slice A0_3 m.last.length c0_3, .bool m.empty]) (fun _ ho => ho _ (List.mem_of_getElem? (i := 0) rfl) rfl) rfl (by decide +kernel) (by decide +kernel) (by decide +kernel) rfl rfl (fun wq hq => (x_load (seg := [.slice A0_0 m.spots.length c0_0, .slice A0_1 m.first.length c0_1, .slice A0_2 m.follow.length c0_2, .slice A0_3 m.last.length c0_3, .bool m.empty]) ty27 rfl (by simp) rfl hq)) (of_eq hf14 (of_ne rfl (of_ne rfl (of_nil _ _)))) ?_
      refine d_q (i := 1) (v := .agg #[.slice A0_0 m.spots.length c0_0, .slice A0_1 m.first.length c0_1, .slice A0_2 m.follow.length c0_2, .slice A0_3 m.last.length c0_3, .bool m.empty]) (CF ⟨b1, 0, none⟩ [.slice A0_0 m.spots.length c0_0, .slice A0_1 m.first.length c0_1, .slice A0_2 m.follow.length c0_2, .slice A0_3 m.last.length c0_3, .bool m.empty]) (fun _ ho => ho _ (List.mem_of_getElem? (i := 1) rfl) rfl) rfl (by decide +kernel) (by decide +kernel) (by decide +kernel) rfl rfl (fun wq hq => (x_load (seg := [.slice A0_0 m.spots.length c0_0, .slice A0_1 m.first.length c0_1, .slice A0_2 m.follow.length c0_2, .slice A0_3 m.last.length c0_3, .bool m.empty]) ty27 rfl (by simp) rfl hq)) (of_ne rfl (of_eq hf15 (of_ne rfl (of_nil _ _)))) ?_
      refine d_q (i := 2) (v := .pointer (some ⟨b1, 1, none⟩)) (fun _ => True) (fun _ ho => trivial) rfl (by decide +kernel) (by decide +kernel) (by decide +kernel) rfl rfl (fun wq hq => (x_fieldAt fd27_1 ty23 rfl rfl)) (of_ne rfl (of_ne rfl (of_ne rfl (of_nil _ _)))) ?_
      refine d_q (i := 3) (v := .slice A0_1 m.first.length c0_1) (CF ⟨b1, 1, none⟩ [.slice A0_1 m.first.length c0_1]) (fun _ ho => ho _ (List.mem_of_getElem? (i := 2) rfl) rfl) rfl (by decide +kernel) (by decide +kernel) (by decide +kernel) rfl rfl (fun wq hq => (x_load (seg := [.slice A0_1 m.first.length c0_1]) ty23 rfl (by simp) rfl hq)) (of_ne rfl (of_ne rfl (of_eq hf16 (of_nil _ _)))) ?_
      refine d_q (i := 5) (v := .string xw) (fun _ => True) (fun _ ho => trivial) rfl (by decide +kernel) (by decide +kernel) (by decide +kernel) rfl rfl (fun wq hq => (x_move rfl)) (of_ne rfl (of_ne rfl (of_ne rfl (of_nil _ _)))) ?_
      refine d_q (i := 6) (v := .int .u8 (byt xw 0)) (fun _ => True) (fun _ ho => trivial) rfl (by decide +kernel) (by decide +kernel) (by decide +kernel) rfl rfl (fun wq hq => (x_index_byt u9 rfl rfl (by first|omega|(simp;omega)|assumption) (by first|omega|(simp;omega)|assumption))) (of_ne rfl (of_ne rfl (of_ne rfl (of_nil _ _)))) ?_
      refine ra_one (i := 4) (by decide +kernel) ?_
      intro wd17 gd17
      have S18 := S13.keep gd17
      have hf19 := (CFs ⟨b1, 0, none⟩ [.slice A0_0 m.spots.length c0_0, .slice A0_1 m.first.length c0_1, .slice A0_2 m.follow.length c0_2, .slice A0_3 m.last.length c0_3, .bool m.empty]).2 _ _ gd17 hf14
      have hf20 := (CFs ⟨b1, 0, none⟩ [.slice A0_0 m.spots.length c0_0, .slice A0_1 m.first.length c0_1, .slice A0_2 m.follow.length c0_2, .slice A0_3 m.last.length c0_3, .bool m.empty]).2 _ _ gd17 hf15
      have hf21 := (CFs ⟨b1, 1, none⟩ [.slice A0_1 m.first.length c0_1]).2 _ _ gd17 hf16
      refine d_c rfl rfl rfl (y_call (args := [.agg #[.slice A0_0 m.spots.length c0_0, .slice A0_1 m.first.length c0_1, .slice A0_2 m.follow.length c0_2, .slice A0_3 m.last.length c0_3, .bool m.empty], .slice A0_1 m.first.length c0_1]) ca26 rfl rfl) (marked_calls wd17 m A0_0 c0_0 b0_0 (l0_0.mono (St.le0 S18)) A0_1 c0_1 b0_1 (l0_1.mono (St.le0 S18)) A0_2 c0_2 b0_2 (l0_2.mono (St.le0 S18)) A0_3 c0_3 b0_3 (l0_3.mono (St.le0 S18)) m.first A0_1 c0_1 b0_1 (l0_1.mono (St.le0 S18)) (by first | assumption | exact ⟨by assumption, by assumption⟩ | exact ⟨by assumption, (by assumption : Right m).firsts⟩)) ?_
      rintro v22_0 w22 ⟨h22, _, T22, rfl⟩
      obtain ⟨k22, lk22, ll22, U22⟩ := call_joins S18 T22
      have S23 : St w.heap.size w k22 w22 [box b1 27 [.slice A0_0 m.spots.length c0_0, .slice A0_1 m.first.length c0_1, .slice A0_2 m.follow.length c0_2, .slice A0_3 m.last.length c0_3, .bool m.empty], row 4 Kd.bool v22_0 (markP m.spots.length m.first)] := U22
      have hf24 := (CFs ⟨b1, 0, none⟩ [.slice A0_0 m.spots.length c0_0, .slice A0_1 m.first.length c0_1, .slice A0_2 m.follow.length c0_2, .slice A0_3 m.last.length c0_3, .bool m.empty]).2 _ _ (Chg.of_below T22.below) hf19
      have hf25 := (CFs ⟨b1, 0, none⟩ [.slice A0_0 m.spots.length c0_0, .slice A0_1 m.first.length c0_1, .slice A0_2 m.follow.length c0_2, .slice A0_3 m.last.length c0_3, .bool m.empty]).2 _ _ (Chg.of_below T22.below) hf20
      have hf26 := (CFs ⟨b1, 1, none⟩ [.slice A0_1 m.first.length c0_1]).2 _ _ (Chg.of_below T22.below) hf21
      refine ⟨.inl (Chg.of_below T22.below), ?_⟩
      refine ra_one (i := 7) (by decide +kernel) ?_
      intro wd27 gd27
      have S28 := S23.keep gd27
      have hf29 := (CFs ⟨b1, 0, none⟩ [.slice A0_0 m.spots.length c0_0, .slice A0_1 m.first.length c0_1, .slice A0_2 m.follow.length c0_2, .slice A0_3 m.last.length c0_3, .bool m.empty]).2 _ _ gd27 hf24
      have hf30 := (CFs ⟨b1, 0, none⟩ [.slice A0_0 m.spots.length c0_0, .slice A0_1 m.first.length c0_1, .slice A0_2 m.follow.length c0_2, .slice A0_3 m.last.length c0_3, .bool m.empty]).2 _ _ gd27 hf25
      have hf31 := (CFs ⟨b1, 1, none⟩ [.slice A0_1 m.first.length c0_1]).2 _ _ gd27 hf26
      obtain ⟨A32, c32, ev32, lc32, cm32⟩ := S28.row_val (j := 1) rfl
      refine d_c rfl rfl rfl (y_call (args := [.agg #[.slice A0_0 m.spots.length c0_0, .slice A0_1 m.first.length c0_1, .slice A0_2 m.follow.length c0_2, .slice A0_3 m.last.length c0_3, .bool m.empty], .slice A32 (markP m.spots.length m.first).length c32, .int .u8 (byt xw 0)]) ca25 rfl (cons_eq rfl (cons_eq ev32 (cons_eq rfl rfl)))) (into_calls wd27 m A0_0 c0_0 b0_0 (l0_0.mono (St.le0 S28)) A0_1 c0_1 b0_1 (l0_1.mono (St.le0 S28)) A0_2 c0_2 b0_2 (l0_2.mono (St.le0 S28)) A0_3 c0_3 b0_3 (l0_3.mono (St.le0 S28)) (markP m.spots.length m.first) A32 c32 (And.intro lc32 cm32) (row_leads_eq S28 (j := 1) rfl ev32) (byt xw 0) (in_u8 (by first|omega|(simp;omega)|assumption) (by first|omega|(simp;omega)|assumption)) (by first | assumption | exact ⟨by assumption, by first | omega | simp [markP_len, behindP_len, runTo_len, intoP_len]⟩)) ?_
      rintro v33_0 w33 ⟨h33, _, T33, rfl⟩
      obtain ⟨k33, lk33, ll33, U33⟩ := call_joins S28 T33
      have lc33_0 := (lk22).trans lk33
      have S34 : St w.heap.size w k33 w33 [box b1 27 [.slice A0_0 m.spots.length c0_0, .slice A0_1 m.first.length c0_1, .slice A0_2 m.follow.length c0_2, .slice A0_3 m.last.length c0_3, .bool m.empty], row 4 Kd.bool v22_0 (markP m.spots.length m.first), row 4 Kd.bool v33_0 (intoP m (markP m.spots.length m.first) (byt xw 0))] := U33
      have hf35 := (CFs ⟨b1, 0, none⟩ [.slice A0_0 m.spots.length c0_0, .slice A0_1 m.first.length c0_1, .slice A0_2 m.follow.length c0_2, .slice A0_3 m.last.length c0_3, .bool m.empty]).2 _ _ (Chg.of_below T33.below) hf29
      have hf36 := (CFs ⟨b1, 0, none⟩ [.slice A0_0 m.spots.length c0_0, .slice A0_1 m.first.length c0_1, .slice A0_2 m.follow.length c0_2, .slice A0_3 m.last.length c0_3, .bool m.empty]).2 _ _ (Chg.of_below T33.below) hf30
      have hf37 := (CFs ⟨b1, 1, none⟩ [.slice A0_1 m.first.length c0_1]).2 _ _ (Chg.of_below T33.below) hf31
      refine ⟨.inl (Chg.of_below T33.below), ?_⟩
      refine d_q (i := 8) (v := v33_0) (fun _ => True) (fun _ ho => trivial) rfl (by decide +kernel) (by decide +kernel) (by decide +kernel) rfl rfl (fun wq hq => (x_assign rfl)) (of_ne rfl (of_ne rfl (of_ne rfl (of_nil _ _)))) ?_
      refine ra_done (by decide +kernel) ?_
      intro wd38 gd38
      have S39 := S34.keep gd38
      refine run_seq ?_
      refine run_seq ?_
      refine run_reg (l := [0]) rfl ?_
      refine p_v (v := .int .i64 1) rfl rfl rfl (x_assign rfl) ?_
      refine run_region_end ?_
      refine run_block ?_
      refine run_loop (S := (List Bool) × Int) (fun (q_ : (List Bool) × Int) ρ w' => match q_ with | (xat, i) => ∃ (h : Ghost) (v_xat : Value), Le k33 h ∧ St w.heap.size w h w' [box b1 27 [.slice A0_0 m.spots.length c0_0, .slice A0_1 m.first.length c0_1, .slice A0_2 m.follow.length c0_2, .slice A0_3 m.last.length c0_3, .bool m.empty], row 4 Kd.bool v_xat xat] ∧ ρ 1 = .string xw ∧ ρ 2 = .pointer (some ⟨b1, 0, none⟩) ∧ ρ 5 = v_xat ∧ ρ 6 = .int .i64 i ∧ inK .i64 i ∧ (1 ≤ i ∧ i ≤ (xw.size : Int) ∧ xat = runTo m xw (i - 1).toNat)) (fun q_ => match q_ with | (xat, i) => (xw.size - i).toNat) (intoP m (markP m.spots.length m.first) (byt xw 0), 1) ⟨k33, v33_0, Le.refl _, S39.sub [0, 2] (by decide) rfl _ rfl, rfl, rfl, rfl, rfl, (in_i64 (by first|omega|(simp;omega)|assumption) (by first|omega|(simp;omega)|assumption)), (by exact ⟨by omega, by omega, run_0 _ _⟩)⟩ ?_
      rintro ⟨xat, i⟩ ih40 ρ40 w40 ⟨h40, v_xat, le40, S40, r40_1, r40_2, r40_5, r40_6, f40_0, hI40⟩
      have lf40_0 := i64_lo f40_0; have hf40_0 := i64_hi f40_0
      have rl40_1 := S40.row_le (j := 1) rfl; simp only [maxLen] at rl40_1
      have hl_ : (xat.length : Int) = m.spots.length := by rw [hI40.2.2, runTo_len]
      refine run_seq ?_
      refine run_seq ?_
      refine run_reg (l := [0, 1, 2, 3]) rfl ?_
      refine p_v (v := .int .i64 i) rfl rfl rfl (x_move r40_6) ?_
      refine p_v (v := .string xw) rfl rfl rfl (x_move r40_1) ?_
      refine p_v (v := .int .i64 (xw.size : Int)) rfl rfl rfl (x_len_string u9 rfl) ?_
      refine p_v (v := .bool (decide (i < (xw.size : Int)))) rfl rfl rfl (x_lss rfl rfl) ?_
      refine run_region_end ?_
      refine run_cond_prop (p := i < (xw.size : Int)) rfl (fun hc41 => ?_) (fun hc41 => ?_)
      · skip
        refine run_skip ?_
        refine run_seq ?_
        refine run_block ?_
        have by42 := byt_range xw i
        have hf43 : (CFs ⟨b1, 0, none⟩ [.slice A0_0 m.spots.length c0_0, .slice A0_1 m.first.length c0_1, .slice A0_2 m.follow.length c0_2, .slice A0_3 m.last.length c0_3, .bool m.empty]).1 w40 := (CF.box (m := 5) (S40.box_at (j := 0) rfl) rfl)
        have hf44 : (CFs ⟨b1, 0, none⟩ [.slice A0_0 m.spots.length c0_0, .slice A0_1 m.first.length c0_1, .slice A0_2 m.follow.length c0_2, .slice A0_3 m.last.length c0_3, .bool m.empty]).1 w40 := (CF.box (m := 5) (S40.box_at (j := 0) rfl) rfl)
        refine da_start [(0, CFs ⟨b1, 0, none⟩ [.slice A0_0 m.spots.length c0_0, .slice A0_1 m.first.length c0_1, .slice A0_2 m.follow.length c0_2, .slice A0_3 m.last.length c0_3, .bool m.empty]), (1, CFs ⟨b1, 0, none⟩ [.slice A0_0 m.spots.length c0_0, .slice A0_1 m.first.length c0_1, .slice A0_2 m.follow.length c0_2, .slice A0_3 m.last.length c0_3, .bool m.empty])] 9 rfl mixed ?_
        intro wd45 gd45 hd45
        have S46 := S40.keep gd45
        have hf47 := (CFs ⟨b1, 0, none⟩ [.slice A0_0 m.spots.length c0_0, .slice A0_1 m.first.length c0_1, .slice A0_2 m.follow.length c0_2, .slice A0_3 m.last.length c0_3, .bool m.empty]).2 _ _ gd45 hf43
        have hf48 := (CFs ⟨b1, 0, none⟩ [.slice A0_0 m.spots.length c0_0, .slice A0_1 m.first.length c0_1, .slice A0_2 m.follow.length c0_2, .slice A0_3 m.last.length c0_3, .bool m.empty]).2 _ _ gd45 hf44
        refine d_q (i := 0) (v := .agg #[.slice A0_0 m.spots.length c0_0, .slice A0_1 m.first.length c0_1, .slice A0_2 m.follow.length c0_2, .slice A0_3 m.last.length c0_3, .bool m.empty]) (CF ⟨b1, 0, none⟩ [.slice A0_0 m.spots.length c0_0, .slice A0_1 m.first.length c0_1, .slice A0_2 m.follow.length c0_2, .slice A0_3 m.last.length c0_3, .bool m.empty]) (fun _ ho => ho _ (List.mem_of_getElem? (i := 0) rfl) rfl) rfl (by decide +kernel) (by decide +kernel) (by decide +kernel) rfl rfl (fun wq hq => (x_load (seg := [.slice A0_0 m.spots.length c0_0, .slice A0_1 m.first.length c0_1, .slice A0_2 m.follow.length c0_2, .slice A0_3 m.last.length c0_3, .bool m.empty]) ty27 rfl (by simp) r40_2 hq)) (of_eq hf47 (of_ne rfl (of_nil _ _))) ?_
        refine d_q (i := 1) (v := .agg #[.slice A0_0 m.spots.length c0_0, .slice A0_1 m.first.length c0_1, .slice A0_2 m.follow.length c0_2, .slice A0_3 m.last.length c0_3, .bool m.empty]) (CF ⟨b1, 0, none⟩ [.slice A0_0 m.spots.length c0_0, .slice A0_1 m.first.length c0_1, .slice A0_2 m.follow.length c0_2, .slice A0_3 m.last.length c0_3, .bool m.empty]) (fun _ ho => ho _ (List.mem_of_getElem? (i := 1) rfl) rfl) rfl (by decide +kernel) (by decide +kernel) (by decide +kernel) rfl rfl (fun wq hq => (x_load (seg := [.slice A0_0 m.spots.length c0_0, .slice A0_1 m.first.length c0_1, .slice A0_2 m.follow.length c0_2, .slice A0_3 m.last.length c0_3, .bool m.empty]) ty27 rfl (by simp) r40_2 hq)) (of_ne rfl (of_eq hf48 (of_nil _ _))) ?_
        refine d_q (i := 2) (v := v_xat) (fun _ => True) (fun _ ho => trivial) rfl (by decide +kernel) (by decide +kernel) (by decide +kernel) rfl rfl (fun wq hq => (x_move r40_5)) (of_ne rfl (of_ne rfl (of_nil _ _))) ?_
        refine d_q (i := 4) (v := .string xw) (fun _ => True) (fun _ ho => trivial) rfl (by decide +kernel) (by decide +kernel) (by decide +kernel) rfl rfl (fun wq hq => (x_move r40_1)) (of_ne rfl (of_ne rfl (of_nil _ _))) ?_
        refine d_q (i := 5) (v := .int .i64 i) (fun _ => True) (fun _ ho => trivial) rfl (by decide +kernel) (by decide +kernel) (by decide +kernel) rfl rfl (fun wq hq => (x_move r40_6)) (of_ne rfl (of_ne rfl (of_nil _ _))) ?_
        refine d_q (i := 6) (v := .int .u8 (byt xw i)) (fun _ => True) (fun _ ho => trivial) rfl (by decide +kernel) (by decide +kernel) (by decide +kernel) rfl rfl (fun wq hq => (x_index_byt u9 rfl rfl (by first|omega|(simp;omega)|assumption) (by first|omega|(simp;omega)|assumption))) (of_ne rfl (of_ne rfl (of_nil _ _))) ?_
        refine ra_one (i := 3) (by decide +kernel) ?_
        intro wd49 gd49
        have S50 := S46.keep gd49
        have hf51 := (CFs ⟨b1, 0, none⟩ [.slice A0_0 m.spots.length c0_0, .slice A0_1 m.first.length c0_1, .slice A0_2 m.follow.length c0_2, .slice A0_3 m.last.length c0_3, .bool m.empty]).2 _ _ gd49 hf47
        have hf52 := (CFs ⟨b1, 0, none⟩ [.slice A0_0 m.spots.length c0_0, .slice A0_1 m.first.length c0_1, .slice A0_2 m.follow.length c0_2, .slice A0_3 m.last.length c0_3, .bool m.empty]).2 _ _ gd49 hf48
        obtain ⟨A53, c53, ev53, lc53, cm53⟩ := S50.row_val (j := 1) rfl
        refine d_c rfl rfl rfl (y_call (args := [.agg #[.slice A0_0 m.spots.length c0_0, .slice A0_1 m.first.length c0_1, .slice A0_2 m.follow.length c0_2, .slice A0_3 m.last.length c0_3, .bool m.empty], .slice A53 xat.length c53]) ca27 rfl (cons_eq rfl (cons_eq ev53 rfl))) (behind_calls wd49 m A0_0 c0_0 b0_0 (l0_0.mono (St.le0 S50)) A0_1 c0_1 b0_1 (l0_1.mono (St.le0 S50)) A0_2 c0_2 b0_2 (l0_2.mono (St.le0 S50)) A0_3 c0_3 b0_3 (l0_3.mono (St.le0 S50)) xat A53 c53 (And.intro lc53 cm53) (row_leads_eq S50 (j := 1) rfl ev53) (by first | assumption | exact ⟨by assumption, by first | omega | simp [markP_len, behindP_len, runTo_len, intoP_len]⟩)) ?_
        rintro v54_0 w54 ⟨h54, _, T54, rfl⟩
        obtain ⟨k54, lk54, ll54, U54⟩ := call_joins S50 T54
        have lc54_0 := (((lc33_0).trans le40)).trans lk54
        have lc54_1 := (((lk33).trans le40)).trans lk54
        have lc54_2 := (le40).trans lk54
        have S55 : St w.heap.size w k54 w54 [box b1 27 [.slice A0_0 m.spots.length c0_0, .slice A0_1 m.first.length c0_1, .slice A0_2 m.follow.length c0_2, .slice A0_3 m.last.length c0_3, .bool m.empty], row 4 Kd.bool v_xat xat, row 4 Kd.bool v54_0 (behindP m xat)] := U54
        have hf56 := (CFs ⟨b1, 0, none⟩ [.slice A0_0 m.spots.length c0_0, .slice A0_1 m.first.length c0_1, .slice A0_2 m.follow.length c0_2, .slice A0_3 m.last.length c0_3, .bool m.empty]).2 _ _ (Chg.of_below T54.below) hf51
        have hf57 := (CFs ⟨b1, 0, none⟩ [.slice A0_0 m.spots.length c0_0, .slice A0_1 m.first.length c0_1, .slice A0_2 m.follow.length c0_2, .slice A0_3 m.last.length c0_3, .bool m.empty]).2 _ _ (Chg.of_below T54.below) hf52
        refine ⟨.inl (Chg.of_below T54.below), ?_⟩
        refine ra_one (i := 7) (by decide +kernel) ?_
        intro wd58 gd58
        have S59 := S55.keep gd58
        have hf60 := (CFs ⟨b1, 0, none⟩ [.slice A0_0 m.spots.length c0_0, .slice A0_1 m.first.length c0_1, .slice A0_2 m.follow.length c0_2, .slice A0_3 m.last.length c0_3, .bool m.empty]).2 _ _ gd58 hf56
        have hf61 := (CFs ⟨b1, 0, none⟩ [.slice A0_0 m.spots.length c0_0, .slice A0_1 m.first.length c0_1, .slice A0_2 m.follow.length c0_2, .slice A0_3 m.last.length c0_3, .bool m.empty]).2 _ _ gd58 hf57
        obtain ⟨A62, c62, ev62, lc62, cm62⟩ := S59.row_val (j := 2) rfl
        refine d_c rfl rfl rfl (y_call (args := [.agg #[.slice A0_0 m.spots.length c0_0, .slice A0_1 m.first.length c0_1, .slice A0_2 m.follow.length c0_2, .slice A0_3 m.last.length c0_3, .bool m.empty], .slice A62 (behindP m xat).length c62, .int .u8 (byt xw i)]) ca25 rfl (cons_eq rfl (cons_eq ev62 (cons_eq rfl rfl)))) (into_calls wd58 m A0_0 c0_0 b0_0 (l0_0.mono (St.le0 S59)) A0_1 c0_1 b0_1 (l0_1.mono (St.le0 S59)) A0_2 c0_2 b0_2 (l0_2.mono (St.le0 S59)) A0_3 c0_3 b0_3 (l0_3.mono (St.le0 S59)) (behindP m xat) A62 c62 (And.intro lc62 cm62) (row_leads_eq S59 (j := 2) rfl ev62) (byt xw i) (in_u8 (by first|omega|(simp;omega)|assumption) (by first|omega|(simp;omega)|assumption)) (by first | assumption | exact ⟨by assumption, by first | omega | simp [markP_len, behindP_len, runTo_len, intoP_len]⟩)) ?_
        rintro v63_0 w63 ⟨h63, _, T63, rfl⟩
        obtain ⟨k63, lk63, ll63, U63⟩ := call_joins S59 T63
        have lc63_0 := (lc54_0).trans lk63
        have lc63_1 := (lc54_1).trans lk63
        have lc63_2 := (lc54_2).trans lk63
        have lc63_3 := (lk54).trans lk63
        have S64 : St w.heap.size w k63 w63 [box b1 27 [.slice A0_0 m.spots.length c0_0, .slice A0_1 m.first.length c0_1, .slice A0_2 m.follow.length c0_2, .slice A0_3 m.last.length c0_3, .bool m.empty], row 4 Kd.bool v_xat xat, row 4 Kd.bool v54_0 (behindP m xat), row 4 Kd.bool v63_0 (intoP m (behindP m xat) (byt xw i))] := U63
        have hf65 := (CFs ⟨b1, 0, none⟩ [.slice A0_0 m.spots.length c0_0, .slice A0_1 m.first.length c0_1, .slice A0_2 m.follow.length c0_2, .slice A0_3 m.last.length c0_3, .bool m.empty]).2 _ _ (Chg.of_below T63.below) hf60
        have hf66 := (CFs ⟨b1, 0, none⟩ [.slice A0_0 m.spots.length c0_0, .slice A0_1 m.first.length c0_1, .slice A0_2 m.follow.length c0_2, .slice A0_3 m.last.length c0_3, .bool m.empty]).2 _ _ (Chg.of_below T63.below) hf61
        refine ⟨.inl (Chg.of_below T63.below), ?_⟩
        refine d_q (i := 8) (v := v63_0) (fun _ => True) (fun _ ho => trivial) rfl (by decide +kernel) (by decide +kernel) (by decide +kernel) rfl rfl (fun wq hq => (x_assign rfl)) (of_ne rfl (of_ne rfl (of_nil _ _))) ?_
        refine ra_done (by decide +kernel) ?_
        intro wd67 gd67
        have S68 := S64.keep gd67
        refine run_inBlock ?_
        refine run_reg (l := [0, 1, 2]) rfl ?_
        refine p_v (v := .int .i64 i) rfl rfl rfl (x_move r40_6) ?_
        refine p_v (v := .int .i64 (i + 1)) rfl rfl rfl (x_add rfl rfl (in_i64 (by first|omega|(simp;omega)|assumption) (by first|omega|(simp;omega)|assumption))) ?_
        refine p_v (v := .int .i64 (i + 1)) rfl rfl rfl (x_assign rfl) ?_
        refine run_region_end ?_
        refine ih40 (intoP m (behindP m xat) (byt xw i), i + 1) _ _ (by dsimp only; omega) ⟨k63, v63_0, lc63_2, S68.sub [0, 3] (by decide) rfl _ rfl, r40_1, r40_2, rfl, rfl, (in_i64 (by first|omega|(simp;omega)|assumption) (by first|omega|(simp;omega)|assumption)), (by exact ⟨by omega, by omega, by rw [hI40.2.2]; exact runTo_next m xw hI40.1⟩)⟩
      · skip
        refine run_exit rfl ?_
        refine run_seq ?_
        refine run_seq ?_
        refine run_reg (l := [0, 1, 2]) rfl ?_
        refine p_v (v := v_xat) rfl rfl rfl (x_move r40_5) ?_
        have lb69 := S40.row_le (j := 1) rfl; simp only [maxLen] at lb69
        refine p_v (v := .int .i64 (xat.length : Int)) rfl rfl rfl (x_len_own u25 rfl (e_len_own S40 (j := 1) rfl)) ?_
        refine p_v (v := .int .i64 0) rfl rfl rfl (x_move rfl) ?_
        refine run_region_end ?_
        refine run_block ?_
        refine run_loop (S := Int) (fun (q_ : Int) ρ w' => match q_ with | t40 => ∃ (h : Ghost), Le h40 h ∧ St w.heap.size w h w' [box b1 27 [.slice A0_0 m.spots.length c0_0, .slice A0_1 m.first.length c0_1, .slice A0_2 m.follow.length c0_2, .slice A0_3 m.last.length c0_3, .bool m.empty], row 4 Kd.bool v_xat xat] ∧ ρ 2 = .pointer (some ⟨b1, 0, none⟩) ∧ ρ 38 = v_xat ∧ ρ 39 = .int .i64 (xat.length : Int) ∧ ρ 40 = .int .i64 t40 ∧ inK .i64 t40 ∧ (0 ≤ t40 ∧ t40 ≤ (xat.length : Int) ∧ endTo m xat t40 = false)) (fun q_ => match q_ with | t40 => (xat.length - t40).toNat) (0) ⟨h40, Le.refl _, S40.sub [0, 1] (by decide) rfl _ rfl, r40_2, rfl, rfl, rfl, (in_i64 (by first|omega|(simp;omega)|assumption) (by first|omega|(simp;omega)|assumption)), (by exact ⟨by omega, by omega, end_0 _ _⟩)⟩ ?_
        rintro t40 ih70 ρ70 w70 ⟨h70, le70, S70, r70_2, r70_38, r70_39, r70_40, f70_0, hI70⟩
        have lf70_0 := i64_lo f70_0; have hf70_0 := i64_hi f70_0
        have rl70_1 := S70.row_le (j := 1) rfl; simp only [maxLen] at rl70_1
        refine run_seq ?_
        refine run_reg (l := [0]) rfl ?_
        refine p_v (v := .bool (decide (t40 < (xat.length : Int)))) rfl rfl rfl (x_lss r70_40 r70_39) ?_
        refine run_region_end ?_
        refine run_seq ?_
        refine run_cond_prop (p := t40 < (xat.length : Int)) rfl (fun hc71 => ?_) (fun hc71 => ?_)
        · skip
          refine run_skip ?_
          refine run_seq ?_
          refine run_block ?_
          refine run_seq ?_
          refine run_reg (l := [0, 1, 2, 3, 4]) rfl ?_
          refine p_v (v := .int .i64 t40) rfl rfl rfl (x_move r70_40) ?_
          obtain ⟨ad72, a72, at72⟩ := e_index_own (q := t40) (m := 1) S70 (j := 1) rfl rfl (by first|omega|(simp;omega)|assumption) (by first|omega|(simp;omega)|assumption)
          refine p_v (v := .pointer (some ad72)) rfl rfl rfl (x_index_own u25 ty4 r70_38 r70_40 a72 (by first|omega|(simp;omega)|assumption) (by first|omega|(simp;omega)|assumption)) ?_
          obtain ⟨seg73, rp73, cf73⟩ := e_load_own (q := t40) S70 (j := 1) rfl rfl at72 (by first|omega|(simp;omega)|assumption) (by first|omega|(simp;omega)|assumption)
          obtain ⟨rfl, _⟩ := rp73
          refine p_v (v := .bool (at_ xat t40)) rfl rfl rfl (x_load (seg := [.bool (at_ xat t40)]) ty4 rfl (by simp) rfl cf73) ?_
          refine p_v (v := .int .i64 t40) rfl rfl rfl (x_assign rfl) ?_
          refine p_v (v := .bool (at_ xat t40)) rfl rfl rfl (x_assign rfl) ?_
          refine run_region_end ?_
          refine run_seq ?_
          refine run_reg (l := [0, 1, 2, 3, 4, 5, 6, 7]) rfl ?_
          refine p_v (v := .bool (at_ xat t40)) rfl rfl rfl (x_move rfl) ?_
          refine p_v (v := .bool (at_ xat t40)) rfl rfl rfl (x_move rfl) ?_
          rcases Bool.eq_false_or_eq_true (at_ xat t40) with hc74 | hc74
          · skip
            refine p_v (v := .pointer (some ⟨b1, 3, none⟩)) rfl (wanted_of (j := 1) (want := true) (d := 46) (b := true) rfl rfl (congrArg Value.bool hc74) rfl) rfl (x_fieldAt fd27_3 ty25 rfl r70_2) ?_
            refine p_v (v := .slice A0_3 m.last.length c0_3) rfl (wanted_of (j := 1) (want := true) (d := 46) (b := true) rfl rfl (congrArg Value.bool hc74) rfl) rfl (x_load (seg := [.slice A0_3 m.last.length c0_3]) ty25 rfl (by simp) rfl (CF.box (m := 1) (S70.box_at (j := 0) rfl) rfl)) ?_
            refine p_v (v := .int .i64 t40) rfl (wanted_of (j := 1) (want := true) (d := 46) (b := true) rfl rfl (congrArg Value.bool hc74) rfl) rfl (x_move rfl) ?_
            obtain ⟨ad75, seg75, a75, rp75, ce75⟩ := e_index_ro (q := t40) (m := 1) l0_3 rfl (by first|omega|(simp;omega)|assumption) (by first|omega|(simp;omega)|assumption)
            refine p_v (v := .pointer (some ad75)) rfl (wanted_of (j := 1) (want := true) (d := 46) (b := true) rfl rfl (congrArg Value.bool hc74) rfl) rfl (x_index_ro u25 ty4 rfl rfl a75 (by first|omega|(simp;omega)|assumption) (by first|omega|(simp;omega)|assumption)) ?_
            obtain ⟨rfl, _⟩ := rp75
            refine p_v (v := .bool (at_ m.last t40)) rfl (wanted_of (j := 1) (want := true) (d := 46) (b := true) rfl rfl (congrArg Value.bool hc74) rfl) rfl (x_load (seg := [.bool (at_ m.last t40)]) ty4 rfl (by simp) rfl (CF.ghost ce75 (St.le0 S70))) ?_
            refine p_v (v := .bool (at_ m.last t40)) rfl rfl rfl (x_pick_t (congrArg Value.bool hc74) rfl) ?_
            refine run_region_end ?_
            refine run_cond_split (b := at_ m.last t40) rfl (fun hc76 => ?_) (fun hc76 => ?_)
            · skip
              refine run_seq ?_
              refine run_reg (l := [0]) rfl ?_
              refine p_v (v := .bool true) rfl rfl rfl (x_assign rfl) ?_
              refine run_region_end ?_
              refine run_ret Tryd.func10 (res1 rfl (res_tmp (v := .bool true) rfl)) ?_
              have q0 : (runM m xw : Bool) = true := by
                first | exact run_wrong m xw (by assumption) | exact run_none m xw (by assumption) (size_empty (by assumption)) | (rw [run_some m xw (by assumption) hz_ (i := i) (by omega), ← hI40.2.2]; exact ends_yes m xat hI70.1 (by omega) (by assumption) (by assumption)) | (rw [run_some m xw (by assumption) hz_ (i := i) (by omega), ← hI40.2.2]; exact end_end m xat (by omega) hI70.2.2)
              refine ⟨_, rfl, h70, ?_, ?_⟩
              · exact S70.sub [] (by decide) rfl _ rfl
              · first | rfl | (simp only [q0]; rfl) | (simp only [q0])
            · skip
              refine run_skip ?_
              refine run_inBlock ?_
              refine run_reg (l := [0, 1]) rfl ?_
              refine p_v (v := .int .i64 (t40 + 1)) rfl rfl rfl (x_add r70_40 rfl (in_i64 (by first|omega|(simp;omega)|assumption) (by first|omega|(simp;omega)|assumption))) ?_
              refine p_v (v := .int .i64 (t40 + 1)) rfl rfl rfl (x_move rfl) ?_
              refine run_region_end ?_
              refine ih70 (t40 + 1) _ _ (by dsimp only; omega) ⟨h70, le70, S70.sub [0, 1] (by decide) rfl _ rfl, r70_2, r70_38, r70_39, rfl, (in_i64 (by first|omega|(simp;omega)|assumption) (by first|omega|(simp;omega)|assumption)), (by exact ⟨by omega, by omega, end_step m xat hI70.1 hI70.2.2 (by first | (rw [(by assumption : at_ xat t40 = false)]; rfl) | (rw [(by assumption : at_ m.last t40 = false)]; simp))⟩)⟩
          · skip
            refine p_off rfl (wanted_of (j := 1) (want := true) (d := 46) (b := false) rfl rfl (congrArg Value.bool hc74) rfl) rfl ?_
            refine p_off rfl (wanted_of (j := 1) (want := true) (d := 46) (b := false) rfl rfl (congrArg Value.bool hc74) rfl) rfl ?_
            refine p_off rfl (wanted_of (j := 1) (want := true) (d := 46) (b := false) rfl rfl (congrArg Value.bool hc74) rfl) rfl ?_
            refine p_off rfl (wanted_of (j := 1) (want := true) (d := 46) (b := false) rfl rfl (congrArg Value.bool hc74) rfl) rfl ?_
            refine p_off rfl (wanted_of (j := 1) (want := true) (d := 46) (b := false) rfl rfl (congrArg Value.bool hc74) rfl) rfl ?_
            refine p_v (v := .bool false) rfl rfl rfl (x_pick_f (congrArg Value.bool hc74) rfl) ?_
            refine run_region_end ?_
            refine run_cond (b := false) rfl ?_
            simp only [if_true, if_false, Bool.false_eq_true]
            refine run_skip ?_
            refine run_inBlock ?_
            refine run_reg (l := [0, 1]) rfl ?_
            refine p_v (v := .int .i64 (t40 + 1)) rfl rfl rfl (x_add r70_40 rfl (in_i64 (by first|omega|(simp;omega)|assumption) (by first|omega|(simp;omega)|assumption))) ?_
            refine p_v (v := .int .i64 (t40 + 1)) rfl rfl rfl (x_move rfl) ?_
            refine run_region_end ?_
            refine ih70 (t40 + 1) _ _ (by dsimp only; omega) ⟨h70, le70, S70.sub [0, 1] (by decide) rfl _ rfl, r70_2, r70_38, r70_39, rfl, (in_i64 (by first|omega|(simp;omega)|assumption) (by first|omega|(simp;omega)|assumption)), (by exact ⟨by omega, by omega, end_step m xat hI70.1 hI70.2.2 (by first | (rw [(by assumption : at_ xat t40 = false)]; rfl) | (rw [(by assumption : at_ m.last t40 = false)]; simp))⟩)⟩
        · skip
          refine run_exit rfl ?_
          refine run_seq ?_
          refine run_reg (l := [0]) rfl ?_
          refine p_v (v := .bool false) rfl rfl rfl (x_assign rfl) ?_
          refine run_region_end ?_
          refine run_ret Tryd.func10 (res1 rfl (res_tmp (v := .bool false) rfl)) ?_
          have q0 : (runM m xw : Bool) = false := by
            first | exact run_wrong m xw (by assumption) | exact run_none m xw (by assumption) (size_empty (by assumption)) | (rw [run_some m xw (by assumption) hz_ (i := i) (by omega), ← hI40.2.2]; exact ends_yes m xat hI70.1 (by omega) (by assumption) (by assumption)) | (rw [run_some m xw (by assumption) hz_ (i := i) (by omega), ← hI40.2.2]; exact end_end m xat (by omega) hI70.2.2)
          refine ⟨_, rfl, h70, ?_, ?_⟩
          · exact S70.sub [] (by decide) rfl _ rfl
          · first | rfl | (simp only [q0]; rfl) | (simp only [q0])
theorem great_calls (w : World) (m : Mach) (A0_0 : Option Addr) (c0_0 : Nat) (b0_0 : m.spots.length ≤ c0_0 ∧ c0_0 ≤ maxLen) (l0_0 : Leads kSpot (hp w) A0_0 m.spots) (A0_1 : Option Addr) (c0_1 : Nat) (b0_1 : m.first.length ≤ c0_1 ∧ c0_1 ≤ maxLen) (l0_1 : Leads (Kd.int .i64) (hp w) A0_1 m.first) (A0_2 : Option Addr) (c0_2 : Nat) (b0_2 : m.follow.length ≤ c0_2 ∧ c0_2 ≤ maxLen) (l0_2 : Leads (Kd.int .i64).slice (hp w) A0_2 m.follow) (A0_3 : Option Addr) (c0_3 : Nat) (b0_3 : m.last.length ≤ c0_3 ∧ c0_3 ≤ maxLen) (l0_3 : Leads Kd.bool (hp w) A0_3 m.last) :
    Calls Tryd.prog 5 #[.agg #[.slice A0_0 m.spots.length c0_0, .slice A0_1 m.first.length c0_1, .slice A0_2 m.follow.length c0_2, .slice A0_3 m.last.length c0_3, .bool m.empty]] w fun e w' => ∃ v, e = .returned v ∧ ∃ (hn : Ghost), St w.heap.size w hn w' [] ∧ v = .bool (greatM m) := by
  refine calls_of_run Tryd.func5 rfl Tryd.ntmps5 rfl ?_
  have S0 := St.init w
  have bb0_0 := b0_0.1; have bc0_0 := b0_0.2; simp only [maxLen] at bc0_0
  have bb0_1 := b0_1.1; have bc0_1 := b0_1.2; simp only [maxLen] at bc0_1
  have bb0_2 := b0_2.1; have bc0_2 := b0_2.2; simp only [maxLen] at bc0_2
  have bb0_3 := b0_3.1; have bc0_3 := b0_3.2; simp only [maxLen] at bc0_3
  refine run_seq ?_
  refine run_reg (l := [0, 1]) rfl ?_
  obtain ⟨b1, w1, r1, g1, T1⟩ := e_box (P := Tryd.prog) S0 27 (v := .agg #[.slice A0_0 m.spots.length c0_0, .slice A0_1 m.first.length c0_1, .slice A0_2 m.follow.length c0_2, .slice A0_3 m.last.length c0_3, .bool m.empty]) [.slice A0_0 m.spots.length c0_0, .slice A0_1 m.first.length c0_1, .slice A0_2 m.follow.length c0_2, .slice A0_3 m.last.length c0_3, .bool m.empty] rfl
  have S2 : St w.heap.size w (fun _ => none) w1 [box b1 27 [.slice A0_0 m.spots.length c0_0, .slice A0_1 m.first.length c0_1, .slice A0_2 m.follow.length c0_2, .slice A0_3 m.last.length c0_3, .bool m.empty]] := T1
  refine p_v (v := .pointer (some ⟨b1, 0, none⟩)) rfl rfl rfl (x_box rfl r1) ?_
  refine p_v (v := .bool false) rfl rfl rfl (x_assign rfl) ?_
  refine run_region_end ?_
  refine run_seq ?_
  refine run_seq ?_
  refine run_reg (l := [0, 1, 2, 3, 4, 5, 6, 7, 8, 9, 10, 11, 12, 13, 14, 15, 16, 17, 18, 19, 20, 21]) rfl ?_
  refine p_v (v := .pointer (some ⟨b1, 0, none⟩)) rfl rfl rfl (x_fieldAt fd27_0 ty22 rfl rfl) ?_
  refine p_v (v := .slice A0_0 m.spots.length c0_0) rfl rfl rfl (x_load (seg := [.slice A0_0 m.spots.length c0_0]) ty22 rfl (by simp) rfl (CF.box (m := 1) (S2.box_at (j := 0) rfl) rfl)) ?_
  refine p_v (v := .int .i64 (m.spots.length : Int)) rfl rfl rfl (x_len_slice u22 rfl) ?_
  refine p_v (v := .bool (decide (60 < (m.spots.length : Int)))) rfl rfl rfl (x_gtr rfl rfl) ?_
  refine p_v (v := .bool (decide (60 < (m.spots.length : Int)))) rfl rfl rfl (x_move rfl) ?_
  by_cases hc3 : 60 < (m.spots.length : Int)
  · skip
    refine p_off rfl (wanted_of (j := 4) (want := false) (d := 8) (b := true) rfl rfl (congrArg Value.bool (decide_eq_true hc3)) rfl) rfl ?_
    refine p_off rfl (wanted_of (j := 4) (want := false) (d := 8) (b := true) rfl rfl (congrArg Value.bool (decide_eq_true hc3)) rfl) rfl ?_
    refine p_off rfl (wanted_of (j := 4) (want := false) (d := 8) (b := true) rfl rfl (congrArg Value.bool (decide_eq_true hc3)) rfl) rfl ?_
    refine p_off rfl (wanted_of (j := 4) (want := false) (d := 8) (b := true) rfl rfl (congrArg Value.bool (decide_eq_true hc3)) rfl) rfl ?_
    refine p_v (v := .bool true) rfl rfl rfl (x_pick_t (congrArg Value.bool (decide_eq_true hc3)) rfl) ?_
    refine p_v (v := .bool true) rfl rfl rfl (x_move rfl) ?_
    refine p_off rfl rfl rfl ?_
    refine p_off rfl rfl rfl ?_
    refine p_off rfl rfl rfl ?_
    refine p_off rfl rfl rfl ?_
    refine p_v (v := .bool true) rfl rfl rfl (x_pick_t rfl rfl) ?_
    refine p_v (v := .bool true) rfl rfl rfl (x_move rfl) ?_
    refine p_off rfl rfl rfl ?_
    refine p_off rfl rfl rfl ?_
    refine p_off rfl rfl rfl ?_
    refine p_off rfl rfl rfl ?_
    refine p_v (v := .bool true) rfl rfl rfl (x_pick_t rfl rfl) ?_
    refine run_region_end ?_
    refine run_cond (b := true) rfl ?_
    simp only [if_true, if_false, Bool.false_eq_true]
    refine run_seq ?_
    refine run_reg (l := [0]) rfl ?_
    refine p_v (v := .bool true) rfl rfl rfl (x_assign rfl) ?_
    refine run_region_end ?_
    refine run_ret Tryd.func5 (res1 rfl (res_tmp (v := .bool true) rfl)) ?_
    have q0 : (greatM m : Bool) = true := by
      first | exact great_1 m (by assumption) | exact great_2 m (by assumption) | exact great_3 m (by assumption) | exact great_4 m (by assumption) | exact great_5 m hI_.1 (by omega) (by assumption) | exact great_no m (by omega) (by assumption) (by assumption) (by assumption) (by assumption) hI_.2.2
    refine ⟨_, rfl, (fun _ => none), ?_, ?_⟩
    · exact S2.sub [] (by decide) rfl _ rfl
    · first | rfl | (simp only [q0]; rfl) | (simp only [q0])
  · skip
    refine p_v (v := .pointer (some ⟨b1, 2, none⟩)) rfl (wanted_of (j := 4) (want := false) (d := 8) (b := false) rfl rfl (congrArg Value.bool (decide_eq_false hc3)) rfl) rfl (x_fieldAt fd27_2 ty24 rfl rfl) ?_
    refine p_v (v := .slice A0_2 m.follow.length c0_2) rfl (wanted_of (j := 4) (want := false) (d := 8) (b := false) rfl rfl (congrArg Value.bool (decide_eq_false hc3)) rfl) rfl (x_load (seg := [.slice A0_2 m.follow.length c0_2]) ty24 rfl (by simp) rfl (CF.box (m := 1) (S2.box_at (j := 0) rfl) rfl)) ?_
    refine p_v (v := .int .i64 (m.follow.length : Int)) rfl (wanted_of (j := 4) (want := false) (d := 8) (b := false) rfl rfl (congrArg Value.bool (decide_eq_false hc3)) rfl) rfl (x_len_slice u24 rfl) ?_
    refine p_v (v := .bool (decide (60 < (m.follow.length : Int)))) rfl (wanted_of (j := 4) (want := false) (d := 8) (b := false) rfl rfl (congrArg Value.bool (decide_eq_false hc3)) rfl) rfl (x_gtr rfl rfl) ?_
    refine p_v (v := .bool (decide (60 < (m.follow.length : Int)))) rfl rfl rfl (x_pick_f (congrArg Value.bool (decide_eq_false hc3)) rfl) ?_
    refine p_v (v := .bool (decide (60 < (m.follow.length : Int)))) rfl rfl rfl (x_move rfl) ?_
    by_cases hc4 : 60 < (m.follow.length : Int)
    · skip
      refine p_off rfl (wanted_of (j := 10) (want := false) (d := 14) (b := true) rfl rfl (congrArg Value.bool (decide_eq_true hc4)) rfl) rfl ?_
      refine p_off rfl (wanted_of (j := 10) (want := false) (d := 14) (b := true) rfl rfl (congrArg Value.bool (decide_eq_true hc4)) rfl) rfl ?_
      refine p_off rfl (wanted_of (j := 10) (want := false) (d := 14) (b := true) rfl rfl (congrArg Value.bool (decide_eq_true hc4)) rfl) rfl ?_
      refine p_off rfl (wanted_of (j := 10) (want := false) (d := 14) (b := true) rfl rfl (congrArg Value.bool (decide_eq_true hc4)) rfl) rfl ?_
      refine p_v (v := .bool true) rfl rfl rfl (x_pick_t (congrArg Value.bool (decide_eq_true hc4)) rfl) ?_
      refine p_v (v := .bool true) rfl rfl rfl (x_move rfl) ?_
      refine p_off rfl rfl rfl ?_
      refine p_off rfl rfl rfl ?_
      refine p_off rfl rfl rfl ?_
      refine p_off rfl rfl rfl ?_
      refine p_v (v := .bool true) rfl rfl rfl (x_pick_t rfl rfl) ?_
      refine run_region_end ?_
      refine run_cond (b := true) rfl ?_
      simp only [if_true, if_false, Bool.false_eq_true]
      refine run_seq ?_
      refine run_reg (l := [0]) rfl ?_
      refine p_v (v := .bool true) rfl rfl rfl (x_assign rfl) ?_
      refine run_region_end ?_
      refine run_ret Tryd.func5 (res1 rfl (res_tmp (v := .bool true) rfl)) ?_
      have q0 : (greatM m : Bool) = true := by
        first | exact great_1 m (by assumption) | exact great_2 m (by assumption) | exact great_3 m (by assumption) | exact great_4 m (by assumption) | exact great_5 m hI_.1 (by omega) (by assumption) | exact great_no m (by omega) (by assumption) (by assumption) (by assumption) (by assumption) hI_.2.2
      refine ⟨_, rfl, (fun _ => none), ?_, ?_⟩
      · exact S2.sub [] (by decide) rfl _ rfl
      · first | rfl | (simp only [q0]; rfl) | (simp only [q0])
    · skip
      refine p_v (v := .pointer (some ⟨b1, 3, none⟩)) rfl (wanted_of (j := 10) (want := false) (d := 14) (b := false) rfl rfl (congrArg Value.bool (decide_eq_false hc4)) rfl) rfl (x_fieldAt fd27_3 ty25 rfl rfl) ?_
      refine p_v (v := .slice A0_3 m.last.length c0_3) rfl (wanted_of (j := 10) (want := false) (d := 14) (b := false) rfl rfl (congrArg Value.bool (decide_eq_false hc4)) rfl) rfl (x_load (seg := [.slice A0_3 m.last.length c0_3]) ty25 rfl (by simp) rfl (CF.box (m := 1) (S2.box_at (j := 0) rfl) rfl)) ?_
      refine p_v (v := .int .i64 (m.last.length : Int)) rfl (wanted_of (j := 10) (want := false) (d := 14) (b := false) rfl rfl (congrArg Value.bool (decide_eq_false hc4)) rfl) rfl (x_len_slice u25 rfl) ?_
      refine p_v (v := .bool (decide (60 < (m.last.length : Int)))) rfl (wanted_of (j := 10) (want := false) (d := 14) (b := false) rfl rfl (congrArg Value.bool (decide_eq_false hc4)) rfl) rfl (x_gtr rfl rfl) ?_
      refine p_v (v := .bool (decide (60 < (m.last.length : Int)))) rfl rfl rfl (x_pick_f (congrArg Value.bool (decide_eq_false hc4)) rfl) ?_
      refine p_v (v := .bool (decide (60 < (m.last.length : Int)))) rfl rfl rfl (x_move rfl) ?_
      by_cases hc5 : 60 < (m.last.length : Int)
      · skip
        refine p_off rfl (wanted_of (j := 16) (want := false) (d := 20) (b := true) rfl rfl (congrArg Value.bool (decide_eq_true hc5)) rfl) rfl ?_
        refine p_off rfl (wanted_of (j := 16) (want := false) (d := 20) (b := true) rfl rfl (congrArg Value.bool (decide_eq_true hc5)) rfl) rfl ?_
        refine p_off rfl (wanted_of (j := 16) (want := false) (d := 20) (b := true) rfl rfl (congrArg Value.bool (decide_eq_true hc5)) rfl) rfl ?_
        refine p_off rfl (wanted_of (j := 16) (want := false) (d := 20) (b := true) rfl rfl (congrArg Value.bool (decide_eq_true hc5)) rfl) rfl ?_
        refine p_v (v := .bool true) rfl rfl rfl (x_pick_t (congrArg Value.bool (decide_eq_true hc5)) rfl) ?_
        refine run_region_end ?_
        refine run_cond (b := true) rfl ?_
        simp only [if_true, if_false, Bool.false_eq_true]
        refine run_seq ?_
        refine run_reg (l := [0]) rfl ?_
        refine p_v (v := .bool true) rfl rfl rfl (x_assign rfl) ?_
        refine run_region_end ?_
        refine run_ret Tryd.func5 (res1 rfl (res_tmp (v := .bool true) rfl)) ?_
        have q0 : (greatM m : Bool) = true := by
          first | exact great_1 m (by assumption) | exact great_2 m (by assumption) | exact great_3 m (by assumption) | exact great_4 m (by assumption) | exact great_5 m hI_.1 (by omega) (by assumption) | exact great_no m (by omega) (by assumption) (by assumption) (by assumption) (by assumption) hI_.2.2
        refine ⟨_, rfl, (fun _ => none), ?_, ?_⟩
        · exact S2.sub [] (by decide) rfl _ rfl
        · first | rfl | (simp only [q0]; rfl) | (simp only [q0])
      · skip
        refine p_v (v := .pointer (some ⟨b1, 1, none⟩)) rfl (wanted_of (j := 16) (want := false) (d := 20) (b := false) rfl rfl (congrArg Value.bool (decide_eq_false hc5)) rfl) rfl (x_fieldAt fd27_1 ty23 rfl rfl) ?_
        refine p_v (v := .slice A0_1 m.first.length c0_1) rfl (wanted_of (j := 16) (want := false) (d := 20) (b := false) rfl rfl (congrArg Value.bool (decide_eq_false hc5)) rfl) rfl (x_load (seg := [.slice A0_1 m.first.length c0_1]) ty23 rfl (by simp) rfl (CF.box (m := 1) (S2.box_at (j := 0) rfl) rfl)) ?_
        refine p_v (v := .int .i64 (m.first.length : Int)) rfl (wanted_of (j := 16) (want := false) (d := 20) (b := false) rfl rfl (congrArg Value.bool (decide_eq_false hc5)) rfl) rfl (x_len_slice u23 rfl) ?_
        refine p_v (v := .bool (decide (60 < (m.first.length : Int)))) rfl (wanted_of (j := 16) (want := false) (d := 20) (b := false) rfl rfl (congrArg Value.bool (decide_eq_false hc5)) rfl) rfl (x_gtr rfl rfl) ?_
        refine p_v (v := .bool (decide (60 < (m.first.length : Int)))) rfl rfl rfl (x_pick_f (congrArg Value.bool (decide_eq_false hc5)) rfl) ?_
        refine run_region_end ?_
        refine run_cond_prop (p := 60 < (m.first.length : Int)) rfl (fun hc6 => ?_) (fun hc6 => ?_)
        · skip
          refine run_seq ?_
          refine run_reg (l := [0]) rfl ?_
          refine p_v (v := .bool true) rfl rfl rfl (x_assign rfl) ?_
          refine run_region_end ?_
          refine run_ret Tryd.func5 (res1 rfl (res_tmp (v := .bool true) rfl)) ?_
          have q0 : (greatM m : Bool) = true := by
            first | exact great_1 m (by assumption) | exact great_2 m (by assumption) | exact great_3 m (by assumption) | exact great_4 m (by assumption) | exact great_5 m hI_.1 (by omega) (by assumption) | exact great_no m (by omega) (by assumption) (by assumption) (by assumption) (by assumption) hI_.2.2
          refine ⟨_, rfl, (fun _ => none), ?_, ?_⟩
          · exact S2.sub [] (by decide) rfl _ rfl
          · first | rfl | (simp only [q0]; rfl) | (simp only [q0])
        · skip
          refine run_skip ?_
          refine run_seq ?_
          refine run_seq ?_
          refine run_reg (l := [0]) rfl ?_
          refine p_v (v := .int .i64 0) rfl rfl rfl (x_assign rfl) ?_
          refine run_region_end ?_
          refine run_block ?_
          refine run_loop (S := Int) (fun (q_ : Int) ρ w' => match q_ with | i => ∃ (h : Ghost), Le (fun _ => none) h ∧ St w.heap.size w h w' [box b1 27 [.slice A0_0 m.spots.length c0_0, .slice A0_1 m.first.length c0_1, .slice A0_2 m.follow.length c0_2, .slice A0_3 m.last.length c0_3, .bool m.empty]] ∧ ρ 1 = .pointer (some ⟨b1, 0, none⟩) ∧ ρ 3 = .int .i64 i ∧ inK .i64 i ∧ (0 ≤ i ∧ i ≤ (m.follow.length : Int) ∧ greatTo m i = false)) (fun q_ => match q_ with | i => (m.follow.length - i).toNat) (0) ⟨(fun _ => none), Le.refl _, S2.sub [0] (by decide) rfl _ rfl, rfl, rfl, (in_i64 (by first|omega|(simp;omega)|assumption) (by first|omega|(simp;omega)|assumption)), (by exact ⟨by omega, by omega, great_0 _⟩)⟩ ?_
          rintro i ih7 ρ7 w7 ⟨h7, le7, S7, r7_1, r7_3, f7_0, hI7⟩
          have lf7_0 := i64_lo f7_0; have hf7_0 := i64_hi f7_0
          refine run_seq ?_
          refine run_seq ?_
          refine run_reg (l := [0, 1, 2, 3, 4]) rfl ?_
          refine p_v (v := .int .i64 i) rfl rfl rfl (x_move r7_3) ?_
          refine p_v (v := .pointer (some ⟨b1, 2, none⟩)) rfl rfl rfl (x_fieldAt fd27_2 ty24 rfl r7_1) ?_
          refine p_v (v := .slice A0_2 m.follow.length c0_2) rfl rfl rfl (x_load (seg := [.slice A0_2 m.follow.length c0_2]) ty24 rfl (by simp) rfl (CF.box (m := 1) (S7.box_at (j := 0) rfl) rfl)) ?_
          refine p_v (v := .int .i64 (m.follow.length : Int)) rfl rfl rfl (x_len_slice u24 rfl) ?_
          refine p_v (v := .bool (decide (i < (m.follow.length : Int)))) rfl rfl rfl (x_lss rfl rfl) ?_
          refine run_region_end ?_
          refine run_cond_prop (p := i < (m.follow.length : Int)) rfl (fun hc8 => ?_) (fun hc8 => ?_)
          · skip
            refine run_skip ?_
            refine run_seq ?_
            refine run_block ?_
            refine run_seq ?_
            refine run_reg (l := [0, 1, 2, 3, 4, 5, 6]) rfl ?_
            refine p_v (v := .pointer (some ⟨b1, 2, none⟩)) rfl rfl rfl (x_fieldAt fd27_2 ty24 rfl r7_1) ?_
            refine p_v (v := .slice A0_2 m.follow.length c0_2) rfl rfl rfl (x_load (seg := [.slice A0_2 m.follow.length c0_2]) ty24 rfl (by simp) rfl (CF.box (m := 1) (S7.box_at (j := 0) rfl) rfl)) ?_
            refine p_v (v := .int .i64 i) rfl rfl rfl (x_move r7_3) ?_
            obtain ⟨ad9, seg9, a9, rp9, ce9⟩ := e_index_ro (q := i) (m := 1) l0_2 rfl (by first|omega|(simp;omega)|assumption) (by first|omega|(simp;omega)|assumption)
            refine p_v (v := .pointer (some ad9)) rfl rfl rfl (x_index_ro u24 ty23 rfl rfl a9 (by first|omega|(simp;omega)|assumption) (by first|omega|(simp;omega)|assumption)) ?_
            obtain ⟨A9, c9, rfl, lc9, cm9, ld9⟩ := rp9
            have cn9 := cm9; simp only [maxLen] at cn9
            refine p_v (v := .slice A9 (at_ m.follow i).length c9) rfl rfl rfl (x_load (seg := [.slice A9 (at_ m.follow i).length c9]) ty23 rfl (by simp) rfl (CF.ghost ce9 (St.le0 S7))) ?_
            refine p_v (v := .int .i64 ((at_ m.follow i).length : Int)) rfl rfl rfl (x_len_slice u23 rfl) ?_
            refine p_v (v := .bool (decide (60 < ((at_ m.follow i).length : Int)))) rfl rfl rfl (x_gtr rfl rfl) ?_
            refine run_region_end ?_
            refine run_cond_prop (p := 60 < ((at_ m.follow i).length : Int)) rfl (fun hc10 => ?_) (fun hc10 => ?_)
            · skip
              refine run_seq ?_
              refine run_reg (l := [0]) rfl ?_
              refine p_v (v := .bool true) rfl rfl rfl (x_assign rfl) ?_
              refine run_region_end ?_
              refine run_ret Tryd.func5 (res1 rfl (res_tmp (v := .bool true) rfl)) ?_
              have q0 : (greatM m : Bool) = true := by
                first | exact great_1 m (by assumption) | exact great_2 m (by assumption) | exact great_3 m (by assumption) | exact great_4 m (by assumption) | exact great_5 m hI7.1 (by omega) (by assumption) | exact great_no m (by omega) (by assumption) (by assumption) (by assumption) (by assumption) hI7.2.2
              refine ⟨_, rfl, h7, ?_, ?_⟩
              · exact S7.sub [] (by decide) rfl _ rfl
              · first | rfl | (simp only [q0]; rfl) | (simp only [q0])
            · skip
              refine run_skip ?_
              refine run_inBlock ?_
              refine run_reg (l := [0, 1, 2]) rfl ?_
              refine p_v (v := .int .i64 i) rfl rfl rfl (x_move r7_3) ?_
              refine p_v (v := .int .i64 (i + 1)) rfl rfl rfl (x_add rfl rfl (in_i64 (by first|omega|(simp;omega)|assumption) (by first|omega|(simp;omega)|assumption))) ?_
              refine p_v (v := .int .i64 (i + 1)) rfl rfl rfl (x_assign rfl) ?_
              refine run_region_end ?_
              refine ih7 (i + 1) _ _ (by dsimp only; omega) ⟨h7, le7, S7.sub [0] (by decide) rfl _ rfl, r7_1, rfl, (in_i64 (by first|omega|(simp;omega)|assumption) (by first|omega|(simp;omega)|assumption)), (by exact ⟨by omega, by omega, great_step m hI7.1 (by omega) hI7.2.2 (by assumption)⟩)⟩
          · skip
            refine run_exit rfl ?_
            refine run_seq ?_
            refine run_reg (l := [0]) rfl ?_
            refine p_v (v := .bool false) rfl rfl rfl (x_assign rfl) ?_
            refine run_region_end ?_
            refine run_ret Tryd.func5 (res1 rfl (res_tmp (v := .bool false) rfl)) ?_
            have q0 : (greatM m : Bool) = false := by
              first | exact great_1 m (by assumption) | exact great_2 m (by assumption) | exact great_3 m (by assumption) | exact great_4 m (by assumption) | exact great_5 m hI7.1 (by omega) (by assumption) | exact great_no m (by omega) (by assumption) (by assumption) (by assumption) (by assumption) hI7.2.2
            refine ⟨_, rfl, h7, ?_, ?_⟩
            · exact S7.sub [] (by decide) rfl _ rfl
            · first | rfl | (simp only [q0]; rfl) | (simp only [q0])
end Go.Proofs.YtdfkpjchnndniaaDoor
