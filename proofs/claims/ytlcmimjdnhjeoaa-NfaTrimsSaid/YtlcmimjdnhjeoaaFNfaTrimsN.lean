/- The law NfaTrims, walked: it tells true at every input, and writes nothing that was there. -/
import Derived.Test.YtlcmimjdnhjeoaaTN
import Derived.Test.YtlcmimjdnhjeoaaM6
import Derived.Test.YtlcmimjdnhjeoaaM7
import Derived.Test.YtlcmimjdnhjeoaaQN
import Derived.Test.YtlcmimjdnhjeoaaN3
import Derived.Test.YtlcmimjdnhjeoaaM11
import Derived.Test.YtlcmimjdnhjeoaaN5
import Derived.Test.YtlcmimjdnhjeoaaN6
import Derived.Test.YtlcmimjdnhjeoaaN7
import Derived.Test.YtlcmimjdnhjeoaaVN
namespace Go.Proofs.Ytlcmimjdnhjeoaa
open Go Go.RowKit Gx
set_option maxHeartbeats 1000000
set_option linter.unusedVariables false
set_option linter.unusedSimpArgs false
attribute [local irreducible] members pack listOf count first someIn has setOf setRange wbits Lib.ctz rises rightM rowOk tab markP intoP intoTo behindP behindTo behindIn runTo endsIn endTo runM posTo mayP stepIf stepP mayTo atP lastTo greatM greatTo docAt anyTo allTo numAt numsL numsIn leftN kept lefts spotsTo lastTp followTo trimM errM comeM goesM keepM lfp seekN seekB fullS placeF okC okG clC clG clC2 clG2 firstC lastG andTo useN trues addS setsOfTo setsM

theorem nfaTrims_calls (w : World) (m : Mach) (A0_0 : Option Addr) (c0_0 : Nat) (b0_0 : m.spots.length ≤ c0_0 ∧ c0_0 ≤ maxLen) (l0_0 : Leads kSpot (hp w) A0_0 m.spots) (A0_1 : Option Addr) (c0_1 : Nat) (b0_1 : m.first.length ≤ c0_1 ∧ c0_1 ≤ maxLen) (l0_1 : Leads (Kd.int .i64) (hp w) A0_1 m.first) (A0_2 : Option Addr) (c0_2 : Nat) (b0_2 : m.follow.length ≤ c0_2 ∧ c0_2 ≤ maxLen) (l0_2 : Leads (Kd.int .i64).slice (hp w) A0_2 m.follow) (A0_3 : Option Addr) (c0_3 : Nat) (b0_3 : m.last.length ≤ c0_3 ∧ c0_3 ≤ maxLen) (l0_3 : Leads Kd.bool (hp w) A0_3 m.last) (other : Mach) (A1_0 : Option Addr) (c1_0 : Nat) (b1_0 : other.spots.length ≤ c1_0 ∧ c1_0 ≤ maxLen) (l1_0 : Leads kSpot (hp w) A1_0 other.spots) (A1_1 : Option Addr) (c1_1 : Nat) (b1_1 : other.first.length ≤ c1_1 ∧ c1_1 ≤ maxLen) (l1_1 : Leads (Kd.int .i64) (hp w) A1_1 other.first) (A1_2 : Option Addr) (c1_2 : Nat) (b1_2 : other.follow.length ≤ c1_2 ∧ c1_2 ≤ maxLen) (l1_2 : Leads (Kd.int .i64).slice (hp w) A1_2 other.follow) (A1_3 : Option Addr) (c1_3 : Nat) (b1_3 : other.last.length ≤ c1_3 ∧ c1_3 ≤ maxLen) (l1_3 : Leads Kd.bool (hp w) A1_3 other.last) :
    Calls Try.prog 6 #[.agg #[.slice A0_0 m.spots.length c0_0, .slice A0_1 m.first.length c0_1, .slice A0_2 m.follow.length c0_2, .slice A0_3 m.last.length c0_3, .bool m.empty], .agg #[.slice A1_0 other.spots.length c1_0, .slice A1_1 other.first.length c1_1, .slice A1_2 other.follow.length c1_2, .slice A1_3 other.last.length c1_3, .bool other.empty]] w fun e w' => ∃ v, e = .returned v ∧ ∃ (hn : Ghost), St w.heap.size w hn w' [] ∧ v = .bool true := by
  refine calls_of_run Try.func6 rfl Try.ntmps6 rfl ?_
  have S0 := St.init w
  have bb0_0 := b0_0.1; have bc0_0 := b0_0.2; simp only [maxLen] at bc0_0
  have bb0_1 := b0_1.1; have bc0_1 := b0_1.2; simp only [maxLen] at bc0_1
  have bb0_2 := b0_2.1; have bc0_2 := b0_2.2; simp only [maxLen] at bc0_2
  have bb0_3 := b0_3.1; have bc0_3 := b0_3.2; simp only [maxLen] at bc0_3
  have bb1_0 := b1_0.1; have bc1_0 := b1_0.2; simp only [maxLen] at bc1_0
  have bb1_1 := b1_1.1; have bc1_1 := b1_1.2; simp only [maxLen] at bc1_1
  have bb1_2 := b1_2.1; have bc1_2 := b1_2.2; simp only [maxLen] at bc1_2
  have bb1_3 := b1_3.1; have bc1_3 := b1_3.2; simp only [maxLen] at bc1_3
  refine run_seq ?_
  refine run_reg (l := [0, 1, 2]) rfl ?_
  obtain ⟨b1, w1, r1, g1, T1⟩ := e_box (P := Try.prog) S0 27 (v := .agg #[.slice A0_0 m.spots.length c0_0, .slice A0_1 m.first.length c0_1, .slice A0_2 m.follow.length c0_2, .slice A0_3 m.last.length c0_3, .bool m.empty]) [.slice A0_0 m.spots.length c0_0, .slice A0_1 m.first.length c0_1, .slice A0_2 m.follow.length c0_2, .slice A0_3 m.last.length c0_3, .bool m.empty] rfl
  have S2 : St w.heap.size w (fun _ => none) w1 [box b1 27 [.slice A0_0 m.spots.length c0_0, .slice A0_1 m.first.length c0_1, .slice A0_2 m.follow.length c0_2, .slice A0_3 m.last.length c0_3, .bool m.empty]] := T1
  refine p_v (v := .pointer (some ⟨b1, 0, none⟩)) rfl rfl rfl (x_box rfl r1) ?_
  obtain ⟨b3, w3, r3, g3, T3⟩ := e_box (P := Try.prog) S2 27 (v := .agg #[.slice A1_0 other.spots.length c1_0, .slice A1_1 other.first.length c1_1, .slice A1_2 other.follow.length c1_2, .slice A1_3 other.last.length c1_3, .bool other.empty]) [.slice A1_0 other.spots.length c1_0, .slice A1_1 other.first.length c1_1, .slice A1_2 other.follow.length c1_2, .slice A1_3 other.last.length c1_3, .bool other.empty] rfl
  have S4 : St w.heap.size w (fun _ => none) w3 [box b1 27 [.slice A0_0 m.spots.length c0_0, .slice A0_1 m.first.length c0_1, .slice A0_2 m.follow.length c0_2, .slice A0_3 m.last.length c0_3, .bool m.empty], box b3 27 [.slice A1_0 other.spots.length c1_0, .slice A1_1 other.first.length c1_1, .slice A1_2 other.follow.length c1_2, .slice A1_3 other.last.length c1_3, .bool other.empty]] := T3
  refine p_v (v := .pointer (some ⟨b3, 0, none⟩)) rfl rfl rfl (x_box rfl r3) ?_
  refine p_v (v := .bool false) rfl rfl rfl (x_assign rfl) ?_
  refine run_region_end ?_
  refine run_seq ?_
  refine run_seq ?_
  refine run_reg (l := [0, 1, 2, 3, 4, 5]) rfl ?_
  refine p_v (v := .agg #[.slice A0_0 m.spots.length c0_0, .slice A0_1 m.first.length c0_1, .slice A0_2 m.follow.length c0_2, .slice A0_3 m.last.length c0_3, .bool m.empty]) rfl rfl rfl (x_load (seg := [.slice A0_0 m.spots.length c0_0, .slice A0_1 m.first.length c0_1, .slice A0_2 m.follow.length c0_2, .slice A0_3 m.last.length c0_3, .bool m.empty]) ty27 rfl (by simp) rfl (CF.box (m := 5) (S4.box_at (j := 0) rfl) rfl)) ?_
  refine p_c rfl rfl rfl (y_call (args := [.agg #[.slice A0_0 m.spots.length c0_0, .slice A0_1 m.first.length c0_1, .slice A0_2 m.follow.length c0_2, .slice A0_3 m.last.length c0_3, .bool m.empty]]) ca7 rfl rfl) (great_calls w3 m A0_0 c0_0 b0_0 (l0_0.mono (St.le0 S4)) A0_1 c0_1 b0_1 (l0_1.mono (St.le0 S4)) A0_2 c0_2 b0_2 (l0_2.mono (St.le0 S4)) A0_3 c0_3 b0_3 (l0_3.mono (St.le0 S4))) ?_
  rintro _ w5 ⟨h5, T5, rfl⟩
  have S6 := S4.keep (Chg.of_below T5.below)
  refine p_v (v := .bool (greatM m)) rfl rfl rfl (x_move rfl) ?_
  rcases Bool.eq_false_or_eq_true (greatM m) with hc7 | hc7
  · skip
    refine p_off rfl (wanted_of (j := 2) (want := false) (d := 10) (b := true) rfl rfl (congrArg Value.bool hc7) rfl) rfl ?_
    refine p_off rfl (wanted_of (j := 2) (want := false) (d := 10) (b := true) rfl rfl (congrArg Value.bool hc7) rfl) rfl ?_
    refine p_v (v := .bool true) rfl rfl rfl (x_pick_t (congrArg Value.bool hc7) rfl) ?_
    refine run_region_end ?_
    refine run_cond (b := true) rfl ?_
    simp only [if_true, if_false, Bool.false_eq_true]
    refine run_seq ?_
    refine run_reg (l := [0, 1]) rfl ?_
    refine p_c rfl rfl rfl (y_call (args := []) ca8 rfl rfl) (awake10_calls w5 ) ?_
    rintro _ w8 ⟨h8, T8, rfl⟩
    have S9 := S6.keep (Chg.of_below T8.below)
    refine p_v (v := .bool true) rfl rfl rfl (x_assign rfl) ?_
    refine run_region_end ?_
    refine run_ret Try.func6 (res1 rfl (res_tmp (v := .bool true) rfl)) ?_
    have q0 : (true : Bool) = true := rfl
    refine ⟨_, rfl, (fun _ => none), ?_, ?_⟩
    · exact S9.sub [] (by decide) rfl _ rfl
    · rfl
  · skip
    have hsm_ := small_of hc7
    refine p_v (v := .agg #[.slice A1_0 other.spots.length c1_0, .slice A1_1 other.first.length c1_1, .slice A1_2 other.follow.length c1_2, .slice A1_3 other.last.length c1_3, .bool other.empty]) rfl (wanted_of (j := 2) (want := false) (d := 10) (b := false) rfl rfl (congrArg Value.bool hc7) rfl) rfl (x_load (seg := [.slice A1_0 other.spots.length c1_0, .slice A1_1 other.first.length c1_1, .slice A1_2 other.follow.length c1_2, .slice A1_3 other.last.length c1_3, .bool other.empty]) ty27 rfl (by simp) rfl (CF.box (m := 5) (S6.box_at (j := 1) rfl) rfl)) ?_
    refine p_c rfl (wanted_of (j := 2) (want := false) (d := 10) (b := false) rfl rfl (congrArg Value.bool hc7) rfl) rfl (y_call (args := [.agg #[.slice A1_0 other.spots.length c1_0, .slice A1_1 other.first.length c1_1, .slice A1_2 other.follow.length c1_2, .slice A1_3 other.last.length c1_3, .bool other.empty]]) ca7 rfl rfl) (great_calls w5 other A1_0 c1_0 b1_0 (l1_0.mono (St.le0 S6)) A1_1 c1_1 b1_1 (l1_1.mono (St.le0 S6)) A1_2 c1_2 b1_2 (l1_2.mono (St.le0 S6)) A1_3 c1_3 b1_3 (l1_3.mono (St.le0 S6))) ?_
    rintro _ w11 ⟨h11, T11, rfl⟩
    have S12 := S6.keep (Chg.of_below T11.below)
    refine p_v (v := .bool (greatM other)) rfl rfl rfl (x_pick_f (congrArg Value.bool hc7) rfl) ?_
    refine run_region_end ?_
    refine run_cond_split (b := greatM other) rfl (fun hc13 => ?_) (fun hc13 => ?_)
    · skip
      refine run_seq ?_
      refine run_reg (l := [0, 1]) rfl ?_
      refine p_c rfl rfl rfl (y_call (args := []) ca8 rfl rfl) (awake10_calls w11 ) ?_
      rintro _ w14 ⟨h14, T14, rfl⟩
      have S15 := S12.keep (Chg.of_below T14.below)
      refine p_v (v := .bool true) rfl rfl rfl (x_assign rfl) ?_
      refine run_region_end ?_
      refine run_ret Try.func6 (res1 rfl (res_tmp (v := .bool true) rfl)) ?_
      have q0 : (true : Bool) = true := rfl
      refine ⟨_, rfl, (fun _ => none), ?_, ?_⟩
      · exact S15.sub [] (by decide) rfl _ rfl
      · rfl
    · skip
      refine run_skip ?_
      refine run_seq ?_
      refine run_reg (l := [0, 1, 2, 3]) rfl ?_
      refine p_v (v := .agg #[.slice A0_0 m.spots.length c0_0, .slice A0_1 m.first.length c0_1, .slice A0_2 m.follow.length c0_2, .slice A0_3 m.last.length c0_3, .bool m.empty]) rfl rfl rfl (x_load (seg := [.slice A0_0 m.spots.length c0_0, .slice A0_1 m.first.length c0_1, .slice A0_2 m.follow.length c0_2, .slice A0_3 m.last.length c0_3, .bool m.empty]) ty27 rfl (by simp) rfl (CF.box (m := 5) (S12.box_at (j := 0) rfl) rfl)) ?_
      refine p_c rfl rfl rfl (y_call (args := [.agg #[.slice A0_0 m.spots.length c0_0, .slice A0_1 m.first.length c0_1, .slice A0_2 m.follow.length c0_2, .slice A0_3 m.last.length c0_3, .bool m.empty]]) ca13 rfl rfl) (copy_calls w11 m A0_0 c0_0 b0_0 (l0_0.mono (St.le0 S12)) A0_1 c0_1 b0_1 (l0_1.mono (St.le0 S12)) A0_2 c0_2 b0_2 (l0_2.mono (St.le0 S12)) A0_3 c0_3 b0_3 (l0_3.mono (St.le0 S12)) (by assumption)) ?_
      rintro _ w17 ⟨h17, v17_0, v17_1, v17_2, v17_3, T17, rfl⟩
      obtain ⟨k17, lk17, ll17, U17⟩ := call_joins S12 T17
      have S18 : St w.heap.size w k17 w17 [box b1 27 [.slice A0_0 m.spots.length c0_0, .slice A0_1 m.first.length c0_1, .slice A0_2 m.follow.length c0_2, .slice A0_3 m.last.length c0_3, .bool m.empty], box b3 27 [.slice A1_0 other.spots.length c1_0, .slice A1_1 other.first.length c1_1, .slice A1_2 other.follow.length c1_2, .slice A1_3 other.last.length c1_3, .bool other.empty], row 39 kSpot v17_0 m.spots, row 3 (Kd.int .i64) v17_1 m.first, row 23 (Kd.int .i64).slice v17_2 m.follow, row 4 Kd.bool v17_3 m.last] := U17
      obtain ⟨h19, le19, T19, rp19⟩ := S18.freeze (i := 2) rfl
      have lf19_0 := (lk17).trans le19
      have S20 : St w.heap.size w h19 w17 [box b1 27 [.slice A0_0 m.spots.length c0_0, .slice A0_1 m.first.length c0_1, .slice A0_2 m.follow.length c0_2, .slice A0_3 m.last.length c0_3, .bool m.empty], box b3 27 [.slice A1_0 other.spots.length c1_0, .slice A1_1 other.first.length c1_1, .slice A1_2 other.follow.length c1_2, .slice A1_3 other.last.length c1_3, .bool other.empty], emp, row 3 (Kd.int .i64) v17_1 m.first, row 23 (Kd.int .i64).slice v17_2 m.follow, row 4 Kd.bool v17_3 m.last] := T19
      obtain ⟨A19, c19, e19, lc19, cm19, ld19⟩ := rp19
      injection e19 with e19 _; subst e19
      have cn19 := cm19; simp only [maxLen] at cn19
      obtain ⟨h21, le21, T21, rp21⟩ := S20.freeze (i := 3) rfl
      have lf21_0 := (lf19_0).trans le21
      have lf21_1 := (le19).trans le21
      have S22 : St w.heap.size w h21 w17 [box b1 27 [.slice A0_0 m.spots.length c0_0, .slice A0_1 m.first.length c0_1, .slice A0_2 m.follow.length c0_2, .slice A0_3 m.last.length c0_3, .bool m.empty], box b3 27 [.slice A1_0 other.spots.length c1_0, .slice A1_1 other.first.length c1_1, .slice A1_2 other.follow.length c1_2, .slice A1_3 other.last.length c1_3, .bool other.empty], emp, emp, row 23 (Kd.int .i64).slice v17_2 m.follow, row 4 Kd.bool v17_3 m.last] := T21
      obtain ⟨A21, c21, e21, lc21, cm21, ld21⟩ := rp21
      injection e21 with e21 _; subst e21
      have cn21 := cm21; simp only [maxLen] at cn21
      obtain ⟨h23, le23, T23, rp23⟩ := S22.freeze (i := 4) rfl
      have lf23_0 := (lf21_0).trans le23
      have lf23_1 := (lf21_1).trans le23
      have lf23_2 := (le21).trans le23
      have S24 : St w.heap.size w h23 w17 [box b1 27 [.slice A0_0 m.spots.length c0_0, .slice A0_1 m.first.length c0_1, .slice A0_2 m.follow.length c0_2, .slice A0_3 m.last.length c0_3, .bool m.empty], box b3 27 [.slice A1_0 other.spots.length c1_0, .slice A1_1 other.first.length c1_1, .slice A1_2 other.follow.length c1_2, .slice A1_3 other.last.length c1_3, .bool other.empty], emp, emp, emp, row 4 Kd.bool v17_3 m.last] := T23
      obtain ⟨A23, c23, e23, lc23, cm23, ld23⟩ := rp23
      injection e23 with e23 _; subst e23
      have cn23 := cm23; simp only [maxLen] at cn23
      obtain ⟨h25, le25, T25, rp25⟩ := S24.freeze (i := 5) rfl
      have lf25_0 := (lf23_0).trans le25
      have lf25_1 := (lf23_1).trans le25
      have lf25_2 := (lf23_2).trans le25
      have lf25_3 := (le23).trans le25
      have S26 : St w.heap.size w h25 w17 [box b1 27 [.slice A0_0 m.spots.length c0_0, .slice A0_1 m.first.length c0_1, .slice A0_2 m.follow.length c0_2, .slice A0_3 m.last.length c0_3, .bool m.empty], box b3 27 [.slice A1_0 other.spots.length c1_0, .slice A1_1 other.first.length c1_1, .slice A1_2 other.follow.length c1_2, .slice A1_3 other.last.length c1_3, .bool other.empty], emp, emp, emp, emp] := T25
      obtain ⟨A25, c25, e25, lc25, cm25, ld25⟩ := rp25
      injection e25 with e25 _; subst e25
      have cn25 := cm25; simp only [maxLen] at cn25
      obtain ⟨b27, w27, r27, g27, T27⟩ := e_box (P := Try.prog) S26 27 (v := (.agg #[.slice none 0 0, .slice none 0 0, .slice none 0 0, .slice none 0 0, .bool false])) [.slice none 0 0, .slice none 0 0, .slice none 0 0, .slice none 0 0, .bool false] rfl
      have S28 : St w.heap.size w h25 w27 [box b1 27 [.slice A0_0 m.spots.length c0_0, .slice A0_1 m.first.length c0_1, .slice A0_2 m.follow.length c0_2, .slice A0_3 m.last.length c0_3, .bool m.empty], box b3 27 [.slice A1_0 other.spots.length c1_0, .slice A1_1 other.first.length c1_1, .slice A1_2 other.follow.length c1_2, .slice A1_3 other.last.length c1_3, .bool other.empty], emp, emp, emp, emp, box b27 27 [.slice none 0 0, .slice none 0 0, .slice none 0 0, .slice none 0 0, .bool false]] := T27
      refine p_v (v := .pointer (some ⟨b27, 0, none⟩)) rfl rfl rfl (x_alloc ty27 r27) ?_
      obtain ⟨w29, r29, g29, T29⟩ := e_store (P := Try.prog) (off := 0) (v := .agg #[.slice A19 m.spots.length c19, .slice A21 m.first.length c21, .slice A23 m.follow.length c23, .slice A25 m.last.length c25, .bool m.empty]) (vs := [.slice A19 m.spots.length c19, .slice A21 m.first.length c21, .slice A23 m.follow.length c23, .slice A25 m.last.length c25, .bool m.empty]) S28 ty27 rfl rfl (j := 6) rfl (by first | decide | exact Nat.le_of_ble_eq_true rfl) (by simp [Value.oneCell'])
      have S30 : St w.heap.size w h25 w29 [box b1 27 [.slice A0_0 m.spots.length c0_0, .slice A0_1 m.first.length c0_1, .slice A0_2 m.follow.length c0_2, .slice A0_3 m.last.length c0_3, .bool m.empty], box b3 27 [.slice A1_0 other.spots.length c1_0, .slice A1_1 other.first.length c1_1, .slice A1_2 other.follow.length c1_2, .slice A1_3 other.last.length c1_3, .bool other.empty], emp, emp, emp, emp, box b27 27 [.slice A19 m.spots.length c19, .slice A21 m.first.length c21, .slice A23 m.follow.length c23, .slice A25 m.last.length c25, .bool m.empty]] := T29
      refine p_s rfl rfl (x_store rfl rfl r29) ?_
      refine run_region_end ?_
      refine run_seq ?_
      refine run_reg (l := [0, 1, 2, 3, 4, 5, 6, 7]) rfl ?_
      refine p_v (v := .agg #[.slice A0_0 m.spots.length c0_0, .slice A0_1 m.first.length c0_1, .slice A0_2 m.follow.length c0_2, .slice A0_3 m.last.length c0_3, .bool m.empty]) rfl rfl rfl (x_load (seg := [.slice A0_0 m.spots.length c0_0, .slice A0_1 m.first.length c0_1, .slice A0_2 m.follow.length c0_2, .slice A0_3 m.last.length c0_3, .bool m.empty]) ty27 rfl (by simp) rfl (CF.box (m := 5) (S30.box_at (j := 0) rfl) rfl)) ?_
      refine p_c rfl rfl rfl (y_call (args := [.agg #[.slice A0_0 m.spots.length c0_0, .slice A0_1 m.first.length c0_1, .slice A0_2 m.follow.length c0_2, .slice A0_3 m.last.length c0_3, .bool m.empty]]) ca14 rfl rfl) (trimN_calls w29 m A0_0 c0_0 b0_0 (l0_0.mono (St.le0 S30)) A0_1 c0_1 b0_1 (l0_1.mono (St.le0 S30)) A0_2 c0_2 b0_2 (l0_2.mono (St.le0 S30)) A0_3 c0_3 b0_3 (l0_3.mono (St.le0 S30))) ?_
      rintro _ w31 ⟨h31, v31_0, v31_1, v31_2, v31_3, T31, rfl, in31_0⟩
      obtain ⟨k31, lk31, ll31, U31⟩ := call_joins S30 T31
      have lc31_0 := (lf25_0).trans lk31
      have lc31_1 := (lf25_1).trans lk31
      have lc31_2 := (lf25_2).trans lk31
      have lc31_3 := (lf25_3).trans lk31
      have lc31_4 := (le25).trans lk31
      have S32 : St w.heap.size w k31 w31 [box b1 27 [.slice A0_0 m.spots.length c0_0, .slice A0_1 m.first.length c0_1, .slice A0_2 m.follow.length c0_2, .slice A0_3 m.last.length c0_3, .bool m.empty], box b3 27 [.slice A1_0 other.spots.length c1_0, .slice A1_1 other.first.length c1_1, .slice A1_2 other.follow.length c1_2, .slice A1_3 other.last.length c1_3, .bool other.empty], emp, emp, emp, emp, box b27 27 [.slice A19 m.spots.length c19, .slice A21 m.first.length c21, .slice A23 m.follow.length c23, .slice A25 m.last.length c25, .bool m.empty], row 39 kSpot v31_0 ((trimM m).spots), row 3 (Kd.int .i64) v31_1 ((trimM m).first), row 23 (Kd.int .i64).slice v31_2 ((trimM m).follow), row 4 Kd.bool v31_3 ((trimM m).last)] := U31
      have lo_in31_0 := i64_lo in31_0; have hi_in31_0 := i64_hi in31_0
      obtain ⟨h33, le33, T33, rp33⟩ := S32.freeze (i := 7) rfl
      have lf33_0 := (lc31_0).trans le33
      have lf33_1 := (lc31_1).trans le33
      have lf33_2 := (lc31_2).trans le33
      have lf33_3 := (lc31_3).trans le33
      have lf33_4 := (lc31_4).trans le33
      have lf33_5 := (lk31).trans le33
      have S34 : St w.heap.size w h33 w31 [box b1 27 [.slice A0_0 m.spots.length c0_0, .slice A0_1 m.first.length c0_1, .slice A0_2 m.follow.length c0_2, .slice A0_3 m.last.length c0_3, .bool m.empty], box b3 27 [.slice A1_0 other.spots.length c1_0, .slice A1_1 other.first.length c1_1, .slice A1_2 other.follow.length c1_2, .slice A1_3 other.last.length c1_3, .bool other.empty], emp, emp, emp, emp, box b27 27 [.slice A19 m.spots.length c19, .slice A21 m.first.length c21, .slice A23 m.follow.length c23, .slice A25 m.last.length c25, .bool m.empty], emp, row 3 (Kd.int .i64) v31_1 ((trimM m).first), row 23 (Kd.int .i64).slice v31_2 ((trimM m).follow), row 4 Kd.bool v31_3 ((trimM m).last)] := T33
      obtain ⟨A33, c33, e33, lc33, cm33, ld33⟩ := rp33
      injection e33 with e33 _; subst e33
      have cn33 := cm33; simp only [maxLen] at cn33
      obtain ⟨h35, le35, T35, rp35⟩ := S34.freeze (i := 8) rfl
      have lf35_0 := (lf33_0).trans le35
      have lf35_1 := (lf33_1).trans le35
      have lf35_2 := (lf33_2).trans le35
      have lf35_3 := (lf33_3).trans le35
      have lf35_4 := (lf33_4).trans le35
      have lf35_5 := (lf33_5).trans le35
      have lf35_6 := (le33).trans le35
      have S36 : St w.heap.size w h35 w31 [box b1 27 [.slice A0_0 m.spots.length c0_0, .slice A0_1 m.first.length c0_1, .slice A0_2 m.follow.length c0_2, .slice A0_3 m.last.length c0_3, .bool m.empty], box b3 27 [.slice A1_0 other.spots.length c1_0, .slice A1_1 other.first.length c1_1, .slice A1_2 other.follow.length c1_2, .slice A1_3 other.last.length c1_3, .bool other.empty], emp, emp, emp, emp, box b27 27 [.slice A19 m.spots.length c19, .slice A21 m.first.length c21, .slice A23 m.follow.length c23, .slice A25 m.last.length c25, .bool m.empty], emp, emp, row 23 (Kd.int .i64).slice v31_2 ((trimM m).follow), row 4 Kd.bool v31_3 ((trimM m).last)] := T35
      obtain ⟨A35, c35, e35, lc35, cm35, ld35⟩ := rp35
      injection e35 with e35 _; subst e35
      have cn35 := cm35; simp only [maxLen] at cn35
      obtain ⟨h37, le37, T37, rp37⟩ := S36.freeze (i := 9) rfl
      have lf37_0 := (lf35_0).trans le37
      have lf37_1 := (lf35_1).trans le37
      have lf37_2 := (lf35_2).trans le37
      have lf37_3 := (lf35_3).trans le37
      have lf37_4 := (lf35_4).trans le37
      have lf37_5 := (lf35_5).trans le37
      have lf37_6 := (lf35_6).trans le37
      have lf37_7 := (le35).trans le37
      have S38 : St w.heap.size w h37 w31 [box b1 27 [.slice A0_0 m.spots.length c0_0, .slice A0_1 m.first.length c0_1, .slice A0_2 m.follow.length c0_2, .slice A0_3 m.last.length c0_3, .bool m.empty], box b3 27 [.slice A1_0 other.spots.length c1_0, .slice A1_1 other.first.length c1_1, .slice A1_2 other.follow.length c1_2, .slice A1_3 other.last.length c1_3, .bool other.empty], emp, emp, emp, emp, box b27 27 [.slice A19 m.spots.length c19, .slice A21 m.first.length c21, .slice A23 m.follow.length c23, .slice A25 m.last.length c25, .bool m.empty], emp, emp, emp, row 4 Kd.bool v31_3 ((trimM m).last)] := T37
      obtain ⟨A37, c37, e37, lc37, cm37, ld37⟩ := rp37
      injection e37 with e37 _; subst e37
      have cn37 := cm37; simp only [maxLen] at cn37
      obtain ⟨h39, le39, T39, rp39⟩ := S38.freeze (i := 10) rfl
      have lf39_0 := (lf37_0).trans le39
      have lf39_1 := (lf37_1).trans le39
      have lf39_2 := (lf37_2).trans le39
      have lf39_3 := (lf37_3).trans le39
      have lf39_4 := (lf37_4).trans le39
      have lf39_5 := (lf37_5).trans le39
      have lf39_6 := (lf37_6).trans le39
      have lf39_7 := (lf37_7).trans le39
      have lf39_8 := (le37).trans le39
      have S40 : St w.heap.size w h39 w31 [box b1 27 [.slice A0_0 m.spots.length c0_0, .slice A0_1 m.first.length c0_1, .slice A0_2 m.follow.length c0_2, .slice A0_3 m.last.length c0_3, .bool m.empty], box b3 27 [.slice A1_0 other.spots.length c1_0, .slice A1_1 other.first.length c1_1, .slice A1_2 other.follow.length c1_2, .slice A1_3 other.last.length c1_3, .bool other.empty], emp, emp, emp, emp, box b27 27 [.slice A19 m.spots.length c19, .slice A21 m.first.length c21, .slice A23 m.follow.length c23, .slice A25 m.last.length c25, .bool m.empty], emp, emp, emp, emp] := T39
      obtain ⟨A39, c39, e39, lc39, cm39, ld39⟩ := rp39
      injection e39 with e39 _; subst e39
      have cn39 := cm39; simp only [maxLen] at cn39
      refine p_v (v := .tuple #[.agg #[.slice A33 ((trimM m).spots).length c33, .slice A35 ((trimM m).first).length c35, .slice A37 ((trimM m).follow).length c37, .slice A39 ((trimM m).last).length c39, .bool ((trimM m).empty)], .int .i64 (errM m)]) rfl rfl rfl (x_move rfl) ?_
      refine p_v (v := .agg #[.slice A33 ((trimM m).spots).length c33, .slice A35 ((trimM m).first).length c35, .slice A37 ((trimM m).follow).length c37, .slice A39 ((trimM m).last).length c39, .bool ((trimM m).empty)]) rfl rfl rfl (x_extract (vs := [.agg #[.slice A33 ((trimM m).spots).length c33, .slice A35 ((trimM m).first).length c35, .slice A37 ((trimM m).follow).length c37, .slice A39 ((trimM m).last).length c39, .bool ((trimM m).empty)], .int .i64 (errM m)]) rfl rfl) ?_
      refine p_v (v := .int .i64 (errM m)) rfl rfl rfl (x_extract (vs := [.agg #[.slice A33 ((trimM m).spots).length c33, .slice A35 ((trimM m).first).length c35, .slice A37 ((trimM m).follow).length c37, .slice A39 ((trimM m).last).length c39, .bool ((trimM m).empty)], .int .i64 (errM m)]) rfl rfl) ?_
      obtain ⟨b41, w41, r41, g41, T41⟩ := e_box (P := Try.prog) S40 27 (v := (.agg #[.slice none 0 0, .slice none 0 0, .slice none 0 0, .slice none 0 0, .bool false])) [.slice none 0 0, .slice none 0 0, .slice none 0 0, .slice none 0 0, .bool false] rfl
      have S42 : St w.heap.size w h39 w41 [box b1 27 [.slice A0_0 m.spots.length c0_0, .slice A0_1 m.first.length c0_1, .slice A0_2 m.follow.length c0_2, .slice A0_3 m.last.length c0_3, .bool m.empty], box b3 27 [.slice A1_0 other.spots.length c1_0, .slice A1_1 other.first.length c1_1, .slice A1_2 other.follow.length c1_2, .slice A1_3 other.last.length c1_3, .bool other.empty], emp, emp, emp, emp, box b27 27 [.slice A19 m.spots.length c19, .slice A21 m.first.length c21, .slice A23 m.follow.length c23, .slice A25 m.last.length c25, .bool m.empty], emp, emp, emp, emp, box b41 27 [.slice none 0 0, .slice none 0 0, .slice none 0 0, .slice none 0 0, .bool false]] := T41
      refine p_v (v := .pointer (some ⟨b41, 0, none⟩)) rfl rfl rfl (x_alloc ty27 r41) ?_
      obtain ⟨w43, r43, g43, T43⟩ := e_store (P := Try.prog) (off := 0) (v := .agg #[.slice A33 ((trimM m).spots).length c33, .slice A35 ((trimM m).first).length c35, .slice A37 ((trimM m).follow).length c37, .slice A39 ((trimM m).last).length c39, .bool ((trimM m).empty)]) (vs := [.slice A33 ((trimM m).spots).length c33, .slice A35 ((trimM m).first).length c35, .slice A37 ((trimM m).follow).length c37, .slice A39 ((trimM m).last).length c39, .bool ((trimM m).empty)]) S42 ty27 rfl rfl (j := 11) rfl (by first | decide | exact Nat.le_of_ble_eq_true rfl) (by simp [Value.oneCell'])
      have S44 : St w.heap.size w h39 w43 [box b1 27 [.slice A0_0 m.spots.length c0_0, .slice A0_1 m.first.length c0_1, .slice A0_2 m.follow.length c0_2, .slice A0_3 m.last.length c0_3, .bool m.empty], box b3 27 [.slice A1_0 other.spots.length c1_0, .slice A1_1 other.first.length c1_1, .slice A1_2 other.follow.length c1_2, .slice A1_3 other.last.length c1_3, .bool other.empty], emp, emp, emp, emp, box b27 27 [.slice A19 m.spots.length c19, .slice A21 m.first.length c21, .slice A23 m.follow.length c23, .slice A25 m.last.length c25, .bool m.empty], emp, emp, emp, emp, box b41 27 [.slice A33 ((trimM m).spots).length c33, .slice A35 ((trimM m).first).length c35, .slice A37 ((trimM m).follow).length c37, .slice A39 ((trimM m).last).length c39, .bool ((trimM m).empty)]] := T43
      refine p_s rfl rfl (x_store rfl rfl r43) ?_
      refine p_v (v := .int .i64 (errM m)) rfl rfl rfl (x_assign rfl) ?_
      refine run_region_end ?_
      refine run_seq ?_
      refine run_seq ?_
      have hc46 : (decide (m = m)) = true := by
        exact decide_eq_true rfl
      have hc49 : ¬ ((decide (m = other)) ≠ (decide (m = other))) := by
        simp
      have hf51 : (CFs ⟨b1, 0, none⟩ [.slice A0_0 m.spots.length c0_0, .slice A0_1 m.first.length c0_1, .slice A0_2 m.follow.length c0_2, .slice A0_3 m.last.length c0_3, .bool m.empty]).1 w43 := (CF.box (m := 5) (S44.box_at (j := 0) rfl) rfl)
      have hf52 : (CFs ⟨b27, 0, none⟩ [.slice A19 m.spots.length c19, .slice A21 m.first.length c21, .slice A23 m.follow.length c23, .slice A25 m.last.length c25, .bool m.empty]).1 w43 := (CF.box (m := 5) (S44.box_at (j := 6) rfl) rfl)
      have hf53 : (LeadsS kSpot A0_0 m.spots).1 w43 := (l0_0.mono (St.le0 S44))
      have hf54 : (LeadsS (Kd.int .i64) A0_1 m.first).1 w43 := (l0_1.mono (St.le0 S44))
      have hf55 : (LeadsS (Kd.int .i64).slice A0_2 m.follow).1 w43 := (l0_2.mono (St.le0 S44))
      have hf56 : (LeadsS Kd.bool A0_3 m.last).1 w43 := (l0_3.mono (St.le0 S44))
      have hf57 : (LeadsS kSpot A19 m.spots).1 w43 := (ld19.mono (lf39_2.trans S44.ghost))
      have hf58 : (LeadsS (Kd.int .i64) A21 m.first).1 w43 := (ld21.mono (lf39_3.trans S44.ghost))
      have hf59 : (LeadsS (Kd.int .i64).slice A23 m.follow).1 w43 := (ld23.mono (lf39_4.trans S44.ghost))
      have hf60 : (LeadsS Kd.bool A25 m.last).1 w43 := (ld25.mono (lf39_5.trans S44.ghost))
      have hf61 : (CFs ⟨b1, 0, none⟩ [.slice A0_0 m.spots.length c0_0, .slice A0_1 m.first.length c0_1, .slice A0_2 m.follow.length c0_2, .slice A0_3 m.last.length c0_3, .bool m.empty]).1 w43 := (CF.box (m := 5) (S44.box_at (j := 0) rfl) rfl)
      have hf62 : (CFs ⟨b3, 0, none⟩ [.slice A1_0 other.spots.length c1_0, .slice A1_1 other.first.length c1_1, .slice A1_2 other.follow.length c1_2, .slice A1_3 other.last.length c1_3, .bool other.empty]).1 w43 := (CF.box (m := 5) (S44.box_at (j := 1) rfl) rfl)
      have hf63 : (LeadsS kSpot A0_0 m.spots).1 w43 := (l0_0.mono (St.le0 S44))
      have hf64 : (LeadsS (Kd.int .i64) A0_1 m.first).1 w43 := (l0_1.mono (St.le0 S44))
      have hf65 : (LeadsS (Kd.int .i64).slice A0_2 m.follow).1 w43 := (l0_2.mono (St.le0 S44))
      have hf66 : (LeadsS Kd.bool A0_3 m.last).1 w43 := (l0_3.mono (St.le0 S44))
      have hf67 : (LeadsS kSpot A1_0 other.spots).1 w43 := (l1_0.mono (St.le0 S44))
      have hf68 : (LeadsS (Kd.int .i64) A1_1 other.first).1 w43 := (l1_1.mono (St.le0 S44))
      have hf69 : (LeadsS (Kd.int .i64).slice A1_2 other.follow).1 w43 := (l1_2.mono (St.le0 S44))
      have hf70 : (LeadsS Kd.bool A1_3 other.last).1 w43 := (l1_3.mono (St.le0 S44))
      have hf71 : (CFs ⟨b1, 0, none⟩ [.slice A0_0 m.spots.length c0_0, .slice A0_1 m.first.length c0_1, .slice A0_2 m.follow.length c0_2, .slice A0_3 m.last.length c0_3, .bool m.empty]).1 w43 := (CF.box (m := 5) (S44.box_at (j := 0) rfl) rfl)
      have hf72 : (CFs ⟨b3, 0, none⟩ [.slice A1_0 other.spots.length c1_0, .slice A1_1 other.first.length c1_1, .slice A1_2 other.follow.length c1_2, .slice A1_3 other.last.length c1_3, .bool other.empty]).1 w43 := (CF.box (m := 5) (S44.box_at (j := 1) rfl) rfl)
      have hf73 : (LeadsS kSpot A0_0 m.spots).1 w43 := (l0_0.mono (St.le0 S44))
      have hf74 : (LeadsS (Kd.int .i64) A0_1 m.first).1 w43 := (l0_1.mono (St.le0 S44))
      have hf75 : (LeadsS (Kd.int .i64).slice A0_2 m.follow).1 w43 := (l0_2.mono (St.le0 S44))
      have hf76 : (LeadsS Kd.bool A0_3 m.last).1 w43 := (l0_3.mono (St.le0 S44))
      have hf77 : (LeadsS kSpot A1_0 other.spots).1 w43 := (l1_0.mono (St.le0 S44))
      have hf78 : (LeadsS (Kd.int .i64) A1_1 other.first).1 w43 := (l1_1.mono (St.le0 S44))
      have hf79 : (LeadsS (Kd.int .i64).slice A1_2 other.follow).1 w43 := (l1_2.mono (St.le0 S44))
      have hf80 : (LeadsS Kd.bool A1_3 other.last).1 w43 := (l1_3.mono (St.le0 S44))
      have hf81 : (CFs ⟨b1, 0, none⟩ [.slice A0_0 m.spots.length c0_0, .slice A0_1 m.first.length c0_1, .slice A0_2 m.follow.length c0_2, .slice A0_3 m.last.length c0_3, .bool m.empty]).1 w43 := (CF.box (m := 5) (S44.box_at (j := 0) rfl) rfl)
      have hf82 : (CFs ⟨b1, 0, none⟩ [.slice A0_0 m.spots.length c0_0, .slice A0_1 m.first.length c0_1, .slice A0_2 m.follow.length c0_2, .slice A0_3 m.last.length c0_3, .bool m.empty]).1 w43 := (CF.box (m := 5) (S44.box_at (j := 0) rfl) rfl)
      have hf83 : (LeadsS kSpot A0_0 m.spots).1 w43 := (l0_0.mono (St.le0 S44))
      have hf84 : (LeadsS (Kd.int .i64) A0_1 m.first).1 w43 := (l0_1.mono (St.le0 S44))
      have hf85 : (LeadsS (Kd.int .i64).slice A0_2 m.follow).1 w43 := (l0_2.mono (St.le0 S44))
      have hf86 : (LeadsS Kd.bool A0_3 m.last).1 w43 := (l0_3.mono (St.le0 S44))
      have hf87 : (LeadsS kSpot A0_0 m.spots).1 w43 := (l0_0.mono (St.le0 S44))
      have hf88 : (LeadsS (Kd.int .i64) A0_1 m.first).1 w43 := (l0_1.mono (St.le0 S44))
      have hf89 : (LeadsS (Kd.int .i64).slice A0_2 m.follow).1 w43 := (l0_2.mono (St.le0 S44))
      have hf90 : (LeadsS Kd.bool A0_3 m.last).1 w43 := (l0_3.mono (St.le0 S44))
      refine da_start [(0, CFs ⟨b1, 0, none⟩ [.slice A0_0 m.spots.length c0_0, .slice A0_1 m.first.length c0_1, .slice A0_2 m.follow.length c0_2, .slice A0_3 m.last.length c0_3, .bool m.empty]), (1, CFs ⟨b27, 0, none⟩ [.slice A19 m.spots.length c19, .slice A21 m.first.length c21, .slice A23 m.follow.length c23, .slice A25 m.last.length c25, .bool m.empty]), (2, LeadsS kSpot A0_0 m.spots), (2, LeadsS (Kd.int .i64) A0_1 m.first), (2, LeadsS (Kd.int .i64).slice A0_2 m.follow), (2, LeadsS Kd.bool A0_3 m.last), (2, LeadsS kSpot A19 m.spots), (2, LeadsS (Kd.int .i64) A21 m.first), (2, LeadsS (Kd.int .i64).slice A23 m.follow), (2, LeadsS Kd.bool A25 m.last), (5, CFs ⟨b1, 0, none⟩ [.slice A0_0 m.spots.length c0_0, .slice A0_1 m.first.length c0_1, .slice A0_2 m.follow.length c0_2, .slice A0_3 m.last.length c0_3, .bool m.empty]), (6, CFs ⟨b3, 0, none⟩ [.slice A1_0 other.spots.length c1_0, .slice A1_1 other.first.length c1_1, .slice A1_2 other.follow.length c1_2, .slice A1_3 other.last.length c1_3, .bool other.empty]), (7, LeadsS kSpot A0_0 m.spots), (7, LeadsS (Kd.int .i64) A0_1 m.first), (7, LeadsS (Kd.int .i64).slice A0_2 m.follow), (7, LeadsS Kd.bool A0_3 m.last), (7, LeadsS kSpot A1_0 other.spots), (7, LeadsS (Kd.int .i64) A1_1 other.first), (7, LeadsS (Kd.int .i64).slice A1_2 other.follow), (7, LeadsS Kd.bool A1_3 other.last), (8, CFs ⟨b1, 0, none⟩ [.slice A0_0 m.spots.length c0_0, .slice A0_1 m.first.length c0_1, .slice A0_2 m.follow.length c0_2, .slice A0_3 m.last.length c0_3, .bool m.empty]), (9, CFs ⟨b3, 0, none⟩ [.slice A1_0 other.spots.length c1_0, .slice A1_1 other.first.length c1_1, .slice A1_2 other.follow.length c1_2, .slice A1_3 other.last.length c1_3, .bool other.empty]), (10, LeadsS kSpot A0_0 m.spots), (10, LeadsS (Kd.int .i64) A0_1 m.first), (10, LeadsS (Kd.int .i64).slice A0_2 m.follow), (10, LeadsS Kd.bool A0_3 m.last), (10, LeadsS kSpot A1_0 other.spots), (10, LeadsS (Kd.int .i64) A1_1 other.first), (10, LeadsS (Kd.int .i64).slice A1_2 other.follow), (10, LeadsS Kd.bool A1_3 other.last), (14, CFs ⟨b1, 0, none⟩ [.slice A0_0 m.spots.length c0_0, .slice A0_1 m.first.length c0_1, .slice A0_2 m.follow.length c0_2, .slice A0_3 m.last.length c0_3, .bool m.empty]), (15, CFs ⟨b1, 0, none⟩ [.slice A0_0 m.spots.length c0_0, .slice A0_1 m.first.length c0_1, .slice A0_2 m.follow.length c0_2, .slice A0_3 m.last.length c0_3, .bool m.empty]), (16, LeadsS kSpot A0_0 m.spots), (16, LeadsS (Kd.int .i64) A0_1 m.first), (16, LeadsS (Kd.int .i64).slice A0_2 m.follow), (16, LeadsS Kd.bool A0_3 m.last), (16, LeadsS kSpot A0_0 m.spots), (16, LeadsS (Kd.int .i64) A0_1 m.first), (16, LeadsS (Kd.int .i64).slice A0_2 m.follow), (16, LeadsS Kd.bool A0_3 m.last)] 19 rfl mixed ?_
      intro wd91 gd91 hd91
      have S92 := S44.keep gd91
      have hf93 := (CFs ⟨b1, 0, none⟩ [.slice A0_0 m.spots.length c0_0, .slice A0_1 m.first.length c0_1, .slice A0_2 m.follow.length c0_2, .slice A0_3 m.last.length c0_3, .bool m.empty]).2 _ _ gd91 hf51
      have hf94 := (CFs ⟨b27, 0, none⟩ [.slice A19 m.spots.length c19, .slice A21 m.first.length c21, .slice A23 m.follow.length c23, .slice A25 m.last.length c25, .bool m.empty]).2 _ _ gd91 hf52
      have hf95 := (LeadsS kSpot A0_0 m.spots).2 _ _ gd91 hf53
      have hf96 := (LeadsS (Kd.int .i64) A0_1 m.first).2 _ _ gd91 hf54
      have hf97 := (LeadsS (Kd.int .i64).slice A0_2 m.follow).2 _ _ gd91 hf55
      have hf98 := (LeadsS Kd.bool A0_3 m.last).2 _ _ gd91 hf56
      have hf99 := (LeadsS kSpot A19 m.spots).2 _ _ gd91 hf57
      have hf100 := (LeadsS (Kd.int .i64) A21 m.first).2 _ _ gd91 hf58
      have hf101 := (LeadsS (Kd.int .i64).slice A23 m.follow).2 _ _ gd91 hf59
      have hf102 := (LeadsS Kd.bool A25 m.last).2 _ _ gd91 hf60
      have hf103 := (CFs ⟨b1, 0, none⟩ [.slice A0_0 m.spots.length c0_0, .slice A0_1 m.first.length c0_1, .slice A0_2 m.follow.length c0_2, .slice A0_3 m.last.length c0_3, .bool m.empty]).2 _ _ gd91 hf61
      have hf104 := (CFs ⟨b3, 0, none⟩ [.slice A1_0 other.spots.length c1_0, .slice A1_1 other.first.length c1_1, .slice A1_2 other.follow.length c1_2, .slice A1_3 other.last.length c1_3, .bool other.empty]).2 _ _ gd91 hf62
      have hf105 := (LeadsS kSpot A0_0 m.spots).2 _ _ gd91 hf63
      have hf106 := (LeadsS (Kd.int .i64) A0_1 m.first).2 _ _ gd91 hf64
      have hf107 := (LeadsS (Kd.int .i64).slice A0_2 m.follow).2 _ _ gd91 hf65
      have hf108 := (LeadsS Kd.bool A0_3 m.last).2 _ _ gd91 hf66
      have hf109 := (LeadsS kSpot A1_0 other.spots).2 _ _ gd91 hf67
      have hf110 := (LeadsS (Kd.int .i64) A1_1 other.first).2 _ _ gd91 hf68
      have hf111 := (LeadsS (Kd.int .i64).slice A1_2 other.follow).2 _ _ gd91 hf69
      have hf112 := (LeadsS Kd.bool A1_3 other.last).2 _ _ gd91 hf70
      have hf113 := (CFs ⟨b1, 0, none⟩ [.slice A0_0 m.spots.length c0_0, .slice A0_1 m.first.length c0_1, .slice A0_2 m.follow.length c0_2, .slice A0_3 m.last.length c0_3, .bool m.empty]).2 _ _ gd91 hf71
      have hf114 := (CFs ⟨b3, 0, none⟩ [.slice A1_0 other.spots.length c1_0, .slice A1_1 other.first.length c1_1, .slice A1_2 other.follow.length c1_2, .slice A1_3 other.last.length c1_3, .bool other.empty]).2 _ _ gd91 hf72
      have hf115 := (LeadsS kSpot A0_0 m.spots).2 _ _ gd91 hf73
      have hf116 := (LeadsS (Kd.int .i64) A0_1 m.first).2 _ _ gd91 hf74
      have hf117 := (LeadsS (Kd.int .i64).slice A0_2 m.follow).2 _ _ gd91 hf75
      have hf118 := (LeadsS Kd.bool A0_3 m.last).2 _ _ gd91 hf76
      have hf119 := (LeadsS kSpot A1_0 other.spots).2 _ _ gd91 hf77
      have hf120 := (LeadsS (Kd.int .i64) A1_1 other.first).2 _ _ gd91 hf78
      have hf121 := (LeadsS (Kd.int .i64).slice A1_2 other.follow).2 _ _ gd91 hf79
      have hf122 := (LeadsS Kd.bool A1_3 other.last).2 _ _ gd91 hf80
      have hf123 := (CFs ⟨b1, 0, none⟩ [.slice A0_0 m.spots.length c0_0, .slice A0_1 m.first.length c0_1, .slice A0_2 m.follow.length c0_2, .slice A0_3 m.last.length c0_3, .bool m.empty]).2 _ _ gd91 hf81
      have hf124 := (CFs ⟨b1, 0, none⟩ [.slice A0_0 m.spots.length c0_0, .slice A0_1 m.first.length c0_1, .slice A0_2 m.follow.length c0_2, .slice A0_3 m.last.length c0_3, .bool m.empty]).2 _ _ gd91 hf82
      have hf125 := (LeadsS kSpot A0_0 m.spots).2 _ _ gd91 hf83
      have hf126 := (LeadsS (Kd.int .i64) A0_1 m.first).2 _ _ gd91 hf84
      have hf127 := (LeadsS (Kd.int .i64).slice A0_2 m.follow).2 _ _ gd91 hf85
      have hf128 := (LeadsS Kd.bool A0_3 m.last).2 _ _ gd91 hf86
      have hf129 := (LeadsS kSpot A0_0 m.spots).2 _ _ gd91 hf87
      have hf130 := (LeadsS (Kd.int .i64) A0_1 m.first).2 _ _ gd91 hf88
      have hf131 := (LeadsS (Kd.int .i64).slice A0_2 m.follow).2 _ _ gd91 hf89
      have hf132 := (LeadsS Kd.bool A0_3 m.last).2 _ _ gd91 hf90
      refine d_q (i := 0) (v := .agg #[.slice A0_0 m.spots.length c0_0, .slice A0_1 m.first.length c0_1, .slice A0_2 m.follow.length c0_2, .slice A0_3 m.last.length c0_3, .bool m.empty]) (CF ⟨b1, 0, none⟩ [.slice A0_0 m.spots.length c0_0, .slice A0_1 m.first.length c0_1, .slice A0_2 m.follow.length c0_2, .slice A0_3 m.last.length c0_3, .bool m.empty]) (fun _ ho => ho _ (List.mem_of_getElem? (i := 0) rfl) rfl) rfl (by decide +kernel) (by decide +kernel) (by decide +kernel) rfl rfl (fun wq hq => (x_load (seg := [.slice A0_0 m.spots.length c0_0, .slice A0_1 m.first.length c0_1, .slice A0_2 m.follow.length c0_2, .slice A0_3 m.last.length c0_3, .bool m.empty]) ty27 rfl (by simp) rfl hq)) (of_eq hf93 (of_ne rfl (of_ne rfl (of_ne rfl (of_ne rfl (of_ne rfl (of_ne rfl (of_ne rfl (of_ne rfl (of_ne rfl (of_ne rfl (of_ne rfl (of_ne rfl (of_ne rfl (of_ne rfl (of_ne rfl (of_ne rfl (of_ne rfl (of_ne rfl (of_ne rfl (of_ne rfl (of_ne rfl (of_ne rfl (of_ne rfl (of_ne rfl (of_ne rfl (of_ne rfl (of_ne rfl (of_ne rfl (of_ne rfl (of_ne rfl (of_ne rfl (of_ne rfl (of_ne rfl (of_ne rfl (of_ne rfl (of_ne rfl (of_ne rfl (of_ne rfl (of_ne rfl (of_nil _ _))))))))))))))))))))))))))))))))))))))))) ?_
      refine d_q (i := 1) (v := .agg #[.slice A19 m.spots.length c19, .slice A21 m.first.length c21, .slice A23 m.follow.length c23, .slice A25 m.last.length c25, .bool m.empty]) (CF ⟨b27, 0, none⟩ [.slice A19 m.spots.length c19, .slice A21 m.first.length c21, .slice A23 m.follow.length c23, .slice A25 m.last.length c25, .bool m.empty]) (fun _ ho => ho _ (List.mem_of_getElem? (i := 1) rfl) rfl) rfl (by decide +kernel) (by decide +kernel) (by decide +kernel) rfl rfl (fun wq hq => (x_load (seg := [.slice A19 m.spots.length c19, .slice A21 m.first.length c21, .slice A23 m.follow.length c23, .slice A25 m.last.length c25, .bool m.empty]) ty27 rfl (by simp) rfl hq)) (of_ne rfl (of_eq hf94 (of_ne rfl (of_ne rfl (of_ne rfl (of_ne rfl (of_ne rfl (of_ne rfl (of_ne rfl (of_ne rfl (of_ne rfl (of_ne rfl (of_ne rfl (of_ne rfl (of_ne rfl (of_ne rfl (of_ne rfl (of_ne rfl (of_ne rfl (of_ne rfl (of_ne rfl (of_ne rfl (of_ne rfl (of_ne rfl (of_ne rfl (of_ne rfl (of_ne rfl (of_ne rfl (of_ne rfl (of_ne rfl (of_ne rfl (of_ne rfl (of_ne rfl (of_ne rfl (of_ne rfl (of_ne rfl (of_ne rfl (of_ne rfl (of_ne rfl (of_ne rfl (of_nil _ _))))))))))))))))))))))))))))))))))))))))) ?_
      refine d_m (i := 2) (v := .bool (decide (m = m))) (fun wf => Leads kSpot (hp wf) A0_0 m.spots ∧ Leads (Kd.int .i64) (hp wf) A0_1 m.first ∧ Leads (Kd.int .i64).slice (hp wf) A0_2 m.follow ∧ Leads Kd.bool (hp wf) A0_3 m.last ∧ Leads kSpot (hp wf) A19 m.spots ∧ Leads (Kd.int .i64) (hp wf) A21 m.first ∧ Leads (Kd.int .i64).slice (hp wf) A23 m.follow ∧ Leads Kd.bool (hp wf) A25 m.last) (fun _ ho => ⟨ho _ (List.mem_of_getElem? (i := 2) rfl) rfl, ho _ (List.mem_of_getElem? (i := 3) rfl) rfl, ho _ (List.mem_of_getElem? (i := 4) rfl) rfl, ho _ (List.mem_of_getElem? (i := 5) rfl) rfl, ho _ (List.mem_of_getElem? (i := 6) rfl) rfl, ho _ (List.mem_of_getElem? (i := 7) rfl) rfl, ho _ (List.mem_of_getElem? (i := 8) rfl) rfl, ho _ (List.mem_of_getElem? (i := 9) rfl) rfl⟩) rfl (by decide +kernel) (by decide +kernel) (by decide +kernel) rfl rfl (fun wq => (y_call (args := [.agg #[.slice A0_0 m.spots.length c0_0, .slice A0_1 m.first.length c0_1, .slice A0_2 m.follow.length c0_2, .slice A0_3 m.last.length c0_3, .bool m.empty], .agg #[.slice A19 m.spots.length c19, .slice A21 m.first.length c21, .slice A23 m.follow.length c23, .slice A25 m.last.length c25, .bool m.empty]]) ca15 rfl rfl)) (fun wq hq => (same10_calls wq m A0_0 c0_0 b0_0 hq.1 A0_1 c0_1 b0_1 hq.2.1 A0_2 c0_2 b0_2 hq.2.2.1 A0_3 c0_3 b0_3 hq.2.2.2.1 m A19 c19 (And.intro lc19 cm19) hq.2.2.2.2.1 A21 c21 (And.intro lc21 cm21) hq.2.2.2.2.2.1 A23 c23 (And.intro lc23 cm23) hq.2.2.2.2.2.2.1 A25 c25 (And.intro lc25 cm25) hq.2.2.2.2.2.2.2).mono fun e w2 he => by obtain ⟨_, rfl, _, T, rfl⟩ := he; exact ⟨rfl, Chg.of_below T.below⟩) (of_ne rfl (of_ne rfl (of_eq hf95 (of_eq hf96 (of_eq hf97 (of_eq hf98 (of_eq hf99 (of_eq hf100 (of_eq hf101 (of_eq hf102 (of_ne rfl (of_ne rfl (of_ne rfl (of_ne rfl (of_ne rfl (of_ne rfl (of_ne rfl (of_ne rfl (of_ne rfl (of_ne rfl (of_ne rfl (of_ne rfl (of_ne rfl (of_ne rfl (of_ne rfl (of_ne rfl (of_ne rfl (of_ne rfl (of_ne rfl (of_ne rfl (of_ne rfl (of_ne rfl (of_ne rfl (of_ne rfl (of_ne rfl (of_ne rfl (of_ne rfl (of_ne rfl (of_ne rfl (of_ne rfl (of_nil _ _))))))))))))))))))))))))))))))))))))))))) ?_
      refine d_q (i := 3) (v := .bool (!(decide (m = m)))) (fun _ => True) (fun _ ho => trivial) rfl (by decide +kernel) (by decide +kernel) (by decide +kernel) rfl rfl (fun wq hq => (x_not rfl)) (of_ne rfl (of_ne rfl (of_ne rfl (of_ne rfl (of_ne rfl (of_ne rfl (of_ne rfl (of_ne rfl (of_ne rfl (of_ne rfl (of_ne rfl (of_ne rfl (of_ne rfl (of_ne rfl (of_ne rfl (of_ne rfl (of_ne rfl (of_ne rfl (of_ne rfl (of_ne rfl (of_ne rfl (of_ne rfl (of_ne rfl (of_ne rfl (of_ne rfl (of_ne rfl (of_ne rfl (of_ne rfl (of_ne rfl (of_ne rfl (of_ne rfl (of_ne rfl (of_ne rfl (of_ne rfl (of_ne rfl (of_ne rfl (of_ne rfl (of_ne rfl (of_ne rfl (of_ne rfl (of_nil _ _))))))))))))))))))))))))))))))))))))))))) ?_
      refine d_q (i := 4) (v := .bool (!(decide (m = m)))) (fun _ => True) (fun _ ho => trivial) rfl (by decide +kernel) (by decide +kernel) (by decide +kernel) rfl rfl (fun wq hq => (x_move rfl)) (of_ne rfl (of_ne rfl (of_ne rfl (of_ne rfl (of_ne rfl (of_ne rfl (of_ne rfl (of_ne rfl (of_ne rfl (of_ne rfl (of_ne rfl (of_ne rfl (of_ne rfl (of_ne rfl (of_ne rfl (of_ne rfl (of_ne rfl (of_ne rfl (of_ne rfl (of_ne rfl (of_ne rfl (of_ne rfl (of_ne rfl (of_ne rfl (of_ne rfl (of_ne rfl (of_ne rfl (of_ne rfl (of_ne rfl (of_ne rfl (of_ne rfl (of_ne rfl (of_ne rfl (of_ne rfl (of_ne rfl (of_ne rfl (of_ne rfl (of_ne rfl (of_ne rfl (of_ne rfl (of_nil _ _))))))))))))))))))))))))))))))))))))))))) ?_
      refine d_q (i := 5) (v := .agg #[.slice A0_0 m.spots.length c0_0, .slice A0_1 m.first.length c0_1, .slice A0_2 m.follow.length c0_2, .slice A0_3 m.last.length c0_3, .bool m.empty]) (CF ⟨b1, 0, none⟩ [.slice A0_0 m.spots.length c0_0, .slice A0_1 m.first.length c0_1, .slice A0_2 m.follow.length c0_2, .slice A0_3 m.last.length c0_3, .bool m.empty]) (fun _ ho => ho _ (List.mem_of_getElem? (i := 10) rfl) rfl) rfl (by decide +kernel) (by decide +kernel) (by decide +kernel) (wanted_of (j := 4) (want := false) (d := 26) (b := false) rfl rfl (congrArg (fun z => Value.bool (!z)) hc46) rfl) rfl (fun wq hq => (x_load (seg := [.slice A0_0 m.spots.length c0_0, .slice A0_1 m.first.length c0_1, .slice A0_2 m.follow.length c0_2, .slice A0_3 m.last.length c0_3, .bool m.empty]) ty27 rfl (by simp) rfl hq)) (of_ne rfl (of_ne rfl (of_ne rfl (of_ne rfl (of_ne rfl (of_ne rfl (of_ne rfl (of_ne rfl (of_ne rfl (of_ne rfl (of_eq hf103 (of_ne rfl (of_ne rfl (of_ne rfl (of_ne rfl (of_ne rfl (of_ne rfl (of_ne rfl (of_ne rfl (of_ne rfl (of_ne rfl (of_ne rfl (of_ne rfl (of_ne rfl (of_ne rfl (of_ne rfl (of_ne rfl (of_ne rfl (of_ne rfl (of_ne rfl (of_ne rfl (of_ne rfl (of_ne rfl (of_ne rfl (of_ne rfl (of_ne rfl (of_ne rfl (of_ne rfl (of_ne rfl (of_ne rfl (of_nil _ _))))))))))))))))))))))))))))))))))))))))) ?_
      refine d_q (i := 6) (v := .agg #[.slice A1_0 other.spots.length c1_0, .slice A1_1 other.first.length c1_1, .slice A1_2 other.follow.length c1_2, .slice A1_3 other.last.length c1_3, .bool other.empty]) (CF ⟨b3, 0, none⟩ [.slice A1_0 other.spots.length c1_0, .slice A1_1 other.first.length c1_1, .slice A1_2 other.follow.length c1_2, .slice A1_3 other.last.length c1_3, .bool other.empty]) (fun _ ho => ho _ (List.mem_of_getElem? (i := 11) rfl) rfl) rfl (by decide +kernel) (by decide +kernel) (by decide +kernel) (wanted_of (j := 4) (want := false) (d := 26) (b := false) rfl rfl (congrArg (fun z => Value.bool (!z)) hc46) rfl) rfl (fun wq hq => (x_load (seg := [.slice A1_0 other.spots.length c1_0, .slice A1_1 other.first.length c1_1, .slice A1_2 other.follow.length c1_2, .slice A1_3 other.last.length c1_3, .bool other.empty]) ty27 rfl (by simp) rfl hq)) (of_ne rfl (of_ne rfl (of_ne rfl (of_ne rfl (of_ne rfl (of_ne rfl (of_ne rfl (of_ne rfl (of_ne rfl (of_ne rfl (of_ne rfl (of_eq hf104 (of_ne rfl (of_ne rfl (of_ne rfl (of_ne rfl (of_ne rfl (of_ne rfl (of_ne rfl (of_ne rfl (of_ne rfl (of_ne rfl (of_ne rfl (of_ne rfl (of_ne rfl (of_ne rfl (of_ne rfl (of_ne rfl (of_ne rfl (of_ne rfl (of_ne rfl (of_ne rfl (of_ne rfl (of_ne rfl (of_ne rfl (of_ne rfl (of_ne rfl (of_ne rfl (of_ne rfl (of_ne rfl (of_nil _ _))))))))))))))))))))))))))))))))))))))))) ?_
      refine d_m (i := 7) (v := .bool (decide (m = other))) (fun wf => Leads kSpot (hp wf) A0_0 m.spots ∧ Leads (Kd.int .i64) (hp wf) A0_1 m.first ∧ Leads (Kd.int .i64).slice (hp wf) A0_2 m.follow ∧ Leads Kd.bool (hp wf) A0_3 m.last ∧ Leads kSpot (hp wf) A1_0 other.spots ∧ Leads (Kd.int .i64) (hp wf) A1_1 other.first ∧ Leads (Kd.int .i64).slice (hp wf) A1_2 other.follow ∧ Leads Kd.bool (hp wf) A1_3 other.last) (fun _ ho => ⟨ho _ (List.mem_of_getElem? (i := 12) rfl) rfl, ho _ (List.mem_of_getElem? (i := 13) rfl) rfl, ho _ (List.mem_of_getElem? (i := 14) rfl) rfl, ho _ (List.mem_of_getElem? (i := 15) rfl) rfl, ho _ (List.mem_of_getElem? (i := 16) rfl) rfl, ho _ (List.mem_of_getElem? (i := 17) rfl) rfl, ho _ (List.mem_of_getElem? (i := 18) rfl) rfl, ho _ (List.mem_of_getElem? (i := 19) rfl) rfl⟩) rfl (by decide +kernel) (by decide +kernel) (by decide +kernel) (wanted_of (j := 4) (want := false) (d := 26) (b := false) rfl rfl (congrArg (fun z => Value.bool (!z)) hc46) rfl) rfl (fun wq => (y_call (args := [.agg #[.slice A0_0 m.spots.length c0_0, .slice A0_1 m.first.length c0_1, .slice A0_2 m.follow.length c0_2, .slice A0_3 m.last.length c0_3, .bool m.empty], .agg #[.slice A1_0 other.spots.length c1_0, .slice A1_1 other.first.length c1_1, .slice A1_2 other.follow.length c1_2, .slice A1_3 other.last.length c1_3, .bool other.empty]]) ca19 rfl rfl)) (fun wq hq => (sameN_calls wq m A0_0 c0_0 b0_0 hq.1 A0_1 c0_1 b0_1 hq.2.1 A0_2 c0_2 b0_2 hq.2.2.1 A0_3 c0_3 b0_3 hq.2.2.2.1 other A1_0 c1_0 b1_0 hq.2.2.2.2.1 A1_1 c1_1 b1_1 hq.2.2.2.2.2.1 A1_2 c1_2 b1_2 hq.2.2.2.2.2.2.1 A1_3 c1_3 b1_3 hq.2.2.2.2.2.2.2).mono fun e w2 he => by obtain ⟨_, rfl, _, T, rfl⟩ := he; exact ⟨rfl, Chg.of_below T.below⟩) (of_ne rfl (of_ne rfl (of_ne rfl (of_ne rfl (of_ne rfl (of_ne rfl (of_ne rfl (of_ne rfl (of_ne rfl (of_ne rfl (of_ne rfl (of_ne rfl (of_eq hf105 (of_eq hf106 (of_eq hf107 (of_eq hf108 (of_eq hf109 (of_eq hf110 (of_eq hf111 (of_eq hf112 (of_ne rfl (of_ne rfl (of_ne rfl (of_ne rfl (of_ne rfl (of_ne rfl (of_ne rfl (of_ne rfl (of_ne rfl (of_ne rfl (of_ne rfl (of_ne rfl (of_ne rfl (of_ne rfl (of_ne rfl (of_ne rfl (of_ne rfl (of_ne rfl (of_ne rfl (of_ne rfl (of_nil _ _))))))))))))))))))))))))))))))))))))))))) ?_
      refine d_q (i := 8) (v := .agg #[.slice A0_0 m.spots.length c0_0, .slice A0_1 m.first.length c0_1, .slice A0_2 m.follow.length c0_2, .slice A0_3 m.last.length c0_3, .bool m.empty]) (CF ⟨b1, 0, none⟩ [.slice A0_0 m.spots.length c0_0, .slice A0_1 m.first.length c0_1, .slice A0_2 m.follow.length c0_2, .slice A0_3 m.last.length c0_3, .bool m.empty]) (fun _ ho => ho _ (List.mem_of_getElem? (i := 20) rfl) rfl) rfl (by decide +kernel) (by decide +kernel) (by decide +kernel) (wanted_of (j := 4) (want := false) (d := 26) (b := false) rfl rfl (congrArg (fun z => Value.bool (!z)) hc46) rfl) rfl (fun wq hq => (x_load (seg := [.slice A0_0 m.spots.length c0_0, .slice A0_1 m.first.length c0_1, .slice A0_2 m.follow.length c0_2, .slice A0_3 m.last.length c0_3, .bool m.empty]) ty27 rfl (by simp) rfl hq)) (of_ne rfl (of_ne rfl (of_ne rfl (of_ne rfl (of_ne rfl (of_ne rfl (of_ne rfl (of_ne rfl (of_ne rfl (of_ne rfl (of_ne rfl (of_ne rfl (of_ne rfl (of_ne rfl (of_ne rfl (of_ne rfl (of_ne rfl (of_ne rfl (of_ne rfl (of_ne rfl (of_eq hf113 (of_ne rfl (of_ne rfl (of_ne rfl (of_ne rfl (of_ne rfl (of_ne rfl (of_ne rfl (of_ne rfl (of_ne rfl (of_ne rfl (of_ne rfl (of_ne rfl (of_ne rfl (of_ne rfl (of_ne rfl (of_ne rfl (of_ne rfl (of_ne rfl (of_ne rfl (of_nil _ _))))))))))))))))))))))))))))))))))))))))) ?_
      refine d_q (i := 9) (v := .agg #[.slice A1_0 other.spots.length c1_0, .slice A1_1 other.first.length c1_1, .slice A1_2 other.follow.length c1_2, .slice A1_3 other.last.length c1_3, .bool other.empty]) (CF ⟨b3, 0, none⟩ [.slice A1_0 other.spots.length c1_0, .slice A1_1 other.first.length c1_1, .slice A1_2 other.follow.length c1_2, .slice A1_3 other.last.length c1_3, .bool other.empty]) (fun _ ho => ho _ (List.mem_of_getElem? (i := 21) rfl) rfl) rfl (by decide +kernel) (by decide +kernel) (by decide +kernel) (wanted_of (j := 4) (want := false) (d := 26) (b := false) rfl rfl (congrArg (fun z => Value.bool (!z)) hc46) rfl) rfl (fun wq hq => (x_load (seg := [.slice A1_0 other.spots.length c1_0, .slice A1_1 other.first.length c1_1, .slice A1_2 other.follow.length c1_2, .slice A1_3 other.last.length c1_3, .bool other.empty]) ty27 rfl (by simp) rfl hq)) (of_ne rfl (of_ne rfl (of_ne rfl (of_ne rfl (of_ne rfl (of_ne rfl (of_ne rfl (of_ne rfl (of_ne rfl (of_ne rfl (of_ne rfl (of_ne rfl (of_ne rfl (of_ne rfl (of_ne rfl (of_ne rfl (of_ne rfl (of_ne rfl (of_ne rfl (of_ne rfl (of_ne rfl (of_eq hf114 (of_ne rfl (of_ne rfl (of_ne rfl (of_ne rfl (of_ne rfl (of_ne rfl (of_ne rfl (of_ne rfl (of_ne rfl (of_ne rfl (of_ne rfl (of_ne rfl (of_ne rfl (of_ne rfl (of_ne rfl (of_ne rfl (of_ne rfl (of_ne rfl (of_nil _ _))))))))))))))))))))))))))))))))))))))))) ?_
      refine d_m (i := 10) (v := .bool (decide (m = other))) (fun wf => Leads kSpot (hp wf) A0_0 m.spots ∧ Leads (Kd.int .i64) (hp wf) A0_1 m.first ∧ Leads (Kd.int .i64).slice (hp wf) A0_2 m.follow ∧ Leads Kd.bool (hp wf) A0_3 m.last ∧ Leads kSpot (hp wf) A1_0 other.spots ∧ Leads (Kd.int .i64) (hp wf) A1_1 other.first ∧ Leads (Kd.int .i64).slice (hp wf) A1_2 other.follow ∧ Leads Kd.bool (hp wf) A1_3 other.last) (fun _ ho => ⟨ho _ (List.mem_of_getElem? (i := 22) rfl) rfl, ho _ (List.mem_of_getElem? (i := 23) rfl) rfl, ho _ (List.mem_of_getElem? (i := 24) rfl) rfl, ho _ (List.mem_of_getElem? (i := 25) rfl) rfl, ho _ (List.mem_of_getElem? (i := 26) rfl) rfl, ho _ (List.mem_of_getElem? (i := 27) rfl) rfl, ho _ (List.mem_of_getElem? (i := 28) rfl) rfl, ho _ (List.mem_of_getElem? (i := 29) rfl) rfl⟩) rfl (by decide +kernel) (by decide +kernel) (by decide +kernel) (wanted_of (j := 4) (want := false) (d := 26) (b := false) rfl rfl (congrArg (fun z => Value.bool (!z)) hc46) rfl) rfl (fun wq => (y_call (args := [.agg #[.slice A0_0 m.spots.length c0_0, .slice A0_1 m.first.length c0_1, .slice A0_2 m.follow.length c0_2, .slice A0_3 m.last.length c0_3, .bool m.empty], .agg #[.slice A1_0 other.spots.length c1_0, .slice A1_1 other.first.length c1_1, .slice A1_2 other.follow.length c1_2, .slice A1_3 other.last.length c1_3, .bool other.empty]]) ca15 rfl rfl)) (fun wq hq => (same10_calls wq m A0_0 c0_0 b0_0 hq.1 A0_1 c0_1 b0_1 hq.2.1 A0_2 c0_2 b0_2 hq.2.2.1 A0_3 c0_3 b0_3 hq.2.2.2.1 other A1_0 c1_0 b1_0 hq.2.2.2.2.1 A1_1 c1_1 b1_1 hq.2.2.2.2.2.1 A1_2 c1_2 b1_2 hq.2.2.2.2.2.2.1 A1_3 c1_3 b1_3 hq.2.2.2.2.2.2.2).mono fun e w2 he => by obtain ⟨_, rfl, _, T, rfl⟩ := he; exact ⟨rfl, Chg.of_below T.below⟩) (of_ne rfl (of_ne rfl (of_ne rfl (of_ne rfl (of_ne rfl (of_ne rfl (of_ne rfl (of_ne rfl (of_ne rfl (of_ne rfl (of_ne rfl (of_ne rfl (of_ne rfl (of_ne rfl (of_ne rfl (of_ne rfl (of_ne rfl (of_ne rfl (of_ne rfl (of_ne rfl (of_ne rfl (of_ne rfl (of_eq hf115 (of_eq hf116 (of_eq hf117 (of_eq hf118 (of_eq hf119 (of_eq hf120 (of_eq hf121 (of_eq hf122 (of_ne rfl (of_ne rfl (of_ne rfl (of_ne rfl (of_ne rfl (of_ne rfl (of_ne rfl (of_ne rfl (of_ne rfl (of_ne rfl (of_nil _ _))))))))))))))))))))))))))))))))))))))))) ?_
      refine d_q (i := 11) (v := .bool (decide ((decide (m = other)) ≠ (decide (m = other))))) (fun _ => True) (fun _ ho => trivial) rfl (by decide +kernel) (by decide +kernel) (by decide +kernel) (wanted_of (j := 4) (want := false) (d := 26) (b := false) rfl rfl (congrArg (fun z => Value.bool (!z)) hc46) rfl) rfl (fun wq hq => (x_neq_bool u4 rfl rfl)) (of_ne rfl (of_ne rfl (of_ne rfl (of_ne rfl (of_ne rfl (of_ne rfl (of_ne rfl (of_ne rfl (of_ne rfl (of_ne rfl (of_ne rfl (of_ne rfl (of_ne rfl (of_ne rfl (of_ne rfl (of_ne rfl (of_ne rfl (of_ne rfl (of_ne rfl (of_ne rfl (of_ne rfl (of_ne rfl (of_ne rfl (of_ne rfl (of_ne rfl (of_ne rfl (of_ne rfl (of_ne rfl (of_ne rfl (of_ne rfl (of_ne rfl (of_ne rfl (of_ne rfl (of_ne rfl (of_ne rfl (of_ne rfl (of_ne rfl (of_ne rfl (of_ne rfl (of_ne rfl (of_nil _ _))))))))))))))))))))))))))))))))))))))))) ?_
      refine d_q (i := 12) (v := .bool (decide ((decide (m = other)) ≠ (decide (m = other))))) (fun _ => True) (fun _ ho => trivial) rfl (by decide +kernel) (by decide +kernel) (by decide +kernel) rfl rfl (fun wq hq => (x_pick_f (congrArg (fun z => Value.bool (!z)) hc46) rfl)) (of_ne rfl (of_ne rfl (of_ne rfl (of_ne rfl (of_ne rfl (of_ne rfl (of_ne rfl (of_ne rfl (of_ne rfl (of_ne rfl (of_ne rfl (of_ne rfl (of_ne rfl (of_ne rfl (of_ne rfl (of_ne rfl (of_ne rfl (of_ne rfl (of_ne rfl (of_ne rfl (of_ne rfl (of_ne rfl (of_ne rfl (of_ne rfl (of_ne rfl (of_ne rfl (of_ne rfl (of_ne rfl (of_ne rfl (of_ne rfl (of_ne rfl (of_ne rfl (of_ne rfl (of_ne rfl (of_ne rfl (of_ne rfl (of_ne rfl (of_ne rfl (of_ne rfl (of_ne rfl (of_nil _ _))))))))))))))))))))))))))))))))))))))))) ?_
      refine d_q (i := 13) (v := .bool (decide ((decide (m = other)) ≠ (decide (m = other))))) (fun _ => True) (fun _ ho => trivial) rfl (by decide +kernel) (by decide +kernel) (by decide +kernel) rfl rfl (fun wq hq => (x_move rfl)) (of_ne rfl (of_ne rfl (of_ne rfl (of_ne rfl (of_ne rfl (of_ne rfl (of_ne rfl (of_ne rfl (of_ne rfl (of_ne rfl (of_ne rfl (of_ne rfl (of_ne rfl (of_ne rfl (of_ne rfl (of_ne rfl (of_ne rfl (of_ne rfl (of_ne rfl (of_ne rfl (of_ne rfl (of_ne rfl (of_ne rfl (of_ne rfl (of_ne rfl (of_ne rfl (of_ne rfl (of_ne rfl (of_ne rfl (of_ne rfl (of_ne rfl (of_ne rfl (of_ne rfl (of_ne rfl (of_ne rfl (of_ne rfl (of_ne rfl (of_ne rfl (of_ne rfl (of_ne rfl (of_nil _ _))))))))))))))))))))))))))))))))))))))))) ?_
      refine d_q (i := 14) (v := .agg #[.slice A0_0 m.spots.length c0_0, .slice A0_1 m.first.length c0_1, .slice A0_2 m.follow.length c0_2, .slice A0_3 m.last.length c0_3, .bool m.empty]) (CF ⟨b1, 0, none⟩ [.slice A0_0 m.spots.length c0_0, .slice A0_1 m.first.length c0_1, .slice A0_2 m.follow.length c0_2, .slice A0_3 m.last.length c0_3, .bool m.empty]) (fun _ ho => ho _ (List.mem_of_getElem? (i := 30) rfl) rfl) rfl (by decide +kernel) (by decide +kernel) (by decide +kernel) (wanted_of (j := 13) (want := false) (d := 35) (b := false) rfl rfl (congrArg Value.bool (decide_eq_false hc49)) rfl) rfl (fun wq hq => (x_load (seg := [.slice A0_0 m.spots.length c0_0, .slice A0_1 m.first.length c0_1, .slice A0_2 m.follow.length c0_2, .slice A0_3 m.last.length c0_3, .bool m.empty]) ty27 rfl (by simp) rfl hq)) (of_ne rfl (of_ne rfl (of_ne rfl (of_ne rfl (of_ne rfl (of_ne rfl (of_ne rfl (of_ne rfl (of_ne rfl (of_ne rfl (of_ne rfl (of_ne rfl (of_ne rfl (of_ne rfl (of_ne rfl (of_ne rfl (of_ne rfl (of_ne rfl (of_ne rfl (of_ne rfl (of_ne rfl (of_ne rfl (of_ne rfl (of_ne rfl (of_ne rfl (of_ne rfl (of_ne rfl (of_ne rfl (of_ne rfl (of_ne rfl (of_eq hf123 (of_ne rfl (of_ne rfl (of_ne rfl (of_ne rfl (of_ne rfl (of_ne rfl (of_ne rfl (of_ne rfl (of_ne rfl (of_nil _ _))))))))))))))))))))))))))))))))))))))))) ?_
      refine d_q (i := 15) (v := .agg #[.slice A0_0 m.spots.length c0_0, .slice A0_1 m.first.length c0_1, .slice A0_2 m.follow.length c0_2, .slice A0_3 m.last.length c0_3, .bool m.empty]) (CF ⟨b1, 0, none⟩ [.slice A0_0 m.spots.length c0_0, .slice A0_1 m.first.length c0_1, .slice A0_2 m.follow.length c0_2, .slice A0_3 m.last.length c0_3, .bool m.empty]) (fun _ ho => ho _ (List.mem_of_getElem? (i := 31) rfl) rfl) rfl (by decide +kernel) (by decide +kernel) (by decide +kernel) (wanted_of (j := 13) (want := false) (d := 35) (b := false) rfl rfl (congrArg Value.bool (decide_eq_false hc49)) rfl) rfl (fun wq hq => (x_load (seg := [.slice A0_0 m.spots.length c0_0, .slice A0_1 m.first.length c0_1, .slice A0_2 m.follow.length c0_2, .slice A0_3 m.last.length c0_3, .bool m.empty]) ty27 rfl (by simp) rfl hq)) (of_ne rfl (of_ne rfl (of_ne rfl (of_ne rfl (of_ne rfl (of_ne rfl (of_ne rfl (of_ne rfl (of_ne rfl (of_ne rfl (of_ne rfl (of_ne rfl (of_ne rfl (of_ne rfl (of_ne rfl (of_ne rfl (of_ne rfl (of_ne rfl (of_ne rfl (of_ne rfl (of_ne rfl (of_ne rfl (of_ne rfl (of_ne rfl (of_ne rfl (of_ne rfl (of_ne rfl (of_ne rfl (of_ne rfl (of_ne rfl (of_ne rfl (of_eq hf124 (of_ne rfl (of_ne rfl (of_ne rfl (of_ne rfl (of_ne rfl (of_ne rfl (of_ne rfl (of_ne rfl (of_nil _ _))))))))))))))))))))))))))))))))))))))))) ?_
      refine d_m (i := 16) (v := .bool (decide (m = m))) (fun wf => Leads kSpot (hp wf) A0_0 m.spots ∧ Leads (Kd.int .i64) (hp wf) A0_1 m.first ∧ Leads (Kd.int .i64).slice (hp wf) A0_2 m.follow ∧ Leads Kd.bool (hp wf) A0_3 m.last ∧ Leads kSpot (hp wf) A0_0 m.spots ∧ Leads (Kd.int .i64) (hp wf) A0_1 m.first ∧ Leads (Kd.int .i64).slice (hp wf) A0_2 m.follow ∧ Leads Kd.bool (hp wf) A0_3 m.last) (fun _ ho => ⟨ho _ (List.mem_of_getElem? (i := 32) rfl) rfl, ho _ (List.mem_of_getElem? (i := 33) rfl) rfl, ho _ (List.mem_of_getElem? (i := 34) rfl) rfl, ho _ (List.mem_of_getElem? (i := 35) rfl) rfl, ho _ (List.mem_of_getElem? (i := 36) rfl) rfl, ho _ (List.mem_of_getElem? (i := 37) rfl) rfl, ho _ (List.mem_of_getElem? (i := 38) rfl) rfl, ho _ (List.mem_of_getElem? (i := 39) rfl) rfl⟩) rfl (by decide +kernel) (by decide +kernel) (by decide +kernel) (wanted_of (j := 13) (want := false) (d := 35) (b := false) rfl rfl (congrArg Value.bool (decide_eq_false hc49)) rfl) rfl (fun wq => (y_call (args := [.agg #[.slice A0_0 m.spots.length c0_0, .slice A0_1 m.first.length c0_1, .slice A0_2 m.follow.length c0_2, .slice A0_3 m.last.length c0_3, .bool m.empty], .agg #[.slice A0_0 m.spots.length c0_0, .slice A0_1 m.first.length c0_1, .slice A0_2 m.follow.length c0_2, .slice A0_3 m.last.length c0_3, .bool m.empty]]) ca19 rfl rfl)) (fun wq hq => (sameN_calls wq m A0_0 c0_0 b0_0 hq.1 A0_1 c0_1 b0_1 hq.2.1 A0_2 c0_2 b0_2 hq.2.2.1 A0_3 c0_3 b0_3 hq.2.2.2.1 m A0_0 c0_0 b0_0 hq.2.2.2.2.1 A0_1 c0_1 b0_1 hq.2.2.2.2.2.1 A0_2 c0_2 b0_2 hq.2.2.2.2.2.2.1 A0_3 c0_3 b0_3 hq.2.2.2.2.2.2.2).mono fun e w2 he => by obtain ⟨_, rfl, _, T, rfl⟩ := he; exact ⟨rfl, Chg.of_below T.below⟩) (of_ne rfl (of_ne rfl (of_ne rfl (of_ne rfl (of_ne rfl (of_ne rfl (of_ne rfl (of_ne rfl (of_ne rfl (of_ne rfl (of_ne rfl (of_ne rfl (of_ne rfl (of_ne rfl (of_ne rfl (of_ne rfl (of_ne rfl (of_ne rfl (of_ne rfl (of_ne rfl (of_ne rfl (of_ne rfl (of_ne rfl (of_ne rfl (of_ne rfl (of_ne rfl (of_ne rfl (of_ne rfl (of_ne rfl (of_ne rfl (of_ne rfl (of_ne rfl (of_eq hf125 (of_eq hf126 (of_eq hf127 (of_eq hf128 (of_eq hf129 (of_eq hf130 (of_eq hf131 (of_eq hf132 (of_nil _ _))))))))))))))))))))))))))))))))))))))))) ?_
      refine d_q (i := 17) (v := .bool false) (fun _ => True) (fun _ ho => trivial) rfl (by decide +kernel) (by decide +kernel) (by decide +kernel) (wanted_of (j := 13) (want := false) (d := 35) (b := false) rfl rfl (congrArg Value.bool (decide_eq_false hc49)) rfl) rfl (fun wq hq => (x_not (b := true) (congrArg Value.bool hc46))) (of_ne rfl (of_ne rfl (of_ne rfl (of_ne rfl (of_ne rfl (of_ne rfl (of_ne rfl (of_ne rfl (of_ne rfl (of_ne rfl (of_ne rfl (of_ne rfl (of_ne rfl (of_ne rfl (of_ne rfl (of_ne rfl (of_ne rfl (of_ne rfl (of_ne rfl (of_ne rfl (of_ne rfl (of_ne rfl (of_ne rfl (of_ne rfl (of_ne rfl (of_ne rfl (of_ne rfl (of_ne rfl (of_ne rfl (of_ne rfl (of_ne rfl (of_ne rfl (of_ne rfl (of_ne rfl (of_ne rfl (of_ne rfl (of_ne rfl (of_ne rfl (of_ne rfl (of_ne rfl (of_nil _ _))))))))))))))))))))))))))))))))))))))))) ?_
      refine d_q (i := 18) (v := .bool false) (fun _ => True) (fun _ ho => trivial) rfl (by decide +kernel) (by decide +kernel) (by decide +kernel) rfl rfl (fun wq hq => (x_pick_f (congrArg Value.bool (decide_eq_false hc49)) rfl)) (of_ne rfl (of_ne rfl (of_ne rfl (of_ne rfl (of_ne rfl (of_ne rfl (of_ne rfl (of_ne rfl (of_ne rfl (of_ne rfl (of_ne rfl (of_ne rfl (of_ne rfl (of_ne rfl (of_ne rfl (of_ne rfl (of_ne rfl (of_ne rfl (of_ne rfl (of_ne rfl (of_ne rfl (of_ne rfl (of_ne rfl (of_ne rfl (of_ne rfl (of_ne rfl (of_ne rfl (of_ne rfl (of_ne rfl (of_ne rfl (of_ne rfl (of_ne rfl (of_ne rfl (of_ne rfl (of_ne rfl (of_ne rfl (of_ne rfl (of_ne rfl (of_ne rfl (of_ne rfl (of_nil _ _))))))))))))))))))))))))))))))))))))))))) ?_
      refine ra_done (by decide +kernel) ?_
      intro wd133 gd133
      have S134 := S92.keep gd133
      refine run_cond (b := false) rfl ?_
      simp only [if_true, if_false, Bool.false_eq_true]
      refine run_skip ?_
      refine run_seq ?_
      refine run_seq ?_
      refine run_reg (l := [0, 1, 2]) rfl ?_
      refine p_v (v := .agg #[.slice A0_0 m.spots.length c0_0, .slice A0_1 m.first.length c0_1, .slice A0_2 m.follow.length c0_2, .slice A0_3 m.last.length c0_3, .bool m.empty]) rfl rfl rfl (x_load (seg := [.slice A0_0 m.spots.length c0_0, .slice A0_1 m.first.length c0_1, .slice A0_2 m.follow.length c0_2, .slice A0_3 m.last.length c0_3, .bool m.empty]) ty27 rfl (by simp) rfl (CF.box (m := 5) (S134.box_at (j := 0) rfl) rfl)) ?_
      refine p_c rfl rfl rfl (y_call (args := [.agg #[.slice A0_0 m.spots.length c0_0, .slice A0_1 m.first.length c0_1, .slice A0_2 m.follow.length c0_2, .slice A0_3 m.last.length c0_3, .bool m.empty]]) ca10 rfl rfl) (right10_calls wd133 m A0_0 c0_0 b0_0 (l0_0.mono (St.le0 S134)) A0_1 c0_1 b0_1 (l0_1.mono (St.le0 S134)) A0_2 c0_2 b0_2 (l0_2.mono (St.le0 S134)) A0_3 c0_3 b0_3 (l0_3.mono (St.le0 S134))) ?_
      rintro _ w135 ⟨h135, T135, rfl⟩
      have S136 := S134.keep (Chg.of_below T135.below)
      refine p_v (v := .bool (!(rightM m))) rfl rfl rfl (x_not rfl) ?_
      refine run_region_end ?_
      refine run_cond_nsplit (b := rightM m) rfl (fun hc137 => ?_) (fun hc137 => ?_)
      · skip
        refine run_seq ?_
        refine run_reg (l := [0, 1, 2, 3, 4, 5, 6, 7, 8, 9, 10]) rfl ?_
        refine p_v (v := .int .i64 (errM m)) rfl rfl rfl (x_move rfl) ?_
        refine p_v (v := .bool (decide ((errM m) = 1))) rfl rfl rfl (x_eql rfl rfl) ?_
        refine p_v (v := .bool (decide ((errM m) = 1))) rfl rfl rfl (x_move rfl) ?_
        have hc138 : ((errM m) = 1) := by
          exact err_wrong (by assumption)
        refine p_v (v := .agg #[.slice A33 ((trimM m).spots).length c33, .slice A35 ((trimM m).first).length c35, .slice A37 ((trimM m).follow).length c37, .slice A39 ((trimM m).last).length c39, .bool ((trimM m).empty)]) rfl (wanted_of (j := 2) (want := true) (d := 46) (b := true) rfl rfl (congrArg Value.bool (decide_eq_true hc138)) rfl) rfl (x_load (seg := [.slice A33 ((trimM m).spots).length c33, .slice A35 ((trimM m).first).length c35, .slice A37 ((trimM m).follow).length c37, .slice A39 ((trimM m).last).length c39, .bool ((trimM m).empty)]) ty27 rfl (by simp) rfl (CF.box (m := 5) (S136.box_at (j := 11) rfl) rfl)) ?_
        refine p_v (v := .agg #[.slice none 0 0, .slice none 0 0, .slice none 0 0, .slice none 0 0, .bool false]) rfl (wanted_of (j := 2) (want := true) (d := 46) (b := true) rfl rfl (congrArg Value.bool (decide_eq_true hc138)) rfl) rfl (y_build (pv := []) rfl (run_build_struct pl27 ty27 rfl (cs := [.slice none 0 0, .slice none 0 0, .slice none 0 0, .slice none 0 0, .bool false]) rfl)) ?_
        refine p_c rfl (wanted_of (j := 2) (want := true) (d := 46) (b := true) rfl rfl (congrArg Value.bool (decide_eq_true hc138)) rfl) rfl (y_call (args := [.agg #[.slice A33 ((trimM m).spots).length c33, .slice A35 ((trimM m).first).length c35, .slice A37 ((trimM m).follow).length c37, .slice A39 ((trimM m).last).length c39, .bool ((trimM m).empty)], .agg #[.slice none 0 0, .slice none 0 0, .slice none 0 0, .slice none 0 0, .bool false]]) ca15 rfl rfl) (same10_calls w135 (trimM m) A33 c33 (And.intro lc33 cm33) (ld33.mono (lf39_7.trans S136.ghost)) A35 c35 (And.intro lc35 cm35) (ld35.mono (lf39_8.trans S136.ghost)) A37 c37 (And.intro lc37 cm37) (ld37.mono (le39.trans S136.ghost)) A39 c39 (And.intro lc39 cm39) (ld39.mono ((Le.refl _).trans S136.ghost)) (⟨([] : List Spot), ([] : List Int), ([] : List (List Int)), ([] : List Bool), false⟩ : Mach) none 0 (by simp [maxLen]) (leads_nil _ _) none 0 (by simp [maxLen]) (leads_nil _ _) none 0 (by simp [maxLen]) (leads_nil _ _) none 0 (by simp [maxLen]) (leads_nil _ _)) ?_
        rintro _ w139 ⟨h139, T139, rfl⟩
        have S140 := S136.keep (Chg.of_below T139.below)
        refine p_v (v := .bool (decide ((trimM m) = (⟨([] : List Spot), ([] : List Int), ([] : List (List Int)), ([] : List Bool), false⟩ : Mach)))) rfl rfl rfl (x_pick_t (congrArg Value.bool (decide_eq_true hc138)) rfl) ?_
        refine p_v (v := .bool (decide ((trimM m) = (⟨([] : List Spot), ([] : List Int), ([] : List (List Int)), ([] : List Bool), false⟩ : Mach)))) rfl rfl rfl (x_move rfl) ?_
        have hc141 : (decide ((trimM m) = (⟨([] : List Spot), ([] : List Int), ([] : List (List Int)), ([] : List Bool), false⟩ : Mach))) = true := by
          exact decide_eq_true (trim_wrong (by assumption))
        refine p_c rfl (wanted_of (j := 7) (want := true) (d := 51) (b := true) rfl rfl (congrArg Value.bool hc141) rfl) rfl (y_call (args := []) ca8 rfl rfl) (awake10_calls w139 ) ?_
        rintro _ w142 ⟨h142, T142, rfl⟩
        have S143 := S140.keep (Chg.of_below T142.below)
        refine p_v (v := .bool true) rfl rfl rfl (x_pick_t (congrArg Value.bool hc141) rfl) ?_
        refine p_v (v := .bool true) rfl rfl rfl (x_assign rfl) ?_
        refine run_region_end ?_
        refine run_ret Try.func6 (res1 rfl (res_tmp (v := .bool true) rfl)) ?_
        have q0 : (true : Bool) = true := rfl
        refine ⟨_, rfl, h39, ?_, ?_⟩
        · exact S143.sub [] (by decide) rfl _ rfl
        · rfl
      · skip
        refine run_skip ?_
        refine run_seq ?_
        have hc145 : ((errM m) = 0) := by
          exact err_right (by assumption)
        have hf146 : (CFs ⟨b41, 0, none⟩ [.slice A33 ((trimM m).spots).length c33, .slice A35 ((trimM m).first).length c35, .slice A37 ((trimM m).follow).length c37, .slice A39 ((trimM m).last).length c39, .bool ((trimM m).empty)]).1 w135 := (CF.box (m := 5) (S136.box_at (j := 11) rfl) rfl)
        have hf147 : (CFs ⟨b1, 0, none⟩ [.slice A0_0 m.spots.length c0_0, .slice A0_1 m.first.length c0_1, .slice A0_2 m.follow.length c0_2, .slice A0_3 m.last.length c0_3, .bool m.empty]).1 w135 := (CF.box (m := 5) (S136.box_at (j := 0) rfl) rfl)
        refine da_start [(3, CFs ⟨b41, 0, none⟩ [.slice A33 ((trimM m).spots).length c33, .slice A35 ((trimM m).first).length c35, .slice A37 ((trimM m).follow).length c37, .slice A39 ((trimM m).last).length c39, .bool ((trimM m).empty)]), (4, CFs ⟨b1, 0, none⟩ [.slice A0_0 m.spots.length c0_0, .slice A0_1 m.first.length c0_1, .slice A0_2 m.follow.length c0_2, .slice A0_3 m.last.length c0_3, .bool m.empty])] 12 rfl mixed ?_
        intro wd148 gd148 hd148
        have S149 := S136.keep gd148
        have hf150 := (CFs ⟨b41, 0, none⟩ [.slice A33 ((trimM m).spots).length c33, .slice A35 ((trimM m).first).length c35, .slice A37 ((trimM m).follow).length c37, .slice A39 ((trimM m).last).length c39, .bool ((trimM m).empty)]).2 _ _ gd148 hf146
        have hf151 := (CFs ⟨b1, 0, none⟩ [.slice A0_0 m.spots.length c0_0, .slice A0_1 m.first.length c0_1, .slice A0_2 m.follow.length c0_2, .slice A0_3 m.last.length c0_3, .bool m.empty]).2 _ _ gd148 hf147
        refine d_q (i := 0) (v := .int .i64 (errM m)) (fun _ => True) (fun _ ho => trivial) rfl (by decide +kernel) (by decide +kernel) (by decide +kernel) rfl rfl (fun wq hq => (x_move rfl)) (of_ne rfl (of_ne rfl (of_nil _ _))) ?_
        refine d_q (i := 1) (v := .bool (decide ((errM m) = 0))) (fun _ => True) (fun _ ho => trivial) rfl (by decide +kernel) (by decide +kernel) (by decide +kernel) rfl rfl (fun wq hq => (x_eql rfl rfl)) (of_ne rfl (of_ne rfl (of_nil _ _))) ?_
        refine d_q (i := 2) (v := .bool (decide ((errM m) = 0))) (fun _ => True) (fun _ ho => trivial) rfl (by decide +kernel) (by decide +kernel) (by decide +kernel) rfl rfl (fun wq hq => (x_move rfl)) (of_ne rfl (of_ne rfl (of_nil _ _))) ?_
        refine d_q (i := 3) (v := .agg #[.slice A33 ((trimM m).spots).length c33, .slice A35 ((trimM m).first).length c35, .slice A37 ((trimM m).follow).length c37, .slice A39 ((trimM m).last).length c39, .bool ((trimM m).empty)]) (CF ⟨b41, 0, none⟩ [.slice A33 ((trimM m).spots).length c33, .slice A35 ((trimM m).first).length c35, .slice A37 ((trimM m).follow).length c37, .slice A39 ((trimM m).last).length c39, .bool ((trimM m).empty)]) (fun _ ho => ho _ (List.mem_of_getElem? (i := 0) rfl) rfl) rfl (by decide +kernel) (by decide +kernel) (by decide +kernel) (wanted_of (j := 2) (want := true) (d := 56) (b := true) rfl rfl (congrArg Value.bool (decide_eq_true hc145)) rfl) rfl (fun wq hq => (x_load (seg := [.slice A33 ((trimM m).spots).length c33, .slice A35 ((trimM m).first).length c35, .slice A37 ((trimM m).follow).length c37, .slice A39 ((trimM m).last).length c39, .bool ((trimM m).empty)]) ty27 rfl (by simp) rfl hq)) (of_eq hf150 (of_ne rfl (of_nil _ _))) ?_
        refine d_q (i := 4) (v := .agg #[.slice A0_0 m.spots.length c0_0, .slice A0_1 m.first.length c0_1, .slice A0_2 m.follow.length c0_2, .slice A0_3 m.last.length c0_3, .bool m.empty]) (CF ⟨b1, 0, none⟩ [.slice A0_0 m.spots.length c0_0, .slice A0_1 m.first.length c0_1, .slice A0_2 m.follow.length c0_2, .slice A0_3 m.last.length c0_3, .bool m.empty]) (fun _ ho => ho _ (List.mem_of_getElem? (i := 1) rfl) rfl) rfl (by decide +kernel) (by decide +kernel) (by decide +kernel) (wanted_of (j := 2) (want := true) (d := 56) (b := true) rfl rfl (congrArg Value.bool (decide_eq_true hc145)) rfl) rfl (fun wq hq => (x_load (seg := [.slice A0_0 m.spots.length c0_0, .slice A0_1 m.first.length c0_1, .slice A0_2 m.follow.length c0_2, .slice A0_3 m.last.length c0_3, .bool m.empty]) ty27 rfl (by simp) rfl hq)) (of_ne rfl (of_eq hf151 (of_nil _ _))) ?_
        refine ra_one (i := 5) (by decide +kernel) ?_
        intro wd152 gd152
        have S153 := S149.keep gd152
        have hf154 := (CFs ⟨b41, 0, none⟩ [.slice A33 ((trimM m).spots).length c33, .slice A35 ((trimM m).first).length c35, .slice A37 ((trimM m).follow).length c37, .slice A39 ((trimM m).last).length c39, .bool ((trimM m).empty)]).2 _ _ gd152 hf150
        have hf155 := (CFs ⟨b1, 0, none⟩ [.slice A0_0 m.spots.length c0_0, .slice A0_1 m.first.length c0_1, .slice A0_2 m.follow.length c0_2, .slice A0_3 m.last.length c0_3, .bool m.empty]).2 _ _ gd152 hf151
        refine d_c rfl (wanted_of (j := 2) (want := true) (d := 56) (b := true) rfl rfl (congrArg Value.bool (decide_eq_true hc145)) rfl) rfl (y_call (args := [.agg #[.slice A0_0 m.spots.length c0_0, .slice A0_1 m.first.length c0_1, .slice A0_2 m.follow.length c0_2, .slice A0_3 m.last.length c0_3, .bool m.empty]]) ca20 rfl rfl) (trim10_calls wd152 m A0_0 c0_0 b0_0 (l0_0.mono (St.le0 S153)) A0_1 c0_1 b0_1 (l0_1.mono (St.le0 S153)) A0_2 c0_2 b0_2 (l0_2.mono (St.le0 S153)) A0_3 c0_3 b0_3 (l0_3.mono (St.le0 S153)) (by first | assumption | exact right_iff.1 (by assumption))) ?_
        rintro _ w156 ⟨h156, v156_0, v156_1, v156_2, v156_3, T156, rfl⟩
        obtain ⟨k156, lk156, ll156, U156⟩ := call_joins S153 T156
        have lc156_0 := (lf39_0).trans lk156
        have lc156_1 := (lf39_1).trans lk156
        have lc156_2 := (lf39_2).trans lk156
        have lc156_3 := (lf39_3).trans lk156
        have lc156_4 := (lf39_4).trans lk156
        have lc156_5 := (lf39_5).trans lk156
        have lc156_6 := (lf39_6).trans lk156
        have lc156_7 := (lf39_7).trans lk156
        have lc156_8 := (lf39_8).trans lk156
        have lc156_9 := (le39).trans lk156
        have S157 : St w.heap.size w k156 w156 [box b1 27 [.slice A0_0 m.spots.length c0_0, .slice A0_1 m.first.length c0_1, .slice A0_2 m.follow.length c0_2, .slice A0_3 m.last.length c0_3, .bool m.empty], box b3 27 [.slice A1_0 other.spots.length c1_0, .slice A1_1 other.first.length c1_1, .slice A1_2 other.follow.length c1_2, .slice A1_3 other.last.length c1_3, .bool other.empty], emp, emp, emp, emp, box b27 27 [.slice A19 m.spots.length c19, .slice A21 m.first.length c21, .slice A23 m.follow.length c23, .slice A25 m.last.length c25, .bool m.empty], emp, emp, emp, emp, box b41 27 [.slice A33 ((trimM m).spots).length c33, .slice A35 ((trimM m).first).length c35, .slice A37 ((trimM m).follow).length c37, .slice A39 ((trimM m).last).length c39, .bool ((trimM m).empty)], row 39 kSpot v156_0 ((trimM m).spots), row 3 (Kd.int .i64) v156_1 ((trimM m).first), row 23 (Kd.int .i64).slice v156_2 ((trimM m).follow), row 4 Kd.bool v156_3 ((trimM m).last)] := U156
        have hf158 := (CFs ⟨b41, 0, none⟩ [.slice A33 ((trimM m).spots).length c33, .slice A35 ((trimM m).first).length c35, .slice A37 ((trimM m).follow).length c37, .slice A39 ((trimM m).last).length c39, .bool ((trimM m).empty)]).2 _ _ (Chg.of_below T156.below) hf154
        have hf159 := (CFs ⟨b1, 0, none⟩ [.slice A0_0 m.spots.length c0_0, .slice A0_1 m.first.length c0_1, .slice A0_2 m.follow.length c0_2, .slice A0_3 m.last.length c0_3, .bool m.empty]).2 _ _ (Chg.of_below T156.below) hf155
        refine ⟨.inl (Chg.of_below T156.below), ?_⟩
        obtain ⟨h160, le160, T160, rp160⟩ := S157.freeze (i := 12) rfl
        have lf160_0 := (lc156_0).trans le160
        have lf160_1 := (lc156_1).trans le160
        have lf160_2 := (lc156_2).trans le160
        have lf160_3 := (lc156_3).trans le160
        have lf160_4 := (lc156_4).trans le160
        have lf160_5 := (lc156_5).trans le160
        have lf160_6 := (lc156_6).trans le160
        have lf160_7 := (lc156_7).trans le160
        have lf160_8 := (lc156_8).trans le160
        have lf160_9 := (lc156_9).trans le160
        have lf160_10 := (lk156).trans le160
        have S161 : St w.heap.size w h160 w156 [box b1 27 [.slice A0_0 m.spots.length c0_0, .slice A0_1 m.first.length c0_1, .slice A0_2 m.follow.length c0_2, .slice A0_3 m.last.length c0_3, .bool m.empty], box b3 27 [.slice A1_0 other.spots.length c1_0, .slice A1_1 other.first.length c1_1, .slice A1_2 other.follow.length c1_2, .slice A1_3 other.last.length c1_3, .bool other.empty], emp, emp, emp, emp, box b27 27 [.slice A19 m.spots.length c19, .slice A21 m.first.length c21, .slice A23 m.follow.length c23, .slice A25 m.last.length c25, .bool m.empty], emp, emp, emp, emp, box b41 27 [.slice A33 ((trimM m).spots).length c33, .slice A35 ((trimM m).first).length c35, .slice A37 ((trimM m).follow).length c37, .slice A39 ((trimM m).last).length c39, .bool ((trimM m).empty)], emp, row 3 (Kd.int .i64) v156_1 ((trimM m).first), row 23 (Kd.int .i64).slice v156_2 ((trimM m).follow), row 4 Kd.bool v156_3 ((trimM m).last)] := T160
        obtain ⟨A160, c160, e160, lc160, cm160, ld160⟩ := rp160
        injection e160 with e160 _; subst e160
        have cn160 := cm160; simp only [maxLen] at cn160
        obtain ⟨h162, le162, T162, rp162⟩ := S161.freeze (i := 13) rfl
        have lf162_0 := (lf160_0).trans le162
        have lf162_1 := (lf160_1).trans le162
        have lf162_2 := (lf160_2).trans le162
        have lf162_3 := (lf160_3).trans le162
        have lf162_4 := (lf160_4).trans le162
        have lf162_5 := (lf160_5).trans le162
        have lf162_6 := (lf160_6).trans le162
        have lf162_7 := (lf160_7).trans le162
        have lf162_8 := (lf160_8).trans le162
        have lf162_9 := (lf160_9).trans le162
        have lf162_10 := (lf160_10).trans le162
        have lf162_11 := (le160).trans le162
        have S163 : St w.heap.size w h162 w156 [box b1 27 [.slice A0_0 m.spots.length c0_0, .slice A0_1 m.first.length c0_1, .slice A0_2 m.follow.length c0_2, .slice A0_3 m.last.length c0_3, .bool m.empty], box b3 27 [.slice A1_0 other.spots.length c1_0, .slice A1_1 other.first.length c1_1, .slice A1_2 other.follow.length c1_2, .slice A1_3 other.last.length c1_3, .bool other.empty], emp, emp, emp, emp, box b27 27 [.slice A19 m.spots.length c19, .slice A21 m.first.length c21, .slice A23 m.follow.length c23, .slice A25 m.last.length c25, .bool m.empty], emp, emp, emp, emp, box b41 27 [.slice A33 ((trimM m).spots).length c33, .slice A35 ((trimM m).first).length c35, .slice A37 ((trimM m).follow).length c37, .slice A39 ((trimM m).last).length c39, .bool ((trimM m).empty)], emp, emp, row 23 (Kd.int .i64).slice v156_2 ((trimM m).follow), row 4 Kd.bool v156_3 ((trimM m).last)] := T162
        obtain ⟨A162, c162, e162, lc162, cm162, ld162⟩ := rp162
        injection e162 with e162 _; subst e162
        have cn162 := cm162; simp only [maxLen] at cn162
        obtain ⟨h164, le164, T164, rp164⟩ := S163.freeze (i := 14) rfl
        have lf164_0 := (lf162_0).trans le164
        have lf164_1 := (lf162_1).trans le164
        have lf164_2 := (lf162_2).trans le164
        have lf164_3 := (lf162_3).trans le164
        have lf164_4 := (lf162_4).trans le164
        have lf164_5 := (lf162_5).trans le164
        have lf164_6 := (lf162_6).trans le164
        have lf164_7 := (lf162_7).trans le164
        have lf164_8 := (lf162_8).trans le164
        have lf164_9 := (lf162_9).trans le164
        have lf164_10 := (lf162_10).trans le164
        have lf164_11 := (lf162_11).trans le164
        have lf164_12 := (le162).trans le164
        have S165 : St w.heap.size w h164 w156 [box b1 27 [.slice A0_0 m.spots.length c0_0, .slice A0_1 m.first.length c0_1, .slice A0_2 m.follow.length c0_2, .slice A0_3 m.last.length c0_3, .bool m.empty], box b3 27 [.slice A1_0 other.spots.length c1_0, .slice A1_1 other.first.length c1_1, .slice A1_2 other.follow.length c1_2, .slice A1_3 other.last.length c1_3, .bool other.empty], emp, emp, emp, emp, box b27 27 [.slice A19 m.spots.length c19, .slice A21 m.first.length c21, .slice A23 m.follow.length c23, .slice A25 m.last.length c25, .bool m.empty], emp, emp, emp, emp, box b41 27 [.slice A33 ((trimM m).spots).length c33, .slice A35 ((trimM m).first).length c35, .slice A37 ((trimM m).follow).length c37, .slice A39 ((trimM m).last).length c39, .bool ((trimM m).empty)], emp, emp, emp, row 4 Kd.bool v156_3 ((trimM m).last)] := T164
        obtain ⟨A164, c164, e164, lc164, cm164, ld164⟩ := rp164
        injection e164 with e164 _; subst e164
        have cn164 := cm164; simp only [maxLen] at cn164
        obtain ⟨h166, le166, T166, rp166⟩ := S165.freeze (i := 15) rfl
        have lf166_0 := (lf164_0).trans le166
        have lf166_1 := (lf164_1).trans le166
        have lf166_2 := (lf164_2).trans le166
        have lf166_3 := (lf164_3).trans le166
        have lf166_4 := (lf164_4).trans le166
        have lf166_5 := (lf164_5).trans le166
        have lf166_6 := (lf164_6).trans le166
        have lf166_7 := (lf164_7).trans le166
        have lf166_8 := (lf164_8).trans le166
        have lf166_9 := (lf164_9).trans le166
        have lf166_10 := (lf164_10).trans le166
        have lf166_11 := (lf164_11).trans le166
        have lf166_12 := (lf164_12).trans le166
        have lf166_13 := (le164).trans le166
        have S167 : St w.heap.size w h166 w156 [box b1 27 [.slice A0_0 m.spots.length c0_0, .slice A0_1 m.first.length c0_1, .slice A0_2 m.follow.length c0_2, .slice A0_3 m.last.length c0_3, .bool m.empty], box b3 27 [.slice A1_0 other.spots.length c1_0, .slice A1_1 other.first.length c1_1, .slice A1_2 other.follow.length c1_2, .slice A1_3 other.last.length c1_3, .bool other.empty], emp, emp, emp, emp, box b27 27 [.slice A19 m.spots.length c19, .slice A21 m.first.length c21, .slice A23 m.follow.length c23, .slice A25 m.last.length c25, .bool m.empty], emp, emp, emp, emp, box b41 27 [.slice A33 ((trimM m).spots).length c33, .slice A35 ((trimM m).first).length c35, .slice A37 ((trimM m).follow).length c37, .slice A39 ((trimM m).last).length c39, .bool ((trimM m).empty)], emp, emp, emp, emp] := T166
        obtain ⟨A166, c166, e166, lc166, cm166, ld166⟩ := rp166
        injection e166 with e166 _; subst e166
        have cn166 := cm166; simp only [maxLen] at cn166
        have hc169 : (decide ((trimM m) = (trimM m))) = true := by
          exact decide_eq_true rfl
        have hf171 : (LeadsS kSpot A33 ((trimM m).spots)).1 w156 := (ld33.mono (lf166_7.trans S167.ghost))
        have hf172 : (LeadsS (Kd.int .i64) A35 ((trimM m).first)).1 w156 := (ld35.mono (lf166_8.trans S167.ghost))
        have hf173 : (LeadsS (Kd.int .i64).slice A37 ((trimM m).follow)).1 w156 := (ld37.mono (lf166_9.trans S167.ghost))
        have hf174 : (LeadsS Kd.bool A39 ((trimM m).last)).1 w156 := (ld39.mono (lf166_10.trans S167.ghost))
        have hf175 : (LeadsS kSpot A160 ((trimM m).spots)).1 w156 := (ld160.mono (lf166_12.trans S167.ghost))
        have hf176 : (LeadsS (Kd.int .i64) A162 ((trimM m).first)).1 w156 := (ld162.mono (lf166_13.trans S167.ghost))
        have hf177 : (LeadsS (Kd.int .i64).slice A164 ((trimM m).follow)).1 w156 := (ld164.mono (le166.trans S167.ghost))
        have hf178 : (LeadsS Kd.bool A166 ((trimM m).last)).1 w156 := (ld166.mono ((Le.refl _).trans S167.ghost))
        refine ra_more [(6, LeadsS kSpot A33 ((trimM m).spots)), (6, LeadsS (Kd.int .i64) A35 ((trimM m).first)), (6, LeadsS (Kd.int .i64).slice A37 ((trimM m).follow)), (6, LeadsS Kd.bool A39 ((trimM m).last)), (6, LeadsS kSpot A160 ((trimM m).spots)), (6, LeadsS (Kd.int .i64) A162 ((trimM m).first)), (6, LeadsS (Kd.int .i64).slice A164 ((trimM m).follow)), (6, LeadsS Kd.bool A166 ((trimM m).last))] ?_
        refine d_m (i := 6) (v := .bool (decide ((trimM m) = (trimM m)))) (fun wf => Leads kSpot (hp wf) A33 ((trimM m).spots) ∧ Leads (Kd.int .i64) (hp wf) A35 ((trimM m).first) ∧ Leads (Kd.int .i64).slice (hp wf) A37 ((trimM m).follow) ∧ Leads Kd.bool (hp wf) A39 ((trimM m).last) ∧ Leads kSpot (hp wf) A160 ((trimM m).spots) ∧ Leads (Kd.int .i64) (hp wf) A162 ((trimM m).first) ∧ Leads (Kd.int .i64).slice (hp wf) A164 ((trimM m).follow) ∧ Leads Kd.bool (hp wf) A166 ((trimM m).last)) (fun _ ho => ⟨ho _ (List.mem_of_getElem? (i := 0) rfl) rfl, ho _ (List.mem_of_getElem? (i := 1) rfl) rfl, ho _ (List.mem_of_getElem? (i := 2) rfl) rfl, ho _ (List.mem_of_getElem? (i := 3) rfl) rfl, ho _ (List.mem_of_getElem? (i := 4) rfl) rfl, ho _ (List.mem_of_getElem? (i := 5) rfl) rfl, ho _ (List.mem_of_getElem? (i := 6) rfl) rfl, ho _ (List.mem_of_getElem? (i := 7) rfl) rfl⟩) rfl (by decide +kernel) (by decide +kernel) (by decide +kernel) (wanted_of (j := 2) (want := true) (d := 56) (b := true) rfl rfl (congrArg Value.bool (decide_eq_true hc145)) rfl) rfl (fun wq => (y_call (args := [.agg #[.slice A33 ((trimM m).spots).length c33, .slice A35 ((trimM m).first).length c35, .slice A37 ((trimM m).follow).length c37, .slice A39 ((trimM m).last).length c39, .bool ((trimM m).empty)], .agg #[.slice A160 ((trimM m).spots).length c160, .slice A162 ((trimM m).first).length c162, .slice A164 ((trimM m).follow).length c164, .slice A166 ((trimM m).last).length c166, .bool ((trimM m).empty)]]) ca15 rfl rfl)) (fun wq hq => (same10_calls wq (trimM m) A33 c33 (And.intro lc33 cm33) hq.1 A35 c35 (And.intro lc35 cm35) hq.2.1 A37 c37 (And.intro lc37 cm37) hq.2.2.1 A39 c39 (And.intro lc39 cm39) hq.2.2.2.1 (trimM m) A160 c160 (And.intro lc160 cm160) hq.2.2.2.2.1 A162 c162 (And.intro lc162 cm162) hq.2.2.2.2.2.1 A164 c164 (And.intro lc164 cm164) hq.2.2.2.2.2.2.1 A166 c166 (And.intro lc166 cm166) hq.2.2.2.2.2.2.2).mono fun e w2 he => by obtain ⟨_, rfl, _, T, rfl⟩ := he; exact ⟨rfl, Chg.of_below T.below⟩) (of_eq hf171 (of_eq hf172 (of_eq hf173 (of_eq hf174 (of_eq hf175 (of_eq hf176 (of_eq hf177 (of_eq hf178 (of_ne rfl (of_ne rfl (of_nil _ _))))))))))) ?_
        refine d_q (i := 7) (v := .bool (decide ((trimM m) = (trimM m)))) (fun _ => True) (fun _ ho => trivial) rfl (by decide +kernel) (by decide +kernel) (by decide +kernel) rfl rfl (fun wq hq => (x_pick_t (congrArg Value.bool (decide_eq_true hc145)) rfl)) (of_ne rfl (of_ne rfl (of_ne rfl (of_ne rfl (of_ne rfl (of_ne rfl (of_ne rfl (of_ne rfl (of_ne rfl (of_ne rfl (of_nil _ _))))))))))) ?_
        refine d_q (i := 8) (v := .bool (decide ((trimM m) = (trimM m)))) (fun _ => True) (fun _ ho => trivial) rfl (by decide +kernel) (by decide +kernel) (by decide +kernel) rfl rfl (fun wq hq => (x_move rfl)) (of_ne rfl (of_ne rfl (of_ne rfl (of_ne rfl (of_ne rfl (of_ne rfl (of_ne rfl (of_ne rfl (of_ne rfl (of_ne rfl (of_nil _ _))))))))))) ?_
        refine d_m (i := 9) (v := .bool true) (fun _ => True) (fun _ ho => trivial) rfl (by decide +kernel) (by decide +kernel) (by decide +kernel) (wanted_of (j := 8) (want := true) (d := 62) (b := true) rfl rfl (congrArg Value.bool hc169) rfl) rfl (fun wq => (y_call (args := []) ca8 rfl rfl)) (fun wq hq => (awake10_calls wq ).mono fun e w2 he => by obtain ⟨_, rfl, _, T, rfl⟩ := he; exact ⟨rfl, Chg.of_below T.below⟩) (of_ne rfl (of_ne rfl (of_ne rfl (of_ne rfl (of_ne rfl (of_ne rfl (of_ne rfl (of_ne rfl (of_ne rfl (of_ne rfl (of_nil _ _))))))))))) ?_
        refine d_q (i := 10) (v := .bool true) (fun _ => True) (fun _ ho => trivial) rfl (by decide +kernel) (by decide +kernel) (by decide +kernel) rfl rfl (fun wq hq => (x_pick_t (congrArg Value.bool hc169) rfl)) (of_ne rfl (of_ne rfl (of_ne rfl (of_ne rfl (of_ne rfl (of_ne rfl (of_ne rfl (of_ne rfl (of_ne rfl (of_ne rfl (of_nil _ _))))))))))) ?_
        refine d_q (i := 11) (v := .bool true) (fun _ => True) (fun _ ho => trivial) rfl (by decide +kernel) (by decide +kernel) (by decide +kernel) rfl rfl (fun wq hq => (x_assign rfl)) (of_ne rfl (of_ne rfl (of_ne rfl (of_ne rfl (of_ne rfl (of_ne rfl (of_ne rfl (of_ne rfl (of_ne rfl (of_ne rfl (of_nil _ _))))))))))) ?_
        refine ra_done (by decide +kernel) ?_
        intro wd179 gd179
        have S180 := S167.keep gd179
        refine run_ret Try.func6 (res1 rfl (res_tmp (v := .bool true) rfl)) ?_
        have q0 : (true : Bool) = true := rfl
        refine ⟨_, rfl, h166, ?_, ?_⟩
        · exact S180.sub [] (by decide) rfl _ rfl
        · rfl
end Go.Proofs.Ytlcmimjdnhjeoaa
