/- The law NfaClasses, walked: it tells true at every input, and writes nothing that was there. -/
import Derived.Test.YtdfkpjchnndniaaDoorTB
import Derived.Test.YtdfkpjchnndniaaDoorM6
import Derived.Test.YtdfkpjchnndniaaDoorM7
import Derived.Test.YtdfkpjchnndniaaDoorQB
import Derived.Test.YtdfkpjchnndniaaDoorTzB
import Derived.Test.YtdfkpjchnndniaaDoorN2
import Derived.Test.YtdfkpjchnndniaaDoorK1B
import Derived.Test.YtdfkpjchnndniaaDoorN3
import Derived.Test.YtdfkpjchnndniaaDoorM11
import Derived.Test.YtdfkpjchnndniaaDoorN5
import Derived.Test.YtdfkpjchnndniaaDoorN6
import Derived.Test.YtdfkpjchnndniaaDoorN7
import Derived.Test.YtdfkpjchnndniaaDoorN8
import Derived.Test.YtdfkpjchnndniaaDoorM12
import Derived.Test.YtdfkpjchnndniaaDoorVB
namespace Go.Proofs.YtdfkpjchnndniaaDoor
open Go Go.RowKit Gx
set_option maxHeartbeats 1000000
set_option linter.unusedVariables false
set_option linter.unusedSimpArgs false
attribute [local irreducible] members pack listOf count first someIn has setOf setRange wbits Lib.ctz rises rightM rowOk tab markP intoP intoTo behindP behindTo behindIn runTo endsIn endTo runM posTo mayP stepIf stepP mayTo atP lastTo greatM greatTo docAt anyTo allTo numAt numsL numsIn leftN kept lefts spotsTo lastTp followTo trimM errM comeM goesM keepM lfp seekN seekB fullS placeF okC okG clC clG clC2 clG2 firstC lastG andTo useN trues addS setsOfTo setsM bytesL strOfNums partOf refineP setsP leastP rightP splitsP splitP

theorem nfaClasses_calls (w : World) (m : Mach) (A0_0 : Option Addr) (c0_0 : Nat) (b0_0 : m.spots.length ≤ c0_0 ∧ c0_0 ≤ maxLen) (l0_0 : Leads kSpot (hp w) A0_0 m.spots) (A0_1 : Option Addr) (c0_1 : Nat) (b0_1 : m.first.length ≤ c0_1 ∧ c0_1 ≤ maxLen) (l0_1 : Leads (Kd.int .i64) (hp w) A0_1 m.first) (A0_2 : Option Addr) (c0_2 : Nat) (b0_2 : m.follow.length ≤ c0_2 ∧ c0_2 ≤ maxLen) (l0_2 : Leads (Kd.int .i64).slice (hp w) A0_2 m.follow) (A0_3 : Option Addr) (c0_3 : Nat) (b0_3 : m.last.length ≤ c0_3 ∧ c0_3 ≤ maxLen) (l0_3 : Leads Kd.bool (hp w) A0_3 m.last) (xw : ByteArray) (s1 : xw.size ≤ maxLen) (turns : List Int) (A2 : Option Addr) (c2 : Nat) (b2 : turns.length ≤ c2 ∧ c2 ≤ maxLen) (l2 : Leads (Kd.int .u8) (hp w) A2 turns) (tb : Block 0 tzTab w) :
    Calls Tryd.prog 4 #[.agg #[.slice A0_0 m.spots.length c0_0, .slice A0_1 m.first.length c0_1, .slice A0_2 m.follow.length c0_2, .slice A0_3 m.last.length c0_3, .bool m.empty], .string xw, .slice A2 turns.length c2] w fun e w' => ∃ v, e = .returned v ∧ ∃ (hn : Ghost), St w.heap.size w hn w' [] ∧ v = .bool true := by
  refine calls_of_run Tryd.func4 rfl Tryd.ntmps4 rfl ?_
  have S0 := St.init w
  have bb0_0 := b0_0.1; have bc0_0 := b0_0.2; simp only [maxLen] at bc0_0
  have bb0_1 := b0_1.1; have bc0_1 := b0_1.2; simp only [maxLen] at bc0_1
  have bb0_2 := b0_2.1; have bc0_2 := b0_2.2; simp only [maxLen] at bc0_2
  have bb0_3 := b0_3.1; have bc0_3 := b0_3.2; simp only [maxLen] at bc0_3
  have sz1 := s1; simp only [maxLen] at sz1
  have bb2 := b2.1; have bc2 := b2.2; simp only [maxLen] at bc2
  refine run_seq ?_
  refine run_reg (l := [0, 1]) rfl ?_
  obtain ⟨b1, w1, r1, g1, T1⟩ := e_box (P := Tryd.prog) S0 27 (v := .agg #[.slice A0_0 m.spots.length c0_0, .slice A0_1 m.first.length c0_1, .slice A0_2 m.follow.length c0_2, .slice A0_3 m.last.length c0_3, .bool m.empty]) [.slice A0_0 m.spots.length c0_0, .slice A0_1 m.first.length c0_1, .slice A0_2 m.follow.length c0_2, .slice A0_3 m.last.length c0_3, .bool m.empty] rfl
  have S2 : St w.heap.size w (fun _ => none) w1 [box b1 27 [.slice A0_0 m.spots.length c0_0, .slice A0_1 m.first.length c0_1, .slice A0_2 m.follow.length c0_2, .slice A0_3 m.last.length c0_3, .bool m.empty]] := T1
  refine p_v (v := .pointer (some ⟨b1, 0, none⟩)) rfl rfl rfl (x_box rfl r1) ?_
  refine p_v (v := .bool false) rfl rfl rfl (x_assign rfl) ?_
  refine run_region_end ?_
  refine run_seq ?_
  refine run_seq ?_
  refine run_reg (l := [0, 1, 2, 3, 4, 5, 6]) rfl ?_
  refine p_v (v := .agg #[.slice A0_0 m.spots.length c0_0, .slice A0_1 m.first.length c0_1, .slice A0_2 m.follow.length c0_2, .slice A0_3 m.last.length c0_3, .bool m.empty]) rfl rfl rfl (x_load (seg := [.slice A0_0 m.spots.length c0_0, .slice A0_1 m.first.length c0_1, .slice A0_2 m.follow.length c0_2, .slice A0_3 m.last.length c0_3, .bool m.empty]) ty27 rfl (by simp) rfl (CF.box (m := 5) (S2.box_at (j := 0) rfl) rfl)) ?_
  refine p_c rfl rfl rfl (y_call (args := [.agg #[.slice A0_0 m.spots.length c0_0, .slice A0_1 m.first.length c0_1, .slice A0_2 m.follow.length c0_2, .slice A0_3 m.last.length c0_3, .bool m.empty]]) ca5 rfl rfl) (great_calls w1 m A0_0 c0_0 b0_0 (l0_0.mono (St.le0 S2)) A0_1 c0_1 b0_1 (l0_1.mono (St.le0 S2)) A0_2 c0_2 b0_2 (l0_2.mono (St.le0 S2)) A0_3 c0_3 b0_3 (l0_3.mono (St.le0 S2))) ?_
  rintro _ w3 ⟨h3, T3, rfl⟩
  have S4 := S2.keep (Chg.of_below T3.below)
  refine p_v (v := .bool (greatM m)) rfl rfl rfl (x_move rfl) ?_
  rcases Bool.eq_false_or_eq_true (greatM m) with hc5 | hc5
  · skip
    refine p_off rfl (wanted_of (j := 2) (want := false) (d := 15) (b := true) rfl rfl (congrArg Value.bool hc5) rfl) rfl ?_
    refine p_off rfl (wanted_of (j := 2) (want := false) (d := 15) (b := true) rfl rfl (congrArg Value.bool hc5) rfl) rfl ?_
    refine p_off rfl (wanted_of (j := 2) (want := false) (d := 15) (b := true) rfl rfl (congrArg Value.bool hc5) rfl) rfl ?_
    refine p_v (v := .bool true) rfl rfl rfl (x_pick_t (congrArg Value.bool hc5) rfl) ?_
    refine run_region_end ?_
    refine run_cond (b := true) rfl ?_
    simp only [if_true, if_false, Bool.false_eq_true]
    refine run_seq ?_
    refine run_reg (l := [0, 1]) rfl ?_
    refine p_c rfl rfl rfl (y_call (args := []) ca6 rfl rfl) (awake10_calls w3 ) ?_
    rintro _ w6 ⟨h6, T6, rfl⟩
    have S7 := S4.keep (Chg.of_below T6.below)
    refine p_v (v := .bool true) rfl rfl rfl (x_assign rfl) ?_
    refine run_region_end ?_
    refine run_ret Tryd.func4 (res1 rfl (res_tmp (v := .bool true) rfl)) ?_
    have q0 : (true : Bool) = true := rfl
    refine ⟨_, rfl, (fun _ => none), ?_, ?_⟩
    · exact S7.sub [] (by decide) rfl _ rfl
    · rfl
  · skip
    have hsm_ := small_of hc5
    have hss_ := hsm_.spots
    refine p_v (v := .string xw) rfl (wanted_of (j := 2) (want := false) (d := 15) (b := false) rfl rfl (congrArg Value.bool hc5) rfl) rfl (x_move rfl) ?_
    refine p_v (v := .int .i64 (xw.size : Int)) rfl (wanted_of (j := 2) (want := false) (d := 15) (b := false) rfl rfl (congrArg Value.bool hc5) rfl) rfl (x_len_string u9 rfl) ?_
    refine p_v (v := .bool (decide (200 < (xw.size : Int)))) rfl (wanted_of (j := 2) (want := false) (d := 15) (b := false) rfl rfl (congrArg Value.bool hc5) rfl) rfl (x_gtr rfl rfl) ?_
    refine p_v (v := .bool (decide (200 < (xw.size : Int)))) rfl rfl rfl (x_pick_f (congrArg Value.bool hc5) rfl) ?_
    refine run_region_end ?_
    refine run_cond_prop (p := 200 < (xw.size : Int)) rfl (fun hc9 => ?_) (fun hc9 => ?_)
    · skip
      refine run_seq ?_
      refine run_reg (l := [0, 1]) rfl ?_
      refine p_c rfl rfl rfl (y_call (args := []) ca6 rfl rfl) (awake10_calls w3 ) ?_
      rintro _ w10 ⟨h10, T10, rfl⟩
      have S11 := S4.keep (Chg.of_below T10.below)
      refine p_v (v := .bool true) rfl rfl rfl (x_assign rfl) ?_
      refine run_region_end ?_
      refine run_ret Tryd.func4 (res1 rfl (res_tmp (v := .bool true) rfl)) ?_
      have q0 : (true : Bool) = true := rfl
      refine ⟨_, rfl, (fun _ => none), ?_, ?_⟩
      · exact S11.sub [] (by decide) rfl _ rfl
      · rfl
    · skip
      refine run_skip ?_
      refine run_seq ?_
      refine run_reg (l := [0, 1, 2, 3, 4]) rfl ?_
      refine p_v (v := .agg #[.slice A0_0 m.spots.length c0_0, .slice A0_1 m.first.length c0_1, .slice A0_2 m.follow.length c0_2, .slice A0_3 m.last.length c0_3, .bool m.empty]) rfl rfl rfl (x_load (seg := [.slice A0_0 m.spots.length c0_0, .slice A0_1 m.first.length c0_1, .slice A0_2 m.follow.length c0_2, .slice A0_3 m.last.length c0_3, .bool m.empty]) ty27 rfl (by simp) rfl (CF.box (m := 5) (S4.box_at (j := 0) rfl) rfl)) ?_
      refine p_c rfl rfl rfl (y_call (args := [.agg #[.slice A0_0 m.spots.length c0_0, .slice A0_1 m.first.length c0_1, .slice A0_2 m.follow.length c0_2, .slice A0_3 m.last.length c0_3, .bool m.empty]]) ca14 rfl rfl) (setsN_calls w3 m A0_0 c0_0 b0_0 (l0_0.mono (St.le0 S4)) A0_1 c0_1 b0_1 (l0_1.mono (St.le0 S4)) A0_2 c0_2 b0_2 (l0_2.mono (St.le0 S4)) A0_3 c0_3 b0_3 (l0_3.mono (St.le0 S4)) (by first | assumption | omega | decide)) ?_
      rintro v13_0 w13 ⟨h13, _, T13, rfl⟩
      obtain ⟨k13, lk13, ll13, U13⟩ := call_joins S4 T13
      have S14 : St w.heap.size w k13 w13 [box b1 27 [.slice A0_0 m.spots.length c0_0, .slice A0_1 m.first.length c0_1, .slice A0_2 m.follow.length c0_2, .slice A0_3 m.last.length c0_3, .bool m.empty], row 49 kSet v13_0 (setsM m)] := U13
      obtain ⟨h15, le15, T15, rp15⟩ := S14.freeze (i := 1) rfl
      have lf15_0 := (lk13).trans le15
      have S16 : St w.heap.size w h15 w13 [box b1 27 [.slice A0_0 m.spots.length c0_0, .slice A0_1 m.first.length c0_1, .slice A0_2 m.follow.length c0_2, .slice A0_3 m.last.length c0_3, .bool m.empty], emp] := T15
      obtain ⟨A15, c15, e15, lc15, cm15, ld15⟩ := rp15
      injection e15 with e15 _; subst e15
      have cn15 := cm15; simp only [maxLen] at cn15
      refine p_c rfl rfl rfl (y_call (args := [.slice A15 (setsM m).length c15]) ca13 rfl rfl) (refine_calls w13 (setsM m) A15 c15 (And.intro lc15 cm15) (ld15.mono ((Le.refl _).trans S16.ghost))) ?_
      rintro _ w17 ⟨h17, T17, rfl, ok17_0⟩
      have S18 := S16.keep (Chg.of_below T17.below)
      obtain ⟨b19, w19, r19, g19, T19⟩ := e_box (P := Tryd.prog) S18 41 (v := (.agg #[.int .u8 0, .int .u8 0, .int .u8 0, .int .u8 0, .int .u8 0, .int .u8 0, .int .u8 0, .int .u8 0, .int .u8 0, .int .u8 0, .int .u8 0, .int .u8 0, .int .u8 0, .int .u8 0, .int .u8 0, .int .u8 0, .int .u8 0, .int .u8 0, .int .u8 0, .int .u8 0, .int .u8 0, .int .u8 0, .int .u8 0, .int .u8 0, .int .u8 0, .int .u8 0, .int .u8 0, .int .u8 0, .int .u8 0, .int .u8 0, .int .u8 0, .int .u8 0, .int .u8 0, .int .u8 0, .int .u8 0, .int .u8 0, .int .u8 0, .int .u8 0, .int .u8 0, .int .u8 0, .int .u8 0, .int .u8 0, .int .u8 0, .int .u8 0, .int .u8 0, .int .u8 0, .int .u8 0, .int .u8 0, .int .u8 0, .int .u8 0, .int .u8 0, .int .u8 0, .int .u8 0, .int .u8 0, .int .u8 0, .int .u8 0, .int .u8 0, .int .u8 0, .int .u8 0, .int .u8 0, .int .u8 0, .int .u8 0, .int .u8 0, .int .u8 0, .int .u8 0, .int .u8 0, .int .u8 0, .int .u8 0, .int .u8 0, .int .u8 0, .int .u8 0, .int .u8 0, .int .u8 0, .int .u8 0, .int .u8 0, .int .u8 0, .int .u8 0, .int .u8 0, .int .u8 0, .int .u8 0, .int .u8 0, .int .u8 0, .int .u8 0, .int .u8 0, .int .u8 0, .int .u8 0, .int .u8 0, .int .u8 0, .int .u8 0, .int .u8 0, .int .u8 0, .int .u8 0, .int .u8 0, .int .u8 0, .int .u8 0, .int .u8 0, .int .u8 0, .int .u8 0, .int .u8 0, .int .u8 0, .int .u8 0, .int .u8 0, .int .u8 0, .int .u8 0, .int .u8 0, .int .u8 0, .int .u8 0, .int .u8 0, .int .u8 0, .int .u8 0, .int .u8 0, .int .u8 0, .int .u8 0, .int .u8 0, .int .u8 0, .int .u8 0, .int .u8 0, .int .u8 0, .int .u8 0, .int .u8 0, .int .u8 0, .int .u8 0, .int .u8 0, .int .u8 0, .int .u8 0, .int .u8 0, .int .u8 0, .int .u8 0, .int .u8 0, .int .u8 0, .int .u8 0, .int .u8 0, .int .u8 0, .int .u8 0, .int .u8 0, .int .u8 0, .int .u8 0, .int .u8 0, .int .u8 0, .int .u8 0, .int .u8 0, .int .u8 0, .int .u8 0, .int .u8 0, .int .u8 0, .int .u8 0, .int .u8 0, .int .u8 0, .int .u8 0, .int .u8 0, .int .u8 0, .int .u8 0, .int .u8 0, .int .u8 0, .int .u8 0, .int .u8 0, .int .u8 0, .int .u8 0, .int .u8 0, .int .u8 0, .int .u8 0, .int .u8 0, .int .u8 0, .int .u8 0, .int .u8 0, .int .u8 0, .int .u8 0, .int .u8 0, .int .u8 0, .int .u8 0, .int .u8 0, .int .u8 0, .int .u8 0, .int .u8 0, .int .u8 0, .int .u8 0, .int .u8 0, .int .u8 0, .int .u8 0, .int .u8 0, .int .u8 0, .int .u8 0, .int .u8 0, .int .u8 0, .int .u8 0, .int .u8 0, .int .u8 0, .int .u8 0, .int .u8 0, .int .u8 0, .int .u8 0, .int .u8 0, .int .u8 0, .int .u8 0, .int .u8 0, .int .u8 0, .int .u8 0, .int .u8 0, .int .u8 0, .int .u8 0, .int .u8 0, .int .u8 0, .int .u8 0, .int .u8 0, .int .u8 0, .int .u8 0, .int .u8 0, .int .u8 0, .int .u8 0, .int .u8 0, .int .u8 0, .int .u8 0, .int .u8 0, .int .u8 0, .int .u8 0, .int .u8 0, .int .u8 0, .int .u8 0, .int .u8 0, .int .u8 0, .int .u8 0, .int .u8 0, .int .u8 0, .int .u8 0, .int .u8 0, .int .u8 0, .int .u8 0, .int .u8 0, .int .u8 0, .int .u8 0, .int .u8 0, .int .u8 0, .int .u8 0, .int .u8 0, .int .u8 0, .int .u8 0, .int .u8 0, .int .u8 0, .int .u8 0, .int .u8 0, .int .u8 0, .int .u8 0, .int .u8 0, .int .u8 0, .int .u8 0, .int .u8 0, .int .u8 0, .int .u8 0, .int .u8 0, .int .u8 0, .int .u8 0, .int .u8 0, .int .u8 0, .int .u8 0, .int .u8 0, .int .u8 0, .int .i64 0])) (encPart (⟨(List.replicate 256 (0 : Int)), 0⟩ : PartM)) (by kernel_rfl)
      have S20 : St w.heap.size w h15 w19 [box b1 27 [.slice A0_0 m.spots.length c0_0, .slice A0_1 m.first.length c0_1, .slice A0_2 m.follow.length c0_2, .slice A0_3 m.last.length c0_3, .bool m.empty], emp, box b19 41 (encPart (⟨(List.replicate 256 (0 : Int)), 0⟩ : PartM))] := T19
      refine p_v (v := .pointer (some ⟨b19, 0, none⟩)) rfl rfl rfl (x_alloc ty41 r19) ?_
      obtain ⟨w21, r21, g21, T21⟩ := e_store (P := Tryd.prog) (off := 0) (v := .agg (encPart (refineP (setsM m))).toArray) (vs := (encPart (refineP (setsM m)))) S20 ty41 rfl (encPart_len ok17_0) (j := 2) rfl (by rw [encPart_len (okPart_zero)]; decide) (encPart_one _)
      rw [lput_all (by rw [encPart_len ok17_0, encPart_len (okPart_zero)])] at T21
      have S22 : St w.heap.size w h15 w21 [box b1 27 [.slice A0_0 m.spots.length c0_0, .slice A0_1 m.first.length c0_1, .slice A0_2 m.follow.length c0_2, .slice A0_3 m.last.length c0_3, .bool m.empty], emp, box b19 41 (encPart (refineP (setsM m)))] := T21
      refine p_s rfl rfl (x_store rfl rfl r21) ?_
      refine run_region_end ?_
      refine run_seq ?_
      refine run_reg (l := [0, 1, 2]) rfl ?_
      refine p_v (v := .agg (encPart (refineP (setsM m))).toArray) rfl rfl rfl (x_load (seg := (encPart (refineP (setsM m)))) ty41 (encPart_len ok17_0) (by simp) rfl (CF.box (m := 257) (S22.box_at (j := 2) rfl) (by rw [List.drop_zero, List.take_of_length_le (by rw [encPart_len ok17_0]; exact Nat.le_refl _)]))) ?_
      refine p_c rfl rfl rfl (y_call (args := [.agg (encPart (refineP (setsM m))).toArray]) ca15 rfl rfl) (sets_calls w21 (refineP (setsM m)) ok17_0) ?_
      rintro v23_0 w23 ⟨h23, _, T23, rfl⟩
      obtain ⟨k23, lk23, ll23, U23⟩ := call_joins S22 T23
      have lc23_0 := (lf15_0).trans lk23
      have lc23_1 := (le15).trans lk23
      have S24 : St w.heap.size w k23 w23 [box b1 27 [.slice A0_0 m.spots.length c0_0, .slice A0_1 m.first.length c0_1, .slice A0_2 m.follow.length c0_2, .slice A0_3 m.last.length c0_3, .bool m.empty], emp, box b19 41 (encPart (refineP (setsM m))), row 49 kSet v23_0 (setsP (refineP (setsM m)))] := U23
      obtain ⟨h25, le25, T25, rp25⟩ := S24.freeze (i := 3) rfl
      have lf25_0 := (lc23_0).trans le25
      have lf25_1 := (lc23_1).trans le25
      have lf25_2 := (lk23).trans le25
      have S26 : St w.heap.size w h25 w23 [box b1 27 [.slice A0_0 m.spots.length c0_0, .slice A0_1 m.first.length c0_1, .slice A0_2 m.follow.length c0_2, .slice A0_3 m.last.length c0_3, .bool m.empty], emp, box b19 41 (encPart (refineP (setsM m))), emp] := T25
      obtain ⟨A25, c25, e25, lc25, cm25, ld25⟩ := rp25
      injection e25 with e25 _; subst e25
      have cn25 := cm25; simp only [maxLen] at cn25
      refine p_v (v := .slice A25 (setsP (refineP (setsM m))).length c25) rfl rfl rfl (x_assign rfl) ?_
      refine run_region_end ?_
      refine run_seq ?_
      refine run_reg (l := [0, 1, 2]) rfl ?_
      refine p_v (v := .string xw) rfl rfl rfl (x_move rfl) ?_
      obtain ⟨v27, w27, r27, g27, T27⟩ := e_str_bytes xw S26 u9 u38 u5 s1
      have S28 : St w.heap.size w h25 w27 [box b1 27 [.slice A0_0 m.spots.length c0_0, .slice A0_1 m.first.length c0_1, .slice A0_2 m.follow.length c0_2, .slice A0_3 m.last.length c0_3, .bool m.empty], emp, box b19 41 (encPart (refineP (setsM m))), emp, rowB 5 v27 (bytesL xw)] := T27
      have lb27 := bytesL_len xw
      refine p_v (v := v27) rfl rfl rfl (x_str_bytes rfl r27) ?_
      refine p_v (v := v27) rfl rfl rfl (x_assign rfl) ?_
      refine run_region_end ?_
      refine run_seq ?_
      refine run_seq ?_
      refine run_reg (l := [0]) rfl ?_
      refine p_v (v := .int .i64 0) rfl rfl rfl (x_assign rfl) ?_
      refine run_region_end ?_
      refine run_block ?_
      refine run_loop (S := (List Int) × Int) (fun (q_ : (List Int) × Int) ρ w' => match q_ with | (b, i) => ∃ (h : Ghost) (v_b : Value), Le h25 h ∧ St w.heap.size w h w' [box b1 27 [.slice A0_0 m.spots.length c0_0, .slice A0_1 m.first.length c0_1, .slice A0_2 m.follow.length c0_2, .slice A0_3 m.last.length c0_3, .bool m.empty], box b19 41 (encPart (refineP (setsM m))), rowB 5 v_b b] ∧ ρ 1 = .string xw ∧ ρ 2 = .slice A2 turns.length c2 ∧ ρ 3 = .pointer (some ⟨b1, 0, none⟩) ∧ ρ 7 = .pointer (some ⟨b19, 0, none⟩) ∧ ρ 8 = .slice A25 (setsP (refineP (setsM m))).length c25 ∧ ρ 9 = v_b ∧ ρ 10 = .int .i64 i ∧ inK .i64 i ∧ (0 ≤ i ∧ Gx.Alike m xw b)) (fun q_ => match q_ with | (b, i) => ((b.length : Int) - i).toNat) (bytesL xw, 0) ⟨h25, v27, Le.refl _, S28.sub [0, 2, 4] (by decide) rfl _ rfl, rfl, rfl, rfl, rfl, rfl, rfl, rfl, (in_i64 (by first|omega|(simp;omega)|assumption) (by first|omega|(simp;omega)|assumption)), (by exact ⟨by omega, alike_0 m xw⟩)⟩ ?_
      rintro ⟨b, i⟩ ih29 ρ29 w29 ⟨h29, v_b, le29, S29, r29_1, r29_2, r29_3, r29_7, r29_8, r29_9, r29_10, f29_0, hI29⟩
      have lf29_0 := i64_lo f29_0; have hf29_0 := i64_hi f29_0
      have rl29_2 := rowB_le S29 (j := 2) rfl; simp only [maxLen] at rl29_2
      refine run_seq ?_
      refine run_seq ?_
      refine run_reg (l := [0, 1, 2, 3, 4, 5, 6, 7, 8, 9]) rfl ?_
      refine p_v (v := .int .i64 i) rfl rfl rfl (x_move r29_10) ?_
      refine p_v (v := v_b) rfl rfl rfl (x_move r29_9) ?_
      have lb30 := rowB_le S29 (j := 2) rfl; simp only [maxLen] at lb30
      obtain ⟨A30, c30, ev30, _, _⟩ := rowB_val S29 (j := 2) rfl
      refine p_v (v := .int .i64 (b.length : Int)) rfl rfl rfl (x_len_own u38 rfl ⟨A30, c30, ev30⟩) ?_
      refine p_v (v := .bool (decide (i < (b.length : Int)))) rfl rfl rfl (x_lss rfl rfl) ?_
      refine p_v (v := .bool (decide (i < (b.length : Int)))) rfl rfl rfl (x_move rfl) ?_
      by_cases hc31 : i < (b.length : Int)
      · skip
        refine p_v (v := .int .i64 i) rfl (wanted_of (j := 4) (want := true) (d := 32) (b := true) rfl rfl (congrArg Value.bool (decide_eq_true hc31)) rfl) rfl (x_move r29_10) ?_
        refine p_v (v := .slice A2 turns.length c2) rfl (wanted_of (j := 4) (want := true) (d := 32) (b := true) rfl rfl (congrArg Value.bool (decide_eq_true hc31)) rfl) rfl (x_move r29_2) ?_
        refine p_v (v := .int .i64 (turns.length : Int)) rfl (wanted_of (j := 4) (want := true) (d := 32) (b := true) rfl rfl (congrArg Value.bool (decide_eq_true hc31)) rfl) rfl (x_len_slice u38 rfl) ?_
        refine p_v (v := .bool (decide (i < (turns.length : Int)))) rfl (wanted_of (j := 4) (want := true) (d := 32) (b := true) rfl rfl (congrArg Value.bool (decide_eq_true hc31)) rfl) rfl (x_lss rfl rfl) ?_
        refine p_v (v := .bool (decide (i < (turns.length : Int)))) rfl rfl rfl (x_pick_t (congrArg Value.bool (decide_eq_true hc31)) rfl) ?_
        refine run_region_end ?_
        refine run_cond_prop (p := i < (turns.length : Int)) rfl (fun hc32 => ?_) (fun hc32 => ?_)
        · skip
          refine run_skip ?_
          refine run_seq ?_
          refine run_block ?_
          refine run_seq ?_
          refine run_reg (l := [0, 1, 2, 3, 4, 5, 6, 7, 8]) rfl ?_
          refine p_v (v := v_b) rfl rfl rfl (x_move r29_9) ?_
          refine p_v (v := .int .i64 i) rfl rfl rfl (x_move r29_10) ?_
          obtain ⟨ad33, a33, at33⟩ := e_indexB (q := i) S29 (j := 2) rfl (by first|omega|(simp;omega)|assumption) (by first|omega|(simp;omega)|assumption)
          refine p_v (v := .pointer (some ad33)) rfl rfl rfl (x_index_own u38 ty5 rfl rfl a33 (by first|omega|(simp;omega)|assumption) (by first|omega|(simp;omega)|assumption)) ?_
          obtain ⟨in34, cf34⟩ := e_loadB (q := i) S29 (j := 2) rfl at33 (by first|omega|(simp;omega)|assumption) (by first|omega|(simp;omega)|assumption)
          have lo34 := u8_lo in34; have hi34 := u8_hi in34
          refine p_v (v := .int .u8 (at_ b i)) rfl rfl rfl (x_load (seg := [.int .u8 (at_ b i)]) ty5 rfl (by simp) rfl cf34) ?_
          refine p_v (v := .pointer (some ⟨b19, 0, none⟩)) rfl rfl rfl (x_fieldAt fd41_0 ty39 rfl r29_7) ?_
          refine p_v (v := .pointer (some ⟨b19, 0 + (at_ b i).toNat * 1, none⟩)) rfl rfl rfl (x_indexAddr_arr u39 ty5 rfl rfl (by first|omega|(simp;omega)|assumption) (by first|omega|(simp;omega)|assumption)) ?_
          have in35 := okInts_at (ok17_0).1 (i := at_ b i) (by first|omega|(simp;omega)|assumption) (by first|omega|(simp;omega)|assumption)
          have lo35 := u8_lo in35; have hi35 := u8_hi in35
          refine p_v (v := .int .u8 (at_ ((refineP (setsM m)).of) (at_ b i))) rfl rfl rfl (x_load (seg := [.int .u8 (at_ ((refineP (setsM m)).of) (at_ b i))]) ty5 rfl (by simp) rfl (CF.box (m := 1) (S29.box_at (j := 1) rfl) (cs := (encPart (refineP (setsM m)))) (encPart_at ok17_0 (by first|omega|(simp;omega)|assumption) (by first|omega|(simp;omega)|assumption)))) ?_
          refine p_v (v := .int .i64 (at_ ((refineP (setsM m)).of) (at_ b i))) rfl rfl rfl (x_conv u5 u3 rfl (in_i64 (by first|omega|(simp;omega)|assumption) (by first|omega|(simp;omega)|assumption))) ?_
          refine p_v (v := .int .i64 (at_ ((refineP (setsM m)).of) (at_ b i))) rfl rfl rfl (x_assign rfl) ?_
          refine run_region_end ?_
          refine run_seq ?_
          refine run_seq ?_
          refine run_reg (l := [0, 1, 2, 3]) rfl ?_
          refine p_v (v := .int .i64 (at_ ((refineP (setsM m)).of) (at_ b i))) rfl rfl rfl (x_move rfl) ?_
          refine p_v (v := .slice A25 (setsP (refineP (setsM m))).length c25) rfl rfl rfl (x_move r29_8) ?_
          refine p_v (v := .int .i64 ((setsP (refineP (setsM m))).length : Int)) rfl rfl rfl (x_len_slice u43 rfl) ?_
          refine p_v (v := .bool (decide (((setsP (refineP (setsM m))).length : Int) ≤ (at_ ((refineP (setsM m)).of) (at_ b i))))) rfl rfl rfl (x_geq rfl rfl) ?_
          refine run_region_end ?_
          have hc36 : ¬ (((setsP (refineP (setsM m))).length : Int) ≤ (at_ ((refineP (setsM m)).of) (at_ b i))) := by
            have hci_ := cls_in (setsM m) (c := at_ b i) (by omega) (by omega)
            omega
          refine run_cond (b := false) (congrArg Value.bool (decide_eq_false hc36)) ?_
          simp only [if_true, if_false, Bool.false_eq_true]
          refine run_skip ?_
          refine run_seq ?_
          refine run_reg (l := [0, 1, 2, 3, 4, 5]) rfl ?_
          refine p_v (v := .slice A25 (setsP (refineP (setsM m))).length c25) rfl rfl rfl (x_move r29_8) ?_
          refine p_v (v := .int .i64 (at_ ((refineP (setsM m)).of) (at_ b i))) rfl rfl rfl (x_move rfl) ?_
          obtain ⟨ad37, seg37, a37, rp37, ce37⟩ := e_index_ro (q := at_ ((refineP (setsM m)).of) (at_ b i)) (m := 4) ld25 rfl (by first|omega|(simp;omega)|assumption) (by first|omega|(simp;omega)|assumption)
          refine p_v (v := .pointer (some ad37)) rfl rfl rfl (x_index_ro u43 ty49 rfl rfl a37 (by first|omega|(simp;omega)|assumption) (by first|omega|(simp;omega)|assumption)) ?_
          obtain ⟨rfl, ok37⟩ := rp37
          refine p_v (v := .agg (encSet (at_ (setsP (refineP (setsM m))) (at_ ((refineP (setsM m)).of) (at_ b i)))).toArray) rfl rfl rfl (x_load (seg := (encSet (at_ (setsP (refineP (setsM m))) (at_ ((refineP (setsM m)).of) (at_ b i))))) ty49 rfl (by simp) rfl (CF.ghost ce37 (le29.trans S29.ghost))) ?_
          refine p_c rfl rfl rfl (y_call (args := [.agg (encSet (at_ (setsP (refineP (setsM m))) (at_ ((refineP (setsM m)).of) (at_ b i)))).toArray]) ca16 rfl rfl) (list_calls w29 (at_ (setsP (refineP (setsM m))) (at_ ((refineP (setsM m)).of) (at_ b i))) (Block.st S29 tb)) ?_
          rintro v38_0 w38 ⟨h38, _, T38, rfl⟩
          obtain ⟨k38, lk38, ll38, U38⟩ := call_joins S29 T38
          have lc38_0 := (((lf25_0).trans le29)).trans lk38
          have lc38_1 := (((lf25_1).trans le29)).trans lk38
          have lc38_2 := (((lf25_2).trans le29)).trans lk38
          have lc38_3 := (((le25).trans le29)).trans lk38
          have lc38_4 := (le29).trans lk38
          have S39 : St w.heap.size w k38 w38 [box b1 27 [.slice A0_0 m.spots.length c0_0, .slice A0_1 m.first.length c0_1, .slice A0_2 m.follow.length c0_2, .slice A0_3 m.last.length c0_3, .bool m.empty], box b19 41 (encPart (refineP (setsM m))), rowB 5 v_b b, row 5 (Kd.int .u8) v38_0 (listOf (at_ (setsP (refineP (setsM m))) (at_ ((refineP (setsM m)).of) (at_ b i))))] := U38
          obtain ⟨h40, le40, T40, rp40⟩ := S39.freeze (i := 3) rfl
          have lf40_0 := (lc38_0).trans le40
          have lf40_1 := (lc38_1).trans le40
          have lf40_2 := (lc38_2).trans le40
          have lf40_3 := (lc38_3).trans le40
          have lf40_4 := (lc38_4).trans le40
          have lf40_5 := (lk38).trans le40
          have S41 : St w.heap.size w h40 w38 [box b1 27 [.slice A0_0 m.spots.length c0_0, .slice A0_1 m.first.length c0_1, .slice A0_2 m.follow.length c0_2, .slice A0_3 m.last.length c0_3, .bool m.empty], box b19 41 (encPart (refineP (setsM m))), rowB 5 v_b b, emp] := T40
          obtain ⟨A40, c40, e40, lc40, cm40, ld40⟩ := rp40
          injection e40 with e40 _; subst e40
          have cn40 := cm40; simp only [maxLen] at cn40
          refine p_v (v := .slice A40 (listOf (at_ (setsP (refineP (setsM m))) (at_ ((refineP (setsM m)).of) (at_ b i)))).length c40) rfl rfl rfl (x_assign rfl) ?_
          refine run_region_end ?_
          refine run_seq ?_
          refine run_seq ?_
          refine run_reg (l := [0, 1, 2]) rfl ?_
          refine p_v (v := .slice A40 (listOf (at_ (setsP (refineP (setsM m))) (at_ ((refineP (setsM m)).of) (at_ b i)))).length c40) rfl rfl rfl (x_move rfl) ?_
          refine p_v (v := .int .i64 ((listOf (at_ (setsP (refineP (setsM m))) (at_ ((refineP (setsM m)).of) (at_ b i)))).length : Int)) rfl rfl rfl (x_len_slice u38 rfl) ?_
          refine p_v (v := .bool (decide (((listOf (at_ (setsP (refineP (setsM m))) (at_ ((refineP (setsM m)).of) (at_ b i)))).length : Int) = 0))) rfl rfl rfl (x_eql rfl rfl) ?_
          refine run_region_end ?_
          have hc42 : ¬ (((listOf (at_ (setsP (refineP (setsM m))) (at_ ((refineP (setsM m)).of) (at_ b i)))).length : Int) = 0) := by
            have hcs_ := cls_some_of (setsM m) (c := at_ b i) (by omega) (by omega)
            omega
          have hm1_ := Int.emod_nonneg (at_ turns i) (b := ((listOf (at_ (setsP (refineP (setsM m))) (at_ (refineP (setsM m)).of (at_ b i)))).length : Int)) (by omega)
          have hm2_ := Int.emod_lt_of_pos (at_ turns i) (b := ((listOf (at_ (setsP (refineP (setsM m))) (at_ (refineP (setsM m)).of (at_ b i)))).length : Int)) (by omega)
          refine run_cond (b := false) (congrArg Value.bool (decide_eq_false hc42)) ?_
          simp only [if_true, if_false, Bool.false_eq_true]
          refine run_skip ?_
          refine run_reg (l := [0, 1, 2, 3, 4, 5, 6, 7, 8, 9, 10, 11, 12, 13, 14]) rfl ?_
          refine p_v (v := v_b) rfl rfl rfl (x_move r29_9) ?_
          refine p_v (v := .int .i64 i) rfl rfl rfl (x_move r29_10) ?_
          refine p_v (v := .slice A40 (listOf (at_ (setsP (refineP (setsM m))) (at_ ((refineP (setsM m)).of) (at_ b i)))).length c40) rfl rfl rfl (x_move rfl) ?_
          refine p_v (v := .slice A2 turns.length c2) rfl rfl rfl (x_move r29_2) ?_
          refine p_v (v := .int .i64 i) rfl rfl rfl (x_move r29_10) ?_
          obtain ⟨ad43, seg43, a43, rp43, ce43⟩ := e_index_ro (q := i) (m := 1) l2 rfl (by first|omega|(simp;omega)|assumption) (by first|omega|(simp;omega)|assumption)
          refine p_v (v := .pointer (some ad43)) rfl rfl rfl (x_index_ro u38 ty5 rfl rfl a43 (by first|omega|(simp;omega)|assumption) (by first|omega|(simp;omega)|assumption)) ?_
          obtain ⟨rfl, in43⟩ := rp43
          have lo43 := u8_lo in43; have hi43 := u8_hi in43
          refine p_v (v := .int .u8 (at_ turns i)) rfl rfl rfl (x_load (seg := [.int .u8 (at_ turns i)]) ty5 rfl (by simp) rfl (CF.ghost ce43 (St.le0 S41))) ?_
          refine p_v (v := .int .i64 (at_ turns i)) rfl rfl rfl (x_conv u5 u3 rfl (in_i64 (by first|omega|(simp;omega)|assumption) (by first|omega|(simp;omega)|assumption))) ?_
          refine p_v (v := .slice A40 (listOf (at_ (setsP (refineP (setsM m))) (at_ ((refineP (setsM m)).of) (at_ b i)))).length c40) rfl rfl rfl (x_move rfl) ?_
          refine p_v (v := .int .i64 ((listOf (at_ (setsP (refineP (setsM m))) (at_ ((refineP (setsM m)).of) (at_ b i)))).length : Int)) rfl rfl rfl (x_len_slice u38 rfl) ?_
          refine p_v (v := .int .i64 ((at_ turns i) % ((listOf (at_ (setsP (refineP (setsM m))) (at_ ((refineP (setsM m)).of) (at_ b i)))).length : Int))) rfl rfl rfl (x_rem rfl rfl (by first|omega|(simp;omega)|assumption) (by first|omega|(simp;omega)|assumption)) ?_
          obtain ⟨ad44, seg44, a44, rp44, ce44⟩ := e_index_ro (q := (at_ turns i) % ((listOf (at_ (setsP (refineP (setsM m))) (at_ ((refineP (setsM m)).of) (at_ b i)))).length : Int)) (m := 1) ld40 rfl (by first|omega|(simp;omega)|assumption) (by first|omega|(simp;omega)|assumption)
          refine p_v (v := .pointer (some ad44)) rfl rfl rfl (x_index_ro u38 ty5 rfl rfl a44 (by first|omega|(simp;omega)|assumption) (by first|omega|(simp;omega)|assumption)) ?_
          obtain ⟨rfl, in44⟩ := rp44
          have lo44 := u8_lo in44; have hi44 := u8_hi in44
          refine p_v (v := .int .u8 (at_ (listOf (at_ (setsP (refineP (setsM m))) (at_ ((refineP (setsM m)).of) (at_ b i)))) ((at_ turns i) % ((listOf (at_ (setsP (refineP (setsM m))) (at_ ((refineP (setsM m)).of) (at_ b i)))).length : Int)))) rfl rfl rfl (x_load (seg := [.int .u8 (at_ (listOf (at_ (setsP (refineP (setsM m))) (at_ ((refineP (setsM m)).of) (at_ b i)))) ((at_ turns i) % ((listOf (at_ (setsP (refineP (setsM m))) (at_ ((refineP (setsM m)).of) (at_ b i)))).length : Int)))]) ty5 rfl (by simp) rfl (CF.ghost ce44 ((Le.refl _).trans S41.ghost))) ?_
          obtain ⟨ad45, a45, at45⟩ := e_indexB (q := i) S41 (j := 2) rfl (by first|omega|(simp;omega)|assumption) (by first|omega|(simp;omega)|assumption)
          refine p_v (v := .pointer (some ad45)) rfl rfl rfl (x_index_own u38 ty5 rfl rfl a45 (by first|omega|(simp;omega)|assumption) (by first|omega|(simp;omega)|assumption)) ?_
          obtain ⟨w46, r46, g46, T46⟩ := e_storeB (q := i) (z := at_ (listOf (at_ (setsP (refineP (setsM m))) (at_ ((refineP (setsM m)).of) (at_ b i)))) ((at_ turns i) % ((listOf (at_ (setsP (refineP (setsM m))) (at_ ((refineP (setsM m)).of) (at_ b i)))).length : Int))) S41 ty5 (j := 2) rfl (in_u8 (by first|omega|(simp;omega)|assumption) (by first|omega|(simp;omega)|assumption)) at45 (by first|omega|(simp;omega)|assumption) (by first|omega|(simp;omega)|assumption)
          have S47 : St w.heap.size w h40 w46 [box b1 27 [.slice A0_0 m.spots.length c0_0, .slice A0_1 m.first.length c0_1, .slice A0_2 m.follow.length c0_2, .slice A0_3 m.last.length c0_3, .bool m.empty], box b19 41 (encPart (refineP (setsM m))), rowB 5 v_b (b.set (i).toNat (at_ (listOf (at_ (setsP (refineP (setsM m))) (at_ ((refineP (setsM m)).of) (at_ b i)))) ((at_ turns i) % ((listOf (at_ (setsP (refineP (setsM m))) (at_ ((refineP (setsM m)).of) (at_ b i)))).length : Int)))), emp] := T46
          refine p_s rfl rfl (x_store rfl rfl r46) ?_
          refine run_region_end ?_
          refine run_inBlock ?_
          refine run_reg (l := [0, 1, 2]) rfl ?_
          refine p_v (v := .int .i64 i) rfl rfl rfl (x_move r29_10) ?_
          refine p_v (v := .int .i64 (i + 1)) rfl rfl rfl (x_add rfl rfl (in_i64 (by first|omega|(simp;omega)|assumption) (by first|omega|(simp;omega)|assumption))) ?_
          refine p_v (v := .int .i64 (i + 1)) rfl rfl rfl (x_assign rfl) ?_
          refine run_region_end ?_
          refine ih29 (b.set (i).toNat (at_ (listOf (at_ (setsP (refineP (setsM m))) (at_ ((refineP (setsM m)).of) (at_ b i)))) ((at_ turns i) % ((listOf (at_ (setsP (refineP (setsM m))) (at_ ((refineP (setsM m)).of) (at_ b i)))).length : Int))), i + 1) _ _ (by (try simp only [List.length_set]); omega) ⟨h40, v_b, lf40_4, S47.sub [0, 1, 2] (by decide) rfl _ rfl, r29_1, r29_2, r29_3, r29_7, r29_8, r29_9, rfl, (in_i64 (by first|omega|(simp;omega)|assumption) (by first|omega|(simp;omega)|assumption)), (by exact ⟨by omega, alike_step hI29.2 hI29.1 (by omega) (cls_alike (m := m) (c := at_ b i) (by omega) (by omega) hm1_ hm2_).1 (cls_alike (m := m) (c := at_ b i) (by omega) (by omega) hm1_ hm2_).2⟩)⟩
        · skip
          refine run_exit rfl ?_
          refine run_seq ?_
          obtain ⟨A49, c49, ev49, lc49, cm49⟩ := rowB_val S29 (j := 2) rfl
          have sz50 := str_small (xs := b) (Nat.le_trans (And.intro lc49 cm49).1 (And.intro lc49 cm49).2); have bdsz50 := sz50; simp only [maxLen] at bdsz50
          have hc52 : ((runM m xw) = (runM m (strOfNums b))) := by
            exact alike_end hI29.2
          have hf54 : (CFs ⟨b1, 0, none⟩ [.slice A0_0 m.spots.length c0_0, .slice A0_1 m.first.length c0_1, .slice A0_2 m.follow.length c0_2, .slice A0_3 m.last.length c0_3, .bool m.empty]).1 w29 := (CF.box (m := 5) (S29.box_at (j := 0) rfl) rfl)
          have hf55 : (LeadsS kSpot A0_0 m.spots).1 w29 := (l0_0.mono (St.le0 S29))
          have hf56 : (LeadsS (Kd.int .i64) A0_1 m.first).1 w29 := (l0_1.mono (St.le0 S29))
          have hf57 : (LeadsS (Kd.int .i64).slice A0_2 m.follow).1 w29 := (l0_2.mono (St.le0 S29))
          have hf58 : (LeadsS Kd.bool A0_3 m.last).1 w29 := (l0_3.mono (St.le0 S29))
          have hf59 : (CFs ⟨b1, 0, none⟩ [.slice A0_0 m.spots.length c0_0, .slice A0_1 m.first.length c0_1, .slice A0_2 m.follow.length c0_2, .slice A0_3 m.last.length c0_3, .bool m.empty]).1 w29 := (CF.box (m := 5) (S29.box_at (j := 0) rfl) rfl)
          have hf60 : (LeadsS (Kd.int .u8) A49 b).1 w29 := (rowB_leads S29 (j := 2) rfl ev49)
          have hf61 : (LeadsS kSpot A0_0 m.spots).1 w29 := (l0_0.mono (St.le0 S29))
          have hf62 : (LeadsS (Kd.int .i64) A0_1 m.first).1 w29 := (l0_1.mono (St.le0 S29))
          have hf63 : (LeadsS (Kd.int .i64).slice A0_2 m.follow).1 w29 := (l0_2.mono (St.le0 S29))
          have hf64 : (LeadsS Kd.bool A0_3 m.last).1 w29 := (l0_3.mono (St.le0 S29))
          refine da_start [(0, CFs ⟨b1, 0, none⟩ [.slice A0_0 m.spots.length c0_0, .slice A0_1 m.first.length c0_1, .slice A0_2 m.follow.length c0_2, .slice A0_3 m.last.length c0_3, .bool m.empty]), (2, LeadsS kSpot A0_0 m.spots), (2, LeadsS (Kd.int .i64) A0_1 m.first), (2, LeadsS (Kd.int .i64).slice A0_2 m.follow), (2, LeadsS Kd.bool A0_3 m.last), (3, CFs ⟨b1, 0, none⟩ [.slice A0_0 m.spots.length c0_0, .slice A0_1 m.first.length c0_1, .slice A0_2 m.follow.length c0_2, .slice A0_3 m.last.length c0_3, .bool m.empty]), (5, LeadsS (Kd.int .u8) A49 b), (6, LeadsS kSpot A0_0 m.spots), (6, LeadsS (Kd.int .i64) A0_1 m.first), (6, LeadsS (Kd.int .i64).slice A0_2 m.follow), (6, LeadsS Kd.bool A0_3 m.last)] 12 rfl mixed ?_
          intro wd65 gd65 hd65
          have S66 := S29.keep gd65
          have hf67 := (CFs ⟨b1, 0, none⟩ [.slice A0_0 m.spots.length c0_0, .slice A0_1 m.first.length c0_1, .slice A0_2 m.follow.length c0_2, .slice A0_3 m.last.length c0_3, .bool m.empty]).2 _ _ gd65 hf54
          have hf68 := (LeadsS kSpot A0_0 m.spots).2 _ _ gd65 hf55
          have hf69 := (LeadsS (Kd.int .i64) A0_1 m.first).2 _ _ gd65 hf56
          have hf70 := (LeadsS (Kd.int .i64).slice A0_2 m.follow).2 _ _ gd65 hf57
          have hf71 := (LeadsS Kd.bool A0_3 m.last).2 _ _ gd65 hf58
          have hf72 := (CFs ⟨b1, 0, none⟩ [.slice A0_0 m.spots.length c0_0, .slice A0_1 m.first.length c0_1, .slice A0_2 m.follow.length c0_2, .slice A0_3 m.last.length c0_3, .bool m.empty]).2 _ _ gd65 hf59
          have hf73 := (LeadsS (Kd.int .u8) A49 b).2 _ _ gd65 hf60
          have hf74 := (LeadsS kSpot A0_0 m.spots).2 _ _ gd65 hf61
          have hf75 := (LeadsS (Kd.int .i64) A0_1 m.first).2 _ _ gd65 hf62
          have hf76 := (LeadsS (Kd.int .i64).slice A0_2 m.follow).2 _ _ gd65 hf63
          have hf77 := (LeadsS Kd.bool A0_3 m.last).2 _ _ gd65 hf64
          refine d_q (i := 0) (v := .agg #[.slice A0_0 m.spots.length c0_0, .slice A0_1 m.first.length c0_1, .slice A0_2 m.follow.length c0_2, .slice A0_3 m.last.length c0_3, .bool m.empty]) (CF ⟨b1, 0, none⟩ [.slice A0_0 m.spots.length c0_0, .slice A0_1 m.first.length c0_1, .slice A0_2 m.follow.length c0_2, .slice A0_3 m.last.length c0_3, .bool m.empty]) (fun _ ho => ho _ (List.mem_of_getElem? (i := 0) rfl) rfl) rfl (by decide +kernel) (by decide +kernel) (by decide +kernel) rfl rfl (fun wq hq => (x_load (seg := [.slice A0_0 m.spots.length c0_0, .slice A0_1 m.first.length c0_1, .slice A0_2 m.follow.length c0_2, .slice A0_3 m.last.length c0_3, .bool m.empty]) ty27 rfl (by simp) r29_3 hq)) (of_eq hf67 (of_ne rfl (of_ne rfl (of_ne rfl (of_ne rfl (of_ne rfl (of_ne rfl (of_ne rfl (of_ne rfl (of_ne rfl (of_ne rfl (of_nil _ _)))))))))))) ?_
          refine d_q (i := 1) (v := .string xw) (fun _ => True) (fun _ ho => trivial) rfl (by decide +kernel) (by decide +kernel) (by decide +kernel) rfl rfl (fun wq hq => (x_move r29_1)) (of_ne rfl (of_ne rfl (of_ne rfl (of_ne rfl (of_ne rfl (of_ne rfl (of_ne rfl (of_ne rfl (of_ne rfl (of_ne rfl (of_ne rfl (of_nil _ _)))))))))))) ?_
          refine d_m (i := 2) (v := .bool (runM m xw)) (fun wf => Leads kSpot (hp wf) A0_0 m.spots ∧ Leads (Kd.int .i64) (hp wf) A0_1 m.first ∧ Leads (Kd.int .i64).slice (hp wf) A0_2 m.follow ∧ Leads Kd.bool (hp wf) A0_3 m.last) (fun _ ho => ⟨ho _ (List.mem_of_getElem? (i := 1) rfl) rfl, ho _ (List.mem_of_getElem? (i := 2) rfl) rfl, ho _ (List.mem_of_getElem? (i := 3) rfl) rfl, ho _ (List.mem_of_getElem? (i := 4) rfl) rfl⟩) rfl (by decide +kernel) (by decide +kernel) (by decide +kernel) rfl rfl (fun wq => (y_call (args := [.agg #[.slice A0_0 m.spots.length c0_0, .slice A0_1 m.first.length c0_1, .slice A0_2 m.follow.length c0_2, .slice A0_3 m.last.length c0_3, .bool m.empty], .string xw]) ca10 rfl rfl)) (fun wq hq => (runN_calls wq m A0_0 c0_0 b0_0 hq.1 A0_1 c0_1 b0_1 hq.2.1 A0_2 c0_2 b0_2 hq.2.2.1 A0_3 c0_3 b0_3 hq.2.2.2 xw s1).mono fun e w2 he => by obtain ⟨_, rfl, _, T, rfl⟩ := he; exact ⟨rfl, Chg.of_below T.below⟩) (of_ne rfl (of_eq hf68 (of_eq hf69 (of_eq hf70 (of_eq hf71 (of_ne rfl (of_ne rfl (of_ne rfl (of_ne rfl (of_ne rfl (of_ne rfl (of_nil _ _)))))))))))) ?_
          refine d_q (i := 3) (v := .agg #[.slice A0_0 m.spots.length c0_0, .slice A0_1 m.first.length c0_1, .slice A0_2 m.follow.length c0_2, .slice A0_3 m.last.length c0_3, .bool m.empty]) (CF ⟨b1, 0, none⟩ [.slice A0_0 m.spots.length c0_0, .slice A0_1 m.first.length c0_1, .slice A0_2 m.follow.length c0_2, .slice A0_3 m.last.length c0_3, .bool m.empty]) (fun _ ho => ho _ (List.mem_of_getElem? (i := 5) rfl) rfl) rfl (by decide +kernel) (by decide +kernel) (by decide +kernel) rfl rfl (fun wq hq => (x_load (seg := [.slice A0_0 m.spots.length c0_0, .slice A0_1 m.first.length c0_1, .slice A0_2 m.follow.length c0_2, .slice A0_3 m.last.length c0_3, .bool m.empty]) ty27 rfl (by simp) r29_3 hq)) (of_ne rfl (of_ne rfl (of_ne rfl (of_ne rfl (of_ne rfl (of_eq hf72 (of_ne rfl (of_ne rfl (of_ne rfl (of_ne rfl (of_ne rfl (of_nil _ _)))))))))))) ?_
          refine d_q (i := 4) (v := v_b) (fun _ => True) (fun _ ho => trivial) rfl (by decide +kernel) (by decide +kernel) (by decide +kernel) rfl rfl (fun wq hq => (x_move r29_9)) (of_ne rfl (of_ne rfl (of_ne rfl (of_ne rfl (of_ne rfl (of_ne rfl (of_ne rfl (of_ne rfl (of_ne rfl (of_ne rfl (of_ne rfl (of_nil _ _)))))))))))) ?_
          refine d_q (i := 5) (v := .string (strOfNums b)) (fun wf => Leads (Kd.int .u8) (hp wf) A49 b) (fun _ ho => ho _ (List.mem_of_getElem? (i := 6) rfl) rfl) rfl (by decide +kernel) (by decide +kernel) (by decide +kernel) rfl rfl (fun wq hq => (x_bytes_string u38 u5 u9 ev49 hq)) (of_ne rfl (of_ne rfl (of_ne rfl (of_ne rfl (of_ne rfl (of_ne rfl (of_eq hf73 (of_ne rfl (of_ne rfl (of_ne rfl (of_ne rfl (of_nil _ _)))))))))))) ?_
          refine d_m (i := 6) (v := .bool (runM m (strOfNums b))) (fun wf => Leads kSpot (hp wf) A0_0 m.spots ∧ Leads (Kd.int .i64) (hp wf) A0_1 m.first ∧ Leads (Kd.int .i64).slice (hp wf) A0_2 m.follow ∧ Leads Kd.bool (hp wf) A0_3 m.last) (fun _ ho => ⟨ho _ (List.mem_of_getElem? (i := 7) rfl) rfl, ho _ (List.mem_of_getElem? (i := 8) rfl) rfl, ho _ (List.mem_of_getElem? (i := 9) rfl) rfl, ho _ (List.mem_of_getElem? (i := 10) rfl) rfl⟩) rfl (by decide +kernel) (by decide +kernel) (by decide +kernel) rfl rfl (fun wq => (y_call (args := [.agg #[.slice A0_0 m.spots.length c0_0, .slice A0_1 m.first.length c0_1, .slice A0_2 m.follow.length c0_2, .slice A0_3 m.last.length c0_3, .bool m.empty], .string (strOfNums b)]) ca10 rfl rfl)) (fun wq hq => (runN_calls wq m A0_0 c0_0 b0_0 hq.1 A0_1 c0_1 b0_1 hq.2.1 A0_2 c0_2 b0_2 hq.2.2.1 A0_3 c0_3 b0_3 hq.2.2.2 (strOfNums b) sz50).mono fun e w2 he => by obtain ⟨_, rfl, _, T, rfl⟩ := he; exact ⟨rfl, Chg.of_below T.below⟩) (of_ne rfl (of_ne rfl (of_ne rfl (of_ne rfl (of_ne rfl (of_ne rfl (of_ne rfl (of_eq hf74 (of_eq hf75 (of_eq hf76 (of_eq hf77 (of_nil _ _)))))))))))) ?_
          refine d_q (i := 7) (v := .bool (decide ((runM m xw) = (runM m (strOfNums b))))) (fun _ => True) (fun _ ho => trivial) rfl (by decide +kernel) (by decide +kernel) (by decide +kernel) rfl rfl (fun wq hq => (x_eql_bool u4 rfl rfl)) (of_ne rfl (of_ne rfl (of_ne rfl (of_ne rfl (of_ne rfl (of_ne rfl (of_ne rfl (of_ne rfl (of_ne rfl (of_ne rfl (of_ne rfl (of_nil _ _)))))))))))) ?_
          refine d_q (i := 8) (v := .bool (decide ((runM m xw) = (runM m (strOfNums b))))) (fun _ => True) (fun _ ho => trivial) rfl (by decide +kernel) (by decide +kernel) (by decide +kernel) rfl rfl (fun wq hq => (x_move rfl)) (of_ne rfl (of_ne rfl (of_ne rfl (of_ne rfl (of_ne rfl (of_ne rfl (of_ne rfl (of_ne rfl (of_ne rfl (of_ne rfl (of_ne rfl (of_nil _ _)))))))))))) ?_
          refine d_m (i := 9) (v := .bool true) (fun _ => True) (fun _ ho => trivial) rfl (by decide +kernel) (by decide +kernel) (by decide +kernel) (wanted_of (j := 8) (want := true) (d := 82) (b := true) rfl rfl (congrArg Value.bool (decide_eq_true hc52)) rfl) rfl (fun wq => (y_call (args := []) ca6 rfl rfl)) (fun wq hq => (awake10_calls wq ).mono fun e w2 he => by obtain ⟨_, rfl, _, T, rfl⟩ := he; exact ⟨rfl, Chg.of_below T.below⟩) (of_ne rfl (of_ne rfl (of_ne rfl (of_ne rfl (of_ne rfl (of_ne rfl (of_ne rfl (of_ne rfl (of_ne rfl (of_ne rfl (of_ne rfl (of_nil _ _)))))))))))) ?_
          refine d_q (i := 10) (v := .bool true) (fun _ => True) (fun _ ho => trivial) rfl (by decide +kernel) (by decide +kernel) (by decide +kernel) rfl rfl (fun wq hq => (x_pick_t (congrArg Value.bool (decide_eq_true hc52)) rfl)) (of_ne rfl (of_ne rfl (of_ne rfl (of_ne rfl (of_ne rfl (of_ne rfl (of_ne rfl (of_ne rfl (of_ne rfl (of_ne rfl (of_ne rfl (of_nil _ _)))))))))))) ?_
          refine d_q (i := 11) (v := .bool true) (fun _ => True) (fun _ ho => trivial) rfl (by decide +kernel) (by decide +kernel) (by decide +kernel) rfl rfl (fun wq hq => (x_assign rfl)) (of_ne rfl (of_ne rfl (of_ne rfl (of_ne rfl (of_ne rfl (of_ne rfl (of_ne rfl (of_ne rfl (of_ne rfl (of_ne rfl (of_ne rfl (of_nil _ _)))))))))))) ?_
          refine ra_done (by decide +kernel) ?_
          intro wd78 gd78
          have S79 := S66.keep gd78
          refine run_ret Tryd.func4 (res1 rfl (res_tmp (v := .bool true) rfl)) ?_
          have q0 : (true : Bool) = true := rfl
          refine ⟨_, rfl, h29, ?_, ?_⟩
          · exact S79.sub [] (by decide) rfl _ rfl
          · rfl
      · skip
        refine p_off rfl (wanted_of (j := 4) (want := true) (d := 32) (b := false) rfl rfl (congrArg Value.bool (decide_eq_false hc31)) rfl) rfl ?_
        refine p_off rfl (wanted_of (j := 4) (want := true) (d := 32) (b := false) rfl rfl (congrArg Value.bool (decide_eq_false hc31)) rfl) rfl ?_
        refine p_off rfl (wanted_of (j := 4) (want := true) (d := 32) (b := false) rfl rfl (congrArg Value.bool (decide_eq_false hc31)) rfl) rfl ?_
        refine p_off rfl (wanted_of (j := 4) (want := true) (d := 32) (b := false) rfl rfl (congrArg Value.bool (decide_eq_false hc31)) rfl) rfl ?_
        refine p_v (v := .bool false) rfl rfl rfl (x_pick_f (congrArg Value.bool (decide_eq_false hc31)) rfl) ?_
        refine run_region_end ?_
        refine run_cond (b := false) rfl ?_
        simp only [if_true, if_false, Bool.false_eq_true]
        refine run_exit rfl ?_
        refine run_seq ?_
        obtain ⟨A82, c82, ev82, lc82, cm82⟩ := rowB_val S29 (j := 2) rfl
        have sz83 := str_small (xs := b) (Nat.le_trans (And.intro lc82 cm82).1 (And.intro lc82 cm82).2); have bdsz83 := sz83; simp only [maxLen] at bdsz83
        have hc85 : ((runM m xw) = (runM m (strOfNums b))) := by
          exact alike_end hI29.2
        have hf87 : (CFs ⟨b1, 0, none⟩ [.slice A0_0 m.spots.length c0_0, .slice A0_1 m.first.length c0_1, .slice A0_2 m.follow.length c0_2, .slice A0_3 m.last.length c0_3, .bool m.empty]).1 w29 := (CF.box (m := 5) (S29.box_at (j := 0) rfl) rfl)
        have hf88 : (LeadsS kSpot A0_0 m.spots).1 w29 := (l0_0.mono (St.le0 S29))
        have hf89 : (LeadsS (Kd.int .i64) A0_1 m.first).1 w29 := (l0_1.mono (St.le0 S29))
        have hf90 : (LeadsS (Kd.int .i64).slice A0_2 m.follow).1 w29 := (l0_2.mono (St.le0 S29))
        have hf91 : (LeadsS Kd.bool A0_3 m.last).1 w29 := (l0_3.mono (St.le0 S29))
        have hf92 : (CFs ⟨b1, 0, none⟩ [.slice A0_0 m.spots.length c0_0, .slice A0_1 m.first.length c0_1, .slice A0_2 m.follow.length c0_2, .slice A0_3 m.last.length c0_3, .bool m.empty]).1 w29 := (CF.box (m := 5) (S29.box_at (j := 0) rfl) rfl)
        have hf93 : (LeadsS (Kd.int .u8) A82 b).1 w29 := (rowB_leads S29 (j := 2) rfl ev82)
        have hf94 : (LeadsS kSpot A0_0 m.spots).1 w29 := (l0_0.mono (St.le0 S29))
        have hf95 : (LeadsS (Kd.int .i64) A0_1 m.first).1 w29 := (l0_1.mono (St.le0 S29))
        have hf96 : (LeadsS (Kd.int .i64).slice A0_2 m.follow).1 w29 := (l0_2.mono (St.le0 S29))
        have hf97 : (LeadsS Kd.bool A0_3 m.last).1 w29 := (l0_3.mono (St.le0 S29))
        refine da_start [(0, CFs ⟨b1, 0, none⟩ [.slice A0_0 m.spots.length c0_0, .slice A0_1 m.first.length c0_1, .slice A0_2 m.follow.length c0_2, .slice A0_3 m.last.length c0_3, .bool m.empty]), (2, LeadsS kSpot A0_0 m.spots), (2, LeadsS (Kd.int .i64) A0_1 m.first), (2, LeadsS (Kd.int .i64).slice A0_2 m.follow), (2, LeadsS Kd.bool A0_3 m.last), (3, CFs ⟨b1, 0, none⟩ [.slice A0_0 m.spots.length c0_0, .slice A0_1 m.first.length c0_1, .slice A0_2 m.follow.length c0_2, .slice A0_3 m.last.length c0_3, .bool m.empty]), (5, LeadsS (Kd.int .u8) A82 b), (6, LeadsS kSpot A0_0 m.spots), (6, LeadsS (Kd.int .i64) A0_1 m.first), (6, LeadsS (Kd.int .i64).slice A0_2 m.follow), (6, LeadsS Kd.bool A0_3 m.last)] 12 rfl mixed ?_
        intro wd98 gd98 hd98
        have S99 := S29.keep gd98
        have hf100 := (CFs ⟨b1, 0, none⟩ [.slice A0_0 m.spots.length c0_0, .slice A0_1 m.first.length c0_1, .slice A0_2 m.follow.length c0_2, .slice A0_3 m.last.length c0_3, .bool m.empty]).2 _ _ gd98 hf87
        have hf101 := (LeadsS kSpot A0_0 m.spots).2 _ _ gd98 hf88
        have hf102 := (LeadsS (Kd.int .i64) A0_1 m.first).2 _ _ gd98 hf89
        have hf103 := (LeadsS (Kd.int .i64).slice A0_2 m.follow).2 _ _ gd98 hf90
        have hf104 := (LeadsS Kd.bool A0_3 m.last).2 _ _ gd98 hf91
        have hf105 := (CFs ⟨b1, 0, none⟩ [.slice A0_0 m.spots.length c0_0, .slice A0_1 m.first.length c0_1, .slice A0_2 m.follow.length c0_2, .slice A0_3 m.last.length c0_3, .bool m.empty]).2 _ _ gd98 hf92
        have hf106 := (LeadsS (Kd.int .u8) A82 b).2 _ _ gd98 hf93
        have hf107 := (LeadsS kSpot A0_0 m.spots).2 _ _ gd98 hf94
        have hf108 := (LeadsS (Kd.int .i64) A0_1 m.first).2 _ _ gd98 hf95
        have hf109 := (LeadsS (Kd.int .i64).slice A0_2 m.follow).2 _ _ gd98 hf96
        have hf110 := (LeadsS Kd.bool A0_3 m.last).2 _ _ gd98 hf97
        refine d_q (i := 0) (v := .agg #[.slice A0_0 m.spots.length c0_0, .slice A0_1 m.first.length c0_1, .slice A0_2 m.follow.length c0_2, .slice A0_3 m.last.length c0_3, .bool m.empty]) (CF ⟨b1, 0, none⟩ [.slice A0_0 m.spots.length c0_0, .slice A0_1 m.first.length c0_1, .slice A0_2 m.follow.length c0_2, .slice A0_3 m.last.length c0_3, .bool m.empty]) (fun _ ho => ho _ (List.mem_of_getElem? (i := 0) rfl) rfl) rfl (by decide +kernel) (by decide +kernel) (by decide +kernel) rfl rfl (fun wq hq => (x_load (seg := [.slice A0_0 m.spots.length c0_0, .slice A0_1 m.first.length c0_1, .slice A0_2 m.follow.length c0_2, .slice A0_3 m.last.length c0_3, .bool m.empty]) ty27 rfl (by simp) r29_3 hq)) (of_eq hf100 (of_ne rfl (of_ne rfl (of_ne rfl (of_ne rfl (of_ne rfl (of_ne rfl (of_ne rfl (of_ne rfl (of_ne rfl (of_ne rfl (of_nil _ _)))))))))))) ?_
        refine d_q (i := 1) (v := .string xw) (fun _ => True) (fun _ ho => trivial) rfl (by decide +kernel) (by decide +kernel) (by decide +kernel) rfl rfl (fun wq hq => (x_move r29_1)) (of_ne rfl (of_ne rfl (of_ne rfl (of_ne rfl (of_ne rfl (of_ne rfl (of_ne rfl (of_ne rfl (of_ne rfl (of_ne rfl (of_ne rfl (of_nil _ _)))))))))))) ?_
        refine d_m (i := 2) (v := .bool (runM m xw)) (fun wf => Leads kSpot (hp wf) A0_0 m.spots ∧ Leads (Kd.int .i64) (hp wf) A0_1 m.first ∧ Leads (Kd.int .i64).slice (hp wf) A0_2 m.follow ∧ Leads Kd.bool (hp wf) A0_3 m.last) (fun _ ho => ⟨ho _ (List.mem_of_getElem? (i := 1) rfl) rfl, ho _ (List.mem_of_getElem? (i := 2) rfl) rfl, ho _ (List.mem_of_getElem? (i := 3) rfl) rfl, ho _ (List.mem_of_getElem? (i := 4) rfl) rfl⟩) rfl (by decide +kernel) (by decide +kernel) (by decide +kernel) rfl rfl (fun wq => (y_call (args := [.agg #[.slice A0_0 m.spots.length c0_0, .slice A0_1 m.first.length c0_1, .slice A0_2 m.follow.length c0_2, .slice A0_3 m.last.length c0_3, .bool m.empty], .string xw]) ca10 rfl rfl)) (fun wq hq => (runN_calls wq m A0_0 c0_0 b0_0 hq.1 A0_1 c0_1 b0_1 hq.2.1 A0_2 c0_2 b0_2 hq.2.2.1 A0_3 c0_3 b0_3 hq.2.2.2 xw s1).mono fun e w2 he => by obtain ⟨_, rfl, _, T, rfl⟩ := he; exact ⟨rfl, Chg.of_below T.below⟩) (of_ne rfl (of_eq hf101 (of_eq hf102 (of_eq hf103 (of_eq hf104 (of_ne rfl (of_ne rfl (of_ne rfl (of_ne rfl (of_ne rfl (of_ne rfl (of_nil _ _)))))))))))) ?_
        refine d_q (i := 3) (v := .agg #[.slice A0_0 m.spots.length c0_0, .slice A0_1 m.first.length c0_1, .slice A0_2 m.follow.length c0_2, .slice A0_3 m.last.length c0_3, .bool m.empty]) (CF ⟨b1, 0, none⟩ [.slice A0_0 m.spots.length c0_0, .slice A0_1 m.first.length c0_1, .slice A0_2 m.follow.length c0_2, .slice A0_3 m.last.length c0_3, .bool m.empty]) (fun _ ho => ho _ (List.mem_of_getElem? (i := 5) rfl) rfl) rfl (by decide +kernel) (by decide +kernel) (by decide +kernel) rfl rfl (fun wq hq => (x_load (seg := [.slice A0_0 m.spots.length c0_0, .slice A0_1 m.first.length c0_1, .slice A0_2 m.follow.length c0_2, .slice A0_3 m.last.length c0_3, .bool m.empty]) ty27 rfl (by simp) r29_3 hq)) (of_ne rfl (of_ne rfl (of_ne rfl (of_ne rfl (of_ne rfl (of_eq hf105 (of_ne rfl (of_ne rfl (of_ne rfl (of_ne rfl (of_ne rfl (of_nil _ _)))))))))))) ?_
        refine d_q (i := 4) (v := v_b) (fun _ => True) (fun _ ho => trivial) rfl (by decide +kernel) (by decide +kernel) (by decide +kernel) rfl rfl (fun wq hq => (x_move r29_9)) (of_ne rfl (of_ne rfl (of_ne rfl (of_ne rfl (of_ne rfl (of_ne rfl (of_ne rfl (of_ne rfl (of_ne rfl (of_ne rfl (of_ne rfl (of_nil _ _)))))))))))) ?_
        refine d_q (i := 5) (v := .string (strOfNums b)) (fun wf => Leads (Kd.int .u8) (hp wf) A82 b) (fun _ ho => ho _ (List.mem_of_getElem? (i := 6) rfl) rfl) rfl (by decide +kernel) (by decide +kernel) (by decide +kernel) rfl rfl (fun wq hq => (x_bytes_string u38 u5 u9 ev82 hq)) (of_ne rfl (of_ne rfl (of_ne rfl (of_ne rfl (of_ne rfl (of_ne rfl (of_eq hf106 (of_ne rfl (of_ne rfl (of_ne rfl (of_ne rfl (of_nil _ _)))))))))))) ?_
        refine d_m (i := 6) (v := .bool (runM m (strOfNums b))) (fun wf => Leads kSpot (hp wf) A0_0 m.spots ∧ Leads (Kd.int .i64) (hp wf) A0_1 m.first ∧ Leads (Kd.int .i64).slice (hp wf) A0_2 m.follow ∧ Leads Kd.bool (hp wf) A0_3 m.last) (fun _ ho => ⟨ho _ (List.mem_of_getElem? (i := 7) rfl) rfl, ho _ (List.mem_of_getElem? (i := 8) rfl) rfl, ho _ (List.mem_of_getElem? (i := 9) rfl) rfl, ho _ (List.mem_of_getElem? (i := 10) rfl) rfl⟩) rfl (by decide +kernel) (by decide +kernel) (by decide +kernel) rfl rfl (fun wq => (y_call (args := [.agg #[.slice A0_0 m.spots.length c0_0, .slice A0_1 m.first.length c0_1, .slice A0_2 m.follow.length c0_2, .slice A0_3 m.last.length c0_3, .bool m.empty], .string (strOfNums b)]) ca10 rfl rfl)) (fun wq hq => (runN_calls wq m A0_0 c0_0 b0_0 hq.1 A0_1 c0_1 b0_1 hq.2.1 A0_2 c0_2 b0_2 hq.2.2.1 A0_3 c0_3 b0_3 hq.2.2.2 (strOfNums b) sz83).mono fun e w2 he => by obtain ⟨_, rfl, _, T, rfl⟩ := he; exact ⟨rfl, Chg.of_below T.below⟩) (of_ne rfl (of_ne rfl (of_ne rfl (of_ne rfl (of_ne rfl (of_ne rfl (of_ne rfl (of_eq hf107 (of_eq hf108 (of_eq hf109 (of_eq hf110 (of_nil _ _)))))))))))) ?_
        refine d_q (i := 7) (v := .bool (decide ((runM m xw) = (runM m (strOfNums b))))) (fun _ => True) (fun _ ho => trivial) rfl (by decide +kernel) (by decide +kernel) (by decide +kernel) rfl rfl (fun wq hq => (x_eql_bool u4 rfl rfl)) (of_ne rfl (of_ne rfl (of_ne rfl (of_ne rfl (of_ne rfl (of_ne rfl (of_ne rfl (of_ne rfl (of_ne rfl (of_ne rfl (of_ne rfl (of_nil _ _)))))))))))) ?_
        refine d_q (i := 8) (v := .bool (decide ((runM m xw) = (runM m (strOfNums b))))) (fun _ => True) (fun _ ho => trivial) rfl (by decide +kernel) (by decide +kernel) (by decide +kernel) rfl rfl (fun wq hq => (x_move rfl)) (of_ne rfl (of_ne rfl (of_ne rfl (of_ne rfl (of_ne rfl (of_ne rfl (of_ne rfl (of_ne rfl (of_ne rfl (of_ne rfl (of_ne rfl (of_nil _ _)))))))))))) ?_
        refine d_m (i := 9) (v := .bool true) (fun _ => True) (fun _ ho => trivial) rfl (by decide +kernel) (by decide +kernel) (by decide +kernel) (wanted_of (j := 8) (want := true) (d := 82) (b := true) rfl rfl (congrArg Value.bool (decide_eq_true hc85)) rfl) rfl (fun wq => (y_call (args := []) ca6 rfl rfl)) (fun wq hq => (awake10_calls wq ).mono fun e w2 he => by obtain ⟨_, rfl, _, T, rfl⟩ := he; exact ⟨rfl, Chg.of_below T.below⟩) (of_ne rfl (of_ne rfl (of_ne rfl (of_ne rfl (of_ne rfl (of_ne rfl (of_ne rfl (of_ne rfl (of_ne rfl (of_ne rfl (of_ne rfl (of_nil _ _)))))))))))) ?_
        refine d_q (i := 10) (v := .bool true) (fun _ => True) (fun _ ho => trivial) rfl (by decide +kernel) (by decide +kernel) (by decide +kernel) rfl rfl (fun wq hq => (x_pick_t (congrArg Value.bool (decide_eq_true hc85)) rfl)) (of_ne rfl (of_ne rfl (of_ne rfl (of_ne rfl (of_ne rfl (of_ne rfl (of_ne rfl (of_ne rfl (of_ne rfl (of_ne rfl (of_ne rfl (of_nil _ _)))))))))))) ?_
        refine d_q (i := 11) (v := .bool true) (fun _ => True) (fun _ ho => trivial) rfl (by decide +kernel) (by decide +kernel) (by decide +kernel) rfl rfl (fun wq hq => (x_assign rfl)) (of_ne rfl (of_ne rfl (of_ne rfl (of_ne rfl (of_ne rfl (of_ne rfl (of_ne rfl (of_ne rfl (of_ne rfl (of_ne rfl (of_ne rfl (of_nil _ _)))))))))))) ?_
        refine ra_done (by decide +kernel) ?_
        intro wd111 gd111
        have S112 := S99.keep gd111
        refine run_ret Tryd.func4 (res1 rfl (res_tmp (v := .bool true) rfl)) ?_
        have q0 : (true : Bool) = true := rfl
        refine ⟨_, rfl, h29, ?_, ?_⟩
        · exact S112.sub [] (by decide) rfl _ rfl
        · rfl
end Go.Proofs.YtdfkpjchnndniaaDoor
