/- The law NfaRuns, walked: it tells true at every input, and writes nothing that was there. -/
import Derived.Test.YtlcmimjdnhjeoaaTN
import Derived.Test.YtlcmimjdnhjeoaaM6
import Derived.Test.YtlcmimjdnhjeoaaM7
import Derived.Test.YtlcmimjdnhjeoaaQN
import Derived.Test.YtlcmimjdnhjeoaaN3
import Derived.Test.YtlcmimjdnhjeoaaM11
import Derived.Test.YtlcmimjdnhjeoaaN5
import Derived.Test.YtlcmimjdnhjeoaaN6
import Derived.Test.YtlcmimjdnhjeoaaN7
import Derived.Test.YtlcmimjdnhjeoaaVN
namespace Go.Proofs.Ytlcmimjdnhjeoaa
open Go Go.RowKit Gx
set_option maxHeartbeats 1000000
set_option linter.unusedVariables false
set_option linter.unusedSimpArgs false
attribute [local irreducible] members pack listOf count first someIn has setOf setRange wbits Lib.ctz rises rightM rowOk tab markP intoP intoTo behindP behindTo behindIn runTo endsIn endTo runM posTo mayP stepIf stepP mayTo atP lastTo greatM greatTo docAt anyTo allTo numAt numsL numsIn leftN kept lefts spotsTo lastTp followTo trimM errM comeM goesM keepM lfp seekN seekB fullS placeF okC okG clC clG clC2 clG2 firstC lastG andTo useN trues addS setsOfTo setsM

theorem nfaRuns_calls (w : World) (m : Mach) (A0_0 : Option Addr) (c0_0 : Nat) (b0_0 : m.spots.length ≤ c0_0 ∧ c0_0 ≤ maxLen) (l0_0 : Leads kSpot (hp w) A0_0 m.spots) (A0_1 : Option Addr) (c0_1 : Nat) (b0_1 : m.first.length ≤ c0_1 ∧ c0_1 ≤ maxLen) (l0_1 : Leads (Kd.int .i64) (hp w) A0_1 m.first) (A0_2 : Option Addr) (c0_2 : Nat) (b0_2 : m.follow.length ≤ c0_2 ∧ c0_2 ≤ maxLen) (l0_2 : Leads (Kd.int .i64).slice (hp w) A0_2 m.follow) (A0_3 : Option Addr) (c0_3 : Nat) (b0_3 : m.last.length ≤ c0_3 ∧ c0_3 ≤ maxLen) (l0_3 : Leads Kd.bool (hp w) A0_3 m.last) (xw : ByteArray) (s1 : xw.size ≤ maxLen) :
    Calls Try.prog 3 #[.agg #[.slice A0_0 m.spots.length c0_0, .slice A0_1 m.first.length c0_1, .slice A0_2 m.follow.length c0_2, .slice A0_3 m.last.length c0_3, .bool m.empty], .string xw] w fun e w' => ∃ v, e = .returned v ∧ ∃ (hn : Ghost), St w.heap.size w hn w' [] ∧ v = .bool true := by
  refine calls_of_run Try.func3 rfl Try.ntmps3 rfl ?_
  have S0 := St.init w
  have bb0_0 := b0_0.1; have bc0_0 := b0_0.2; simp only [maxLen] at bc0_0
  have bb0_1 := b0_1.1; have bc0_1 := b0_1.2; simp only [maxLen] at bc0_1
  have bb0_2 := b0_2.1; have bc0_2 := b0_2.2; simp only [maxLen] at bc0_2
  have bb0_3 := b0_3.1; have bc0_3 := b0_3.2; simp only [maxLen] at bc0_3
  have sz1 := s1; simp only [maxLen] at sz1
  refine run_seq ?_
  refine run_reg (l := [0, 1]) rfl ?_
  obtain ⟨b1, w1, r1, g1, T1⟩ := e_box (P := Try.prog) S0 27 (v := .agg #[.slice A0_0 m.spots.length c0_0, .slice A0_1 m.first.length c0_1, .slice A0_2 m.follow.length c0_2, .slice A0_3 m.last.length c0_3, .bool m.empty]) [.slice A0_0 m.spots.length c0_0, .slice A0_1 m.first.length c0_1, .slice A0_2 m.follow.length c0_2, .slice A0_3 m.last.length c0_3, .bool m.empty] rfl
  have S2 : St w.heap.size w (fun _ => none) w1 [box b1 27 [.slice A0_0 m.spots.length c0_0, .slice A0_1 m.first.length c0_1, .slice A0_2 m.follow.length c0_2, .slice A0_3 m.last.length c0_3, .bool m.empty]] := T1
  refine p_v (v := .pointer (some ⟨b1, 0, none⟩)) rfl rfl rfl (x_box rfl r1) ?_
  refine p_v (v := .bool false) rfl rfl rfl (x_assign rfl) ?_
  refine run_region_end ?_
  refine run_seq ?_
  refine run_seq ?_
  refine run_reg (l := [0, 1, 2, 3, 4, 5, 6]) rfl ?_
  refine p_v (v := .agg #[.slice A0_0 m.spots.length c0_0, .slice A0_1 m.first.length c0_1, .slice A0_2 m.follow.length c0_2, .slice A0_3 m.last.length c0_3, .bool m.empty]) rfl rfl rfl (x_load (seg := [.slice A0_0 m.spots.length c0_0, .slice A0_1 m.first.length c0_1, .slice A0_2 m.follow.length c0_2, .slice A0_3 m.last.length c0_3, .bool m.empty]) ty27 rfl (by simp) rfl (CF.box (m := 5) (S2.box_at (j := 0) rfl) rfl)) ?_
  refine p_c rfl rfl rfl (y_call (args := [.agg #[.slice A0_0 m.spots.length c0_0, .slice A0_1 m.first.length c0_1, .slice A0_2 m.follow.length c0_2, .slice A0_3 m.last.length c0_3, .bool m.empty]]) ca7 rfl rfl) (great_calls w1 m A0_0 c0_0 b0_0 (l0_0.mono (St.le0 S2)) A0_1 c0_1 b0_1 (l0_1.mono (St.le0 S2)) A0_2 c0_2 b0_2 (l0_2.mono (St.le0 S2)) A0_3 c0_3 b0_3 (l0_3.mono (St.le0 S2))) ?_
  rintro _ w3 ⟨h3, T3, rfl⟩
  have S4 := S2.keep (Chg.of_below T3.below)
  refine p_v (v := .bool (greatM m)) rfl rfl rfl (x_move rfl) ?_
  rcases Bool.eq_false_or_eq_true (greatM m) with hc5 | hc5
  · skip
    refine p_off rfl (wanted_of (j := 2) (want := false) (d := 7) (b := true) rfl rfl (congrArg Value.bool hc5) rfl) rfl ?_
    refine p_off rfl (wanted_of (j := 2) (want := false) (d := 7) (b := true) rfl rfl (congrArg Value.bool hc5) rfl) rfl ?_
    refine p_off rfl (wanted_of (j := 2) (want := false) (d := 7) (b := true) rfl rfl (congrArg Value.bool hc5) rfl) rfl ?_
    refine p_v (v := .bool true) rfl rfl rfl (x_pick_t (congrArg Value.bool hc5) rfl) ?_
    refine run_region_end ?_
    refine run_cond (b := true) rfl ?_
    simp only [if_true, if_false, Bool.false_eq_true]
    refine run_seq ?_
    refine run_reg (l := [0, 1]) rfl ?_
    refine p_c rfl rfl rfl (y_call (args := []) ca8 rfl rfl) (awake10_calls w3 ) ?_
    rintro _ w6 ⟨h6, T6, rfl⟩
    have S7 := S4.keep (Chg.of_below T6.below)
    refine p_v (v := .bool true) rfl rfl rfl (x_assign rfl) ?_
    refine run_region_end ?_
    refine run_ret Try.func3 (res1 rfl (res_tmp (v := .bool true) rfl)) ?_
    have q0 : (true : Bool) = true := rfl
    refine ⟨_, rfl, (fun _ => none), ?_, ?_⟩
    · exact S7.sub [] (by decide) rfl _ rfl
    · rfl
  · skip
    refine p_v (v := .string xw) rfl (wanted_of (j := 2) (want := false) (d := 7) (b := false) rfl rfl (congrArg Value.bool hc5) rfl) rfl (x_move rfl) ?_
    refine p_v (v := .int .i64 (xw.size : Int)) rfl (wanted_of (j := 2) (want := false) (d := 7) (b := false) rfl rfl (congrArg Value.bool hc5) rfl) rfl (x_len_string u9 rfl) ?_
    refine p_v (v := .bool (decide (200 < (xw.size : Int)))) rfl (wanted_of (j := 2) (want := false) (d := 7) (b := false) rfl rfl (congrArg Value.bool hc5) rfl) rfl (x_gtr rfl rfl) ?_
    refine p_v (v := .bool (decide (200 < (xw.size : Int)))) rfl rfl rfl (x_pick_f (congrArg Value.bool hc5) rfl) ?_
    refine run_region_end ?_
    refine run_cond_prop (p := 200 < (xw.size : Int)) rfl (fun hc9 => ?_) (fun hc9 => ?_)
    · skip
      refine run_seq ?_
      refine run_reg (l := [0, 1]) rfl ?_
      refine p_c rfl rfl rfl (y_call (args := []) ca8 rfl rfl) (awake10_calls w3 ) ?_
      rintro _ w10 ⟨h10, T10, rfl⟩
      have S11 := S4.keep (Chg.of_below T10.below)
      refine p_v (v := .bool true) rfl rfl rfl (x_assign rfl) ?_
      refine run_region_end ?_
      refine run_ret Try.func3 (res1 rfl (res_tmp (v := .bool true) rfl)) ?_
      have q0 : (true : Bool) = true := rfl
      refine ⟨_, rfl, (fun _ => none), ?_, ?_⟩
      · exact S11.sub [] (by decide) rfl _ rfl
      · rfl
    · skip
      refine run_skip ?_
      refine run_seq ?_
      have hc15 : ((rightM m) = (rightM m)) := by
        rfl
      have hc18 : ((runM m xw) = (runM m xw)) := by
        rfl
      have hf20 : (CFs ⟨b1, 0, none⟩ [.slice A0_0 m.spots.length c0_0, .slice A0_1 m.first.length c0_1, .slice A0_2 m.follow.length c0_2, .slice A0_3 m.last.length c0_3, .bool m.empty]).1 w3 := (CF.box (m := 5) (S4.box_at (j := 0) rfl) rfl)
      have hf21 : (LeadsS kSpot A0_0 m.spots).1 w3 := (l0_0.mono (St.le0 S4))
      have hf22 : (LeadsS (Kd.int .i64) A0_1 m.first).1 w3 := (l0_1.mono (St.le0 S4))
      have hf23 : (LeadsS (Kd.int .i64).slice A0_2 m.follow).1 w3 := (l0_2.mono (St.le0 S4))
      have hf24 : (LeadsS Kd.bool A0_3 m.last).1 w3 := (l0_3.mono (St.le0 S4))
      have hf25 : (CFs ⟨b1, 0, none⟩ [.slice A0_0 m.spots.length c0_0, .slice A0_1 m.first.length c0_1, .slice A0_2 m.follow.length c0_2, .slice A0_3 m.last.length c0_3, .bool m.empty]).1 w3 := (CF.box (m := 5) (S4.box_at (j := 0) rfl) rfl)
      have hf26 : (LeadsS kSpot A0_0 m.spots).1 w3 := (l0_0.mono (St.le0 S4))
      have hf27 : (LeadsS (Kd.int .i64) A0_1 m.first).1 w3 := (l0_1.mono (St.le0 S4))
      have hf28 : (LeadsS (Kd.int .i64).slice A0_2 m.follow).1 w3 := (l0_2.mono (St.le0 S4))
      have hf29 : (LeadsS Kd.bool A0_3 m.last).1 w3 := (l0_3.mono (St.le0 S4))
      have hf30 : (CFs ⟨b1, 0, none⟩ [.slice A0_0 m.spots.length c0_0, .slice A0_1 m.first.length c0_1, .slice A0_2 m.follow.length c0_2, .slice A0_3 m.last.length c0_3, .bool m.empty]).1 w3 := (CF.box (m := 5) (S4.box_at (j := 0) rfl) rfl)
      have hf31 : (LeadsS kSpot A0_0 m.spots).1 w3 := (l0_0.mono (St.le0 S4))
      have hf32 : (LeadsS (Kd.int .i64) A0_1 m.first).1 w3 := (l0_1.mono (St.le0 S4))
      have hf33 : (LeadsS (Kd.int .i64).slice A0_2 m.follow).1 w3 := (l0_2.mono (St.le0 S4))
      have hf34 : (LeadsS Kd.bool A0_3 m.last).1 w3 := (l0_3.mono (St.le0 S4))
      have hf35 : (CFs ⟨b1, 0, none⟩ [.slice A0_0 m.spots.length c0_0, .slice A0_1 m.first.length c0_1, .slice A0_2 m.follow.length c0_2, .slice A0_3 m.last.length c0_3, .bool m.empty]).1 w3 := (CF.box (m := 5) (S4.box_at (j := 0) rfl) rfl)
      have hf36 : (LeadsS kSpot A0_0 m.spots).1 w3 := (l0_0.mono (St.le0 S4))
      have hf37 : (LeadsS (Kd.int .i64) A0_1 m.first).1 w3 := (l0_1.mono (St.le0 S4))
      have hf38 : (LeadsS (Kd.int .i64).slice A0_2 m.follow).1 w3 := (l0_2.mono (St.le0 S4))
      have hf39 : (LeadsS Kd.bool A0_3 m.last).1 w3 := (l0_3.mono (St.le0 S4))
      refine da_start [(0, CFs ⟨b1, 0, none⟩ [.slice A0_0 m.spots.length c0_0, .slice A0_1 m.first.length c0_1, .slice A0_2 m.follow.length c0_2, .slice A0_3 m.last.length c0_3, .bool m.empty]), (1, LeadsS kSpot A0_0 m.spots), (1, LeadsS (Kd.int .i64) A0_1 m.first), (1, LeadsS (Kd.int .i64).slice A0_2 m.follow), (1, LeadsS Kd.bool A0_3 m.last), (2, CFs ⟨b1, 0, none⟩ [.slice A0_0 m.spots.length c0_0, .slice A0_1 m.first.length c0_1, .slice A0_2 m.follow.length c0_2, .slice A0_3 m.last.length c0_3, .bool m.empty]), (3, LeadsS kSpot A0_0 m.spots), (3, LeadsS (Kd.int .i64) A0_1 m.first), (3, LeadsS (Kd.int .i64).slice A0_2 m.follow), (3, LeadsS Kd.bool A0_3 m.last), (6, CFs ⟨b1, 0, none⟩ [.slice A0_0 m.spots.length c0_0, .slice A0_1 m.first.length c0_1, .slice A0_2 m.follow.length c0_2, .slice A0_3 m.last.length c0_3, .bool m.empty]), (8, LeadsS kSpot A0_0 m.spots), (8, LeadsS (Kd.int .i64) A0_1 m.first), (8, LeadsS (Kd.int .i64).slice A0_2 m.follow), (8, LeadsS Kd.bool A0_3 m.last), (9, CFs ⟨b1, 0, none⟩ [.slice A0_0 m.spots.length c0_0, .slice A0_1 m.first.length c0_1, .slice A0_2 m.follow.length c0_2, .slice A0_3 m.last.length c0_3, .bool m.empty]), (11, LeadsS kSpot A0_0 m.spots), (11, LeadsS (Kd.int .i64) A0_1 m.first), (11, LeadsS (Kd.int .i64).slice A0_2 m.follow), (11, LeadsS Kd.bool A0_3 m.last)] 18 rfl mixed ?_
      intro wd40 gd40 hd40
      have S41 := S4.keep gd40
      have hf42 := (CFs ⟨b1, 0, none⟩ [.slice A0_0 m.spots.length c0_0, .slice A0_1 m.first.length c0_1, .slice A0_2 m.follow.length c0_2, .slice A0_3 m.last.length c0_3, .bool m.empty]).2 _ _ gd40 hf20
      have hf43 := (LeadsS kSpot A0_0 m.spots).2 _ _ gd40 hf21
      have hf44 := (LeadsS (Kd.int .i64) A0_1 m.first).2 _ _ gd40 hf22
      have hf45 := (LeadsS (Kd.int .i64).slice A0_2 m.follow).2 _ _ gd40 hf23
      have hf46 := (LeadsS Kd.bool A0_3 m.last).2 _ _ gd40 hf24
      have hf47 := (CFs ⟨b1, 0, none⟩ [.slice A0_0 m.spots.length c0_0, .slice A0_1 m.first.length c0_1, .slice A0_2 m.follow.length c0_2, .slice A0_3 m.last.length c0_3, .bool m.empty]).2 _ _ gd40 hf25
      have hf48 := (LeadsS kSpot A0_0 m.spots).2 _ _ gd40 hf26
      have hf49 := (LeadsS (Kd.int .i64) A0_1 m.first).2 _ _ gd40 hf27
      have hf50 := (LeadsS (Kd.int .i64).slice A0_2 m.follow).2 _ _ gd40 hf28
      have hf51 := (LeadsS Kd.bool A0_3 m.last).2 _ _ gd40 hf29
      have hf52 := (CFs ⟨b1, 0, none⟩ [.slice A0_0 m.spots.length c0_0, .slice A0_1 m.first.length c0_1, .slice A0_2 m.follow.length c0_2, .slice A0_3 m.last.length c0_3, .bool m.empty]).2 _ _ gd40 hf30
      have hf53 := (LeadsS kSpot A0_0 m.spots).2 _ _ gd40 hf31
      have hf54 := (LeadsS (Kd.int .i64) A0_1 m.first).2 _ _ gd40 hf32
      have hf55 := (LeadsS (Kd.int .i64).slice A0_2 m.follow).2 _ _ gd40 hf33
      have hf56 := (LeadsS Kd.bool A0_3 m.last).2 _ _ gd40 hf34
      have hf57 := (CFs ⟨b1, 0, none⟩ [.slice A0_0 m.spots.length c0_0, .slice A0_1 m.first.length c0_1, .slice A0_2 m.follow.length c0_2, .slice A0_3 m.last.length c0_3, .bool m.empty]).2 _ _ gd40 hf35
      have hf58 := (LeadsS kSpot A0_0 m.spots).2 _ _ gd40 hf36
      have hf59 := (LeadsS (Kd.int .i64) A0_1 m.first).2 _ _ gd40 hf37
      have hf60 := (LeadsS (Kd.int .i64).slice A0_2 m.follow).2 _ _ gd40 hf38
      have hf61 := (LeadsS Kd.bool A0_3 m.last).2 _ _ gd40 hf39
      refine d_q (i := 0) (v := .agg #[.slice A0_0 m.spots.length c0_0, .slice A0_1 m.first.length c0_1, .slice A0_2 m.follow.length c0_2, .slice A0_3 m.last.length c0_3, .bool m.empty]) (CF ⟨b1, 0, none⟩ [.slice A0_0 m.spots.length c0_0, .slice A0_1 m.first.length c0_1, .slice A0_2 m.follow.length c0_2, .slice A0_3 m.last.length c0_3, .bool m.empty]) (fun _ ho => ho _ (List.mem_of_getElem? (i := 0) rfl) rfl) rfl (by decide +kernel) (by decide +kernel) (by decide +kernel) rfl rfl (fun wq hq => (x_load (seg := [.slice A0_0 m.spots.length c0_0, .slice A0_1 m.first.length c0_1, .slice A0_2 m.follow.length c0_2, .slice A0_3 m.last.length c0_3, .bool m.empty]) ty27 rfl (by simp) rfl hq)) (of_eq hf42 (of_ne rfl (of_ne rfl (of_ne rfl (of_ne rfl (of_ne rfl (of_ne rfl (of_ne rfl (of_ne rfl (of_ne rfl (of_ne rfl (of_ne rfl (of_ne rfl (of_ne rfl (of_ne rfl (of_ne rfl (of_ne rfl (of_ne rfl (of_ne rfl (of_ne rfl (of_nil _ _))))))))))))))))))))) ?_
      refine d_m (i := 1) (v := .bool (rightM m)) (fun wf => Leads kSpot (hp wf) A0_0 m.spots ∧ Leads (Kd.int .i64) (hp wf) A0_1 m.first ∧ Leads (Kd.int .i64).slice (hp wf) A0_2 m.follow ∧ Leads Kd.bool (hp wf) A0_3 m.last) (fun _ ho => ⟨ho _ (List.mem_of_getElem? (i := 1) rfl) rfl, ho _ (List.mem_of_getElem? (i := 2) rfl) rfl, ho _ (List.mem_of_getElem? (i := 3) rfl) rfl, ho _ (List.mem_of_getElem? (i := 4) rfl) rfl⟩) rfl (by decide +kernel) (by decide +kernel) (by decide +kernel) rfl rfl (fun wq => (y_call (args := [.agg #[.slice A0_0 m.spots.length c0_0, .slice A0_1 m.first.length c0_1, .slice A0_2 m.follow.length c0_2, .slice A0_3 m.last.length c0_3, .bool m.empty]]) ca9 rfl rfl)) (fun wq hq => (rightN_calls wq m A0_0 c0_0 b0_0 hq.1 A0_1 c0_1 b0_1 hq.2.1 A0_2 c0_2 b0_2 hq.2.2.1 A0_3 c0_3 b0_3 hq.2.2.2).mono fun e w2 he => by obtain ⟨_, rfl, _, T, rfl⟩ := he; exact ⟨rfl, Chg.of_below T.below⟩) (of_ne rfl (of_eq hf43 (of_eq hf44 (of_eq hf45 (of_eq hf46 (of_ne rfl (of_ne rfl (of_ne rfl (of_ne rfl (of_ne rfl (of_ne rfl (of_ne rfl (of_ne rfl (of_ne rfl (of_ne rfl (of_ne rfl (of_ne rfl (of_ne rfl (of_ne rfl (of_ne rfl (of_nil _ _))))))))))))))))))))) ?_
      refine d_q (i := 2) (v := .agg #[.slice A0_0 m.spots.length c0_0, .slice A0_1 m.first.length c0_1, .slice A0_2 m.follow.length c0_2, .slice A0_3 m.last.length c0_3, .bool m.empty]) (CF ⟨b1, 0, none⟩ [.slice A0_0 m.spots.length c0_0, .slice A0_1 m.first.length c0_1, .slice A0_2 m.follow.length c0_2, .slice A0_3 m.last.length c0_3, .bool m.empty]) (fun _ ho => ho _ (List.mem_of_getElem? (i := 5) rfl) rfl) rfl (by decide +kernel) (by decide +kernel) (by decide +kernel) rfl rfl (fun wq hq => (x_load (seg := [.slice A0_0 m.spots.length c0_0, .slice A0_1 m.first.length c0_1, .slice A0_2 m.follow.length c0_2, .slice A0_3 m.last.length c0_3, .bool m.empty]) ty27 rfl (by simp) rfl hq)) (of_ne rfl (of_ne rfl (of_ne rfl (of_ne rfl (of_ne rfl (of_eq hf47 (of_ne rfl (of_ne rfl (of_ne rfl (of_ne rfl (of_ne rfl (of_ne rfl (of_ne rfl (of_ne rfl (of_ne rfl (of_ne rfl (of_ne rfl (of_ne rfl (of_ne rfl (of_ne rfl (of_nil _ _))))))))))))))))))))) ?_
      refine d_m (i := 3) (v := .bool (rightM m)) (fun wf => Leads kSpot (hp wf) A0_0 m.spots ∧ Leads (Kd.int .i64) (hp wf) A0_1 m.first ∧ Leads (Kd.int .i64).slice (hp wf) A0_2 m.follow ∧ Leads Kd.bool (hp wf) A0_3 m.last) (fun _ ho => ⟨ho _ (List.mem_of_getElem? (i := 6) rfl) rfl, ho _ (List.mem_of_getElem? (i := 7) rfl) rfl, ho _ (List.mem_of_getElem? (i := 8) rfl) rfl, ho _ (List.mem_of_getElem? (i := 9) rfl) rfl⟩) rfl (by decide +kernel) (by decide +kernel) (by decide +kernel) rfl rfl (fun wq => (y_call (args := [.agg #[.slice A0_0 m.spots.length c0_0, .slice A0_1 m.first.length c0_1, .slice A0_2 m.follow.length c0_2, .slice A0_3 m.last.length c0_3, .bool m.empty]]) ca10 rfl rfl)) (fun wq hq => (right10_calls wq m A0_0 c0_0 b0_0 hq.1 A0_1 c0_1 b0_1 hq.2.1 A0_2 c0_2 b0_2 hq.2.2.1 A0_3 c0_3 b0_3 hq.2.2.2).mono fun e w2 he => by obtain ⟨_, rfl, _, T, rfl⟩ := he; exact ⟨rfl, Chg.of_below T.below⟩) (of_ne rfl (of_ne rfl (of_ne rfl (of_ne rfl (of_ne rfl (of_ne rfl (of_eq hf48 (of_eq hf49 (of_eq hf50 (of_eq hf51 (of_ne rfl (of_ne rfl (of_ne rfl (of_ne rfl (of_ne rfl (of_ne rfl (of_ne rfl (of_ne rfl (of_ne rfl (of_ne rfl (of_nil _ _))))))))))))))))))))) ?_
      refine d_q (i := 4) (v := .bool (decide ((rightM m) = (rightM m)))) (fun _ => True) (fun _ ho => trivial) rfl (by decide +kernel) (by decide +kernel) (by decide +kernel) rfl rfl (fun wq hq => (x_eql_bool u4 rfl rfl)) (of_ne rfl (of_ne rfl (of_ne rfl (of_ne rfl (of_ne rfl (of_ne rfl (of_ne rfl (of_ne rfl (of_ne rfl (of_ne rfl (of_ne rfl (of_ne rfl (of_ne rfl (of_ne rfl (of_ne rfl (of_ne rfl (of_ne rfl (of_ne rfl (of_ne rfl (of_ne rfl (of_nil _ _))))))))))))))))))))) ?_
      refine d_q (i := 5) (v := .bool (decide ((rightM m) = (rightM m)))) (fun _ => True) (fun _ ho => trivial) rfl (by decide +kernel) (by decide +kernel) (by decide +kernel) rfl rfl (fun wq hq => (x_move rfl)) (of_ne rfl (of_ne rfl (of_ne rfl (of_ne rfl (of_ne rfl (of_ne rfl (of_ne rfl (of_ne rfl (of_ne rfl (of_ne rfl (of_ne rfl (of_ne rfl (of_ne rfl (of_ne rfl (of_ne rfl (of_ne rfl (of_ne rfl (of_ne rfl (of_ne rfl (of_ne rfl (of_nil _ _))))))))))))))))))))) ?_
      refine d_q (i := 6) (v := .agg #[.slice A0_0 m.spots.length c0_0, .slice A0_1 m.first.length c0_1, .slice A0_2 m.follow.length c0_2, .slice A0_3 m.last.length c0_3, .bool m.empty]) (CF ⟨b1, 0, none⟩ [.slice A0_0 m.spots.length c0_0, .slice A0_1 m.first.length c0_1, .slice A0_2 m.follow.length c0_2, .slice A0_3 m.last.length c0_3, .bool m.empty]) (fun _ ho => ho _ (List.mem_of_getElem? (i := 10) rfl) rfl) rfl (by decide +kernel) (by decide +kernel) (by decide +kernel) (wanted_of (j := 5) (want := true) (d := 18) (b := true) rfl rfl (congrArg Value.bool (decide_eq_true hc15)) rfl) rfl (fun wq hq => (x_load (seg := [.slice A0_0 m.spots.length c0_0, .slice A0_1 m.first.length c0_1, .slice A0_2 m.follow.length c0_2, .slice A0_3 m.last.length c0_3, .bool m.empty]) ty27 rfl (by simp) rfl hq)) (of_ne rfl (of_ne rfl (of_ne rfl (of_ne rfl (of_ne rfl (of_ne rfl (of_ne rfl (of_ne rfl (of_ne rfl (of_ne rfl (of_eq hf52 (of_ne rfl (of_ne rfl (of_ne rfl (of_ne rfl (of_ne rfl (of_ne rfl (of_ne rfl (of_ne rfl (of_ne rfl (of_nil _ _))))))))))))))))))))) ?_
      refine d_q (i := 7) (v := .string xw) (fun _ => True) (fun _ ho => trivial) rfl (by decide +kernel) (by decide +kernel) (by decide +kernel) (wanted_of (j := 5) (want := true) (d := 18) (b := true) rfl rfl (congrArg Value.bool (decide_eq_true hc15)) rfl) rfl (fun wq hq => (x_move rfl)) (of_ne rfl (of_ne rfl (of_ne rfl (of_ne rfl (of_ne rfl (of_ne rfl (of_ne rfl (of_ne rfl (of_ne rfl (of_ne rfl (of_ne rfl (of_ne rfl (of_ne rfl (of_ne rfl (of_ne rfl (of_ne rfl (of_ne rfl (of_ne rfl (of_ne rfl (of_ne rfl (of_nil _ _))))))))))))))))))))) ?_
      refine d_m (i := 8) (v := .bool (runM m xw)) (fun wf => Leads kSpot (hp wf) A0_0 m.spots ∧ Leads (Kd.int .i64) (hp wf) A0_1 m.first ∧ Leads (Kd.int .i64).slice (hp wf) A0_2 m.follow ∧ Leads Kd.bool (hp wf) A0_3 m.last) (fun _ ho => ⟨ho _ (List.mem_of_getElem? (i := 11) rfl) rfl, ho _ (List.mem_of_getElem? (i := 12) rfl) rfl, ho _ (List.mem_of_getElem? (i := 13) rfl) rfl, ho _ (List.mem_of_getElem? (i := 14) rfl) rfl⟩) rfl (by decide +kernel) (by decide +kernel) (by decide +kernel) (wanted_of (j := 5) (want := true) (d := 18) (b := true) rfl rfl (congrArg Value.bool (decide_eq_true hc15)) rfl) rfl (fun wq => (y_call (args := [.agg #[.slice A0_0 m.spots.length c0_0, .slice A0_1 m.first.length c0_1, .slice A0_2 m.follow.length c0_2, .slice A0_3 m.last.length c0_3, .bool m.empty], .string xw]) ca11 rfl rfl)) (fun wq hq => (runN_calls wq m A0_0 c0_0 b0_0 hq.1 A0_1 c0_1 b0_1 hq.2.1 A0_2 c0_2 b0_2 hq.2.2.1 A0_3 c0_3 b0_3 hq.2.2.2 xw s1).mono fun e w2 he => by obtain ⟨_, rfl, _, T, rfl⟩ := he; exact ⟨rfl, Chg.of_below T.below⟩) (of_ne rfl (of_ne rfl (of_ne rfl (of_ne rfl (of_ne rfl (of_ne rfl (of_ne rfl (of_ne rfl (of_ne rfl (of_ne rfl (of_ne rfl (of_eq hf53 (of_eq hf54 (of_eq hf55 (of_eq hf56 (of_ne rfl (of_ne rfl (of_ne rfl (of_ne rfl (of_ne rfl (of_nil _ _))))))))))))))))))))) ?_
      refine d_q (i := 9) (v := .agg #[.slice A0_0 m.spots.length c0_0, .slice A0_1 m.first.length c0_1, .slice A0_2 m.follow.length c0_2, .slice A0_3 m.last.length c0_3, .bool m.empty]) (CF ⟨b1, 0, none⟩ [.slice A0_0 m.spots.length c0_0, .slice A0_1 m.first.length c0_1, .slice A0_2 m.follow.length c0_2, .slice A0_3 m.last.length c0_3, .bool m.empty]) (fun _ ho => ho _ (List.mem_of_getElem? (i := 15) rfl) rfl) rfl (by decide +kernel) (by decide +kernel) (by decide +kernel) (wanted_of (j := 5) (want := true) (d := 18) (b := true) rfl rfl (congrArg Value.bool (decide_eq_true hc15)) rfl) rfl (fun wq hq => (x_load (seg := [.slice A0_0 m.spots.length c0_0, .slice A0_1 m.first.length c0_1, .slice A0_2 m.follow.length c0_2, .slice A0_3 m.last.length c0_3, .bool m.empty]) ty27 rfl (by simp) rfl hq)) (of_ne rfl (of_ne rfl (of_ne rfl (of_ne rfl (of_ne rfl (of_ne rfl (of_ne rfl (of_ne rfl (of_ne rfl (of_ne rfl (of_ne rfl (of_ne rfl (of_ne rfl (of_ne rfl (of_ne rfl (of_eq hf57 (of_ne rfl (of_ne rfl (of_ne rfl (of_ne rfl (of_nil _ _))))))))))))))))))))) ?_
      refine d_q (i := 10) (v := .string xw) (fun _ => True) (fun _ ho => trivial) rfl (by decide +kernel) (by decide +kernel) (by decide +kernel) (wanted_of (j := 5) (want := true) (d := 18) (b := true) rfl rfl (congrArg Value.bool (decide_eq_true hc15)) rfl) rfl (fun wq hq => (x_move rfl)) (of_ne rfl (of_ne rfl (of_ne rfl (of_ne rfl (of_ne rfl (of_ne rfl (of_ne rfl (of_ne rfl (of_ne rfl (of_ne rfl (of_ne rfl (of_ne rfl (of_ne rfl (of_ne rfl (of_ne rfl (of_ne rfl (of_ne rfl (of_ne rfl (of_ne rfl (of_ne rfl (of_nil _ _))))))))))))))))))))) ?_
      refine d_m (i := 11) (v := .bool (runM m xw)) (fun wf => Leads kSpot (hp wf) A0_0 m.spots ∧ Leads (Kd.int .i64) (hp wf) A0_1 m.first ∧ Leads (Kd.int .i64).slice (hp wf) A0_2 m.follow ∧ Leads Kd.bool (hp wf) A0_3 m.last) (fun _ ho => ⟨ho _ (List.mem_of_getElem? (i := 16) rfl) rfl, ho _ (List.mem_of_getElem? (i := 17) rfl) rfl, ho _ (List.mem_of_getElem? (i := 18) rfl) rfl, ho _ (List.mem_of_getElem? (i := 19) rfl) rfl⟩) rfl (by decide +kernel) (by decide +kernel) (by decide +kernel) (wanted_of (j := 5) (want := true) (d := 18) (b := true) rfl rfl (congrArg Value.bool (decide_eq_true hc15)) rfl) rfl (fun wq => (y_call (args := [.agg #[.slice A0_0 m.spots.length c0_0, .slice A0_1 m.first.length c0_1, .slice A0_2 m.follow.length c0_2, .slice A0_3 m.last.length c0_3, .bool m.empty], .string xw]) ca12 rfl rfl)) (fun wq hq => (run10_calls wq m A0_0 c0_0 b0_0 hq.1 A0_1 c0_1 b0_1 hq.2.1 A0_2 c0_2 b0_2 hq.2.2.1 A0_3 c0_3 b0_3 hq.2.2.2 xw s1).mono fun e w2 he => by obtain ⟨_, rfl, _, T, rfl⟩ := he; exact ⟨rfl, Chg.of_below T.below⟩) (of_ne rfl (of_ne rfl (of_ne rfl (of_ne rfl (of_ne rfl (of_ne rfl (of_ne rfl (of_ne rfl (of_ne rfl (of_ne rfl (of_ne rfl (of_ne rfl (of_ne rfl (of_ne rfl (of_ne rfl (of_ne rfl (of_eq hf58 (of_eq hf59 (of_eq hf60 (of_eq hf61 (of_nil _ _))))))))))))))))))))) ?_
      refine d_q (i := 12) (v := .bool (decide ((runM m xw) = (runM m xw)))) (fun _ => True) (fun _ ho => trivial) rfl (by decide +kernel) (by decide +kernel) (by decide +kernel) (wanted_of (j := 5) (want := true) (d := 18) (b := true) rfl rfl (congrArg Value.bool (decide_eq_true hc15)) rfl) rfl (fun wq hq => (x_eql_bool u4 rfl rfl)) (of_ne rfl (of_ne rfl (of_ne rfl (of_ne rfl (of_ne rfl (of_ne rfl (of_ne rfl (of_ne rfl (of_ne rfl (of_ne rfl (of_ne rfl (of_ne rfl (of_ne rfl (of_ne rfl (of_ne rfl (of_ne rfl (of_ne rfl (of_ne rfl (of_ne rfl (of_ne rfl (of_nil _ _))))))))))))))))))))) ?_
      refine d_q (i := 13) (v := .bool (decide ((runM m xw) = (runM m xw)))) (fun _ => True) (fun _ ho => trivial) rfl (by decide +kernel) (by decide +kernel) (by decide +kernel) rfl rfl (fun wq hq => (x_pick_t (congrArg Value.bool (decide_eq_true hc15)) rfl)) (of_ne rfl (of_ne rfl (of_ne rfl (of_ne rfl (of_ne rfl (of_ne rfl (of_ne rfl (of_ne rfl (of_ne rfl (of_ne rfl (of_ne rfl (of_ne rfl (of_ne rfl (of_ne rfl (of_ne rfl (of_ne rfl (of_ne rfl (of_ne rfl (of_ne rfl (of_ne rfl (of_nil _ _))))))))))))))))))))) ?_
      refine d_q (i := 14) (v := .bool (decide ((runM m xw) = (runM m xw)))) (fun _ => True) (fun _ ho => trivial) rfl (by decide +kernel) (by decide +kernel) (by decide +kernel) rfl rfl (fun wq hq => (x_move rfl)) (of_ne rfl (of_ne rfl (of_ne rfl (of_ne rfl (of_ne rfl (of_ne rfl (of_ne rfl (of_ne rfl (of_ne rfl (of_ne rfl (of_ne rfl (of_ne rfl (of_ne rfl (of_ne rfl (of_ne rfl (of_ne rfl (of_ne rfl (of_ne rfl (of_ne rfl (of_ne rfl (of_nil _ _))))))))))))))))))))) ?_
      refine d_m (i := 15) (v := .bool true) (fun _ => True) (fun _ ho => trivial) rfl (by decide +kernel) (by decide +kernel) (by decide +kernel) (wanted_of (j := 14) (want := true) (d := 27) (b := true) rfl rfl (congrArg Value.bool (decide_eq_true hc18)) rfl) rfl (fun wq => (y_call (args := []) ca8 rfl rfl)) (fun wq hq => (awake10_calls wq ).mono fun e w2 he => by obtain ⟨_, rfl, _, T, rfl⟩ := he; exact ⟨rfl, Chg.of_below T.below⟩) (of_ne rfl (of_ne rfl (of_ne rfl (of_ne rfl (of_ne rfl (of_ne rfl (of_ne rfl (of_ne rfl (of_ne rfl (of_ne rfl (of_ne rfl (of_ne rfl (of_ne rfl (of_ne rfl (of_ne rfl (of_ne rfl (of_ne rfl (of_ne rfl (of_ne rfl (of_ne rfl (of_nil _ _))))))))))))))))))))) ?_
      refine d_q (i := 16) (v := .bool true) (fun _ => True) (fun _ ho => trivial) rfl (by decide +kernel) (by decide +kernel) (by decide +kernel) rfl rfl (fun wq hq => (x_pick_t (congrArg Value.bool (decide_eq_true hc18)) rfl)) (of_ne rfl (of_ne rfl (of_ne rfl (of_ne rfl (of_ne rfl (of_ne rfl (of_ne rfl (of_ne rfl (of_ne rfl (of_ne rfl (of_ne rfl (of_ne rfl (of_ne rfl (of_ne rfl (of_ne rfl (of_ne rfl (of_ne rfl (of_ne rfl (of_ne rfl (of_ne rfl (of_nil _ _))))))))))))))))))))) ?_
      refine d_q (i := 17) (v := .bool true) (fun _ => True) (fun _ ho => trivial) rfl (by decide +kernel) (by decide +kernel) (by decide +kernel) rfl rfl (fun wq hq => (x_assign rfl)) (of_ne rfl (of_ne rfl (of_ne rfl (of_ne rfl (of_ne rfl (of_ne rfl (of_ne rfl (of_ne rfl (of_ne rfl (of_ne rfl (of_ne rfl (of_ne rfl (of_ne rfl (of_ne rfl (of_ne rfl (of_ne rfl (of_ne rfl (of_ne rfl (of_ne rfl (of_ne rfl (of_nil _ _))))))))))))))))))))) ?_
      refine ra_done (by decide +kernel) ?_
      intro wd62 gd62
      have S63 := S41.keep gd62
      refine run_ret Try.func3 (res1 rfl (res_tmp (v := .bool true) rfl)) ?_
      have q0 : (true : Bool) = true := rfl
      refine ⟨_, rfl, (fun _ => none), ?_, ?_⟩
      · exact S63.sub [] (by decide) rfl _ rfl
      · rfl
end Go.Proofs.Ytlcmimjdnhjeoaa
