/- The law ClassesUnions, walked: it tells true at every input, and writes nothing that was there. -/
import Derived.Test.YtlcmimjdnhjeoaaDoorTD
import Derived.Test.YtlcmimjdnhjeoaaDoorF0D
import Derived.Test.YtlcmimjdnhjeoaaDoorM7
namespace Go.Proofs.YtlcmimjdnhjeoaaDoor
open Go Go.RowKit Gx
set_option maxHeartbeats 1000000
set_option linter.unusedVariables false
set_option linter.unusedSimpArgs false
attribute [local irreducible] members pack listOf count first someIn has setOf setRange wbits Lib.ctz partOf refineP setsP leastP rightP splitsP splitP unionTo apartTo cutTo anyTo firstTo cuts

theorem classesUnions_calls (w : World) (sets : List BSet) (A0 : Option Addr) (c0 : Nat) (b0 : sets.length ≤ c0 ∧ c0 ≤ maxLen) (l0 : Leads kSet (hp w) A0 sets) (more : List BSet) (A1 : Option Addr) (c1 : Nat) (b1 : more.length ≤ c1 ∧ c1 ≤ maxLen) (l1 : Leads kSet (hp w) A1 more) (tb : Block 0 tzTab w) :
    Calls Tryd.prog 12 #[.slice A0 sets.length c0, .slice A1 more.length c1] w fun e w' => ∃ v, e = .returned v ∧ ∃ (hn : Ghost), St w.heap.size w hn w' [] ∧ v = .bool true := by
  refine calls_of_run Tryd.func12 rfl Tryd.ntmps12 rfl ?_
  have S0 := St.init w
  have bb0 := b0.1; have bc0 := b0.2; simp only [maxLen] at bc0
  have bb1 := b1.1; have bc1 := b1.2; simp only [maxLen] at bc1
  refine run_seq ?_
  refine run_reg (l := [0]) rfl ?_
  refine p_v (v := .bool false) rfl rfl rfl (x_assign rfl) ?_
  refine run_region_end ?_
  refine run_seq ?_
  refine run_seq ?_
  refine run_reg (l := [0, 1, 2, 3, 4, 5, 6, 7]) rfl ?_
  refine p_v (v := .slice A0 sets.length c0) rfl rfl rfl (x_move rfl) ?_
  refine p_v (v := .int .i64 (sets.length : Int)) rfl rfl rfl (x_len_slice u44 rfl) ?_
  refine p_v (v := .bool (decide (40 < (sets.length : Int)))) rfl rfl rfl (x_gtr rfl rfl) ?_
  refine p_v (v := .bool (decide (40 < (sets.length : Int)))) rfl rfl rfl (x_move rfl) ?_
  by_cases hc1 : 40 < (sets.length : Int)
  · skip
    refine p_off rfl (wanted_of (j := 3) (want := false) (d := 14) (b := true) rfl rfl (congrArg Value.bool (decide_eq_true hc1)) rfl) rfl ?_
    refine p_off rfl (wanted_of (j := 3) (want := false) (d := 14) (b := true) rfl rfl (congrArg Value.bool (decide_eq_true hc1)) rfl) rfl ?_
    refine p_off rfl (wanted_of (j := 3) (want := false) (d := 14) (b := true) rfl rfl (congrArg Value.bool (decide_eq_true hc1)) rfl) rfl ?_
    refine p_v (v := .bool true) rfl rfl rfl (x_pick_t (congrArg Value.bool (decide_eq_true hc1)) rfl) ?_
    refine run_region_end ?_
    refine run_cond (b := true) rfl ?_
    simp only [if_true, if_false, Bool.false_eq_true]
    refine run_seq ?_
    refine run_reg (l := [0, 1]) rfl ?_
    refine p_c rfl rfl rfl (y_call (args := []) c26 rfl rfl) (awake2_calls w  (Block.st S0 tb)) ?_
    rintro _ w2 ⟨h2, T2, rfl⟩
    have S3 : St w.heap.size w (fun _ => none) w2 [] := S0.keep (Chg.of_below T2.below)
    refine p_v (v := .bool true) rfl rfl rfl (x_assign rfl) ?_
    refine run_region_end ?_
    refine run_ret Tryd.func12 (res1 rfl (res_tmp (v := .bool true) rfl)) ?_
    have q0 : (true : Bool) = true := rfl
    refine ⟨_, rfl, (fun _ => none), ?_, ?_⟩
    · exact S3.sub [] (by decide) rfl _ rfl
    · rfl
  · skip
    refine p_v (v := .slice A1 more.length c1) rfl (wanted_of (j := 3) (want := false) (d := 14) (b := false) rfl rfl (congrArg Value.bool (decide_eq_false hc1)) rfl) rfl (x_move rfl) ?_
    refine p_v (v := .int .i64 (more.length : Int)) rfl (wanted_of (j := 3) (want := false) (d := 14) (b := false) rfl rfl (congrArg Value.bool (decide_eq_false hc1)) rfl) rfl (x_len_slice u44 rfl) ?_
    refine p_v (v := .bool (decide (40 < (more.length : Int)))) rfl (wanted_of (j := 3) (want := false) (d := 14) (b := false) rfl rfl (congrArg Value.bool (decide_eq_false hc1)) rfl) rfl (x_gtr rfl rfl) ?_
    refine p_v (v := .bool (decide (40 < (more.length : Int)))) rfl rfl rfl (x_pick_f (congrArg Value.bool (decide_eq_false hc1)) rfl) ?_
    refine run_region_end ?_
    refine run_cond_prop (p := 40 < (more.length : Int)) rfl (fun hc5 => ?_) (fun hc5 => ?_)
    · skip
      refine run_seq ?_
      refine run_reg (l := [0, 1]) rfl ?_
      refine p_c rfl rfl rfl (y_call (args := []) c26 rfl rfl) (awake2_calls w  (Block.st S0 tb)) ?_
      rintro _ w6 ⟨h6, T6, rfl⟩
      have S7 : St w.heap.size w (fun _ => none) w6 [] := S0.keep (Chg.of_below T6.below)
      refine p_v (v := .bool true) rfl rfl rfl (x_assign rfl) ?_
      refine run_region_end ?_
      refine run_ret Tryd.func12 (res1 rfl (res_tmp (v := .bool true) rfl)) ?_
      have q0 : (true : Bool) = true := rfl
      refine ⟨_, rfl, (fun _ => none), ?_, ?_⟩
      · exact S7.sub [] (by decide) rfl _ rfl
      · rfl
    · skip
      refine run_skip ?_
      refine run_seq ?_
      refine run_reg (l := [0, 1, 2, 3]) rfl ?_
      refine p_v (v := .slice A0 sets.length c0) rfl rfl rfl (x_move rfl) ?_
      refine p_c rfl rfl rfl (y_call (args := [.slice A0 sets.length c0]) c27 rfl rfl) (refine_calls w sets A0 c0 b0 (l0.mono (St.le0 S0))) ?_
      rintro _ w9 ⟨h9, T9, rfl, ok9_0⟩
      have S10 : St w.heap.size w (fun _ => none) w9 [] := S0.keep (Chg.of_below T9.below)
      obtain ⟨b11, w11, r11, g11, T11⟩ := e_box (P := Tryd.prog) S10 48 (v := (.agg #[.int .u8 0, .int .u8 0, .int .u8 0, .int .u8 0, .int .u8 0, .int .u8 0, .int .u8 0, .int .u8 0, .int .u8 0, .int .u8 0, .int .u8 0, .int .u8 0, .int .u8 0, .int .u8 0, .int .u8 0, .int .u8 0, .int .u8 0, .int .u8 0, .int .u8 0, .int .u8 0, .int .u8 0, .int .u8 0, .int .u8 0, .int .u8 0, .int .u8 0, .int .u8 0, .int .u8 0, .int .u8 0, .int .u8 0, .int .u8 0, .int .u8 0, .int .u8 0, .int .u8 0, .int .u8 0, .int .u8 0, .int .u8 0, .int .u8 0, .int .u8 0, .int .u8 0, .int .u8 0, .int .u8 0, .int .u8 0, .int .u8 0, .int .u8 0, .int .u8 0, .int .u8 0, .int .u8 0, .int .u8 0, .int .u8 0, .int .u8 0, .int .u8 0, .int .u8 0, .int .u8 0, .int .u8 0, .int .u8 0, .int .u8 0, .int .u8 0, .int .u8 0, .int .u8 0, .int .u8 0, .int .u8 0, .int .u8 0, .int .u8 0, .int .u8 0, .int .u8 0, .int .u8 0, .int .u8 0, .int .u8 0, .int .u8 0, .int .u8 0, .int .u8 0, .int .u8 0, .int .u8 0, .int .u8 0, .int .u8 0, .int .u8 0, .int .u8 0, .int .u8 0, .int .u8 0, .int .u8 0, .int .u8 0, .int .u8 0, .int .u8 0, .int .u8 0, .int .u8 0, .int .u8 0, .int .u8 0, .int .u8 0, .int .u8 0, .int .u8 0, .int .u8 0, .int .u8 0, .int .u8 0, .int .u8 0, .int .u8 0, .int .u8 0, .int .u8 0, .int .u8 0, .int .u8 0, .int .u8 0, .int .u8 0, .int .u8 0, .int .u8 0, .int .u8 0, .int .u8 0, .int .u8 0, .int .u8 0, .int .u8 0, .int .u8 0, .int .u8 0, .int .u8 0, .int .u8 0, .int .u8 0, .int .u8 0, .int .u8 0, .int .u8 0, .int .u8 0, .int .u8 0, .int .u8 0, .int .u8 0, .int .u8 0, .int .u8 0, .int .u8 0, .int .u8 0, .int .u8 0, .int .u8 0, .int .u8 0, .int .u8 0, .int .u8 0, .int .u8 0, .int .u8 0, .int .u8 0, .int .u8 0, .int .u8 0, .int .u8 0, .int .u8 0, .int .u8 0, .int .u8 0, .int .u8 0, .int .u8 0, .int .u8 0, .int .u8 0, .int .u8 0, .int .u8 0, .int .u8 0, .int .u8 0, .int .u8 0, .int .u8 0, .int .u8 0, .int .u8 0, .int .u8 0, .int .u8 0, .int .u8 0, .int .u8 0, .int .u8 0, .int .u8 0, .int .u8 0, .int .u8 0, .int .u8 0, .int .u8 0, .int .u8 0, .int .u8 0, .int .u8 0, .int .u8 0, .int .u8 0, .int .u8 0, .int .u8 0, .int .u8 0, .int .u8 0, .int .u8 0, .int .u8 0, .int .u8 0, .int .u8 0, .int .u8 0, .int .u8 0, .int .u8 0, .int .u8 0, .int .u8 0, .int .u8 0, .int .u8 0, .int .u8 0, .int .u8 0, .int .u8 0, .int .u8 0, .int .u8 0, .int .u8 0, .int .u8 0, .int .u8 0, .int .u8 0, .int .u8 0, .int .u8 0, .int .u8 0, .int .u8 0, .int .u8 0, .int .u8 0, .int .u8 0, .int .u8 0, .int .u8 0, .int .u8 0, .int .u8 0, .int .u8 0, .int .u8 0, .int .u8 0, .int .u8 0, .int .u8 0, .int .u8 0, .int .u8 0, .int .u8 0, .int .u8 0, .int .u8 0, .int .u8 0, .int .u8 0, .int .u8 0, .int .u8 0, .int .u8 0, .int .u8 0, .int .u8 0, .int .u8 0, .int .u8 0, .int .u8 0, .int .u8 0, .int .u8 0, .int .u8 0, .int .u8 0, .int .u8 0, .int .u8 0, .int .u8 0, .int .u8 0, .int .u8 0, .int .u8 0, .int .u8 0, .int .u8 0, .int .u8 0, .int .u8 0, .int .u8 0, .int .u8 0, .int .u8 0, .int .u8 0, .int .u8 0, .int .u8 0, .int .u8 0, .int .u8 0, .int .u8 0, .int .u8 0, .int .u8 0, .int .u8 0, .int .u8 0, .int .u8 0, .int .u8 0, .int .u8 0, .int .u8 0, .int .u8 0, .int .u8 0, .int .u8 0, .int .u8 0, .int .u8 0, .int .i64 0])) (encPart (⟨(List.replicate 256 (0 : Int)), 0⟩ : PartM)) (by kernel_rfl)
      have S12 : St w.heap.size w (fun _ => none) w11 [box b11 48 (encPart (⟨(List.replicate 256 (0 : Int)), 0⟩ : PartM))] := T11
      refine p_v (v := .pointer (some ⟨b11, 0, none⟩)) rfl rfl rfl (x_alloc t48 r11) ?_
      obtain ⟨w13, r13, g13, T13⟩ := e_store (P := Tryd.prog) (off := 0) (v := .agg (encPart (refineP sets)).toArray) (vs := (encPart (refineP sets))) S12 t48 rfl (encPart_len ok9_0) (j := 0) rfl (by rw [encPart_len (okPart_zero)]; decide) (encPart_one _)
      rw [lput_all (by rw [encPart_len ok9_0, encPart_len (okPart_zero)])] at T13
      have S14 : St w.heap.size w (fun _ => none) w13 [box b11 48 (encPart (refineP sets))] := T13
      refine p_s rfl rfl (x_store rfl rfl r13) ?_
      refine run_region_end ?_
      refine run_seq ?_
      refine run_reg (l := [0, 1, 2, 3, 4, 5, 6, 7]) rfl ?_
      obtain ⟨v15, w15, r15, g15, T15⟩ := e_build_segs (kd := kSet) (xs := ([] : List BSet)) (len := 0) (m := 4) [] S14 u44 t27 rfl rfl rfl rfl segs_nil (cs := []) (Elems.nil _ _) (by simp)
      have S16 : St w.heap.size w (fun _ => none) w15 [box b11 48 (encPart (refineP sets)), row 27 kSet v15 ([] : List BSet)] := T15
      refine p_v (v := v15) rfl rfl rfl (y_build_slice (pv := []) rfl r15) ?_
      refine p_v (v := .slice A0 sets.length c0) rfl rfl rfl (x_move rfl) ?_
      obtain ⟨v18, w18, r18, g18, T18⟩ := e_append (kd := kSet) (A := A0) (c := c0) (ys := sets) (len := sets.length) 44 S16 u44 t27 rfl rfl (j := 1) rfl rfl (news_flat (l0.mono (St.le0 S16)) (fun _ _ hr => hr)) (by first | omega | (simp; omega) | assumption) (by first | omega | (simp; omega) | assumption)
      have S19 : St w.heap.size w (fun _ => none) w18 [box b11 48 (encPart (refineP sets)), row 27 kSet v18 (([] : List BSet) ++ sets)] := T18
      refine p_v (v := v18) rfl rfl rfl (x_append rfl rfl r18) ?_
      refine p_v (v := .slice A1 more.length c1) rfl rfl rfl (x_move rfl) ?_
      obtain ⟨v21, w21, r21, g21, T21⟩ := e_append (kd := kSet) (A := A1) (c := c1) (ys := more) (len := more.length) 44 S19 u44 t27 rfl rfl (j := 1) rfl rfl (news_flat (l1.mono (St.le0 S19)) (fun _ _ hr => hr)) (by first | omega | (simp; omega) | assumption) (by first | omega | (simp; omega) | assumption)
      have S22 : St w.heap.size w (fun _ => none) w21 [box b11 48 (encPart (refineP sets)), row 27 kSet v21 ((([] : List BSet) ++ sets) ++ more)] := T21
      refine p_v (v := v21) rfl rfl rfl (x_append rfl rfl r21) ?_
      obtain ⟨A23, c23, ev23, lc23, cm23⟩ := S22.row_val (j := 1) rfl
      refine p_c rfl rfl rfl (y_call (args := [.slice A23 ((([] : List BSet) ++ sets) ++ more).length c23]) c27 rfl (cons_eq ev23 rfl)) (refine_calls w21 ((([] : List BSet) ++ sets) ++ more) A23 c23 (And.intro lc23 cm23) (row_leads_eq S22 (j := 1) rfl ev23)) ?_
      rintro _ w24 ⟨h24, T24, rfl, ok24_0⟩
      have S25 : St w.heap.size w (fun _ => none) w24 [box b11 48 (encPart (refineP sets)), row 27 kSet v21 ((([] : List BSet) ++ sets) ++ more)] := S22.keep (Chg.of_below T24.below)
      obtain ⟨b26, w26, r26, g26, T26⟩ := e_box (P := Tryd.prog) S25 48 (v := (.agg #[.int .u8 0, .int .u8 0, .int .u8 0, .int .u8 0, .int .u8 0, .int .u8 0, .int .u8 0, .int .u8 0, .int .u8 0, .int .u8 0, .int .u8 0, .int .u8 0, .int .u8 0, .int .u8 0, .int .u8 0, .int .u8 0, .int .u8 0, .int .u8 0, .int .u8 0, .int .u8 0, .int .u8 0, .int .u8 0, .int .u8 0, .int .u8 0, .int .u8 0, .int .u8 0, .int .u8 0, .int .u8 0, .int .u8 0, .int .u8 0, .int .u8 0, .int .u8 0, .int .u8 0, .int .u8 0, .int .u8 0, .int .u8 0, .int .u8 0, .int .u8 0, .int .u8 0, .int .u8 0, .int .u8 0, .int .u8 0, .int .u8 0, .int .u8 0, .int .u8 0, .int .u8 0, .int .u8 0, .int .u8 0, .int .u8 0, .int .u8 0, .int .u8 0, .int .u8 0, .int .u8 0, .int .u8 0, .int .u8 0, .int .u8 0, .int .u8 0, .int .u8 0, .int .u8 0, .int .u8 0, .int .u8 0, .int .u8 0, .int .u8 0, .int .u8 0, .int .u8 0, .int .u8 0, .int .u8 0, .int .u8 0, .int .u8 0, .int .u8 0, .int .u8 0, .int .u8 0, .int .u8 0, .int .u8 0, .int .u8 0, .int .u8 0, .int .u8 0, .int .u8 0, .int .u8 0, .int .u8 0, .int .u8 0, .int .u8 0, .int .u8 0, .int .u8 0, .int .u8 0, .int .u8 0, .int .u8 0, .int .u8 0, .int .u8 0, .int .u8 0, .int .u8 0, .int .u8 0, .int .u8 0, .int .u8 0, .int .u8 0, .int .u8 0, .int .u8 0, .int .u8 0, .int .u8 0, .int .u8 0, .int .u8 0, .int .u8 0, .int .u8 0, .int .u8 0, .int .u8 0, .int .u8 0, .int .u8 0, .int .u8 0, .int .u8 0, .int .u8 0, .int .u8 0, .int .u8 0, .int .u8 0, .int .u8 0, .int .u8 0, .int .u8 0, .int .u8 0, .int .u8 0, .int .u8 0, .int .u8 0, .int .u8 0, .int .u8 0, .int .u8 0, .int .u8 0, .int .u8 0, .int .u8 0, .int .u8 0, .int .u8 0, .int .u8 0, .int .u8 0, .int .u8 0, .int .u8 0, .int .u8 0, .int .u8 0, .int .u8 0, .int .u8 0, .int .u8 0, .int .u8 0, .int .u8 0, .int .u8 0, .int .u8 0, .int .u8 0, .int .u8 0, .int .u8 0, .int .u8 0, .int .u8 0, .int .u8 0, .int .u8 0, .int .u8 0, .int .u8 0, .int .u8 0, .int .u8 0, .int .u8 0, .int .u8 0, .int .u8 0, .int .u8 0, .int .u8 0, .int .u8 0, .int .u8 0, .int .u8 0, .int .u8 0, .int .u8 0, .int .u8 0, .int .u8 0, .int .u8 0, .int .u8 0, .int .u8 0, .int .u8 0, .int .u8 0, .int .u8 0, .int .u8 0, .int .u8 0, .int .u8 0, .int .u8 0, .int .u8 0, .int .u8 0, .int .u8 0, .int .u8 0, .int .u8 0, .int .u8 0, .int .u8 0, .int .u8 0, .int .u8 0, .int .u8 0, .int .u8 0, .int .u8 0, .int .u8 0, .int .u8 0, .int .u8 0, .int .u8 0, .int .u8 0, .int .u8 0, .int .u8 0, .int .u8 0, .int .u8 0, .int .u8 0, .int .u8 0, .int .u8 0, .int .u8 0, .int .u8 0, .int .u8 0, .int .u8 0, .int .u8 0, .int .u8 0, .int .u8 0, .int .u8 0, .int .u8 0, .int .u8 0, .int .u8 0, .int .u8 0, .int .u8 0, .int .u8 0, .int .u8 0, .int .u8 0, .int .u8 0, .int .u8 0, .int .u8 0, .int .u8 0, .int .u8 0, .int .u8 0, .int .u8 0, .int .u8 0, .int .u8 0, .int .u8 0, .int .u8 0, .int .u8 0, .int .u8 0, .int .u8 0, .int .u8 0, .int .u8 0, .int .u8 0, .int .u8 0, .int .u8 0, .int .u8 0, .int .u8 0, .int .u8 0, .int .u8 0, .int .u8 0, .int .u8 0, .int .u8 0, .int .u8 0, .int .u8 0, .int .u8 0, .int .u8 0, .int .u8 0, .int .u8 0, .int .u8 0, .int .u8 0, .int .u8 0, .int .u8 0, .int .u8 0, .int .u8 0, .int .u8 0, .int .u8 0, .int .u8 0, .int .u8 0, .int .i64 0])) (encPart (⟨(List.replicate 256 (0 : Int)), 0⟩ : PartM)) (by kernel_rfl)
      have S27 : St w.heap.size w (fun _ => none) w26 [box b11 48 (encPart (refineP sets)), row 27 kSet v21 ((([] : List BSet) ++ sets) ++ more), box b26 48 (encPart (⟨(List.replicate 256 (0 : Int)), 0⟩ : PartM))] := T26
      refine p_v (v := .pointer (some ⟨b26, 0, none⟩)) rfl rfl rfl (x_alloc t48 r26) ?_
      obtain ⟨w28, r28, g28, T28⟩ := e_store (P := Tryd.prog) (off := 0) (v := .agg (encPart (refineP ((([] : List BSet) ++ sets) ++ more))).toArray) (vs := (encPart (refineP ((([] : List BSet) ++ sets) ++ more)))) S27 t48 rfl (encPart_len ok24_0) (j := 2) rfl (by rw [encPart_len (okPart_zero)]; decide) (encPart_one _)
      rw [lput_all (by rw [encPart_len ok24_0, encPart_len (okPart_zero)])] at T28
      have S29 : St w.heap.size w (fun _ => none) w28 [box b11 48 (encPart (refineP sets)), row 27 kSet v21 ((([] : List BSet) ++ sets) ++ more), box b26 48 (encPart (refineP ((([] : List BSet) ++ sets) ++ more)))] := T28
      refine p_s rfl rfl (x_store rfl rfl r28) ?_
      refine run_region_end ?_
      refine run_seq ?_
      refine run_seq ?_
      refine run_reg (l := [0]) rfl ?_
      refine p_v (v := .int .i64 0) rfl rfl rfl (x_assign rfl) ?_
      refine run_region_end ?_
      refine run_block ?_
      refine run_loop (S := Int) (fun (q_ : Int) ρ w' => match q_ with | i => ∃ (h : Ghost), Le (fun _ => none) h ∧ St w.heap.size w h w' [box b11 48 (encPart (refineP sets)), box b26 48 (encPart (refineP ((([] : List BSet) ++ sets) ++ more)))] ∧ ρ 0 = .slice A0 sets.length c0 ∧ ρ 1 = .slice A1 more.length c1 ∧ ρ 5 = .pointer (some ⟨b11, 0, none⟩) ∧ ρ 6 = .pointer (some ⟨b26, 0, none⟩) ∧ ρ 7 = .int .i64 i ∧ inK .i64 i ∧ (0 ≤ i)) (fun q_ => match q_ with | i => ((sets.length : Int) - i).toNat) (0) ⟨(fun _ => none), Le.refl _, S29.sub [0, 2] (by decide) rfl _ rfl, rfl, rfl, rfl, rfl, rfl, (in_i64 (by first | omega | (simp; omega) | assumption) (by first | omega | (simp; omega) | assumption)), (by omega)⟩ ?_
      rintro i ih30 ρ30 w30 ⟨h30, le30, S30, r30_0, r30_1, r30_5, r30_6, r30_7, f30_0, hI30⟩
      have lf30_0 := i64_lo f30_0; have hf30_0 := i64_hi f30_0
      refine run_seq ?_
      refine run_seq ?_
      refine run_reg (l := [0, 1, 2, 3]) rfl ?_
      refine p_v (v := .int .i64 i) rfl rfl rfl (x_move r30_7) ?_
      refine p_v (v := .slice A0 sets.length c0) rfl rfl rfl (x_move r30_0) ?_
      refine p_v (v := .int .i64 (sets.length : Int)) rfl rfl rfl (x_len_slice u44 rfl) ?_
      refine p_v (v := .bool (decide (i < (sets.length : Int)))) rfl rfl rfl (x_lss rfl rfl) ?_
      refine run_region_end ?_
      refine run_cond_prop (p := i < (sets.length : Int)) rfl (fun hc31 => ?_) (fun hc31 => ?_)
      · skip
        refine run_skip ?_
        refine run_seq ?_
        refine run_block ?_
        refine run_seq ?_
        obtain ⟨ad32, seg32, a32, rp32, ce32⟩ := e_index_ro (q := i) (m := 4) l0 rfl (by first | omega | (simp; omega) | assumption) (by first | omega | (simp; omega) | assumption)
        obtain ⟨rfl, ok32⟩ := rp32
        have hc34 : (splitsP (refineP sets) (at_ sets i)) = false := by
          exact splits_at sets hI30 (by omega)
        obtain ⟨ad35, seg35, a35, rp35, ce35⟩ := e_index_ro (q := i) (m := 4) l0 rfl (by first | omega | (simp; omega) | assumption) (by first | omega | (simp; omega) | assumption)
        obtain ⟨rfl, ok35⟩ := rp35
        have hf37 : (CFs ⟨b11, 0, none⟩ (encPart (refineP sets))).1 w30 := (CF.box (m := 257) (S30.box_at (j := 0) rfl) (cs := (encPart (refineP sets))) (by rw [List.drop_zero, List.take_of_length_le (by rw [encPart_len ok9_0]; exact Nat.le_refl _)]))
        have hf38 : (CFs ad32 (encSet (at_ sets i))).1 w30 := (CF.ghost ce32 (St.le0 S30))
        have hf39 : (CFs ⟨b26, 0, none⟩ (encPart (refineP ((([] : List BSet) ++ sets) ++ more)))).1 w30 := (CF.box (m := 257) (S30.box_at (j := 1) rfl) (cs := (encPart (refineP ((([] : List BSet) ++ sets) ++ more)))) (by rw [List.drop_zero, List.take_of_length_le (by rw [encPart_len ok24_0]; exact Nat.le_refl _)]))
        have hf40 : (CFs ad35 (encSet (at_ sets i))).1 w30 := (CF.ghost ce35 (St.le0 S30))
        refine da_start [(0, CFs ⟨b11, 0, none⟩ (encPart (refineP sets))), (4, CFs ad32 (encSet (at_ sets i))), (7, CFs ⟨b26, 0, none⟩ (encPart (refineP ((([] : List BSet) ++ sets) ++ more)))), (11, CFs ad35 (encSet (at_ sets i)))] 14 rfl mixed ?_
        intro wd41 gd41 hd41
        have S42 : St w.heap.size w h30 wd41 [box b11 48 (encPart (refineP sets)), box b26 48 (encPart (refineP ((([] : List BSet) ++ sets) ++ more)))] := S30.keep gd41
        have hf43 := (CFs ⟨b11, 0, none⟩ (encPart (refineP sets))).2 _ _ gd41 hf37
        have hf44 := (CFs ad32 (encSet (at_ sets i))).2 _ _ gd41 hf38
        have hf45 := (CFs ⟨b26, 0, none⟩ (encPart (refineP ((([] : List BSet) ++ sets) ++ more)))).2 _ _ gd41 hf39
        have hf46 := (CFs ad35 (encSet (at_ sets i))).2 _ _ gd41 hf40
        refine d_q (i := 0) (v := .agg (encPart (refineP sets)).toArray) (CF ⟨b11, 0, none⟩ (encPart (refineP sets))) (fun _ ho => ho _ (List.mem_of_getElem? (i := 0) rfl) rfl) rfl (by decide +kernel) (by decide +kernel) (by decide +kernel) rfl rfl (fun wq hq => (x_load (seg := (encPart (refineP sets))) t48 (encPart_len ok9_0) (by simp) r30_5 hq)) (of_eq hf43 (of_ne rfl (of_ne rfl (of_ne rfl (of_nil _ _))))) ?_
        refine d_q (i := 1) (v := .slice A0 sets.length c0) (fun _ => True) (fun _ ho => trivial) rfl (by decide +kernel) (by decide +kernel) (by decide +kernel) rfl rfl (fun wq hq => (x_move r30_0)) (of_ne rfl (of_ne rfl (of_ne rfl (of_ne rfl (of_nil _ _))))) ?_
        refine d_q (i := 2) (v := .int .i64 i) (fun _ => True) (fun _ ho => trivial) rfl (by decide +kernel) (by decide +kernel) (by decide +kernel) rfl rfl (fun wq hq => (x_move r30_7)) (of_ne rfl (of_ne rfl (of_ne rfl (of_ne rfl (of_nil _ _))))) ?_
        refine d_q (i := 3) (v := .pointer (some ad32)) (fun _ => True) (fun _ ho => trivial) rfl (by decide +kernel) (by decide +kernel) (by decide +kernel) rfl rfl (fun wq hq => (x_index_ro u44 t27 rfl rfl a32 (by first | omega | (simp; omega) | assumption) (by first | omega | (simp; omega) | assumption))) (of_ne rfl (of_ne rfl (of_ne rfl (of_ne rfl (of_nil _ _))))) ?_
        refine d_q (i := 4) (v := .agg (encSet (at_ sets i)).toArray) (CF ad32 (encSet (at_ sets i))) (fun _ ho => ho _ (List.mem_of_getElem? (i := 1) rfl) rfl) rfl (by decide +kernel) (by decide +kernel) (by decide +kernel) rfl rfl (fun wq hq => (x_load (seg := (encSet (at_ sets i))) t27 rfl (by simp) rfl hq)) (of_ne rfl (of_eq hf44 (of_ne rfl (of_ne rfl (of_nil _ _))))) ?_
        refine d_m (i := 5) (v := .bool (splitsP (refineP sets) (at_ sets i))) (fun _ => True) (fun _ ho => trivial) rfl (by decide +kernel) (by decide +kernel) (by decide +kernel) rfl rfl (fun wq => (y_call (args := [.agg (encPart (refineP sets)).toArray, .agg (encSet (at_ sets i)).toArray]) c32 rfl rfl)) (fun wq hq => (splits_calls wq (refineP sets) ok9_0 (at_ sets i)).mono fun e w2 he => by obtain ⟨_, rfl, _, T, rfl⟩ := he; exact ⟨rfl, Chg.of_below T.below⟩) (of_ne rfl (of_ne rfl (of_ne rfl (of_ne rfl (of_nil _ _))))) ?_
        refine d_q (i := 6) (v := .bool (splitsP (refineP sets) (at_ sets i))) (fun _ => True) (fun _ ho => trivial) rfl (by decide +kernel) (by decide +kernel) (by decide +kernel) rfl rfl (fun wq hq => (x_move rfl)) (of_ne rfl (of_ne rfl (of_ne rfl (of_ne rfl (of_nil _ _))))) ?_
        refine d_q (i := 7) (v := .agg (encPart (refineP ((([] : List BSet) ++ sets) ++ more))).toArray) (CF ⟨b26, 0, none⟩ (encPart (refineP ((([] : List BSet) ++ sets) ++ more)))) (fun _ ho => ho _ (List.mem_of_getElem? (i := 2) rfl) rfl) rfl (by decide +kernel) (by decide +kernel) (by decide +kernel) (wanted_of (j := 6) (want := false) (d := 40) (b := false) rfl rfl (congrArg Value.bool hc34) rfl) rfl (fun wq hq => (x_load (seg := (encPart (refineP ((([] : List BSet) ++ sets) ++ more)))) t48 (encPart_len ok24_0) (by simp) r30_6 hq)) (of_ne rfl (of_ne rfl (of_eq hf45 (of_ne rfl (of_nil _ _))))) ?_
        refine d_q (i := 8) (v := .slice A0 sets.length c0) (fun _ => True) (fun _ ho => trivial) rfl (by decide +kernel) (by decide +kernel) (by decide +kernel) (wanted_of (j := 6) (want := false) (d := 40) (b := false) rfl rfl (congrArg Value.bool hc34) rfl) rfl (fun wq hq => (x_move r30_0)) (of_ne rfl (of_ne rfl (of_ne rfl (of_ne rfl (of_nil _ _))))) ?_
        refine d_q (i := 9) (v := .int .i64 i) (fun _ => True) (fun _ ho => trivial) rfl (by decide +kernel) (by decide +kernel) (by decide +kernel) (wanted_of (j := 6) (want := false) (d := 40) (b := false) rfl rfl (congrArg Value.bool hc34) rfl) rfl (fun wq hq => (x_move r30_7)) (of_ne rfl (of_ne rfl (of_ne rfl (of_ne rfl (of_nil _ _))))) ?_
        refine d_q (i := 10) (v := .pointer (some ad35)) (fun _ => True) (fun _ ho => trivial) rfl (by decide +kernel) (by decide +kernel) (by decide +kernel) (wanted_of (j := 6) (want := false) (d := 40) (b := false) rfl rfl (congrArg Value.bool hc34) rfl) rfl (fun wq hq => (x_index_ro u44 t27 rfl rfl a35 (by first | omega | (simp; omega) | assumption) (by first | omega | (simp; omega) | assumption))) (of_ne rfl (of_ne rfl (of_ne rfl (of_ne rfl (of_nil _ _))))) ?_
        refine d_q (i := 11) (v := .agg (encSet (at_ sets i)).toArray) (CF ad35 (encSet (at_ sets i))) (fun _ ho => ho _ (List.mem_of_getElem? (i := 3) rfl) rfl) rfl (by decide +kernel) (by decide +kernel) (by decide +kernel) (wanted_of (j := 6) (want := false) (d := 40) (b := false) rfl rfl (congrArg Value.bool hc34) rfl) rfl (fun wq hq => (x_load (seg := (encSet (at_ sets i))) t27 rfl (by simp) rfl hq)) (of_ne rfl (of_ne rfl (of_ne rfl (of_eq hf46 (of_nil _ _))))) ?_
        refine d_m (i := 12) (v := .bool (splitsP (refineP ((([] : List BSet) ++ sets) ++ more)) (at_ sets i))) (fun _ => True) (fun _ ho => trivial) rfl (by decide +kernel) (by decide +kernel) (by decide +kernel) (wanted_of (j := 6) (want := false) (d := 40) (b := false) rfl rfl (congrArg Value.bool hc34) rfl) rfl (fun wq => (y_call (args := [.agg (encPart (refineP ((([] : List BSet) ++ sets) ++ more))).toArray, .agg (encSet (at_ sets i)).toArray]) c32 rfl rfl)) (fun wq hq => (splits_calls wq (refineP ((([] : List BSet) ++ sets) ++ more)) ok24_0 (at_ sets i)).mono fun e w2 he => by obtain ⟨_, rfl, _, T, rfl⟩ := he; exact ⟨rfl, Chg.of_below T.below⟩) (of_ne rfl (of_ne rfl (of_ne rfl (of_ne rfl (of_nil _ _))))) ?_
        refine d_q (i := 13) (v := .bool (splitsP (refineP ((([] : List BSet) ++ sets) ++ more)) (at_ sets i))) (fun _ => True) (fun _ ho => trivial) rfl (by decide +kernel) (by decide +kernel) (by decide +kernel) rfl rfl (fun wq hq => (x_pick_f (congrArg Value.bool hc34) rfl)) (of_ne rfl (of_ne rfl (of_ne rfl (of_ne rfl (of_nil _ _))))) ?_
        refine ra_done (by decide +kernel) ?_
        intro wd47 gd47
        have S48 : St w.heap.size w h30 wd47 [box b11 48 (encPart (refineP sets)), box b26 48 (encPart (refineP ((([] : List BSet) ++ sets) ++ more)))] := S42.keep gd47
        have hc49 : (splitsP (refineP ((([] : List BSet) ++ sets) ++ more)) (at_ sets i)) = false := by
          rw [List.nil_append]; exact splits_at2 sets more hI30 (by omega)
        refine run_cond (b := false) (congrArg Value.bool hc49) ?_
        simp only [if_true, if_false, Bool.false_eq_true]
        refine run_skip ?_
        refine run_inBlock ?_
        refine run_reg (l := [0, 1, 2]) rfl ?_
        refine p_v (v := .int .i64 i) rfl rfl rfl (x_move r30_7) ?_
        refine p_v (v := .int .i64 (i + 1)) rfl rfl rfl (x_add rfl rfl (in_i64 (by first | omega | (simp; omega) | assumption) (by first | omega | (simp; omega) | assumption))) ?_
        refine p_v (v := .int .i64 (i + 1)) rfl rfl rfl (x_assign rfl) ?_
        refine run_region_end ?_
        refine ih30 (i + 1) _ _ (by dsimp only; omega) ⟨h30, le30, S48.sub [0, 1] (by decide) rfl _ rfl, r30_0, r30_1, r30_5, r30_6, rfl, (in_i64 (by first | omega | (simp; omega) | assumption) (by first | omega | (simp; omega) | assumption)), (by omega)⟩
      · skip
        refine run_exit rfl ?_
        refine run_seq ?_
        refine run_reg (l := [0, 1, 2]) rfl ?_
        refine p_v (v := .agg (encPart (refineP sets)).toArray) rfl rfl rfl (x_load (seg := (encPart (refineP sets))) t48 (encPart_len ok9_0) (by simp) r30_5 (CF.box (m := 257) (S30.box_at (j := 0) rfl) (cs := (encPart (refineP sets))) (by rw [List.drop_zero, List.take_of_length_le (by rw [encPart_len ok9_0]; exact Nat.le_refl _)]))) ?_
        refine p_c rfl rfl rfl (y_call (args := [.agg (encPart (refineP sets)).toArray]) c31 rfl rfl) (sets_calls w30 (refineP sets) ok9_0) ?_
        rintro v50_0 w50 ⟨h50, _, T50, rfl⟩
        obtain ⟨k50, lk50, ll50, U50⟩ := call_joins S30 T50
        have lc50_0 := (le30).trans lk50
        have S51 : St w.heap.size w k50 w50 [box b11 48 (encPart (refineP sets)), box b26 48 (encPart (refineP ((([] : List BSet) ++ sets) ++ more))), row 27 kSet v50_0 (setsP (refineP sets))] := U50
        obtain ⟨h52, le52, T52, rp52⟩ := S51.freeze (i := 2) rfl
        have lf52_0 := (lc50_0).trans le52
        have lf52_1 := (lk50).trans le52
        have S53 : St w.heap.size w h52 w50 [box b11 48 (encPart (refineP sets)), box b26 48 (encPart (refineP ((([] : List BSet) ++ sets) ++ more))), emp] := T52
        obtain ⟨A52, c52, e52, lc52, cm52, ld52⟩ := rp52
        injection e52 with e52 _; subst e52
        have cn52 := cm52; simp only [maxLen] at cn52
        refine p_v (v := .slice A52 (setsP (refineP sets)).length c52) rfl rfl rfl (x_assign rfl) ?_
        refine run_region_end ?_
        refine run_seq ?_
        refine run_reg (l := [0, 1, 2]) rfl ?_
        refine p_v (v := .agg (encSet (0 : BSet)).toArray) rfl rfl rfl (y_build (pv := []) rfl (run_build_array u27 t25 t27 (cs := (encSet (0 : BSet))) (by rfl))) ?_
        obtain ⟨b54, w54, r54, g54, T54⟩ := e_box (P := Tryd.prog) S53 27 (v := (.agg #[.int .u64 0, .int .u64 0, .int .u64 0, .int .u64 0])) (encSet (0 : BSet)) rfl
        have S55 : St w.heap.size w h52 w54 [box b11 48 (encPart (refineP sets)), box b26 48 (encPart (refineP ((([] : List BSet) ++ sets) ++ more))), emp, box b54 27 (encSet (0 : BSet))] := T54
        refine p_v (v := .pointer (some ⟨b54, 0, none⟩)) rfl rfl rfl (x_alloc t27 r54) ?_
        obtain ⟨w56, r56, g56, T56⟩ := e_store (P := Tryd.prog) (off := 0) (v := .agg (encSet (0 : BSet)).toArray) (vs := (encSet (0 : BSet))) S55 t27 rfl rfl (j := 3) rfl (by first | decide | exact Nat.le_of_ble_eq_true rfl) (encSet_one _)
        have S57 : St w.heap.size w h52 w56 [box b11 48 (encPart (refineP sets)), box b26 48 (encPart (refineP ((([] : List BSet) ++ sets) ++ more))), emp, box b54 27 (encSet (0 : BSet))] := T56
        refine p_s rfl rfl (x_store rfl rfl r56) ?_
        refine run_region_end ?_
        refine run_seq ?_
        refine run_seq ?_
        refine run_reg (l := [0]) rfl ?_
        refine p_v (v := .int .i64 0) rfl rfl rfl (x_assign rfl) ?_
        refine run_region_end ?_
        refine run_block ?_
        refine run_loop (S := BSet × Int) (fun (q_ : BSet × Int) ρ w' => match q_ with | (union, i2) => ∃ (h : Ghost), Le h52 h ∧ St w.heap.size w h w' [box b11 48 (encPart (refineP sets)), box b26 48 (encPart (refineP ((([] : List BSet) ++ sets) ++ more))), box b54 27 (encSet union)] ∧ ρ 0 = .slice A0 sets.length c0 ∧ ρ 1 = .slice A1 more.length c1 ∧ ρ 5 = .pointer (some ⟨b11, 0, none⟩) ∧ ρ 6 = .pointer (some ⟨b26, 0, none⟩) ∧ ρ 8 = .slice A52 (setsP (refineP sets)).length c52 ∧ ρ 9 = .pointer (some ⟨b54, 0, none⟩) ∧ ρ 10 = .int .i64 i2 ∧ inK .i64 i2 ∧ (0 ≤ i2 ∧ i2 ≤ ((setsP (refineP sets)).length : Int) ∧ union = unionTo sets i2)) (fun q_ => match q_ with | (union, i2) => (((setsP (refineP sets)).length : Int) - i2).toNat) ((0 : BSet), 0) ⟨h52, Le.refl _, S57.sub [0, 1, 3] (by decide) rfl _ rfl, r30_0, r30_1, r30_5, r30_6, rfl, rfl, rfl, (in_i64 (by first | omega | (simp; omega) | assumption) (by first | omega | (simp; omega) | assumption)), (by exact ⟨by omega, by omega, unionTo_0 sets⟩)⟩ ?_
        rintro ⟨union, i2⟩ ih58 ρ58 w58 ⟨h58, le58, S58, r58_0, r58_1, r58_5, r58_6, r58_8, r58_9, r58_10, f58_0, hI58⟩
        have lf58_0 := i64_lo f58_0; have hf58_0 := i64_hi f58_0
        refine run_seq ?_
        refine run_seq ?_
        refine run_reg (l := [0, 1, 2, 3]) rfl ?_
        refine p_v (v := .int .i64 i2) rfl rfl rfl (x_move r58_10) ?_
        refine p_v (v := .slice A52 (setsP (refineP sets)).length c52) rfl rfl rfl (x_move r58_8) ?_
        refine p_v (v := .int .i64 ((setsP (refineP sets)).length : Int)) rfl rfl rfl (x_len_slice u44 rfl) ?_
        refine p_v (v := .bool (decide (i2 < ((setsP (refineP sets)).length : Int)))) rfl rfl rfl (x_lss rfl rfl) ?_
        refine run_region_end ?_
        refine run_cond_prop (p := i2 < ((setsP (refineP sets)).length : Int)) rfl (fun hc59 => ?_) (fun hc59 => ?_)
        · skip
          refine run_skip ?_
          refine run_seq ?_
          refine run_block ?_
          refine run_seq ?_
          refine run_seq ?_
          obtain ⟨ad60, seg60, a60, rp60, ce60⟩ := e_index_ro (q := i2) (m := 4) ld52 rfl (by first | omega | (simp; omega) | assumption) (by first | omega | (simp; omega) | assumption)
          obtain ⟨rfl, ok60⟩ := rp60
          have hc61 : ¬ ((at_ (setsP (refineP sets)) i2) = (0 : BSet)) := by
            exact cls_some sets hI58.1 (by omega)
          obtain ⟨ad62, seg62, a62, rp62, ce62⟩ := e_index_ro (q := i2) (m := 4) ld52 rfl (by first | omega | (simp; omega) | assumption) (by first | omega | (simp; omega) | assumption)
          obtain ⟨rfl, ok62⟩ := rp62
          have hc64 : ¬ ((union &&& (at_ (setsP (refineP sets)) i2)) ≠ (0 : BSet)) := by
            rw [hI58.2.2, union_apart sets hI58.1 (by omega)]; simp
          obtain ⟨ad65, seg65, a65, rp65, ce65⟩ := e_index_ro (q := i2) (m := 4) ld52 rfl (by first | omega | (simp; omega) | assumption) (by first | omega | (simp; omega) | assumption)
          obtain ⟨rfl, ok65⟩ := rp65
          have hf67 : (CFs ad60 (encSet (at_ (setsP (refineP sets)) i2))).1 w58 := (CF.ghost ce60 (le58.trans S58.ghost))
          have hf68 : (CFs ⟨b54, 0, none⟩ (encSet union)).1 w58 := (CF.box (m := 4) (S58.box_at (j := 2) rfl) (cs := (encSet union)) rfl)
          have hf69 : (CFs ad62 (encSet (at_ (setsP (refineP sets)) i2))).1 w58 := (CF.ghost ce62 (le58.trans S58.ghost))
          have hf70 : (CFs ⟨b26, 0, none⟩ (encPart (refineP ((([] : List BSet) ++ sets) ++ more)))).1 w58 := (CF.box (m := 257) (S58.box_at (j := 1) rfl) (cs := (encPart (refineP ((([] : List BSet) ++ sets) ++ more)))) (by rw [List.drop_zero, List.take_of_length_le (by rw [encPart_len ok24_0]; exact Nat.le_refl _)]))
          have hf71 : (CFs ad65 (encSet (at_ (setsP (refineP sets)) i2))).1 w58 := (CF.ghost ce65 (le58.trans S58.ghost))
          refine da_start [(3, CFs ad60 (encSet (at_ (setsP (refineP sets)) i2))), (7, CFs ⟨b54, 0, none⟩ (encSet union)), (11, CFs ad62 (encSet (at_ (setsP (refineP sets)) i2))), (17, CFs ⟨b26, 0, none⟩ (encPart (refineP ((([] : List BSet) ++ sets) ++ more)))), (21, CFs ad65 (encSet (at_ (setsP (refineP sets)) i2)))] 24 rfl mixed ?_
          intro wd72 gd72 hd72
          have S73 : St w.heap.size w h58 wd72 [box b11 48 (encPart (refineP sets)), box b26 48 (encPart (refineP ((([] : List BSet) ++ sets) ++ more))), box b54 27 (encSet union)] := S58.keep gd72
          have hf74 := (CFs ad60 (encSet (at_ (setsP (refineP sets)) i2))).2 _ _ gd72 hf67
          have hf75 := (CFs ⟨b54, 0, none⟩ (encSet union)).2 _ _ gd72 hf68
          have hf76 := (CFs ad62 (encSet (at_ (setsP (refineP sets)) i2))).2 _ _ gd72 hf69
          have hf77 := (CFs ⟨b26, 0, none⟩ (encPart (refineP ((([] : List BSet) ++ sets) ++ more)))).2 _ _ gd72 hf70
          have hf78 := (CFs ad65 (encSet (at_ (setsP (refineP sets)) i2))).2 _ _ gd72 hf71
          refine d_q (i := 0) (v := .slice A52 (setsP (refineP sets)).length c52) (fun _ => True) (fun _ ho => trivial) rfl (by decide +kernel) (by decide +kernel) (by decide +kernel) rfl rfl (fun wq hq => (x_move r58_8)) (of_ne rfl (of_ne rfl (of_ne rfl (of_ne rfl (of_ne rfl (of_nil _ _)))))) ?_
          refine d_q (i := 1) (v := .int .i64 i2) (fun _ => True) (fun _ ho => trivial) rfl (by decide +kernel) (by decide +kernel) (by decide +kernel) rfl rfl (fun wq hq => (x_move r58_10)) (of_ne rfl (of_ne rfl (of_ne rfl (of_ne rfl (of_ne rfl (of_nil _ _)))))) ?_
          refine d_q (i := 2) (v := .pointer (some ad60)) (fun _ => True) (fun _ ho => trivial) rfl (by decide +kernel) (by decide +kernel) (by decide +kernel) rfl rfl (fun wq hq => (x_index_ro u44 t27 rfl rfl a60 (by first | omega | (simp; omega) | assumption) (by first | omega | (simp; omega) | assumption))) (of_ne rfl (of_ne rfl (of_ne rfl (of_ne rfl (of_ne rfl (of_nil _ _)))))) ?_
          refine d_q (i := 3) (v := .agg (encSet (at_ (setsP (refineP sets)) i2)).toArray) (CF ad60 (encSet (at_ (setsP (refineP sets)) i2))) (fun _ ho => ho _ (List.mem_of_getElem? (i := 0) rfl) rfl) rfl (by decide +kernel) (by decide +kernel) (by decide +kernel) rfl rfl (fun wq hq => (x_load (seg := (encSet (at_ (setsP (refineP sets)) i2))) t27 rfl (by simp) rfl hq)) (of_eq hf74 (of_ne rfl (of_ne rfl (of_ne rfl (of_ne rfl (of_nil _ _)))))) ?_
          refine d_q (i := 4) (v := .agg (encSet (0 : BSet)).toArray) (fun _ => True) (fun _ ho => trivial) rfl (by decide +kernel) (by decide +kernel) (by decide +kernel) rfl rfl (fun wq hq => (y_build (pv := []) rfl (run_build_array u27 t25 t27 (cs := (encSet (0 : BSet))) (by rfl)))) (of_ne rfl (of_ne rfl (of_ne rfl (of_ne rfl (of_ne rfl (of_nil _ _)))))) ?_
          refine d_q (i := 5) (v := .bool (decide ((at_ (setsP (refineP sets)) i2) = (0 : BSet)))) (fun _ => True) (fun _ ho => trivial) rfl (by decide +kernel) (by decide +kernel) (by decide +kernel) rfl rfl (fun wq hq => (x_eql_set u27 u25 t25 q27 rfl rfl)) (of_ne rfl (of_ne rfl (of_ne rfl (of_ne rfl (of_ne rfl (of_nil _ _)))))) ?_
          refine d_q (i := 6) (v := .bool (decide ((at_ (setsP (refineP sets)) i2) = (0 : BSet)))) (fun _ => True) (fun _ ho => trivial) rfl (by decide +kernel) (by decide +kernel) (by decide +kernel) rfl rfl (fun wq hq => (x_move rfl)) (of_ne rfl (of_ne rfl (of_ne rfl (of_ne rfl (of_ne rfl (of_nil _ _)))))) ?_
          refine d_q (i := 7) (v := .agg (encSet union).toArray) (CF ⟨b54, 0, none⟩ (encSet union)) (fun _ ho => ho _ (List.mem_of_getElem? (i := 1) rfl) rfl) rfl (by decide +kernel) (by decide +kernel) (by decide +kernel) (wanted_of (j := 6) (want := false) (d := 63) (b := false) rfl rfl (congrArg Value.bool (decide_eq_false hc61)) rfl) rfl (fun wq hq => (x_load (seg := (encSet union)) t27 rfl (by simp) r58_9 hq)) (of_ne rfl (of_eq hf75 (of_ne rfl (of_ne rfl (of_ne rfl (of_nil _ _)))))) ?_
          refine d_q (i := 8) (v := .slice A52 (setsP (refineP sets)).length c52) (fun _ => True) (fun _ ho => trivial) rfl (by decide +kernel) (by decide +kernel) (by decide +kernel) (wanted_of (j := 6) (want := false) (d := 63) (b := false) rfl rfl (congrArg Value.bool (decide_eq_false hc61)) rfl) rfl (fun wq hq => (x_move r58_8)) (of_ne rfl (of_ne rfl (of_ne rfl (of_ne rfl (of_ne rfl (of_nil _ _)))))) ?_
          refine d_q (i := 9) (v := .int .i64 i2) (fun _ => True) (fun _ ho => trivial) rfl (by decide +kernel) (by decide +kernel) (by decide +kernel) (wanted_of (j := 6) (want := false) (d := 63) (b := false) rfl rfl (congrArg Value.bool (decide_eq_false hc61)) rfl) rfl (fun wq hq => (x_move r58_10)) (of_ne rfl (of_ne rfl (of_ne rfl (of_ne rfl (of_ne rfl (of_nil _ _)))))) ?_
          refine d_q (i := 10) (v := .pointer (some ad62)) (fun _ => True) (fun _ ho => trivial) rfl (by decide +kernel) (by decide +kernel) (by decide +kernel) (wanted_of (j := 6) (want := false) (d := 63) (b := false) rfl rfl (congrArg Value.bool (decide_eq_false hc61)) rfl) rfl (fun wq hq => (x_index_ro u44 t27 rfl rfl a62 (by first | omega | (simp; omega) | assumption) (by first | omega | (simp; omega) | assumption))) (of_ne rfl (of_ne rfl (of_ne rfl (of_ne rfl (of_ne rfl (of_nil _ _)))))) ?_
          refine d_q (i := 11) (v := .agg (encSet (at_ (setsP (refineP sets)) i2)).toArray) (CF ad62 (encSet (at_ (setsP (refineP sets)) i2))) (fun _ ho => ho _ (List.mem_of_getElem? (i := 2) rfl) rfl) rfl (by decide +kernel) (by decide +kernel) (by decide +kernel) (wanted_of (j := 6) (want := false) (d := 63) (b := false) rfl rfl (congrArg Value.bool (decide_eq_false hc61)) rfl) rfl (fun wq hq => (x_load (seg := (encSet (at_ (setsP (refineP sets)) i2))) t27 rfl (by simp) rfl hq)) (of_ne rfl (of_ne rfl (of_eq hf76 (of_ne rfl (of_ne rfl (of_nil _ _)))))) ?_
          refine d_m (i := 12) (v := .agg (encSet (union &&& (at_ (setsP (refineP sets)) i2))).toArray) (fun _ => True) (fun _ ho => trivial) rfl (by decide +kernel) (by decide +kernel) (by decide +kernel) (wanted_of (j := 6) (want := false) (d := 63) (b := false) rfl rfl (congrArg Value.bool (decide_eq_false hc61)) rfl) rfl (fun wq => (y_call (args := [.agg (encSet union).toArray, .agg (encSet (at_ (setsP (refineP sets)) i2)).toArray]) c24 rfl rfl)) (fun wq hq => (and_calls wq union (at_ (setsP (refineP sets)) i2)).mono fun e w2 he => by obtain ⟨_, rfl, _, T, rfl⟩ := he; exact ⟨rfl, Chg.of_below T.below⟩) (of_ne rfl (of_ne rfl (of_ne rfl (of_ne rfl (of_ne rfl (of_nil _ _)))))) ?_
          refine d_q (i := 13) (v := .agg (encSet (0 : BSet)).toArray) (fun _ => True) (fun _ ho => trivial) rfl (by decide +kernel) (by decide +kernel) (by decide +kernel) (wanted_of (j := 6) (want := false) (d := 63) (b := false) rfl rfl (congrArg Value.bool (decide_eq_false hc61)) rfl) rfl (fun wq hq => (y_build (pv := []) rfl (run_build_array u27 t25 t27 (cs := (encSet (0 : BSet))) (by rfl)))) (of_ne rfl (of_ne rfl (of_ne rfl (of_ne rfl (of_ne rfl (of_nil _ _)))))) ?_
          refine d_q (i := 14) (v := .bool (decide ((union &&& (at_ (setsP (refineP sets)) i2)) ≠ (0 : BSet)))) (fun _ => True) (fun _ ho => trivial) rfl (by decide +kernel) (by decide +kernel) (by decide +kernel) (wanted_of (j := 6) (want := false) (d := 63) (b := false) rfl rfl (congrArg Value.bool (decide_eq_false hc61)) rfl) rfl (fun wq hq => (x_neq_set u27 u25 t25 q27 rfl rfl)) (of_ne rfl (of_ne rfl (of_ne rfl (of_ne rfl (of_ne rfl (of_nil _ _)))))) ?_
          refine d_q (i := 15) (v := .bool (decide ((union &&& (at_ (setsP (refineP sets)) i2)) ≠ (0 : BSet)))) (fun _ => True) (fun _ ho => trivial) rfl (by decide +kernel) (by decide +kernel) (by decide +kernel) rfl rfl (fun wq hq => (x_pick_f (congrArg Value.bool (decide_eq_false hc61)) rfl)) (of_ne rfl (of_ne rfl (of_ne rfl (of_ne rfl (of_ne rfl (of_nil _ _)))))) ?_
          refine d_q (i := 16) (v := .bool (decide ((union &&& (at_ (setsP (refineP sets)) i2)) ≠ (0 : BSet)))) (fun _ => True) (fun _ ho => trivial) rfl (by decide +kernel) (by decide +kernel) (by decide +kernel) rfl rfl (fun wq hq => (x_move rfl)) (of_ne rfl (of_ne rfl (of_ne rfl (of_ne rfl (of_ne rfl (of_nil _ _)))))) ?_
          refine d_q (i := 17) (v := .agg (encPart (refineP ((([] : List BSet) ++ sets) ++ more))).toArray) (CF ⟨b26, 0, none⟩ (encPart (refineP ((([] : List BSet) ++ sets) ++ more)))) (fun _ ho => ho _ (List.mem_of_getElem? (i := 3) rfl) rfl) rfl (by decide +kernel) (by decide +kernel) (by decide +kernel) (wanted_of (j := 16) (want := false) (d := 73) (b := false) rfl rfl (congrArg Value.bool (decide_eq_false hc64)) rfl) rfl (fun wq hq => (x_load (seg := (encPart (refineP ((([] : List BSet) ++ sets) ++ more)))) t48 (encPart_len ok24_0) (by simp) r58_6 hq)) (of_ne rfl (of_ne rfl (of_ne rfl (of_eq hf77 (of_ne rfl (of_nil _ _)))))) ?_
          refine d_q (i := 18) (v := .slice A52 (setsP (refineP sets)).length c52) (fun _ => True) (fun _ ho => trivial) rfl (by decide +kernel) (by decide +kernel) (by decide +kernel) (wanted_of (j := 16) (want := false) (d := 73) (b := false) rfl rfl (congrArg Value.bool (decide_eq_false hc64)) rfl) rfl (fun wq hq => (x_move r58_8)) (of_ne rfl (of_ne rfl (of_ne rfl (of_ne rfl (of_ne rfl (of_nil _ _)))))) ?_
          refine d_q (i := 19) (v := .int .i64 i2) (fun _ => True) (fun _ ho => trivial) rfl (by decide +kernel) (by decide +kernel) (by decide +kernel) (wanted_of (j := 16) (want := false) (d := 73) (b := false) rfl rfl (congrArg Value.bool (decide_eq_false hc64)) rfl) rfl (fun wq hq => (x_move r58_10)) (of_ne rfl (of_ne rfl (of_ne rfl (of_ne rfl (of_ne rfl (of_nil _ _)))))) ?_
          refine d_q (i := 20) (v := .pointer (some ad65)) (fun _ => True) (fun _ ho => trivial) rfl (by decide +kernel) (by decide +kernel) (by decide +kernel) (wanted_of (j := 16) (want := false) (d := 73) (b := false) rfl rfl (congrArg Value.bool (decide_eq_false hc64)) rfl) rfl (fun wq hq => (x_index_ro u44 t27 rfl rfl a65 (by first | omega | (simp; omega) | assumption) (by first | omega | (simp; omega) | assumption))) (of_ne rfl (of_ne rfl (of_ne rfl (of_ne rfl (of_ne rfl (of_nil _ _)))))) ?_
          refine d_q (i := 21) (v := .agg (encSet (at_ (setsP (refineP sets)) i2)).toArray) (CF ad65 (encSet (at_ (setsP (refineP sets)) i2))) (fun _ ho => ho _ (List.mem_of_getElem? (i := 4) rfl) rfl) rfl (by decide +kernel) (by decide +kernel) (by decide +kernel) (wanted_of (j := 16) (want := false) (d := 73) (b := false) rfl rfl (congrArg Value.bool (decide_eq_false hc64)) rfl) rfl (fun wq hq => (x_load (seg := (encSet (at_ (setsP (refineP sets)) i2))) t27 rfl (by simp) rfl hq)) (of_ne rfl (of_ne rfl (of_ne rfl (of_ne rfl (of_eq hf78 (of_nil _ _)))))) ?_
          refine d_m (i := 22) (v := .bool (splitsP (refineP ((([] : List BSet) ++ sets) ++ more)) (at_ (setsP (refineP sets)) i2))) (fun _ => True) (fun _ ho => trivial) rfl (by decide +kernel) (by decide +kernel) (by decide +kernel) (wanted_of (j := 16) (want := false) (d := 73) (b := false) rfl rfl (congrArg Value.bool (decide_eq_false hc64)) rfl) rfl (fun wq => (y_call (args := [.agg (encPart (refineP ((([] : List BSet) ++ sets) ++ more))).toArray, .agg (encSet (at_ (setsP (refineP sets)) i2)).toArray]) c32 rfl rfl)) (fun wq hq => (splits_calls wq (refineP ((([] : List BSet) ++ sets) ++ more)) ok24_0 (at_ (setsP (refineP sets)) i2)).mono fun e w2 he => by obtain ⟨_, rfl, _, T, rfl⟩ := he; exact ⟨rfl, Chg.of_below T.below⟩) (of_ne rfl (of_ne rfl (of_ne rfl (of_ne rfl (of_ne rfl (of_nil _ _)))))) ?_
          refine d_q (i := 23) (v := .bool (splitsP (refineP ((([] : List BSet) ++ sets) ++ more)) (at_ (setsP (refineP sets)) i2))) (fun _ => True) (fun _ ho => trivial) rfl (by decide +kernel) (by decide +kernel) (by decide +kernel) rfl rfl (fun wq hq => (x_pick_f (congrArg Value.bool (decide_eq_false hc64)) rfl)) (of_ne rfl (of_ne rfl (of_ne rfl (of_ne rfl (of_ne rfl (of_nil _ _)))))) ?_
          refine ra_done (by decide +kernel) ?_
          intro wd79 gd79
          have S80 : St w.heap.size w h58 wd79 [box b11 48 (encPart (refineP sets)), box b26 48 (encPart (refineP ((([] : List BSet) ++ sets) ++ more))), box b54 27 (encSet union)] := S73.keep gd79
          have hc81 : (splitsP (refineP ((([] : List BSet) ++ sets) ++ more)) (at_ (setsP (refineP sets)) i2)) = false := by
            rw [List.nil_append]; exact splits_cls sets more hI58.1 (by omega)
          refine run_cond (b := false) (congrArg Value.bool hc81) ?_
          simp only [if_true, if_false, Bool.false_eq_true]
          refine run_skip ?_
          obtain ⟨ad82, seg82, a82, rp82, ce82⟩ := e_index_ro (q := i2) (m := 4) ld52 rfl (by first | omega | (simp; omega) | assumption) (by first | omega | (simp; omega) | assumption)
          obtain ⟨rfl, ok82⟩ := rp82
          have hf84 : (CFs ⟨b54, 0, none⟩ (encSet union)).1 wd79 := (CF.box (m := 4) (S80.box_at (j := 2) rfl) (cs := (encSet union)) rfl)
          have hf85 : (CFs ad82 (encSet (at_ (setsP (refineP sets)) i2))).1 wd79 := (CF.ghost ce82 (le58.trans S80.ghost))
          refine da_start [(0, CFs ⟨b54, 0, none⟩ (encSet union)), (4, CFs ad82 (encSet (at_ (setsP (refineP sets)) i2)))] 7 rfl mixed ?_
          intro wd86 gd86 hd86
          have S87 : St w.heap.size w h58 wd86 [box b11 48 (encPart (refineP sets)), box b26 48 (encPart (refineP ((([] : List BSet) ++ sets) ++ more))), box b54 27 (encSet union)] := S80.keep gd86
          have hf88 := (CFs ⟨b54, 0, none⟩ (encSet union)).2 _ _ gd86 hf84
          have hf89 := (CFs ad82 (encSet (at_ (setsP (refineP sets)) i2))).2 _ _ gd86 hf85
          refine d_q (i := 0) (v := .agg (encSet union).toArray) (CF ⟨b54, 0, none⟩ (encSet union)) (fun _ ho => ho _ (List.mem_of_getElem? (i := 0) rfl) rfl) rfl (by decide +kernel) (by decide +kernel) (by decide +kernel) rfl rfl (fun wq hq => (x_load (seg := (encSet union)) t27 rfl (by simp) r58_9 hq)) (of_eq hf88 (of_ne rfl (of_nil _ _))) ?_
          refine d_q (i := 1) (v := .slice A52 (setsP (refineP sets)).length c52) (fun _ => True) (fun _ ho => trivial) rfl (by decide +kernel) (by decide +kernel) (by decide +kernel) rfl rfl (fun wq hq => (x_move r58_8)) (of_ne rfl (of_ne rfl (of_nil _ _))) ?_
          refine d_q (i := 2) (v := .int .i64 i2) (fun _ => True) (fun _ ho => trivial) rfl (by decide +kernel) (by decide +kernel) (by decide +kernel) rfl rfl (fun wq hq => (x_move r58_10)) (of_ne rfl (of_ne rfl (of_nil _ _))) ?_
          refine d_q (i := 3) (v := .pointer (some ad82)) (fun _ => True) (fun _ ho => trivial) rfl (by decide +kernel) (by decide +kernel) (by decide +kernel) rfl rfl (fun wq hq => (x_index_ro u44 t27 rfl rfl a82 (by first | omega | (simp; omega) | assumption) (by first | omega | (simp; omega) | assumption))) (of_ne rfl (of_ne rfl (of_nil _ _))) ?_
          refine d_q (i := 4) (v := .agg (encSet (at_ (setsP (refineP sets)) i2)).toArray) (CF ad82 (encSet (at_ (setsP (refineP sets)) i2))) (fun _ ho => ho _ (List.mem_of_getElem? (i := 1) rfl) rfl) rfl (by decide +kernel) (by decide +kernel) (by decide +kernel) rfl rfl (fun wq hq => (x_load (seg := (encSet (at_ (setsP (refineP sets)) i2))) t27 rfl (by simp) rfl hq)) (of_ne rfl (of_eq hf89 (of_nil _ _))) ?_
          refine d_m (i := 5) (v := .agg (encSet (union ||| (at_ (setsP (refineP sets)) i2))).toArray) (fun _ => True) (fun _ ho => trivial) rfl (by decide +kernel) (by decide +kernel) (by decide +kernel) rfl rfl (fun wq => (y_call (args := [.agg (encSet union).toArray, .agg (encSet (at_ (setsP (refineP sets)) i2)).toArray]) c25 rfl rfl)) (fun wq hq => (or_calls wq union (at_ (setsP (refineP sets)) i2)).mono fun e w2 he => by obtain ⟨_, rfl, _, T, rfl⟩ := he; exact ⟨rfl, Chg.of_below T.below⟩) (of_ne rfl (of_ne rfl (of_nil _ _))) ?_
          refine ra_one (i := 6) (by decide +kernel) ?_
          intro wd90 gd90
          have S91 : St w.heap.size w h58 wd90 [box b11 48 (encPart (refineP sets)), box b26 48 (encPart (refineP ((([] : List BSet) ++ sets) ++ more))), box b54 27 (encSet union)] := S87.keep gd90
          have hf92 := (CFs ⟨b54, 0, none⟩ (encSet union)).2 _ _ gd90 hf88
          have hf93 := (CFs ad82 (encSet (at_ (setsP (refineP sets)) i2))).2 _ _ gd90 hf89
          obtain ⟨w94, r94, g94, T94⟩ := e_store (P := Tryd.prog) (off := 0) (v := .agg (encSet (union ||| (at_ (setsP (refineP sets)) i2))).toArray) (vs := (encSet (union ||| (at_ (setsP (refineP sets)) i2)))) S91 t27 rfl rfl (j := 2) rfl (by first | decide | exact Nat.le_of_ble_eq_true rfl) (encSet_one _)
          have S95 : St w.heap.size w h58 w94 [box b11 48 (encPart (refineP sets)), box b26 48 (encPart (refineP ((([] : List BSet) ++ sets) ++ more))), box b54 27 (encSet (union ||| (at_ (setsP (refineP sets)) i2)))] := T94
          refine d_s rfl rfl (x_store r58_9 rfl r94) (.inr (keep_w (by decide +kernel) (keep_w (by decide +kernel) trivial))) ?_
          refine ra_done (by decide +kernel) ?_
          intro wd96 gd96
          have S97 : St w.heap.size w h58 wd96 [box b11 48 (encPart (refineP sets)), box b26 48 (encPart (refineP ((([] : List BSet) ++ sets) ++ more))), box b54 27 (encSet (union ||| (at_ (setsP (refineP sets)) i2)))] := S95.keep gd96
          refine run_inBlock ?_
          refine run_reg (l := [0, 1, 2]) rfl ?_
          refine p_v (v := .int .i64 i2) rfl rfl rfl (x_move r58_10) ?_
          refine p_v (v := .int .i64 (i2 + 1)) rfl rfl rfl (x_add rfl rfl (in_i64 (by first | omega | (simp; omega) | assumption) (by first | omega | (simp; omega) | assumption))) ?_
          refine p_v (v := .int .i64 (i2 + 1)) rfl rfl rfl (x_assign rfl) ?_
          refine run_region_end ?_
          refine ih58 (union ||| (at_ (setsP (refineP sets)) i2), i2 + 1) _ _ (by dsimp only; omega) ⟨h58, le58, S97.sub [0, 1, 2] (by decide) rfl _ rfl, r58_0, r58_1, r58_5, r58_6, r58_8, r58_9, rfl, (in_i64 (by first | omega | (simp; omega) | assumption) (by first | omega | (simp; omega) | assumption)), (by exact ⟨by omega, by omega, by rw [hI58.2.2]; exact union_step sets hI58.1 (by omega)⟩)⟩
        · skip
          refine run_exit rfl ?_
          refine run_seq ?_
          have hc99 : (union = (~~~ 0 : BSet)) := by
            rw [hI58.2.2]; exact union_end sets (by omega)
          have in100 := (ok24_0).2
          have lo100 := i64_lo in100; have hi100 := i64_hi in100
          have in101 := (ok9_0).2
          have lo101 := i64_lo in101; have hi101 := i64_hi in101
          have hc102 : (((refineP sets).n) ≤ ((refineP ((([] : List BSet) ++ sets) ++ more)).n)) := by
            rw [List.nil_append]; exact more_n sets more
          obtain ⟨_, _, _, _, _, _, _, ok103_0⟩ := calls_some (refine_calls w58 (setsP (refineP sets)) A52 c52 (And.intro lc52 cm52) (ld52.mono (le58.trans S58.ghost)))
          have hc104 : ((refineP (setsP (refineP sets))) = (refineP sets)) := by
            exact ref_sets sets
          have hf105 : (CFs ⟨b54, 0, none⟩ (encSet union)).1 w58 := (CF.box (m := 4) (S58.box_at (j := 2) rfl) (cs := (encSet union)) rfl)
          have hf106 : (CFs ⟨b26, 256, none⟩ [.int .i64 ((refineP ((([] : List BSet) ++ sets) ++ more)).n)]).1 w58 := (CF.box (m := 1) (S58.box_at (j := 1) rfl) (cs := (encPart (refineP ((([] : List BSet) ++ sets) ++ more)))) (encPart_n ok24_0))
          have hf107 : (CFs ⟨b11, 256, none⟩ [.int .i64 ((refineP sets).n)]).1 w58 := (CF.box (m := 1) (S58.box_at (j := 0) rfl) (cs := (encPart (refineP sets))) (encPart_n ok9_0))
          have hf108 : (LeadsS kSet A52 (setsP (refineP sets))).1 w58 := (ld52.mono (le58.trans S58.ghost))
          have hf109 : (CFs ⟨b11, 0, none⟩ (encPart (refineP sets))).1 w58 := (CF.box (m := 257) (S58.box_at (j := 0) rfl) (cs := (encPart (refineP sets))) (by rw [List.drop_zero, List.take_of_length_le (by rw [encPart_len ok9_0]; exact Nat.le_refl _)]))
          have hf110 : (CFs ⟨b26, 0, none⟩ (encPart (refineP ((([] : List BSet) ++ sets) ++ more)))).1 w58 := (CF.box (m := 257) (S58.box_at (j := 1) rfl) (cs := (encPart (refineP ((([] : List BSet) ++ sets) ++ more)))) (by rw [List.drop_zero, List.take_of_length_le (by rw [encPart_len ok24_0]; exact Nat.le_refl _)]))
          refine da_start [(0, CFs ⟨b54, 0, none⟩ (encSet union)), (5, CFs ⟨b26, 256, none⟩ [.int .i64 ((refineP ((([] : List BSet) ++ sets) ++ more)).n)]), (7, CFs ⟨b11, 256, none⟩ [.int .i64 ((refineP sets).n)]), (12, LeadsS kSet A52 (setsP (refineP sets))), (13, CFs ⟨b11, 0, none⟩ (encPart (refineP sets))), (23, CFs ⟨b26, 0, none⟩ (encPart (refineP ((([] : List BSet) ++ sets) ++ more))))] 30 rfl mixed ?_
          intro wd111 gd111 hd111
          have S112 : St w.heap.size w h58 wd111 [box b11 48 (encPart (refineP sets)), box b26 48 (encPart (refineP ((([] : List BSet) ++ sets) ++ more))), box b54 27 (encSet union)] := S58.keep gd111
          have hf113 := (CFs ⟨b54, 0, none⟩ (encSet union)).2 _ _ gd111 hf105
          have hf114 := (CFs ⟨b26, 256, none⟩ [.int .i64 ((refineP ((([] : List BSet) ++ sets) ++ more)).n)]).2 _ _ gd111 hf106
          have hf115 := (CFs ⟨b11, 256, none⟩ [.int .i64 ((refineP sets).n)]).2 _ _ gd111 hf107
          have hf116 := (LeadsS kSet A52 (setsP (refineP sets))).2 _ _ gd111 hf108
          have hf117 := (CFs ⟨b11, 0, none⟩ (encPart (refineP sets))).2 _ _ gd111 hf109
          have hf118 := (CFs ⟨b26, 0, none⟩ (encPart (refineP ((([] : List BSet) ++ sets) ++ more)))).2 _ _ gd111 hf110
          refine d_q (i := 0) (v := .agg (encSet union).toArray) (CF ⟨b54, 0, none⟩ (encSet union)) (fun _ ho => ho _ (List.mem_of_getElem? (i := 0) rfl) rfl) rfl (by decide +kernel) (by decide +kernel) (by decide +kernel) rfl rfl (fun wq hq => (x_load (seg := (encSet union)) t27 rfl (by simp) r58_9 hq)) (of_eq hf113 (of_ne rfl (of_ne rfl (of_ne rfl (of_ne rfl (of_ne rfl (of_nil _ _))))))) ?_
          refine d_m (i := 1) (v := .agg (encSet (~~~ 0 : BSet)).toArray) (fun _ => True) (fun _ ho => trivial) rfl (by decide +kernel) (by decide +kernel) (by decide +kernel) rfl rfl (fun wq => (y_call (args := []) c22 rfl rfl)) (fun wq hq => (all_calls wq ).mono fun e w2 he => by obtain ⟨_, rfl, _, T, rfl⟩ := he; exact ⟨rfl, Chg.of_below T.below⟩) (of_ne rfl (of_ne rfl (of_ne rfl (of_ne rfl (of_ne rfl (of_ne rfl (of_nil _ _))))))) ?_
          refine d_q (i := 2) (v := .bool (decide (union = (~~~ 0 : BSet)))) (fun _ => True) (fun _ ho => trivial) rfl (by decide +kernel) (by decide +kernel) (by decide +kernel) rfl rfl (fun wq hq => (x_eql_set u27 u25 t25 q27 rfl rfl)) (of_ne rfl (of_ne rfl (of_ne rfl (of_ne rfl (of_ne rfl (of_ne rfl (of_nil _ _))))))) ?_
          refine d_q (i := 3) (v := .bool (decide (union = (~~~ 0 : BSet)))) (fun _ => True) (fun _ ho => trivial) rfl (by decide +kernel) (by decide +kernel) (by decide +kernel) rfl rfl (fun wq hq => (x_move rfl)) (of_ne rfl (of_ne rfl (of_ne rfl (of_ne rfl (of_ne rfl (of_ne rfl (of_nil _ _))))))) ?_
          refine d_q (i := 4) (v := .pointer (some ⟨b26, 256, none⟩)) (fun _ => True) (fun _ ho => trivial) rfl (by decide +kernel) (by decide +kernel) (by decide +kernel) (wanted_of (j := 3) (want := true) (d := 90) (b := true) rfl rfl (congrArg Value.bool (decide_eq_true hc99)) rfl) rfl (fun wq hq => (x_fieldAt f48_1 t3 rfl r58_6)) (of_ne rfl (of_ne rfl (of_ne rfl (of_ne rfl (of_ne rfl (of_ne rfl (of_nil _ _))))))) ?_
          refine d_q (i := 5) (v := .int .i64 ((refineP ((([] : List BSet) ++ sets) ++ more)).n)) (CF ⟨b26, 256, none⟩ [.int .i64 ((refineP ((([] : List BSet) ++ sets) ++ more)).n)]) (fun _ ho => ho _ (List.mem_of_getElem? (i := 1) rfl) rfl) rfl (by decide +kernel) (by decide +kernel) (by decide +kernel) (wanted_of (j := 3) (want := true) (d := 90) (b := true) rfl rfl (congrArg Value.bool (decide_eq_true hc99)) rfl) rfl (fun wq hq => (x_load (seg := [.int .i64 ((refineP ((([] : List BSet) ++ sets) ++ more)).n)]) t3 rfl (by simp) rfl hq)) (of_ne rfl (of_eq hf114 (of_ne rfl (of_ne rfl (of_ne rfl (of_ne rfl (of_nil _ _))))))) ?_
          refine d_q (i := 6) (v := .pointer (some ⟨b11, 256, none⟩)) (fun _ => True) (fun _ ho => trivial) rfl (by decide +kernel) (by decide +kernel) (by decide +kernel) (wanted_of (j := 3) (want := true) (d := 90) (b := true) rfl rfl (congrArg Value.bool (decide_eq_true hc99)) rfl) rfl (fun wq hq => (x_fieldAt f48_1 t3 rfl r58_5)) (of_ne rfl (of_ne rfl (of_ne rfl (of_ne rfl (of_ne rfl (of_ne rfl (of_nil _ _))))))) ?_
          refine d_q (i := 7) (v := .int .i64 ((refineP sets).n)) (CF ⟨b11, 256, none⟩ [.int .i64 ((refineP sets).n)]) (fun _ ho => ho _ (List.mem_of_getElem? (i := 2) rfl) rfl) rfl (by decide +kernel) (by decide +kernel) (by decide +kernel) (wanted_of (j := 3) (want := true) (d := 90) (b := true) rfl rfl (congrArg Value.bool (decide_eq_true hc99)) rfl) rfl (fun wq hq => (x_load (seg := [.int .i64 ((refineP sets).n)]) t3 rfl (by simp) rfl hq)) (of_ne rfl (of_ne rfl (of_eq hf115 (of_ne rfl (of_ne rfl (of_ne rfl (of_nil _ _))))))) ?_
          refine d_q (i := 8) (v := .bool (decide (((refineP sets).n) ≤ ((refineP ((([] : List BSet) ++ sets) ++ more)).n)))) (fun _ => True) (fun _ ho => trivial) rfl (by decide +kernel) (by decide +kernel) (by decide +kernel) (wanted_of (j := 3) (want := true) (d := 90) (b := true) rfl rfl (congrArg Value.bool (decide_eq_true hc99)) rfl) rfl (fun wq hq => (x_geq rfl rfl)) (of_ne rfl (of_ne rfl (of_ne rfl (of_ne rfl (of_ne rfl (of_ne rfl (of_nil _ _))))))) ?_
          refine d_q (i := 9) (v := .bool (decide (((refineP sets).n) ≤ ((refineP ((([] : List BSet) ++ sets) ++ more)).n)))) (fun _ => True) (fun _ ho => trivial) rfl (by decide +kernel) (by decide +kernel) (by decide +kernel) rfl rfl (fun wq hq => (x_pick_t (congrArg Value.bool (decide_eq_true hc99)) rfl)) (of_ne rfl (of_ne rfl (of_ne rfl (of_ne rfl (of_ne rfl (of_ne rfl (of_nil _ _))))))) ?_
          refine d_q (i := 10) (v := .bool (decide (((refineP sets).n) ≤ ((refineP ((([] : List BSet) ++ sets) ++ more)).n)))) (fun _ => True) (fun _ ho => trivial) rfl (by decide +kernel) (by decide +kernel) (by decide +kernel) rfl rfl (fun wq hq => (x_move rfl)) (of_ne rfl (of_ne rfl (of_ne rfl (of_ne rfl (of_ne rfl (of_ne rfl (of_nil _ _))))))) ?_
          refine d_q (i := 11) (v := .slice A52 (setsP (refineP sets)).length c52) (fun _ => True) (fun _ ho => trivial) rfl (by decide +kernel) (by decide +kernel) (by decide +kernel) (wanted_of (j := 10) (want := true) (d := 97) (b := true) rfl rfl (congrArg Value.bool (decide_eq_true hc102)) rfl) rfl (fun wq hq => (x_move r58_8)) (of_ne rfl (of_ne rfl (of_ne rfl (of_ne rfl (of_ne rfl (of_ne rfl (of_nil _ _))))))) ?_
          refine d_m (i := 12) (v := .agg (encPart (refineP (setsP (refineP sets)))).toArray) (fun wf => Leads kSet (hp wf) A52 (setsP (refineP sets))) (fun _ ho => ho _ (List.mem_of_getElem? (i := 3) rfl) rfl) rfl (by decide +kernel) (by decide +kernel) (by decide +kernel) (wanted_of (j := 10) (want := true) (d := 97) (b := true) rfl rfl (congrArg Value.bool (decide_eq_true hc102)) rfl) rfl (fun wq => (y_call (args := [.slice A52 (setsP (refineP sets)).length c52]) c27 rfl rfl)) (fun wq hq => (refine_calls wq (setsP (refineP sets)) A52 c52 (And.intro lc52 cm52) hq).mono fun e w2 he => by obtain ⟨_, rfl, _, T, rfl, _⟩ := he; exact ⟨rfl, Chg.of_below T.below⟩) (of_ne rfl (of_ne rfl (of_ne rfl (of_eq hf116 (of_ne rfl (of_ne rfl (of_nil _ _))))))) ?_
          refine d_q (i := 13) (v := .agg (encPart (refineP sets)).toArray) (CF ⟨b11, 0, none⟩ (encPart (refineP sets))) (fun _ ho => ho _ (List.mem_of_getElem? (i := 4) rfl) rfl) rfl (by decide +kernel) (by decide +kernel) (by decide +kernel) (wanted_of (j := 10) (want := true) (d := 97) (b := true) rfl rfl (congrArg Value.bool (decide_eq_true hc102)) rfl) rfl (fun wq hq => (x_load (seg := (encPart (refineP sets))) t48 (encPart_len ok9_0) (by simp) r58_5 hq)) (of_ne rfl (of_ne rfl (of_ne rfl (of_ne rfl (of_eq hf117 (of_ne rfl (of_nil _ _))))))) ?_
          refine d_q (i := 14) (v := .bool (decide ((refineP (setsP (refineP sets))) = (refineP sets)))) (fun _ => True) (fun _ ho => trivial) rfl (by decide +kernel) (by decide +kernel) (by decide +kernel) (wanted_of (j := 10) (want := true) (d := 97) (b := true) rfl rfl (congrArg Value.bool (decide_eq_true hc102)) rfl) rfl (fun wq hq => (x_eql_agg eqk48 ok103_0 ok9_0 q48 rfl rfl)) (of_ne rfl (of_ne rfl (of_ne rfl (of_ne rfl (of_ne rfl (of_ne rfl (of_nil _ _))))))) ?_
          refine d_q (i := 15) (v := .bool (decide ((refineP (setsP (refineP sets))) = (refineP sets)))) (fun _ => True) (fun _ ho => trivial) rfl (by decide +kernel) (by decide +kernel) (by decide +kernel) rfl rfl (fun wq hq => (x_pick_t (congrArg Value.bool (decide_eq_true hc102)) rfl)) (of_ne rfl (of_ne rfl (of_ne rfl (of_ne rfl (of_ne rfl (of_ne rfl (of_nil _ _))))))) ?_
          refine d_q (i := 16) (v := .bool (decide ((refineP (setsP (refineP sets))) = (refineP sets)))) (fun _ => True) (fun _ ho => trivial) rfl (by decide +kernel) (by decide +kernel) (by decide +kernel) rfl rfl (fun wq hq => (x_move rfl)) (of_ne rfl (of_ne rfl (of_ne rfl (of_ne rfl (of_ne rfl (of_ne rfl (of_nil _ _))))))) ?_
          refine d_q (i := 18) (v := .slice A1 more.length c1) (fun _ => True) (fun _ ho => trivial) rfl (by decide +kernel) (by decide +kernel) (by decide +kernel) (wanted_of (j := 16) (want := true) (d := 103) (b := true) rfl rfl (congrArg Value.bool (decide_eq_true hc104)) rfl) rfl (fun wq hq => (x_move r58_1)) (of_ne rfl (of_ne rfl (of_ne rfl (of_ne rfl (of_ne rfl (of_ne rfl (of_nil _ _))))))) ?_
          refine d_q (i := 20) (v := .slice A0 sets.length c0) (fun _ => True) (fun _ ho => trivial) rfl (by decide +kernel) (by decide +kernel) (by decide +kernel) (wanted_of (j := 16) (want := true) (d := 103) (b := true) rfl rfl (congrArg Value.bool (decide_eq_true hc104)) rfl) rfl (fun wq hq => (x_move r58_0)) (of_ne rfl (of_ne rfl (of_ne rfl (of_ne rfl (of_ne rfl (of_ne rfl (of_nil _ _))))))) ?_
          refine d_q (i := 23) (v := .agg (encPart (refineP ((([] : List BSet) ++ sets) ++ more))).toArray) (CF ⟨b26, 0, none⟩ (encPart (refineP ((([] : List BSet) ++ sets) ++ more)))) (fun _ ho => ho _ (List.mem_of_getElem? (i := 5) rfl) rfl) rfl (by decide +kernel) (by decide +kernel) (by decide +kernel) (wanted_of (j := 16) (want := true) (d := 103) (b := true) rfl rfl (congrArg Value.bool (decide_eq_true hc104)) rfl) rfl (fun wq hq => (x_load (seg := (encPart (refineP ((([] : List BSet) ++ sets) ++ more)))) t48 (encPart_len ok24_0) (by simp) r58_6 hq)) (of_ne rfl (of_ne rfl (of_ne rfl (of_ne rfl (of_ne rfl (of_eq hf118 (of_nil _ _))))))) ?_
          refine ra_one (i := 17) (by decide +kernel) ?_
          intro wd119 gd119
          have S120 : St w.heap.size w h58 wd119 [box b11 48 (encPart (refineP sets)), box b26 48 (encPart (refineP ((([] : List BSet) ++ sets) ++ more))), box b54 27 (encSet union)] := S112.keep gd119
          have hf121 := (CFs ⟨b54, 0, none⟩ (encSet union)).2 _ _ gd119 hf113
          have hf122 := (CFs ⟨b26, 256, none⟩ [.int .i64 ((refineP ((([] : List BSet) ++ sets) ++ more)).n)]).2 _ _ gd119 hf114
          have hf123 := (CFs ⟨b11, 256, none⟩ [.int .i64 ((refineP sets).n)]).2 _ _ gd119 hf115
          have hf124 := (LeadsS kSet A52 (setsP (refineP sets))).2 _ _ gd119 hf116
          have hf125 := (CFs ⟨b11, 0, none⟩ (encPart (refineP sets))).2 _ _ gd119 hf117
          have hf126 := (CFs ⟨b26, 0, none⟩ (encPart (refineP ((([] : List BSet) ++ sets) ++ more)))).2 _ _ gd119 hf118
          obtain ⟨v127, w127, r127, g127, T127⟩ := e_build_segs (kd := kSet) (xs := ([] : List BSet)) (len := 0) (m := 4) [] S120 u44 t27 rfl rfl rfl rfl segs_nil (cs := []) (Elems.nil _ _) (by simp)
          have S128 : St w.heap.size w h58 w127 [box b11 48 (encPart (refineP sets)), box b26 48 (encPart (refineP ((([] : List BSet) ++ sets) ++ more))), box b54 27 (encSet union), row 27 kSet v127 ([] : List BSet)] := T127
          have hf129 := (CFs ⟨b54, 0, none⟩ (encSet union)).2 _ _ g127 hf121
          have hf130 := (CFs ⟨b26, 256, none⟩ [.int .i64 ((refineP ((([] : List BSet) ++ sets) ++ more)).n)]).2 _ _ g127 hf122
          have hf131 := (CFs ⟨b11, 256, none⟩ [.int .i64 ((refineP sets).n)]).2 _ _ g127 hf123
          have hf132 := (LeadsS kSet A52 (setsP (refineP sets))).2 _ _ g127 hf124
          have hf133 := (CFs ⟨b11, 0, none⟩ (encPart (refineP sets))).2 _ _ g127 hf125
          have hf134 := (CFs ⟨b26, 0, none⟩ (encPart (refineP ((([] : List BSet) ++ sets) ++ more)))).2 _ _ g127 hf126
          refine d_v (v := v127) rfl (wanted_of (j := 16) (want := true) (d := 103) (b := true) rfl rfl (congrArg Value.bool (decide_eq_true hc104)) rfl) rfl (y_build_slice (pv := []) rfl r127) (.inl g127) ?_
          refine ra_one (i := 19) (by decide +kernel) ?_
          intro wd135 gd135
          have S136 : St w.heap.size w h58 wd135 [box b11 48 (encPart (refineP sets)), box b26 48 (encPart (refineP ((([] : List BSet) ++ sets) ++ more))), box b54 27 (encSet union), row 27 kSet v127 ([] : List BSet)] := S128.keep gd135
          have hf137 := (CFs ⟨b54, 0, none⟩ (encSet union)).2 _ _ gd135 hf129
          have hf138 := (CFs ⟨b26, 256, none⟩ [.int .i64 ((refineP ((([] : List BSet) ++ sets) ++ more)).n)]).2 _ _ gd135 hf130
          have hf139 := (CFs ⟨b11, 256, none⟩ [.int .i64 ((refineP sets).n)]).2 _ _ gd135 hf131
          have hf140 := (LeadsS kSet A52 (setsP (refineP sets))).2 _ _ gd135 hf132
          have hf141 := (CFs ⟨b11, 0, none⟩ (encPart (refineP sets))).2 _ _ gd135 hf133
          have hf142 := (CFs ⟨b26, 0, none⟩ (encPart (refineP ((([] : List BSet) ++ sets) ++ more)))).2 _ _ gd135 hf134
          obtain ⟨v144, w144, r144, g144, T144⟩ := e_append (kd := kSet) (A := A1) (c := c1) (ys := more) (len := more.length) 44 S136 u44 t27 rfl rfl (j := 3) rfl rfl (news_flat (l1.mono (St.le0 S136)) (fun _ _ hr => hr)) (by first | omega | (simp; omega) | assumption) (by first | omega | (simp; omega) | assumption)
          have S145 : St w.heap.size w h58 w144 [box b11 48 (encPart (refineP sets)), box b26 48 (encPart (refineP ((([] : List BSet) ++ sets) ++ more))), box b54 27 (encSet union), row 27 kSet v144 (([] : List BSet) ++ more)] := T144
          have hf146 : (CFs ⟨b54, 0, none⟩ (encSet union)).1 w144 := (CF.box (m := 4) (S145.box_at (j := 2) rfl) (cs := (encSet union)) rfl)
          have hf147 : (CFs ⟨b26, 256, none⟩ [.int .i64 ((refineP ((([] : List BSet) ++ sets) ++ more)).n)]).1 w144 := (CF.box (m := 1) (S145.box_at (j := 1) rfl) (cs := (encPart (refineP ((([] : List BSet) ++ sets) ++ more)))) (encPart_n ok24_0))
          have hf148 : (CFs ⟨b11, 256, none⟩ [.int .i64 ((refineP sets).n)]).1 w144 := (CF.box (m := 1) (S145.box_at (j := 0) rfl) (cs := (encPart (refineP sets))) (encPart_n ok9_0))
          have hf149 : (LeadsS kSet A52 (setsP (refineP sets))).1 w144 := (ld52.mono (le58.trans S145.ghost))
          have hf150 : (CFs ⟨b11, 0, none⟩ (encPart (refineP sets))).1 w144 := (CF.box (m := 257) (S145.box_at (j := 0) rfl) (cs := (encPart (refineP sets))) (by rw [List.drop_zero, List.take_of_length_le (by rw [encPart_len ok9_0]; exact Nat.le_refl _)]))
          have hf151 : (CFs ⟨b26, 0, none⟩ (encPart (refineP ((([] : List BSet) ++ sets) ++ more)))).1 w144 := (CF.box (m := 257) (S145.box_at (j := 1) rfl) (cs := (encPart (refineP ((([] : List BSet) ++ sets) ++ more)))) (by rw [List.drop_zero, List.take_of_length_le (by rw [encPart_len ok24_0]; exact Nat.le_refl _)]))
          refine d_v (v := v144) rfl (wanted_of (j := 16) (want := true) (d := 103) (b := true) rfl rfl (congrArg Value.bool (decide_eq_true hc104)) rfl) rfl (x_append rfl rfl r144) (.inr (keep_v hf146 (keep_v hf147 (keep_v hf148 (keep_v hf149 (keep_v hf150 (keep_v hf151 trivial))))))) ?_
          refine ra_one (i := 21) (by decide +kernel) ?_
          intro wd152 gd152
          have S153 : St w.heap.size w h58 wd152 [box b11 48 (encPart (refineP sets)), box b26 48 (encPart (refineP ((([] : List BSet) ++ sets) ++ more))), box b54 27 (encSet union), row 27 kSet v144 (([] : List BSet) ++ more)] := S145.keep gd152
          have hf154 := (CFs ⟨b54, 0, none⟩ (encSet union)).2 _ _ gd152 hf146
          have hf155 := (CFs ⟨b26, 256, none⟩ [.int .i64 ((refineP ((([] : List BSet) ++ sets) ++ more)).n)]).2 _ _ gd152 hf147
          have hf156 := (CFs ⟨b11, 256, none⟩ [.int .i64 ((refineP sets).n)]).2 _ _ gd152 hf148
          have hf157 := (LeadsS kSet A52 (setsP (refineP sets))).2 _ _ gd152 hf149
          have hf158 := (CFs ⟨b11, 0, none⟩ (encPart (refineP sets))).2 _ _ gd152 hf150
          have hf159 := (CFs ⟨b26, 0, none⟩ (encPart (refineP ((([] : List BSet) ++ sets) ++ more)))).2 _ _ gd152 hf151
          obtain ⟨v161, w161, r161, g161, T161⟩ := e_append (kd := kSet) (A := A0) (c := c0) (ys := sets) (len := sets.length) 44 S153 u44 t27 rfl rfl (j := 3) rfl rfl (news_flat (l0.mono (St.le0 S153)) (fun _ _ hr => hr)) (by first | omega | (simp; omega) | assumption) (by first | omega | (simp; omega) | assumption)
          have S162 : St w.heap.size w h58 w161 [box b11 48 (encPart (refineP sets)), box b26 48 (encPart (refineP ((([] : List BSet) ++ sets) ++ more))), box b54 27 (encSet union), row 27 kSet v161 ((([] : List BSet) ++ more) ++ sets)] := T161
          have hf163 : (CFs ⟨b54, 0, none⟩ (encSet union)).1 w161 := (CF.box (m := 4) (S162.box_at (j := 2) rfl) (cs := (encSet union)) rfl)
          have hf164 : (CFs ⟨b26, 256, none⟩ [.int .i64 ((refineP ((([] : List BSet) ++ sets) ++ more)).n)]).1 w161 := (CF.box (m := 1) (S162.box_at (j := 1) rfl) (cs := (encPart (refineP ((([] : List BSet) ++ sets) ++ more)))) (encPart_n ok24_0))
          have hf165 : (CFs ⟨b11, 256, none⟩ [.int .i64 ((refineP sets).n)]).1 w161 := (CF.box (m := 1) (S162.box_at (j := 0) rfl) (cs := (encPart (refineP sets))) (encPart_n ok9_0))
          have hf166 : (LeadsS kSet A52 (setsP (refineP sets))).1 w161 := (ld52.mono (le58.trans S162.ghost))
          have hf167 : (CFs ⟨b11, 0, none⟩ (encPart (refineP sets))).1 w161 := (CF.box (m := 257) (S162.box_at (j := 0) rfl) (cs := (encPart (refineP sets))) (by rw [List.drop_zero, List.take_of_length_le (by rw [encPart_len ok9_0]; exact Nat.le_refl _)]))
          have hf168 : (CFs ⟨b26, 0, none⟩ (encPart (refineP ((([] : List BSet) ++ sets) ++ more)))).1 w161 := (CF.box (m := 257) (S162.box_at (j := 1) rfl) (cs := (encPart (refineP ((([] : List BSet) ++ sets) ++ more)))) (by rw [List.drop_zero, List.take_of_length_le (by rw [encPart_len ok24_0]; exact Nat.le_refl _)]))
          refine d_v (v := v161) rfl (wanted_of (j := 16) (want := true) (d := 103) (b := true) rfl rfl (congrArg Value.bool (decide_eq_true hc104)) rfl) rfl (x_append rfl rfl r161) (.inr (keep_v hf163 (keep_v hf164 (keep_v hf165 (keep_v hf166 (keep_v hf167 (keep_v hf168 trivial))))))) ?_
          refine ra_one (i := 22) (by decide +kernel) ?_
          intro wd169 gd169
          have S170 : St w.heap.size w h58 wd169 [box b11 48 (encPart (refineP sets)), box b26 48 (encPart (refineP ((([] : List BSet) ++ sets) ++ more))), box b54 27 (encSet union), row 27 kSet v161 ((([] : List BSet) ++ more) ++ sets)] := S162.keep gd169
          have hf171 := (CFs ⟨b54, 0, none⟩ (encSet union)).2 _ _ gd169 hf163
          have hf172 := (CFs ⟨b26, 256, none⟩ [.int .i64 ((refineP ((([] : List BSet) ++ sets) ++ more)).n)]).2 _ _ gd169 hf164
          have hf173 := (CFs ⟨b11, 256, none⟩ [.int .i64 ((refineP sets).n)]).2 _ _ gd169 hf165
          have hf174 := (LeadsS kSet A52 (setsP (refineP sets))).2 _ _ gd169 hf166
          have hf175 := (CFs ⟨b11, 0, none⟩ (encPart (refineP sets))).2 _ _ gd169 hf167
          have hf176 := (CFs ⟨b26, 0, none⟩ (encPart (refineP ((([] : List BSet) ++ sets) ++ more)))).2 _ _ gd169 hf168
          obtain ⟨A177, c177, ev177, lc177, cm177⟩ := S170.row_val (j := 3) rfl
          refine d_c rfl (wanted_of (j := 16) (want := true) (d := 103) (b := true) rfl rfl (congrArg Value.bool (decide_eq_true hc104)) rfl) rfl (y_call (args := [.slice A177 ((([] : List BSet) ++ more) ++ sets).length c177]) c27 rfl (cons_eq ev177 rfl)) (refine_calls wd169 ((([] : List BSet) ++ more) ++ sets) A177 c177 (And.intro lc177 cm177) (row_leads_eq S170 (j := 3) rfl ev177)) ?_
          rintro _ w178 ⟨h178, T178, rfl, ok178_0⟩
          have S179 : St w.heap.size w h58 w178 [box b11 48 (encPart (refineP sets)), box b26 48 (encPart (refineP ((([] : List BSet) ++ sets) ++ more))), box b54 27 (encSet union), row 27 kSet v161 ((([] : List BSet) ++ more) ++ sets)] := S170.keep (Chg.of_below T178.below)
          have hf180 := (CFs ⟨b54, 0, none⟩ (encSet union)).2 _ _ (Chg.of_below T178.below) hf171
          have hf181 := (CFs ⟨b26, 256, none⟩ [.int .i64 ((refineP ((([] : List BSet) ++ sets) ++ more)).n)]).2 _ _ (Chg.of_below T178.below) hf172
          have hf182 := (CFs ⟨b11, 256, none⟩ [.int .i64 ((refineP sets).n)]).2 _ _ (Chg.of_below T178.below) hf173
          have hf183 := (LeadsS kSet A52 (setsP (refineP sets))).2 _ _ (Chg.of_below T178.below) hf174
          have hf184 := (CFs ⟨b11, 0, none⟩ (encPart (refineP sets))).2 _ _ (Chg.of_below T178.below) hf175
          have hf185 := (CFs ⟨b26, 0, none⟩ (encPart (refineP ((([] : List BSet) ++ sets) ++ more)))).2 _ _ (Chg.of_below T178.below) hf176
          refine ⟨.inl (Chg.of_below T178.below), ?_⟩
          have hc186 : ((refineP ((([] : List BSet) ++ more) ++ sets)) = (refineP ((([] : List BSet) ++ sets) ++ more))) := by
            rw [List.nil_append, List.nil_append]; exact ref_swap sets more
          have hf188 : (BlockS 0 tzTab).1 w178 := (Block.st S179 tb)
          refine ra_more [(27, BlockS 0 tzTab)] ?_
          refine d_q (i := 24) (v := .bool (decide ((refineP ((([] : List BSet) ++ more) ++ sets)) = (refineP ((([] : List BSet) ++ sets) ++ more))))) (fun _ => True) (fun _ ho => trivial) rfl (by decide +kernel) (by decide +kernel) (by decide +kernel) (wanted_of (j := 16) (want := true) (d := 103) (b := true) rfl rfl (congrArg Value.bool (decide_eq_true hc104)) rfl) rfl (fun wq hq => (x_eql_agg eqk48 ok178_0 ok24_0 q48 rfl rfl)) (of_ne rfl (of_ne rfl (of_ne rfl (of_ne rfl (of_ne rfl (of_ne rfl (of_ne rfl (of_nil _ _)))))))) ?_
          refine d_q (i := 25) (v := .bool (decide ((refineP ((([] : List BSet) ++ more) ++ sets)) = (refineP ((([] : List BSet) ++ sets) ++ more))))) (fun _ => True) (fun _ ho => trivial) rfl (by decide +kernel) (by decide +kernel) (by decide +kernel) rfl rfl (fun wq hq => (x_pick_t (congrArg Value.bool (decide_eq_true hc104)) rfl)) (of_ne rfl (of_ne rfl (of_ne rfl (of_ne rfl (of_ne rfl (of_ne rfl (of_ne rfl (of_nil _ _)))))))) ?_
          refine d_q (i := 26) (v := .bool (decide ((refineP ((([] : List BSet) ++ more) ++ sets)) = (refineP ((([] : List BSet) ++ sets) ++ more))))) (fun _ => True) (fun _ ho => trivial) rfl (by decide +kernel) (by decide +kernel) (by decide +kernel) rfl rfl (fun wq hq => (x_move rfl)) (of_ne rfl (of_ne rfl (of_ne rfl (of_ne rfl (of_ne rfl (of_ne rfl (of_ne rfl (of_nil _ _)))))))) ?_
          refine d_m (i := 27) (v := .bool true) (fun wf => Block 0 tzTab wf) (fun _ ho => ho _ (List.mem_of_getElem? (i := 0) rfl) rfl) rfl (by decide +kernel) (by decide +kernel) (by decide +kernel) (wanted_of (j := 26) (want := true) (d := 113) (b := true) rfl rfl (congrArg Value.bool (decide_eq_true hc186)) rfl) rfl (fun wq => (y_call (args := []) c26 rfl rfl)) (fun wq hq => (awake2_calls wq hq).mono fun e w2 he => by obtain ⟨_, rfl, _, T, rfl⟩ := he; exact ⟨rfl, Chg.of_below T.below⟩) (of_eq hf188 (of_ne rfl (of_ne rfl (of_ne rfl (of_ne rfl (of_ne rfl (of_ne rfl (of_nil _ _)))))))) ?_
          refine d_q (i := 28) (v := .bool true) (fun _ => True) (fun _ ho => trivial) rfl (by decide +kernel) (by decide +kernel) (by decide +kernel) rfl rfl (fun wq hq => (x_pick_t (congrArg Value.bool (decide_eq_true hc186)) rfl)) (of_ne rfl (of_ne rfl (of_ne rfl (of_ne rfl (of_ne rfl (of_ne rfl (of_ne rfl (of_nil _ _)))))))) ?_
          refine d_q (i := 29) (v := .bool true) (fun _ => True) (fun _ ho => trivial) rfl (by decide +kernel) (by decide +kernel) (by decide +kernel) rfl rfl (fun wq hq => (x_assign rfl)) (of_ne rfl (of_ne rfl (of_ne rfl (of_ne rfl (of_ne rfl (of_ne rfl (of_ne rfl (of_nil _ _)))))))) ?_
          refine ra_done (by decide +kernel) ?_
          intro wd189 gd189
          have S190 : St w.heap.size w h58 wd189 [box b11 48 (encPart (refineP sets)), box b26 48 (encPart (refineP ((([] : List BSet) ++ sets) ++ more))), box b54 27 (encSet union), row 27 kSet v161 ((([] : List BSet) ++ more) ++ sets)] := S179.keep gd189
          refine run_ret Tryd.func12 (res1 rfl (res_tmp (v := .bool true) rfl)) ?_
          have q0 : (true : Bool) = true := rfl
          refine ⟨_, rfl, h58, ?_, ?_⟩
          · exact S190.sub [] (by decide) rfl _ rfl
          · rfl
end Go.Proofs.YtlcmimjdnhjeoaaDoor
