/- My own library for walks through the translated code, and the walks of the functions that the law SeekLeast comes to, part 6; no conditions but those that each contract tells. -/
import Derived.ProofKit
import Derived.OpenShut
import Derived.ShutString
import Derived.ChangeOld
import Derived.Below
import Derived.DataElems
import Derived.Test.YtfoemogojbnfhaaDoorTie
import Derived.Test.YtfoemogojbnfhaaDoorCards
import Derived.LaidMore
import Derived.Stop.Joined
import Derived.MakeChecks
import Derived.Test.YtfoemogojbnfhaaDoorLSeekLeast4
namespace Go.Proofs.YtfoemogojbnfhaaDoor
open Go Go.RowKit Gx
set_option maxHeartbeats 1000000
set_option linter.unusedVariables false
set_option linter.unusedSimpArgs false
set_option maxRecDepth 8000
attribute [local irreducible] listOf count first someIn has setOf wbits Lib.ctz badQ badRow rightD goD runD nextB nextC outTo readTo rowIn finalB lastB leastB leastBTo buildM errB fitsP madeM allM bfs numbered putB beginB okB lessL lessW strLt cmpW cmpI orI wordW okW wordS wordT revTo leL greatD greatDTo
theorem bare_calls (w : World) :
    Calls Tryd.prog 119 #[] w fun e w' => ∃ v, e = .returned v ∧ ∃ (hn : Ghost) (r0 : Value) (r1 : Value) (r2 : Value) (r3 : Value), St w.heap.size w hn w' [row 101 kSpot r0 bareM.spots, row 3 (Kd.int .i64) r1 bareM.first, row 23 (Kd.int .i64).slice r2 bareM.follow, row 4 Kd.bool r3 bareM.last] ∧ v = .agg #[r0, r1, r2, r3, .bool bareM.empty] := by
 refine calls_of_run Tryd.func119 rfl Tryd.ntmps119 rfl ?_
 have S0 := St.init w
 refine run_seq ?_
 refine run_reg (l := [0]) rfl ?_
 obtain ⟨b1, w1, r1, g1, T1⟩ := e_box (P := Tryd.prog) S0 27 (v := (.agg #[.slice none 0 0, .slice none 0 0, .slice none 0 0, .slice none 0 0, .bool false])) [.slice none 0 0, .slice none 0 0, .slice none 0 0, .slice none 0 0, .bool false] rfl
 have S2 := T1
 dsimp only [lAa, lAn, lA0, lAs] at S2
 refine p_v (v := .pointer (some ⟨b1, 0, none⟩)) rfl rfl rfl (x_alloc ty27 r1) ?_
 refine run_region_end ?_
 refine run_seq ?_
 refine run_reg (l := [0, 1, 2]) rfl ?_
 refine p_c rfl rfl rfl (y_call (args := []) ca46 rfl rfl) (some10_calls w1 ) ?_
 rintro _ w3 ⟨h3, v3_0, v3_1, v3_2, v3_3, T3, rfl⟩
 obtain ⟨k3, lk3, ll3, U3⟩ := call_joins S2 T3
 have S4 := U3
 dsimp only [lAa, lAn, lA0, lAs] at S4
 obtain ⟨b5, w5, r5, g5, T5⟩ := e_box (P := Tryd.prog) S4 27 (v := (.agg #[.slice none 0 0, .slice none 0 0, .slice none 0 0, .slice none 0 0, .bool false])) [.slice none 0 0, .slice none 0 0, .slice none 0 0, .slice none 0 0, .bool false] rfl
 have S6 := T5
 dsimp only [lAa, lAn, lA0, lAs] at S6
 refine p_v (v := .pointer (some ⟨b5, 0, none⟩)) rfl rfl rfl (x_alloc ty27 r5) ?_
 have oc8 := row_one S6 (j := 1) rfl
 have oc9 := row_one S6 (j := 2) rfl
 have oc10 := row_one S6 (j := 3) rfl
 have oc11 := row_one S6 (j := 4) rfl
 obtain ⟨w7, r7, g7, T7⟩ := e_store (P := Tryd.prog) (off := 0) (v := .agg #[v3_0, v3_1, v3_2, v3_3, .bool someM.empty]) (vs := [v3_0, v3_1, v3_2, v3_3, .bool someM.empty]) S6 ty27 rfl rfl (j := 5) rfl (by first | decide | exact Nat.le_of_ble_eq_true rfl) (one_cons oc8 (one_cons oc9 (one_cons oc10 (one_cons oc11 (one_cons rfl one_nil)))))
 have S12 := T7.fx 5 (box b5 27 [v3_0, v3_1, v3_2, v3_3, .bool someM.empty]) rfl
 dsimp only [lAa, lAn, lA0, lAs] at S12
 refine p_s rfl rfl (x_store rfl rfl r7) ?_
 refine run_region_end ?_
 refine run_seq ?_
 refine run_reg (l := [0, 1]) rfl ?_
 refine p_v (v := .pointer (some ⟨b5, 4, none⟩)) rfl rfl rfl (x_fieldAt fd27_4 ty4 rfl rfl) ?_
 obtain ⟨w13, r13, g13, T13⟩ := e_store (P := Tryd.prog) (off := 4) (v := .bool false) (vs := [.bool false]) S12 ty4 rfl rfl (j := 5) rfl (by first | decide | exact Nat.le_of_ble_eq_true rfl) (by simp [Value.oneCell'])
 have S14 := T13.fx 5 (box b5 27 [v3_0, v3_1, v3_2, v3_3, .bool false]) rfl
 dsimp only [lAa, lAn, lA0, lAs] at S14
 refine p_s rfl rfl (x_store rfl rfl r13) ?_
 refine run_region_end ?_
 refine run_seq ?_
 refine run_reg (l := [0, 1]) rfl ?_
 refine p_v (v := .agg #[v3_0, v3_1, v3_2, v3_3, .bool false]) rfl rfl rfl (x_load (seg := [v3_0, v3_1, v3_2, v3_3, .bool false]) ty27 rfl (by simp) rfl (CF.box (m := 5) (S14.box_at (j := 5) rfl) rfl)) ?_
 have oc16 := row_one S14 (j := 1) rfl
 have oc17 := row_one S14 (j := 2) rfl
 have oc18 := row_one S14 (j := 3) rfl
 have oc19 := row_one S14 (j := 4) rfl
 obtain ⟨w15, r15, g15, T15⟩ := e_store (P := Tryd.prog) (off := 0) (v := .agg #[v3_0, v3_1, v3_2, v3_3, .bool false]) (vs := [v3_0, v3_1, v3_2, v3_3, .bool false]) S14 ty27 rfl rfl (j := 0) rfl (by first | decide | exact Nat.le_of_ble_eq_true rfl) (one_cons oc16 (one_cons oc17 (one_cons oc18 (one_cons oc19 (one_cons rfl one_nil)))))
 have S20 := T15.fx 0 (box b1 27 [v3_0, v3_1, v3_2, v3_3, .bool false]) rfl
 dsimp only [lAa, lAn, lA0, lAs] at S20
 refine p_s rfl rfl (x_store rfl rfl r15) ?_
 refine run_region_end ?_
 refine run_ret Tryd.func119 (res1 rfl (res_cell S20 ty27 rfl (j := 0) rfl rfl (by simp) rfl)) ?_
 have q0 : (bareM.spots : List Spot) = someM.spots := by
  unfold bareM; rfl
 have q1 : (bareM.first : List Int) = someM.first := by
  unfold bareM; rfl
 have q2 : (bareM.follow : List (List Int)) = someM.follow := by
  unfold bareM; rfl
 have q3 : (bareM.last : List Bool) = someM.last := by
  unfold bareM; rfl
 have q4 : (bareM.empty : Bool) = false := by
  unfold bareM; rfl
 refine ⟨_, rfl, k3, v3_0, v3_1, v3_2, v3_3, ?_, ?_⟩
 · rw [q0]; rw [q1]; rw [q2]; rw [q3]; exact S20.sub [1, 2, 3, 4] (by decide) rfl _ rfl
 · first | rfl | (simp only [q0, q1, q2, q3, q4]; rfl) | (simp only [q0, q1, q2, q3, q4])
theorem great13_calls (w : World) (d : Dfa) (o0_0 : okPart d.part) (A0_1 : Option Addr) (c0_1 : Nat) (b0_1 : d.next.length ≤ c0_1 ∧ c0_1 ≤ maxLen) (l0_1 : Leads (Kd.int .i64).slice (hp w) A0_1 d.next) (A0_2 : Option Addr) (c0_2 : Nat) (b0_2 : d.final.length ≤ c0_2 ∧ c0_2 ≤ maxLen) (l0_2 : Leads Kd.bool (hp w) A0_2 d.final) :
    Calls Tryd.prog 54 #[.agg ((encPart d.part) ++ ([.slice A0_1 d.next.length c0_1, .slice A0_2 d.final.length c0_2] : List Value)).toArray] w fun e w' => ∃ v, e = .returned v ∧ ∃ (hn : Ghost), St w.heap.size w hn w' [] ∧ v = .bool (greatD d) := by
 refine calls_of_run Tryd.func54 rfl Tryd.ntmps54 rfl ?_
 have S0 := St.init w
 have ploo0_0 := i64_lo o0_0.2; have phio0_0 := i64_hi o0_0.2
 have bb0_1 := b0_1.1; have bc0_1 := b0_1.2; simp only [maxLen] at bc0_1
 have bb0_2 := b0_2.1; have bc0_2 := b0_2.2; simp only [maxLen] at bc0_2
 refine run_seq ?_
 refine run_reg (l := [0, 1]) rfl ?_
 obtain ⟨b1, w1, r1, g1, T1⟩ := e_box (P := Tryd.prog) S0 35 (v := .agg ((encPart d.part) ++ ([.slice A0_1 d.next.length c0_1, .slice A0_2 d.final.length c0_2] : List Value)).toArray) ((encPart d.part) ++ ([.slice A0_1 d.next.length c0_1, .slice A0_2 d.final.length c0_2] : List Value)) rfl
 have S2 := T1
 dsimp only [lAa, lAn, lA0, lAs] at S2
 refine p_v (v := .pointer (some ⟨b1, 0, none⟩)) rfl rfl rfl (x_box rfl r1) ?_
 refine p_v (v := .bool false) rfl rfl rfl (x_assign rfl) ?_
 refine run_region_end ?_
 refine run_seq ?_
 refine run_seq ?_
 refine run_reg (l := [0, 1, 2, 3, 4, 5, 6, 7, 8, 9]) rfl ?_
 refine p_v (v := .pointer (some ⟨b1, 257, none⟩)) rfl rfl rfl (x_fieldAt fd35_1 ty24 rfl rfl) ?_
 refine p_v (v := .slice A0_1 d.next.length c0_1) rfl rfl rfl (x_load (seg := [.slice A0_1 d.next.length c0_1]) ty24 rfl (by simp) rfl (CF.box (m := 1) (S2.box_at (j := 0) rfl) (seg_mid2 (a := (encPart d.part)) (pre := []) (seg := [.slice A0_1 d.next.length c0_1]) (post := [.slice A0_2 d.final.length c0_2]) (encPart_len o0_0) rfl rfl))) ?_
 refine p_v (v := .int .i64 (d.next.length : Int)) rfl rfl rfl (x_len_slice u24 rfl) ?_
 refine p_v (v := .bool (decide (30 < (d.next.length : Int)))) rfl rfl rfl (x_gtr rfl rfl) ?_
 refine p_v (v := .bool (decide (30 < (d.next.length : Int)))) rfl rfl rfl (x_move rfl) ?_
 by_cases hc3 : 30 < (d.next.length : Int)
 ·skip
  refine p_off rfl (wanted_of (j := 4) (want := false) (d := 8) (b := true) rfl rfl (congrArg Value.bool (decide_eq_true hc3)) rfl) rfl ?_
  refine p_off rfl (wanted_of (j := 4) (want := false) (d := 8) (b := true) rfl rfl (congrArg Value.bool (decide_eq_true hc3)) rfl) rfl ?_
  refine p_off rfl (wanted_of (j := 4) (want := false) (d := 8) (b := true) rfl rfl (congrArg Value.bool (decide_eq_true hc3)) rfl) rfl ?_
  refine p_off rfl (wanted_of (j := 4) (want := false) (d := 8) (b := true) rfl rfl (congrArg Value.bool (decide_eq_true hc3)) rfl) rfl ?_
  refine p_v (v := .bool true) rfl rfl rfl (x_pick_t (congrArg Value.bool (decide_eq_true hc3)) rfl) ?_
  refine run_region_end ?_
  refine run_cond (b := true) rfl ?_
  simp only [if_true, if_false, Bool.false_eq_true]
  refine run_seq ?_
  refine run_reg (l := [0]) rfl ?_
  refine p_v (v := .bool true) rfl rfl rfl (x_assign rfl) ?_
  refine run_region_end ?_
  refine run_ret Tryd.func54 (res1 rfl (res_tmp (v := .bool true) rfl)) ?_
  have q0 : (greatD d : Bool) = true := by
   first | exact greatD_1 (by assumption) | exact greatD_2 (by assumption) | exact greatD_3 hI_.1 (by omega) (by assumption) | exact greatD_4 d (by omega) (by assumption) (by assumption) hI_.2.2
  refine ⟨_, rfl, (fun _ => none), ?_, ?_⟩
  · exact S2.sub [] (by decide) rfl _ rfl
  · first | rfl | (simp only [q0]; rfl) | (simp only [q0])
 ·skip
  refine p_v (v := .pointer (some ⟨b1, 258, none⟩)) rfl (wanted_of (j := 4) (want := false) (d := 8) (b := false) rfl rfl (congrArg Value.bool (decide_eq_false hc3)) rfl) rfl (x_fieldAt fd35_2 ty25 rfl rfl) ?_
  refine p_v (v := .slice A0_2 d.final.length c0_2) rfl (wanted_of (j := 4) (want := false) (d := 8) (b := false) rfl rfl (congrArg Value.bool (decide_eq_false hc3)) rfl) rfl (x_load (seg := [.slice A0_2 d.final.length c0_2]) ty25 rfl (by simp) rfl (CF.box (m := 1) (S2.box_at (j := 0) rfl) (seg_mid2 (a := (encPart d.part)) (pre := [.slice A0_1 d.next.length c0_1]) (seg := [.slice A0_2 d.final.length c0_2]) (post := []) (encPart_len o0_0) rfl rfl))) ?_
  refine p_v (v := .int .i64 (d.final.length : Int)) rfl (wanted_of (j := 4) (want := false) (d := 8) (b := false) rfl rfl (congrArg Value.bool (decide_eq_false hc3)) rfl) rfl (x_len_slice u25 rfl) ?_
  refine p_v (v := .bool (decide (30 < (d.final.length : Int)))) rfl (wanted_of (j := 4) (want := false) (d := 8) (b := false) rfl rfl (congrArg Value.bool (decide_eq_false hc3)) rfl) rfl (x_gtr rfl rfl) ?_
  refine p_v (v := .bool (decide (30 < (d.final.length : Int)))) rfl rfl rfl (x_pick_f (congrArg Value.bool (decide_eq_false hc3)) rfl) ?_
  refine run_region_end ?_
  refine run_cond_prop (p := 30 < (d.final.length : Int)) rfl (fun hc4 => ?_) (fun hc4 => ?_)
  ·skip
   refine run_seq ?_
   refine run_reg (l := [0]) rfl ?_
   refine p_v (v := .bool true) rfl rfl rfl (x_assign rfl) ?_
   refine run_region_end ?_
   refine run_ret Tryd.func54 (res1 rfl (res_tmp (v := .bool true) rfl)) ?_
   have q0 : (greatD d : Bool) = true := by
    first | exact greatD_1 (by assumption) | exact greatD_2 (by assumption) | exact greatD_3 hI_.1 (by omega) (by assumption) | exact greatD_4 d (by omega) (by assumption) (by assumption) hI_.2.2
   refine ⟨_, rfl, (fun _ => none), ?_, ?_⟩
   · exact S2.sub [] (by decide) rfl _ rfl
   · first | rfl | (simp only [q0]; rfl) | (simp only [q0])
  ·skip
   refine run_skip ?_
   refine run_seq ?_
   refine run_seq ?_
   refine run_reg (l := [0]) rfl ?_
   refine p_v (v := .int .i64 0) rfl rfl rfl (x_assign rfl) ?_
   refine run_region_end ?_
   refine run_block ?_
   refine run_loop (S := Int) (fun (q_ : Int) ρ w' => match q_ with | i => ∃ (h : Ghost), Le (fun _ => none) h ∧ St w.heap.size w h w' [box b1 35 ((encPart d.part) ++ ([.slice A0_1 d.next.length c0_1, .slice A0_2 d.final.length c0_2] : List Value))] ∧ ρ 1 = .pointer (some ⟨b1, 0, none⟩) ∧ ρ 3 = .int .i64 i ∧ inK .i64 i ∧ (0 ≤ i ∧ i ≤ (d.next.length : Int) ∧ greatDTo d i = false)) (fun q_ => match q_ with | i => (d.next.length - i).toNat) (0) ⟨(fun _ => none), Le.refl _, S2.sub [0] (by decide) rfl _ rfl, rfl, rfl, (in_i64 (by first|omega|(simp;omega)|assumption|simp) (by first|omega|(simp;omega)|assumption|simp)), (by exact ⟨by omega, by omega, greatD_0 d⟩)⟩ ?_
   rintro i ih5 ρ5 w5 ⟨h5, le5, S5, r5_1, r5_3, f5_0, hI5⟩
   have lf5_0 := i64_lo f5_0; have hf5_0 := i64_hi f5_0
   refine run_seq ?_
   refine run_seq ?_
   refine run_reg (l := [0, 1, 2, 3, 4]) rfl ?_
   refine p_v (v := .int .i64 i) rfl rfl rfl (x_move r5_3) ?_
   refine p_v (v := .pointer (some ⟨b1, 257, none⟩)) rfl rfl rfl (x_fieldAt fd35_1 ty24 rfl r5_1) ?_
   refine p_v (v := .slice A0_1 d.next.length c0_1) rfl rfl rfl (x_load (seg := [.slice A0_1 d.next.length c0_1]) ty24 rfl (by simp) rfl (CF.box (m := 1) (S5.box_at (j := 0) rfl) (seg_mid2 (a := (encPart d.part)) (pre := []) (seg := [.slice A0_1 d.next.length c0_1]) (post := [.slice A0_2 d.final.length c0_2]) (encPart_len o0_0) rfl rfl))) ?_
   refine p_v (v := .int .i64 (d.next.length : Int)) rfl rfl rfl (x_len_slice u24 rfl) ?_
   refine p_v (v := .bool (decide (i < (d.next.length : Int)))) rfl rfl rfl (x_lss rfl rfl) ?_
   refine run_region_end ?_
   refine run_cond_prop (p := i < (d.next.length : Int)) rfl (fun hc6 => ?_) (fun hc6 => ?_)
   ·skip
    refine run_skip ?_
    refine run_seq ?_
    refine run_block ?_
    refine run_seq ?_
    refine run_reg (l := [0, 1, 2, 3, 4, 5, 6]) rfl ?_
    refine p_v (v := .pointer (some ⟨b1, 257, none⟩)) rfl rfl rfl (x_fieldAt fd35_1 ty24 rfl r5_1) ?_
    refine p_v (v := .slice A0_1 d.next.length c0_1) rfl rfl rfl (x_load (seg := [.slice A0_1 d.next.length c0_1]) ty24 rfl (by simp) rfl (CF.box (m := 1) (S5.box_at (j := 0) rfl) (seg_mid2 (a := (encPart d.part)) (pre := []) (seg := [.slice A0_1 d.next.length c0_1]) (post := [.slice A0_2 d.final.length c0_2]) (encPart_len o0_0) rfl rfl))) ?_
    refine p_v (v := .int .i64 i) rfl rfl rfl (x_move r5_3) ?_
    obtain ⟨ad7, seg7, a7, rp7, ce7⟩ := e_index_ro (q := i) (m := 1) l0_1 rfl (by first|omega|(simp;omega)|assumption|simp) (by first|omega|(simp;omega)|assumption|simp)
    refine p_v (v := .pointer (some ad7)) rfl rfl rfl (x_index_ro u24 ty23 rfl rfl a7 (by first|omega|(simp;omega)|assumption|simp) (by first|omega|(simp;omega)|assumption|simp)) ?_
    obtain ⟨A7, c7, rfl, lc7, cm7, ld7⟩ := rp7
    have cn7 := cm7; simp only [maxLen] at cn7
    refine p_v (v := .slice A7 (at_ d.next i).length c7) rfl rfl rfl (x_load (seg := [.slice A7 (at_ d.next i).length c7]) ty23 rfl (by simp) rfl (CF.ghost ce7 (St.le0 S5))) ?_
    refine p_v (v := .int .i64 ((at_ d.next i).length : Int)) rfl rfl rfl (x_len_slice u23 rfl) ?_
    refine p_v (v := .bool (decide (40 < ((at_ d.next i).length : Int)))) rfl rfl rfl (x_gtr rfl rfl) ?_
    refine run_region_end ?_
    refine run_cond_prop (p := 40 < ((at_ d.next i).length : Int)) rfl (fun hc8 => ?_) (fun hc8 => ?_)
    ·skip
     refine run_seq ?_
     refine run_reg (l := [0]) rfl ?_
     refine p_v (v := .bool true) rfl rfl rfl (x_assign rfl) ?_
     refine run_region_end ?_
     refine run_ret Tryd.func54 (res1 rfl (res_tmp (v := .bool true) rfl)) ?_
     have q0 : (greatD d : Bool) = true := by
      first | exact greatD_1 (by assumption) | exact greatD_2 (by assumption) | exact greatD_3 hI5.1 (by omega) (by assumption) | exact greatD_4 d (by omega) (by assumption) (by assumption) hI5.2.2
     refine ⟨_, rfl, h5, ?_, ?_⟩
     · exact S5.sub [] (by decide) rfl _ rfl
     · first | rfl | (simp only [q0]; rfl) | (simp only [q0])
    ·skip
     refine run_skip ?_
     refine run_inBlock ?_
     refine run_reg (l := [0, 1, 2]) rfl ?_
     refine p_v (v := .int .i64 i) rfl rfl rfl (x_move r5_3) ?_
     refine p_v (v := .int .i64 (i + 1)) rfl rfl rfl (x_add rfl rfl (in_i64 (by first|omega|(simp;omega)|assumption|simp) (by first|omega|(simp;omega)|assumption|simp))) ?_
     refine p_v (v := .int .i64 (i + 1)) rfl rfl rfl (x_assign rfl) ?_
     refine run_region_end ?_
     refine ih5 (i + 1) _ _ (by dsimp only; omega) ⟨h5, le5, S5.sub [0] (by decide) rfl _ rfl, r5_1, rfl, (in_i64 (by first|omega|(simp;omega)|assumption|simp) (by first|omega|(simp;omega)|assumption|simp)), (by exact ⟨by omega, by omega, greatD_step d hI5.1 (by omega) hI5.2.2 (by assumption)⟩)⟩
   ·skip
    refine run_exit rfl ?_
    refine run_seq ?_
    refine run_reg (l := [0]) rfl ?_
    refine p_v (v := .bool false) rfl rfl rfl (x_assign rfl) ?_
    refine run_region_end ?_
    refine run_ret Tryd.func54 (res1 rfl (res_tmp (v := .bool false) rfl)) ?_
    have q0 : (greatD d : Bool) = false := by
     first | exact greatD_1 (by assumption) | exact greatD_2 (by assumption) | exact greatD_3 hI5.1 (by omega) (by assumption) | exact greatD_4 d (by omega) (by assumption) (by assumption) hI5.2.2
    refine ⟨_, rfl, h5, ?_, ?_⟩
    · exact S5.sub [] (by decide) rfl _ rfl
    · first | rfl | (simp only [q0]; rfl) | (simp only [q0])
theorem awake13_calls (w : World) (tb : Block 0 tzTab w) :
    Calls Tryd.prog 55 #[] w fun e w' => ∃ v, e = .returned v ∧ ∃ (hn : Ghost), St w.heap.size w hn w' [] ∧ v = .bool true := by
 refine calls_of_run Tryd.func55 rfl Tryd.ntmps55 rfl ?_
 have S0 := St.init w
 have hbl_ := bare_len
 refine run_seq ?_
 refine run_reg (l := [0]) rfl ?_
 refine p_v (v := .bool false) rfl rfl rfl (x_assign rfl) ?_
 refine run_region_end ?_
 refine run_seq ?_
 refine run_reg (l := [0, 1, 2]) rfl ?_
 refine p_c rfl rfl rfl (y_call (args := []) ca119 rfl rfl) (bare_calls w ) ?_
 rintro _ w1 ⟨h1, v1_0, v1_1, v1_2, v1_3, T1, rfl⟩
 obtain ⟨k1, lk1, ll1, U1⟩ := call_joins S0 T1
 have S2 := U1
 dsimp only [lAa, lAn, lA0, lAs] at S2
 obtain ⟨h3, le3, T3, rp3⟩ := S2.freeze (i := 0) rfl
 have lf3_0 := (lk1).trans le3
 have S4 := T3.fx 0 (emp) rfl
 dsimp only [lAa, lAn, lA0, lAs] at S4
 obtain ⟨A3, c3, e3, lc3, cm3, ld3⟩ := rp3
 injection e3 with e3 _; subst e3
 have cn3 := cm3; simp only [maxLen] at cn3
 obtain ⟨h5, le5, T5, rp5⟩ := S4.freeze (i := 1) rfl
 have lf5_0 := (lf3_0).trans le5
 have lf5_1 := (le3).trans le5
 have S6 := T5.fx 1 (emp) rfl
 dsimp only [lAa, lAn, lA0, lAs] at S6
 obtain ⟨A5, c5, e5, lc5, cm5, ld5⟩ := rp5
 injection e5 with e5 _; subst e5
 have cn5 := cm5; simp only [maxLen] at cn5
 obtain ⟨h7, le7, T7, rp7⟩ := S6.freeze (i := 2) rfl
 have lf7_0 := (lf5_0).trans le7
 have lf7_1 := (lf5_1).trans le7
 have lf7_2 := (le5).trans le7
 have S8 := T7.fx 2 (emp) rfl
 dsimp only [lAa, lAn, lA0, lAs] at S8
 obtain ⟨A7, c7, e7, lc7, cm7, ld7⟩ := rp7
 injection e7 with e7 _; subst e7
 have cn7 := cm7; simp only [maxLen] at cn7
 obtain ⟨h9, le9, T9, rp9⟩ := S8.freeze (i := 3) rfl
 have lf9_0 := (lf7_0).trans le9
 have lf9_1 := (lf7_1).trans le9
 have lf9_2 := (lf7_2).trans le9
 have lf9_3 := (le7).trans le9
 have S10 := T9.fx 3 (emp) rfl
 dsimp only [lAa, lAn, lA0, lAs] at S10
 obtain ⟨A9, c9, e9, lc9, cm9, ld9⟩ := rp9
 injection e9 with e9 _; subst e9
 have cn9 := cm9; simp only [maxLen] at cn9
 obtain ⟨b11, w11, r11, g11, T11⟩ := e_box (P := Tryd.prog) S10 27 (v := (.agg #[.slice none 0 0, .slice none 0 0, .slice none 0 0, .slice none 0 0, .bool false])) [.slice none 0 0, .slice none 0 0, .slice none 0 0, .slice none 0 0, .bool false] rfl
 have S12 := T11
 dsimp only [lAa, lAn, lA0, lAs] at S12
 refine p_v (v := .pointer (some ⟨b11, 0, none⟩)) rfl rfl rfl (x_alloc ty27 r11) ?_
 obtain ⟨w13, r13, g13, T13⟩ := e_store (P := Tryd.prog) (off := 0) (v := .agg #[.slice A3 bareM.spots.length c3, .slice A5 bareM.first.length c5, .slice A7 bareM.follow.length c7, .slice A9 bareM.last.length c9, .bool bareM.empty]) (vs := [.slice A3 bareM.spots.length c3, .slice A5 bareM.first.length c5, .slice A7 bareM.follow.length c7, .slice A9 bareM.last.length c9, .bool bareM.empty]) S12 ty27 rfl rfl (j := 4) rfl (by first | decide | exact Nat.le_of_ble_eq_true rfl) (by simp [Value.oneCell'])
 have S14 := T13.fx 4 (box b11 27 [.slice A3 bareM.spots.length c3, .slice A5 bareM.first.length c5, .slice A7 bareM.follow.length c7, .slice A9 bareM.last.length c9, .bool bareM.empty]) rfl
 dsimp only [lAa, lAn, lA0, lAs] at S14
 refine p_s rfl rfl (x_store rfl rfl r13) ?_
 refine run_region_end ?_
 refine run_seq ?_
 have hf15 : (CFs ⟨b11, 0, none⟩ [.slice A3 bareM.spots.length c3, .slice A5 bareM.first.length c5, .slice A7 bareM.follow.length c7, .slice A9 bareM.last.length c9, .bool bareM.empty]).1 w13 := (CF.box (m := 5) (S14.box_at (j := 4) rfl) rfl)
 have hf16 : (CFs ⟨b11, 0, none⟩ [.slice A3 bareM.spots.length c3, .slice A5 bareM.first.length c5, .slice A7 bareM.follow.length c7, .slice A9 bareM.last.length c9, .bool bareM.empty]).1 w13 := (CF.box (m := 5) (S14.box_at (j := 4) rfl) rfl)
 refine daS (hkC 0 hf15 (hkC 1 hf16 (hkN (w := w13)))) 11 rfl mixed ?_
 intro wd17 gd17 hd17
 have S18 := S14.keep gd17
 have hf19 := spUp gd17 hf15
 have hf20 := spUp gd17 hf16
 refine qd1 0 (i := 0) (v := .agg #[.slice A3 bareM.spots.length c3, .slice A5 bareM.first.length c5, .slice A7 bareM.follow.length c7, .slice A9 bareM.last.length c9, .bool bareM.empty]) rfl rfl (by decide +kernel) rfl rfl (fun wq hq => (x_load (seg := [.slice A3 bareM.spots.length c3, .slice A5 bareM.first.length c5, .slice A7 bareM.follow.length c7, .slice A9 bareM.last.length c9, .bool bareM.empty]) ty27 rfl (by simp) rfl hq)) (of_eq hf19 (of_no rfl)) ?_
 refine qd1 1 (i := 1) (v := .agg #[.slice A3 bareM.spots.length c3, .slice A5 bareM.first.length c5, .slice A7 bareM.follow.length c7, .slice A9 bareM.last.length c9, .bool bareM.empty]) rfl rfl (by decide +kernel) rfl rfl (fun wq hq => (x_load (seg := [.slice A3 bareM.spots.length c3, .slice A5 bareM.first.length c5, .slice A7 bareM.follow.length c7, .slice A9 bareM.last.length c9, .bool bareM.empty]) ty27 rfl (by simp) rfl hq)) (of_ne rfl (of_eq hf20 (of_no rfl))) ?_
 refine ra_join (fun ρ w' => ∃ (h : Ghost) (j69_b52 : Nat) (j69_A43 : Option Addr) (j69_c43 : Nat) (j69_A45 : Option Addr) (j69_c45 : Nat), Le h9 h ∧ St w.heap.size w h w' [box b11 27 [.slice A3 bareM.spots.length c3, .slice A5 bareM.first.length c5, .slice A7 bareM.follow.length c7, .slice A9 bareM.last.length c9, .bool bareM.empty], box j69_b52 35 ((encPart ((buildM bareM (refineP (setsM bareM))).part)) ++ ([.slice j69_A43 ((buildM bareM (refineP (setsM bareM))).next).length j69_c43, .slice j69_A45 ((buildM bareM (refineP (setsM bareM))).final).length j69_c45] : List Value))] ∧ ρ 1 = .pointer (some ⟨b11, 0, none⟩) ∧ ρ 2 = .pointer (some ⟨j69_b52, 0, none⟩) ∧ ρ 3 = .int .i64 (errB bareM (refineP (setsM bareM))) ∧ inK .i64 (errB bareM (refineP (setsM bareM))) ∧ okPart ((buildM bareM (refineP (setsM bareM))).part) ∧ (((buildM bareM (refineP (setsM bareM))).next).length ≤ j69_c43 ∧ j69_c43 ≤ maxLen) ∧ Leads (Kd.int .i64).slice h j69_A43 ((buildM bareM (refineP (setsM bareM))).next) ∧ (((buildM bareM (refineP (setsM bareM))).final).length ≤ j69_c45 ∧ j69_c45 ≤ maxLen) ∧ Leads Kd.bool h j69_A45 ((buildM bareM (refineP (setsM bareM))).final)) ?_ (fun jn69 => ?_)
 ·skip
  rintro ρj69 wj69 ⟨hj69, j69_b52, j69_A43, j69_c43, j69_A45, j69_c45, lej69, Sj69, rj69_1, rj69_2, rj69_3, jf69_0, jf69_1, jf69_2, jf69_3, jf69_4, jf69_5⟩
  have jl69_0 := i64_lo jf69_0; have jh69_0 := i64_hi jf69_0
  have jb69_2 := jf69_2.1; have jc69_2 := jf69_2.2; simp only [maxLen] at jc69_2
  have jb69_4 := jf69_4.1; have jc69_4 := jf69_4.2; simp only [maxLen] at jc69_4
  refine run_seq ?_
  refine run_reg (l := [0, 1, 2, 3, 4, 5, 6]) rfl ?_
  refine p_v (v := .agg ((encPart ((buildM bareM (refineP (setsM bareM))).part)) ++ ([.slice j69_A43 ((buildM bareM (refineP (setsM bareM))).next).length j69_c43, .slice j69_A45 ((buildM bareM (refineP (setsM bareM))).final).length j69_c45] : List Value)).toArray) rfl rfl rfl (x_load (seg := ((encPart ((buildM bareM (refineP (setsM bareM))).part)) ++ ([.slice j69_A43 ((buildM bareM (refineP (setsM bareM))).next).length j69_c43, .slice j69_A45 ((buildM bareM (refineP (setsM bareM))).final).length j69_c45] : List Value))) ty35 (len_app (encPart_len jf69_1) rfl) (by simp) rj69_2 (CF.box (m := 259) (Sj69.box_at (j := 1) rfl) (take_all (len_app (encPart_len jf69_1) rfl)))) ?_
  refine p_c rfl rfl rfl (y_call (args := [.agg ((encPart ((buildM bareM (refineP (setsM bareM))).part)) ++ ([.slice j69_A43 ((buildM bareM (refineP (setsM bareM))).next).length j69_c43, .slice j69_A45 ((buildM bareM (refineP (setsM bareM))).final).length j69_c45] : List Value)).toArray]) ca58 rfl rfl) (wordD_calls wj69 (buildM bareM (refineP (setsM bareM))) jf69_1 j69_A43 j69_c43 jf69_2 (jf69_3.mono ((Le.refl _).trans Sj69.ghost)) j69_A45 j69_c45 jf69_4 (jf69_5.mono ((Le.refl _).trans Sj69.ghost)) (by first | assumption | omega | decide) (Block.st Sj69 tb)) ?_
  rintro _ w70 ⟨h70, T70, rfl, sz70_0, fx70⟩
  have S71 := Sj69.keep (Chg.of_below T70.below)
  have bd_sz70_0 := sz70_0; simp only [maxLen] at bd_sz70_0
  have hwA_ := fx70.1; have hwB_ := fx70.2
  refine p_v (v := .tuple #[.string (wordW (runD (buildM bareM (refineP (setsM bareM))))), .bool (okW (runD (buildM bareM (refineP (setsM bareM)))))]) rfl rfl rfl (x_move rfl) ?_
  refine p_v (v := .string (wordW (runD (buildM bareM (refineP (setsM bareM)))))) rfl rfl rfl (x_extract (vs := [.string (wordW (runD (buildM bareM (refineP (setsM bareM))))), .bool (okW (runD (buildM bareM (refineP (setsM bareM)))))]) rfl rfl) ?_
  refine p_v (v := .bool (okW (runD (buildM bareM (refineP (setsM bareM)))))) rfl rfl rfl (x_extract (vs := [.string (wordW (runD (buildM bareM (refineP (setsM bareM))))), .bool (okW (runD (buildM bareM (refineP (setsM bareM)))))]) rfl rfl) ?_
  refine p_v (v := .string (wordW (runD (buildM bareM (refineP (setsM bareM)))))) rfl rfl rfl (x_assign rfl) ?_
  refine p_v (v := .bool (okW (runD (buildM bareM (refineP (setsM bareM)))))) rfl rfl rfl (x_assign rfl) ?_
  refine run_region_end ?_
  refine run_seq ?_
  refine run_reg (l := [0, 1, 2, 3, 4, 5, 6]) rfl ?_
  refine p_v (v := .agg #[.slice A3 bareM.spots.length c3, .slice A5 bareM.first.length c5, .slice A7 bareM.follow.length c7, .slice A9 bareM.last.length c9, .bool bareM.empty]) rfl rfl rfl (x_load (seg := [.slice A3 bareM.spots.length c3, .slice A5 bareM.first.length c5, .slice A7 bareM.follow.length c7, .slice A9 bareM.last.length c9, .bool bareM.empty]) ty27 rfl (by simp) rj69_1 (CF.box (m := 5) (S71.box_at (j := 0) rfl) rfl)) ?_
  refine p_c rfl rfl rfl (y_call (args := [.agg #[.slice A3 bareM.spots.length c3, .slice A5 bareM.first.length c5, .slice A7 bareM.follow.length c7, .slice A9 bareM.last.length c9, .bool bareM.empty]]) ca62 rfl rfl) (path_calls w70 bareM A3 c3 (And.intro lc3 cm3) (ld3.mono (((lf9_2).trans lej69).trans S71.ghost)) A5 c5 (And.intro lc5 cm5) (ld5.mono (((lf9_3).trans lej69).trans S71.ghost)) A7 c7 (And.intro lc7 cm7) (ld7.mono (((le9).trans lej69).trans S71.ghost)) A9 c9 (And.intro lc9 cm9) (ld9.mono (lej69.trans S71.ghost)) (Block.st S71 tb)) ?_
  rintro _ w72 ⟨h72, T72, rfl, sz72_0, fx72⟩
  have S73 := S71.keep (Chg.of_below T72.below)
  have bd_sz72_0 := sz72_0; simp only [maxLen] at bd_sz72_0
  have hpA_ := fx72.1; have hpB_ := fx72.2
  refine p_v (v := .tuple #[.string (wordW (runM bareM)), .bool (okW (runM bareM))]) rfl rfl rfl (x_move rfl) ?_
  refine p_v (v := .string (wordW (runM bareM))) rfl rfl rfl (x_extract (vs := [.string (wordW (runM bareM)), .bool (okW (runM bareM))]) rfl rfl) ?_
  refine p_v (v := .bool (okW (runM bareM))) rfl rfl rfl (x_extract (vs := [.string (wordW (runM bareM)), .bool (okW (runM bareM))]) rfl rfl) ?_
  refine p_v (v := .string (wordW (runM bareM))) rfl rfl rfl (x_assign rfl) ?_
  refine p_v (v := .bool (okW (runM bareM))) rfl rfl rfl (x_assign rfl) ?_
  refine run_region_end ?_
  refine run_seq ?_
  refine run_reg (l := [0, 1, 2, 3, 4, 5, 6, 7, 8, 9, 10, 11, 12, 13, 14, 15, 16, 17, 18, 19, 20, 21, 22, 23, 24]) rfl ?_
  refine p_v (v := .int .i64 (errB bareM (refineP (setsM bareM)))) rfl rfl rfl (x_move rj69_3) ?_
  refine p_v (v := .bool (decide ((errB bareM (refineP (setsM bareM))) = 0))) rfl rfl rfl (x_eql rfl rfl) ?_
  refine p_v (v := .bool (decide ((errB bareM (refineP (setsM bareM))) = 0))) rfl rfl rfl (x_move rfl) ?_
  have hc74 : ((errB bareM (refineP (setsM bareM))) = 0) := by
   exact bare_1
  refine p_v (v := .string (wordW (runD (buildM bareM (refineP (setsM bareM)))))) rfl (wanted_of (j := 2) (want := true) (d := 29) (b := true) rfl rfl (congrArg Value.bool (decide_eq_true hc74)) rfl) rfl (x_move rfl) ?_
  refine p_v (v := .bool (decide ((wordW (runD (buildM bareM (refineP (setsM bareM))))) = (⟨#[97, 98]⟩ : ByteArray)))) rfl (wanted_of (j := 2) (want := true) (d := 29) (b := true) rfl rfl (congrArg Value.bool (decide_eq_true hc74)) rfl) rfl (x_eql_string rfl rfl) ?_
  refine p_v (v := .bool (decide ((wordW (runD (buildM bareM (refineP (setsM bareM))))) = (⟨#[97, 98]⟩ : ByteArray)))) rfl rfl rfl (x_pick_t (congrArg Value.bool (decide_eq_true hc74)) rfl) ?_
  refine p_v (v := .bool (decide ((wordW (runD (buildM bareM (refineP (setsM bareM))))) = (⟨#[97, 98]⟩ : ByteArray)))) rfl rfl rfl (x_move rfl) ?_
  have hc75 : ((wordW (runD (buildM bareM (refineP (setsM bareM))))) = (⟨#[97, 98]⟩ : ByteArray)) := by
   exact bare_2
  refine p_v (v := .bool (okW (runD (buildM bareM (refineP (setsM bareM)))))) rfl (wanted_of (j := 6) (want := true) (d := 33) (b := true) rfl rfl (congrArg Value.bool (decide_eq_true hc75)) rfl) rfl (x_move rfl) ?_
  refine p_v (v := .bool (okW (runD (buildM bareM (refineP (setsM bareM)))))) rfl rfl rfl (x_pick_t (congrArg Value.bool (decide_eq_true hc75)) rfl) ?_
  refine p_v (v := .bool (okW (runD (buildM bareM (refineP (setsM bareM)))))) rfl rfl rfl (x_move rfl) ?_
  have hc76 : (okW (runD (buildM bareM (refineP (setsM bareM))))) = true := by
   exact bare_3
  refine p_v (v := .string (wordW (runM bareM))) rfl (wanted_of (j := 9) (want := true) (d := 36) (b := true) rfl rfl (congrArg Value.bool hc76) rfl) rfl (x_move rfl) ?_
  refine p_v (v := .bool (decide ((wordW (runM bareM)) = (⟨#[97, 98]⟩ : ByteArray)))) rfl (wanted_of (j := 9) (want := true) (d := 36) (b := true) rfl rfl (congrArg Value.bool hc76) rfl) rfl (x_eql_string rfl rfl) ?_
  refine p_v (v := .bool (decide ((wordW (runM bareM)) = (⟨#[97, 98]⟩ : ByteArray)))) rfl rfl rfl (x_pick_t (congrArg Value.bool hc76) rfl) ?_
  refine p_v (v := .bool (decide ((wordW (runM bareM)) = (⟨#[97, 98]⟩ : ByteArray)))) rfl rfl rfl (x_move rfl) ?_
  have hc77 : ((wordW (runM bareM)) = (⟨#[97, 98]⟩ : ByteArray)) := by
   exact bare_4
  refine p_v (v := .bool (okW (runM bareM))) rfl (wanted_of (j := 13) (want := true) (d := 40) (b := true) rfl rfl (congrArg Value.bool (decide_eq_true hc77)) rfl) rfl (x_move rfl) ?_
  refine p_v (v := .bool (okW (runM bareM))) rfl rfl rfl (x_pick_t (congrArg Value.bool (decide_eq_true hc77)) rfl) ?_
  refine p_v (v := .bool (okW (runM bareM))) rfl rfl rfl (x_move rfl) ?_
  have hc78 : (okW (runM bareM)) = true := by
   exact bare_5
  refine p_v (v := .agg ((encPart ((buildM bareM (refineP (setsM bareM))).part)) ++ ([.slice j69_A43 ((buildM bareM (refineP (setsM bareM))).next).length j69_c43, .slice j69_A45 ((buildM bareM (refineP (setsM bareM))).final).length j69_c45] : List Value)).toArray) rfl (wanted_of (j := 16) (want := true) (d := 43) (b := true) rfl rfl (congrArg Value.bool hc78) rfl) rfl (x_load (seg := ((encPart ((buildM bareM (refineP (setsM bareM))).part)) ++ ([.slice j69_A43 ((buildM bareM (refineP (setsM bareM))).next).length j69_c43, .slice j69_A45 ((buildM bareM (refineP (setsM bareM))).final).length j69_c45] : List Value))) ty35 (len_app (encPart_len jf69_1) rfl) (by simp) rj69_2 (CF.box (m := 259) (S73.box_at (j := 1) rfl) (take_all (len_app (encPart_len jf69_1) rfl)))) ?_
  refine p_c rfl (wanted_of (j := 16) (want := true) (d := 43) (b := true) rfl rfl (congrArg Value.bool hc78) rfl) rfl (y_call (args := [.agg ((encPart ((buildM bareM (refineP (setsM bareM))).part)) ++ ([.slice j69_A43 ((buildM bareM (refineP (setsM bareM))).next).length j69_c43, .slice j69_A45 ((buildM bareM (refineP (setsM bareM))).final).length j69_c45] : List Value)).toArray]) ca59 rfl rfl) (emptyD_calls w72 (buildM bareM (refineP (setsM bareM))) jf69_1 j69_A43 j69_c43 jf69_2 (jf69_3.mono ((Le.refl _).trans S73.ghost)) j69_A45 j69_c45 jf69_4 (jf69_5.mono ((Le.refl _).trans S73.ghost)) (by first | assumption | omega | decide) (Block.st S73 tb)) ?_
  rintro _ w79 ⟨h79, T79, rfl⟩
  have S80 := S73.keep (Chg.of_below T79.below)
  refine p_v (v := .bool (!(!okW (runD (buildM bareM (refineP (setsM bareM))))))) rfl (wanted_of (j := 16) (want := true) (d := 43) (b := true) rfl rfl (congrArg Value.bool hc78) rfl) rfl (x_not rfl) ?_
  refine p_v (v := .bool (!(!okW (runD (buildM bareM (refineP (setsM bareM))))))) rfl rfl rfl (x_pick_t (congrArg Value.bool hc78) rfl) ?_
  refine p_v (v := .bool (!(!okW (runD (buildM bareM (refineP (setsM bareM))))))) rfl rfl rfl (x_move rfl) ?_
  have hc81 : (!okW (runD (buildM bareM (refineP (setsM bareM))))) = false := by
   rw [bare_3]; rfl
  refine p_c rfl (wanted_of (j := 21) (want := true) (d := 48) (b := true) rfl rfl (congrArg (fun z => Value.bool (!z)) hc81) rfl) rfl (y_call (args := [.string (⟨#[98]⟩ : ByteArray), .string (⟨#[97, 98]⟩ : ByteArray)]) ca56 rfl rfl) (less_calls w79 (⟨#[98]⟩ : ByteArray) (by decide) (⟨#[97, 98]⟩ : ByteArray) (by decide)) ?_
  rintro _ w82 ⟨h82, T82, rfl⟩
  have S83 := S80.keep (Chg.of_below T82.below)
  refine p_v (v := .bool (lessW (⟨#[98]⟩ : ByteArray) (⟨#[97, 98]⟩ : ByteArray))) rfl rfl rfl (x_pick_t (congrArg (fun z => Value.bool (!z)) hc81) rfl) ?_
  refine p_v (v := .bool (lessW (⟨#[98]⟩ : ByteArray) (⟨#[97, 98]⟩ : ByteArray))) rfl rfl rfl (x_assign rfl) ?_
  refine run_region_end ?_
  have hc84 : (lessW (⟨#[98]⟩ : ByteArray) (⟨#[97, 98]⟩ : ByteArray)) = true := by
   exact bare_6
  refine run_ret Tryd.func55 (res1 rfl (res_tmp (v := .bool true) (congrArg Value.bool hc84))) ?_
  have q0 : (true : Bool) = true := rfl
  refine ⟨_, rfl, hj69, ?_, ?_⟩
  · exact S83.sub [] (by decide) rfl _ rfl
  · rfl
 ·skip
  refine ra_two (i := 2) (i2 := 8) (by decide +kernel) ?_ ?_
  ·skip
   intro wd85 gd85
   have S86 := S18.keep gd85
   have hf87 := spUp gd85 hf19
   have hf88 := spUp gd85 hf20
   refine d_c rfl rfl rfl (y_call (args := [.agg #[.slice A3 bareM.spots.length c3, .slice A5 bareM.first.length c5, .slice A7 bareM.follow.length c7, .slice A9 bareM.last.length c9, .bool bareM.empty]]) ca63 rfl rfl) (setsN_calls wd85 bareM A3 c3 (And.intro lc3 cm3) (ld3.mono (lf9_2.trans S86.ghost)) A5 c5 (And.intro lc5 cm5) (ld5.mono (lf9_3.trans S86.ghost)) A7 c7 (And.intro lc7 cm7) (ld7.mono (le9.trans S86.ghost)) A9 c9 (And.intro lc9 cm9) (ld9.mono ((Le.refl _).trans S86.ghost)) (by first | assumption | omega | decide)) ?_
   rintro v89_0 w89 ⟨h89, _, T89, rfl⟩
   obtain ⟨k89, lk89, ll89, U89⟩ := call_joins S86 T89
   have lc89_0 := (lf9_0).trans lk89
   have lc89_1 := (lf9_1).trans lk89
   have lc89_2 := (lf9_2).trans lk89
   have lc89_3 := (lf9_3).trans lk89
   have lc89_4 := (le9).trans lk89
   have S90 := U89
   dsimp only [lAa, lAn, lA0, lAs] at S90
   have hf91 := spUp (Chg.of_below T89.below) hf87
   have hf92 := spUp (Chg.of_below T89.below) hf88
   refine ⟨.inl (Chg.of_below T89.below), ?_⟩
   obtain ⟨h93, le93, T93, rp93⟩ := S90.freeze (i := 5) rfl
   have lf93_0 := (lc89_0).trans le93
   have lf93_1 := (lc89_1).trans le93
   have lf93_2 := (lc89_2).trans le93
   have lf93_3 := (lc89_3).trans le93
   have lf93_4 := (lc89_4).trans le93
   have lf93_5 := (lk89).trans le93
   have S94 := T93.fx 5 (emp) rfl
   dsimp only [lAa, lAn, lA0, lAs] at S94
   obtain ⟨A93, c93, e93, lc93, cm93, ld93⟩ := rp93
   injection e93 with e93 _; subst e93
   have cn93 := cm93; simp only [maxLen] at cn93
   obtain ⟨_, _, _, _, _, _, _, ok95_0⟩ := calls_some (refine_calls w89 (setsM bareM) A93 c93 (And.intro lc93 cm93) (ld93.mono ((Le.refl _).trans S94.ghost)))
   have hf96 : (LeadsS kSet A93 (setsM bareM)).1 w89 := (ld93.mono ((Le.refl _).trans S94.ghost))
   refine raMo (hkC 3 hf96 (hkN (w := w89))) ?_
   refine d_m (i := 3) (v := .agg (encPart (refineP (setsM bareM))).toArray) (fun wf => Leads kSet (hp wf) A93 (setsM bareM)) (fun _ ho => ho _ (List.mem_of_getElem? (i := 0) rfl) rfl) rfl (by decide +kernel) (by decide +kernel) (by decide +kernel) rfl rfl (fun wq => (y_call (args := [.slice A93 (setsM bareM).length c93]) ca49 rfl rfl)) (fun wq hq => (refine_calls wq (setsM bareM) A93 c93 (And.intro lc93 cm93) hq).mono fun e w2 he => by obtain ⟨_, rfl, _, T, rfl, _⟩ := he; exact ⟨rfl, Chg.of_below T.below⟩) (of_eq hf96 (of_no rfl)) ?_
   refine ra_two (i := 4) (i2 := 8) (by decide +kernel) ?_ ?_
   ·skip
    intro wd97 gd97
    have S98 := S94.keep gd97
    have hf99 := spUp gd97 hf96
    have hf100 := spUp gd97 hf91
    have hf101 := spUp gd97 hf92
    refine d_c rfl rfl rfl (y_call (args := [.agg #[.slice A3 bareM.spots.length c3, .slice A5 bareM.first.length c5, .slice A7 bareM.follow.length c7, .slice A9 bareM.last.length c9, .bool bareM.empty], .agg (encPart (refineP (setsM bareM))).toArray, .pointer none]) ca21 rfl rfl) (build_calls wd97 bareM A3 c3 (And.intro lc3 cm3) (ld3.mono (lf93_2.trans S98.ghost)) A5 c5 (And.intro lc5 cm5) (ld5.mono (lf93_3.trans S98.ghost)) A7 c7 (And.intro lc7 cm7) (ld7.mono (lf93_4.trans S98.ghost)) A9 c9 (And.intro lc9 cm9) (ld9.mono (lf93_5.trans S98.ghost)) (refineP (setsM bareM)) ok95_0 () (by first | assumption | omega | decide) (Block.st S98 tb)) ?_
    rintro _ w102 ⟨h102, v102_0, v102_1, T102, rfl, ok102_0, in102_1⟩
    obtain ⟨k102, lk102, ll102, U102⟩ := call_joins S98 T102
    have lc102_0 := (lf93_0).trans lk102
    have lc102_1 := (lf93_1).trans lk102
    have lc102_2 := (lf93_2).trans lk102
    have lc102_3 := (lf93_3).trans lk102
    have lc102_4 := (lf93_4).trans lk102
    have lc102_5 := (lf93_5).trans lk102
    have lc102_6 := (le93).trans lk102
    have S103 := U102
    dsimp only [lAa, lAn, lA0, lAs] at S103
    have lo_in102_1 := i64_lo in102_1; have hi_in102_1 := i64_hi in102_1
    have hf104 := spUp (Chg.of_below T102.below) hf99
    have hf105 := spUp (Chg.of_below T102.below) hf100
    have hf106 := spUp (Chg.of_below T102.below) hf101
    refine ⟨.inl (Chg.of_below T102.below), ?_⟩
    obtain ⟨h107, le107, T107, rp107⟩ := S103.freeze (i := 6) rfl
    have lf107_0 := (lc102_0).trans le107
    have lf107_1 := (lc102_1).trans le107
    have lf107_2 := (lc102_2).trans le107
    have lf107_3 := (lc102_3).trans le107
    have lf107_4 := (lc102_4).trans le107
    have lf107_5 := (lc102_5).trans le107
    have lf107_6 := (lc102_6).trans le107
    have lf107_7 := (lk102).trans le107
    have S108 := T107.fx 6 (emp) rfl
    dsimp only [lAa, lAn, lA0, lAs] at S108
    obtain ⟨A107, c107, e107, lc107, cm107, ld107⟩ := rp107
    injection e107 with e107 _; subst e107
    have cn107 := cm107; simp only [maxLen] at cn107
    obtain ⟨h109, le109, T109, rp109⟩ := S108.freeze (i := 7) rfl
    have lf109_0 := (lf107_0).trans le109
    have lf109_1 := (lf107_1).trans le109
    have lf109_2 := (lf107_2).trans le109
    have lf109_3 := (lf107_3).trans le109
    have lf109_4 := (lf107_4).trans le109
    have lf109_5 := (lf107_5).trans le109
    have lf109_6 := (lf107_6).trans le109
    have lf109_7 := (lf107_7).trans le109
    have lf109_8 := (le107).trans le109
    have S110 := T109.fx 7 (emp) rfl
    dsimp only [lAa, lAn, lA0, lAs] at S110
    obtain ⟨A109, c109, e109, lc109, cm109, ld109⟩ := rp109
    injection e109 with e109 _; subst e109
    have cn109 := cm109; simp only [maxLen] at cn109
    refine qd0 (i := 5) (v := .tuple #[.agg ((encPart ((buildM bareM (refineP (setsM bareM))).part)) ++ ([.slice A107 ((buildM bareM (refineP (setsM bareM))).next).length c107, .slice A109 ((buildM bareM (refineP (setsM bareM))).final).length c109] : List Value)).toArray, .int .i64 (errB bareM (refineP (setsM bareM)))]) rfl (by decide +kernel) rfl rfl (x_move rfl) (of_no rfl) ?_
    refine qd0 (i := 6) (v := .agg ((encPart ((buildM bareM (refineP (setsM bareM))).part)) ++ ([.slice A107 ((buildM bareM (refineP (setsM bareM))).next).length c107, .slice A109 ((buildM bareM (refineP (setsM bareM))).final).length c109] : List Value)).toArray) rfl (by decide +kernel) rfl rfl (x_extract (vs := [.agg ((encPart ((buildM bareM (refineP (setsM bareM))).part)) ++ ([.slice A107 ((buildM bareM (refineP (setsM bareM))).next).length c107, .slice A109 ((buildM bareM (refineP (setsM bareM))).final).length c109] : List Value)).toArray, .int .i64 (errB bareM (refineP (setsM bareM)))]) rfl rfl) (of_no rfl) ?_
    refine qd0 (i := 7) (v := .int .i64 (errB bareM (refineP (setsM bareM)))) rfl (by decide +kernel) rfl rfl (x_extract (vs := [.agg ((encPart ((buildM bareM (refineP (setsM bareM))).part)) ++ ([.slice A107 ((buildM bareM (refineP (setsM bareM))).next).length c107, .slice A109 ((buildM bareM (refineP (setsM bareM))).final).length c109] : List Value)).toArray, .int .i64 (errB bareM (refineP (setsM bareM)))]) rfl rfl) (of_no rfl) ?_
    refine ra_one (i := 8) (by decide +kernel) ?_
    intro wd111 gd111
    have S112 := S110.keep gd111
    have hf113 := spUp gd111 hf104
    have hf114 := spUp gd111 hf105
    have hf115 := spUp gd111 hf106
    obtain ⟨b116, w116, r116, g116, T116⟩ := e_box (P := Tryd.prog) S112 35 (v := zv35) ((encPart zPart) ++ ([.slice none 0 0, .slice none 0 0] : List Value)) (by kernel_rfl)
    have S117 := T116
    dsimp only [lAa, lAn, lA0, lAs] at S117
    have hf118 := spUp g116 hf113
    have hf119 := spUp g116 hf114
    have hf120 := spUp g116 hf115
    refine d_v (v := .pointer (some ⟨b116, 0, none⟩)) rfl rfl rfl (x_alloc ty35 r116) (.inl g116) ?_
    refine ra_one (i := 9) (by decide +kernel) ?_
    intro wd121 gd121
    have S122 := S117.keep gd121
    have hf123 := spUp gd121 hf118
    have hf124 := spUp gd121 hf119
    have hf125 := spUp gd121 hf120
    obtain ⟨w126, r126, g126, T126⟩ := e_store_all (P := Tryd.prog) (v := .agg ((encPart ((buildM bareM (refineP (setsM bareM))).part)) ++ ([.slice A107 ((buildM bareM (refineP (setsM bareM))).next).length c107, .slice A109 ((buildM bareM (refineP (setsM bareM))).final).length c109] : List Value)).toArray) (vs := ((encPart ((buildM bareM (refineP (setsM bareM))).part)) ++ ([.slice A107 ((buildM bareM (refineP (setsM bareM))).next).length c107, .slice A109 ((buildM bareM (refineP (setsM bareM))).final).length c109] : List Value))) (cs := ((encPart zPart) ++ ([.slice none 0 0, .slice none 0 0] : List Value))) S122 ty35 rfl (len_app (encPart_len ok102_0) rfl) (len_app (encPart_len (okPart_zero)) rfl) (j := 8) rfl (one_app (encPart_one _) (by simp [Value.oneCell']))
    have S127 := T126.fx 8 (box b116 35 ((encPart ((buildM bareM (refineP (setsM bareM))).part)) ++ ([.slice A107 ((buildM bareM (refineP (setsM bareM))).next).length c107, .slice A109 ((buildM bareM (refineP (setsM bareM))).final).length c109] : List Value))) rfl
    dsimp only [lAa, lAn, lA0, lAs] at S127
    have hf128 : (LeadsS kSet A93 (setsM bareM)).1 w126 := (ld93.mono ((Le.refl _).trans (lf109_7.trans S127.ghost)))
    have hf129 : (CFs ⟨b11, 0, none⟩ [.slice A3 bareM.spots.length c3, .slice A5 bareM.first.length c5, .slice A7 bareM.follow.length c7, .slice A9 bareM.last.length c9, .bool bareM.empty]).1 w126 := (CF.box (m := 5) (S127.box_at (j := 4) rfl) rfl)
    have hf130 : (CFs ⟨b11, 0, none⟩ [.slice A3 bareM.spots.length c3, .slice A5 bareM.first.length c5, .slice A7 bareM.follow.length c7, .slice A9 bareM.last.length c9, .bool bareM.empty]).1 w126 := (CF.box (m := 5) (S127.box_at (j := 4) rfl) rfl)
    refine d_s rfl rfl (x_store rfl rfl r126) (.inr (keep_w (by decide +kernel) (keep_w (by decide +kernel) (keep_w (by decide +kernel) trivial)))) ?_
    refine qd0 (i := 10) (v := .int .i64 (errB bareM (refineP (setsM bareM)))) rfl (by decide +kernel) rfl rfl (x_assign rfl) (of_no rfl) ?_
    refine ra_done (by decide +kernel) ?_
    intro wd131 gd131
    have S132 := S127.keep gd131
    exact jn69 _ _ ⟨h109, b116, A107, c107, A109, c109, lf109_5, S132.sub [4, 8] (by decide) rfl _ rfl, rfl, rfl, rfl, in102_1, ok102_0, (And.intro lc107 cm107), (ld107.mono le109), (And.intro lc109 cm109), ld109⟩
   ·skip
    intro wd133 gd133
    have S134 := S94.keep gd133
    have hf135 := spUp gd133 hf96
    have hf136 := spUp gd133 hf91
    have hf137 := spUp gd133 hf92
    obtain ⟨b138, w138, r138, g138, T138⟩ := e_box (P := Tryd.prog) S134 35 (v := zv35) ((encPart zPart) ++ ([.slice none 0 0, .slice none 0 0] : List Value)) (by kernel_rfl)
    have S139 := T138
    dsimp only [lAa, lAn, lA0, lAs] at S139
    have hf140 := spUp g138 hf135
    have hf141 := spUp g138 hf136
    have hf142 := spUp g138 hf137
    refine d_v (v := .pointer (some ⟨b138, 0, none⟩)) rfl rfl rfl (x_alloc ty35 r138) (.inl g138) ?_
    refine ra_one (i := 4) (by decide +kernel) ?_
    intro wd143 gd143
    have S144 := S139.keep gd143
    have hf145 := spUp gd143 hf140
    have hf146 := spUp gd143 hf141
    have hf147 := spUp gd143 hf142
    refine d_c rfl rfl rfl (y_call (args := [.agg #[.slice A3 bareM.spots.length c3, .slice A5 bareM.first.length c5, .slice A7 bareM.follow.length c7, .slice A9 bareM.last.length c9, .bool bareM.empty], .agg (encPart (refineP (setsM bareM))).toArray, .pointer none]) ca21 rfl rfl) (build_calls wd143 bareM A3 c3 (And.intro lc3 cm3) (ld3.mono (lf93_2.trans S144.ghost)) A5 c5 (And.intro lc5 cm5) (ld5.mono (lf93_3.trans S144.ghost)) A7 c7 (And.intro lc7 cm7) (ld7.mono (lf93_4.trans S144.ghost)) A9 c9 (And.intro lc9 cm9) (ld9.mono (lf93_5.trans S144.ghost)) (refineP (setsM bareM)) ok95_0 () (by first | assumption | omega | decide) (Block.st S144 tb)) ?_
    rintro _ w148 ⟨h148, v148_0, v148_1, T148, rfl, ok148_0, in148_1⟩
    obtain ⟨k148, lk148, ll148, U148⟩ := call_joins S144 T148
    have lc148_0 := (lf93_0).trans lk148
    have lc148_1 := (lf93_1).trans lk148
    have lc148_2 := (lf93_2).trans lk148
    have lc148_3 := (lf93_3).trans lk148
    have lc148_4 := (lf93_4).trans lk148
    have lc148_5 := (lf93_5).trans lk148
    have lc148_6 := (le93).trans lk148
    have S149 := U148
    dsimp only [lAa, lAn, lA0, lAs] at S149
    have lo_in148_1 := i64_lo in148_1; have hi_in148_1 := i64_hi in148_1
    have hf150 := spUp (Chg.of_below T148.below) hf145
    have hf151 := spUp (Chg.of_below T148.below) hf146
    have hf152 := spUp (Chg.of_below T148.below) hf147
    refine ⟨.inl (Chg.of_below T148.below), ?_⟩
    obtain ⟨h153, le153, T153, rp153⟩ := S149.freeze (i := 7) rfl
    have lf153_0 := (lc148_0).trans le153
    have lf153_1 := (lc148_1).trans le153
    have lf153_2 := (lc148_2).trans le153
    have lf153_3 := (lc148_3).trans le153
    have lf153_4 := (lc148_4).trans le153
    have lf153_5 := (lc148_5).trans le153
    have lf153_6 := (lc148_6).trans le153
    have lf153_7 := (lk148).trans le153
    have S154 := T153.fx 7 (emp) rfl
    dsimp only [lAa, lAn, lA0, lAs] at S154
    obtain ⟨A153, c153, e153, lc153, cm153, ld153⟩ := rp153
    injection e153 with e153 _; subst e153
    have cn153 := cm153; simp only [maxLen] at cn153
    obtain ⟨h155, le155, T155, rp155⟩ := S154.freeze (i := 8) rfl
    have lf155_0 := (lf153_0).trans le155
    have lf155_1 := (lf153_1).trans le155
    have lf155_2 := (lf153_2).trans le155
    have lf155_3 := (lf153_3).trans le155
    have lf155_4 := (lf153_4).trans le155
    have lf155_5 := (lf153_5).trans le155
    have lf155_6 := (lf153_6).trans le155
    have lf155_7 := (lf153_7).trans le155
    have lf155_8 := (le153).trans le155
    have S156 := T155.fx 8 (emp) rfl
    dsimp only [lAa, lAn, lA0, lAs] at S156
    obtain ⟨A155, c155, e155, lc155, cm155, ld155⟩ := rp155
    injection e155 with e155 _; subst e155
    have cn155 := cm155; simp only [maxLen] at cn155
    refine qd0 (i := 5) (v := .tuple #[.agg ((encPart ((buildM bareM (refineP (setsM bareM))).part)) ++ ([.slice A153 ((buildM bareM (refineP (setsM bareM))).next).length c153, .slice A155 ((buildM bareM (refineP (setsM bareM))).final).length c155] : List Value)).toArray, .int .i64 (errB bareM (refineP (setsM bareM)))]) rfl (by decide +kernel) rfl rfl (x_move rfl) (of_no rfl) ?_
    refine qd0 (i := 6) (v := .agg ((encPart ((buildM bareM (refineP (setsM bareM))).part)) ++ ([.slice A153 ((buildM bareM (refineP (setsM bareM))).next).length c153, .slice A155 ((buildM bareM (refineP (setsM bareM))).final).length c155] : List Value)).toArray) rfl (by decide +kernel) rfl rfl (x_extract (vs := [.agg ((encPart ((buildM bareM (refineP (setsM bareM))).part)) ++ ([.slice A153 ((buildM bareM (refineP (setsM bareM))).next).length c153, .slice A155 ((buildM bareM (refineP (setsM bareM))).final).length c155] : List Value)).toArray, .int .i64 (errB bareM (refineP (setsM bareM)))]) rfl rfl) (of_no rfl) ?_
    refine qd0 (i := 7) (v := .int .i64 (errB bareM (refineP (setsM bareM)))) rfl (by decide +kernel) rfl rfl (x_extract (vs := [.agg ((encPart ((buildM bareM (refineP (setsM bareM))).part)) ++ ([.slice A153 ((buildM bareM (refineP (setsM bareM))).next).length c153, .slice A155 ((buildM bareM (refineP (setsM bareM))).final).length c155] : List Value)).toArray, .int .i64 (errB bareM (refineP (setsM bareM)))]) rfl rfl) (of_no rfl) ?_
    refine ra_one (i := 9) (by decide +kernel) ?_
    intro wd157 gd157
    have S158 := S156.keep gd157
    have hf159 := spUp gd157 hf150
    have hf160 := spUp gd157 hf151
    have hf161 := spUp gd157 hf152
    obtain ⟨w162, r162, g162, T162⟩ := e_store_all (P := Tryd.prog) (v := .agg ((encPart ((buildM bareM (refineP (setsM bareM))).part)) ++ ([.slice A153 ((buildM bareM (refineP (setsM bareM))).next).length c153, .slice A155 ((buildM bareM (refineP (setsM bareM))).final).length c155] : List Value)).toArray) (vs := ((encPart ((buildM bareM (refineP (setsM bareM))).part)) ++ ([.slice A153 ((buildM bareM (refineP (setsM bareM))).next).length c153, .slice A155 ((buildM bareM (refineP (setsM bareM))).final).length c155] : List Value))) (cs := ((encPart zPart) ++ ([.slice none 0 0, .slice none 0 0] : List Value))) S158 ty35 rfl (len_app (encPart_len ok148_0) rfl) (len_app (encPart_len (okPart_zero)) rfl) (j := 6) rfl (one_app (encPart_one _) (by simp [Value.oneCell']))
    have S163 := T162.fx 6 (box b138 35 ((encPart ((buildM bareM (refineP (setsM bareM))).part)) ++ ([.slice A153 ((buildM bareM (refineP (setsM bareM))).next).length c153, .slice A155 ((buildM bareM (refineP (setsM bareM))).final).length c155] : List Value))) rfl
    dsimp only [lAa, lAn, lA0, lAs] at S163
    have hf164 : (LeadsS kSet A93 (setsM bareM)).1 w162 := (ld93.mono ((Le.refl _).trans (lf155_7.trans S163.ghost)))
    have hf165 : (CFs ⟨b11, 0, none⟩ [.slice A3 bareM.spots.length c3, .slice A5 bareM.first.length c5, .slice A7 bareM.follow.length c7, .slice A9 bareM.last.length c9, .bool bareM.empty]).1 w162 := (CF.box (m := 5) (S163.box_at (j := 4) rfl) rfl)
    have hf166 : (CFs ⟨b11, 0, none⟩ [.slice A3 bareM.spots.length c3, .slice A5 bareM.first.length c5, .slice A7 bareM.follow.length c7, .slice A9 bareM.last.length c9, .bool bareM.empty]).1 w162 := (CF.box (m := 5) (S163.box_at (j := 4) rfl) rfl)
    refine d_s rfl rfl (x_store rfl rfl r162) (.inr (keep_w (by decide +kernel) (keep_w (by decide +kernel) (keep_w (by decide +kernel) trivial)))) ?_
    refine qd0 (i := 10) (v := .int .i64 (errB bareM (refineP (setsM bareM)))) rfl (by decide +kernel) rfl rfl (x_assign rfl) (of_no rfl) ?_
    refine ra_done (by decide +kernel) ?_
    intro wd167 gd167
    have S168 := S163.keep gd167
    exact jn69 _ _ ⟨h155, b138, A153, c153, A155, c155, lf155_5, S168.sub [4, 6] (by decide) rfl _ rfl, rfl, rfl, rfl, in148_1, ok148_0, (And.intro lc153 cm153), (ld153.mono le155), (And.intro lc155 cm155), ld155⟩
  ·skip
   intro wd169 gd169
   have S170 := S18.keep gd169
   have hf171 := spUp gd169 hf19
   have hf172 := spUp gd169 hf20
   obtain ⟨b173, w173, r173, g173, T173⟩ := e_box (P := Tryd.prog) S170 35 (v := zv35) ((encPart zPart) ++ ([.slice none 0 0, .slice none 0 0] : List Value)) (by kernel_rfl)
   have S174 := T173
   dsimp only [lAa, lAn, lA0, lAs] at S174
   have hf175 := spUp g173 hf171
   have hf176 := spUp g173 hf172
   refine d_v (v := .pointer (some ⟨b173, 0, none⟩)) rfl rfl rfl (x_alloc ty35 r173) (.inl g173) ?_
   refine ra_one (i := 2) (by decide +kernel) ?_
   intro wd177 gd177
   have S178 := S174.keep gd177
   have hf179 := spUp gd177 hf175
   have hf180 := spUp gd177 hf176
   refine d_c rfl rfl rfl (y_call (args := [.agg #[.slice A3 bareM.spots.length c3, .slice A5 bareM.first.length c5, .slice A7 bareM.follow.length c7, .slice A9 bareM.last.length c9, .bool bareM.empty]]) ca63 rfl rfl) (setsN_calls wd177 bareM A3 c3 (And.intro lc3 cm3) (ld3.mono (lf9_2.trans S178.ghost)) A5 c5 (And.intro lc5 cm5) (ld5.mono (lf9_3.trans S178.ghost)) A7 c7 (And.intro lc7 cm7) (ld7.mono (le9.trans S178.ghost)) A9 c9 (And.intro lc9 cm9) (ld9.mono ((Le.refl _).trans S178.ghost)) (by first | assumption | omega | decide)) ?_
   rintro v181_0 w181 ⟨h181, _, T181, rfl⟩
   obtain ⟨k181, lk181, ll181, U181⟩ := call_joins S178 T181
   have lc181_0 := (lf9_0).trans lk181
   have lc181_1 := (lf9_1).trans lk181
   have lc181_2 := (lf9_2).trans lk181
   have lc181_3 := (lf9_3).trans lk181
   have lc181_4 := (le9).trans lk181
   have S182 := U181
   dsimp only [lAa, lAn, lA0, lAs] at S182
   have hf183 := spUp (Chg.of_below T181.below) hf179
   have hf184 := spUp (Chg.of_below T181.below) hf180
   refine ⟨.inl (Chg.of_below T181.below), ?_⟩
   obtain ⟨h185, le185, T185, rp185⟩ := S182.freeze (i := 6) rfl
   have lf185_0 := (lc181_0).trans le185
   have lf185_1 := (lc181_1).trans le185
   have lf185_2 := (lc181_2).trans le185
   have lf185_3 := (lc181_3).trans le185
   have lf185_4 := (lc181_4).trans le185
   have lf185_5 := (lk181).trans le185
   have S186 := T185.fx 6 (emp) rfl
   dsimp only [lAa, lAn, lA0, lAs] at S186
   obtain ⟨A185, c185, e185, lc185, cm185, ld185⟩ := rp185
   injection e185 with e185 _; subst e185
   have cn185 := cm185; simp only [maxLen] at cn185
   obtain ⟨_, _, _, _, _, _, _, ok187_0⟩ := calls_some (refine_calls w181 (setsM bareM) A185 c185 (And.intro lc185 cm185) (ld185.mono ((Le.refl _).trans S186.ghost)))
   have hf188 : (LeadsS kSet A185 (setsM bareM)).1 w181 := (ld185.mono ((Le.refl _).trans S186.ghost))
   refine raMo (hkC 3 hf188 (hkN (w := w181))) ?_
   refine d_m (i := 3) (v := .agg (encPart (refineP (setsM bareM))).toArray) (fun wf => Leads kSet (hp wf) A185 (setsM bareM)) (fun _ ho => ho _ (List.mem_of_getElem? (i := 0) rfl) rfl) rfl (by decide +kernel) (by decide +kernel) (by decide +kernel) rfl rfl (fun wq => (y_call (args := [.slice A185 (setsM bareM).length c185]) ca49 rfl rfl)) (fun wq hq => (refine_calls wq (setsM bareM) A185 c185 (And.intro lc185 cm185) hq).mono fun e w2 he => by obtain ⟨_, rfl, _, T, rfl, _⟩ := he; exact ⟨rfl, Chg.of_below T.below⟩) (of_eq hf188 (of_no rfl)) ?_
   refine ra_one (i := 4) (by decide +kernel) ?_
   intro wd189 gd189
   have S190 := S186.keep gd189
   have hf191 := spUp gd189 hf188
   have hf192 := spUp gd189 hf183
   have hf193 := spUp gd189 hf184
   refine d_c rfl rfl rfl (y_call (args := [.agg #[.slice A3 bareM.spots.length c3, .slice A5 bareM.first.length c5, .slice A7 bareM.follow.length c7, .slice A9 bareM.last.length c9, .bool bareM.empty], .agg (encPart (refineP (setsM bareM))).toArray, .pointer none]) ca21 rfl rfl) (build_calls wd189 bareM A3 c3 (And.intro lc3 cm3) (ld3.mono (lf185_2.trans S190.ghost)) A5 c5 (And.intro lc5 cm5) (ld5.mono (lf185_3.trans S190.ghost)) A7 c7 (And.intro lc7 cm7) (ld7.mono (lf185_4.trans S190.ghost)) A9 c9 (And.intro lc9 cm9) (ld9.mono (lf185_5.trans S190.ghost)) (refineP (setsM bareM)) ok187_0 () (by first | assumption | omega | decide) (Block.st S190 tb)) ?_
   rintro _ w194 ⟨h194, v194_0, v194_1, T194, rfl, ok194_0, in194_1⟩
   obtain ⟨k194, lk194, ll194, U194⟩ := call_joins S190 T194
   have lc194_0 := (lf185_0).trans lk194
   have lc194_1 := (lf185_1).trans lk194
   have lc194_2 := (lf185_2).trans lk194
   have lc194_3 := (lf185_3).trans lk194
   have lc194_4 := (lf185_4).trans lk194
   have lc194_5 := (lf185_5).trans lk194
   have lc194_6 := (le185).trans lk194
   have S195 := U194
   dsimp only [lAa, lAn, lA0, lAs] at S195
   have lo_in194_1 := i64_lo in194_1; have hi_in194_1 := i64_hi in194_1
   have hf196 := spUp (Chg.of_below T194.below) hf191
   have hf197 := spUp (Chg.of_below T194.below) hf192
   have hf198 := spUp (Chg.of_below T194.below) hf193
   refine ⟨.inl (Chg.of_below T194.below), ?_⟩
   obtain ⟨h199, le199, T199, rp199⟩ := S195.freeze (i := 7) rfl
   have lf199_0 := (lc194_0).trans le199
   have lf199_1 := (lc194_1).trans le199
   have lf199_2 := (lc194_2).trans le199
   have lf199_3 := (lc194_3).trans le199
   have lf199_4 := (lc194_4).trans le199
   have lf199_5 := (lc194_5).trans le199
   have lf199_6 := (lc194_6).trans le199
   have lf199_7 := (lk194).trans le199
   have S200 := T199.fx 7 (emp) rfl
   dsimp only [lAa, lAn, lA0, lAs] at S200
   obtain ⟨A199, c199, e199, lc199, cm199, ld199⟩ := rp199
   injection e199 with e199 _; subst e199
   have cn199 := cm199; simp only [maxLen] at cn199
   obtain ⟨h201, le201, T201, rp201⟩ := S200.freeze (i := 8) rfl
   have lf201_0 := (lf199_0).trans le201
   have lf201_1 := (lf199_1).trans le201
   have lf201_2 := (lf199_2).trans le201
   have lf201_3 := (lf199_3).trans le201
   have lf201_4 := (lf199_4).trans le201
   have lf201_5 := (lf199_5).trans le201
   have lf201_6 := (lf199_6).trans le201
   have lf201_7 := (lf199_7).trans le201
   have lf201_8 := (le199).trans le201
   have S202 := T201.fx 8 (emp) rfl
   dsimp only [lAa, lAn, lA0, lAs] at S202
   obtain ⟨A201, c201, e201, lc201, cm201, ld201⟩ := rp201
   injection e201 with e201 _; subst e201
   have cn201 := cm201; simp only [maxLen] at cn201
   refine qd0 (i := 5) (v := .tuple #[.agg ((encPart ((buildM bareM (refineP (setsM bareM))).part)) ++ ([.slice A199 ((buildM bareM (refineP (setsM bareM))).next).length c199, .slice A201 ((buildM bareM (refineP (setsM bareM))).final).length c201] : List Value)).toArray, .int .i64 (errB bareM (refineP (setsM bareM)))]) rfl (by decide +kernel) rfl rfl (x_move rfl) (of_no rfl) ?_
   refine qd0 (i := 6) (v := .agg ((encPart ((buildM bareM (refineP (setsM bareM))).part)) ++ ([.slice A199 ((buildM bareM (refineP (setsM bareM))).next).length c199, .slice A201 ((buildM bareM (refineP (setsM bareM))).final).length c201] : List Value)).toArray) rfl (by decide +kernel) rfl rfl (x_extract (vs := [.agg ((encPart ((buildM bareM (refineP (setsM bareM))).part)) ++ ([.slice A199 ((buildM bareM (refineP (setsM bareM))).next).length c199, .slice A201 ((buildM bareM (refineP (setsM bareM))).final).length c201] : List Value)).toArray, .int .i64 (errB bareM (refineP (setsM bareM)))]) rfl rfl) (of_no rfl) ?_
   refine qd0 (i := 7) (v := .int .i64 (errB bareM (refineP (setsM bareM)))) rfl (by decide +kernel) rfl rfl (x_extract (vs := [.agg ((encPart ((buildM bareM (refineP (setsM bareM))).part)) ++ ([.slice A199 ((buildM bareM (refineP (setsM bareM))).next).length c199, .slice A201 ((buildM bareM (refineP (setsM bareM))).final).length c201] : List Value)).toArray, .int .i64 (errB bareM (refineP (setsM bareM)))]) rfl rfl) (of_no rfl) ?_
   refine ra_one (i := 9) (by decide +kernel) ?_
   intro wd203 gd203
   have S204 := S202.keep gd203
   have hf205 := spUp gd203 hf196
   have hf206 := spUp gd203 hf197
   have hf207 := spUp gd203 hf198
   obtain ⟨w208, r208, g208, T208⟩ := e_store_all (P := Tryd.prog) (v := .agg ((encPart ((buildM bareM (refineP (setsM bareM))).part)) ++ ([.slice A199 ((buildM bareM (refineP (setsM bareM))).next).length c199, .slice A201 ((buildM bareM (refineP (setsM bareM))).final).length c201] : List Value)).toArray) (vs := ((encPart ((buildM bareM (refineP (setsM bareM))).part)) ++ ([.slice A199 ((buildM bareM (refineP (setsM bareM))).next).length c199, .slice A201 ((buildM bareM (refineP (setsM bareM))).final).length c201] : List Value))) (cs := ((encPart zPart) ++ ([.slice none 0 0, .slice none 0 0] : List Value))) S204 ty35 rfl (len_app (encPart_len ok194_0) rfl) (len_app (encPart_len (okPart_zero)) rfl) (j := 5) rfl (one_app (encPart_one _) (by simp [Value.oneCell']))
   have S209 := T208.fx 5 (box b173 35 ((encPart ((buildM bareM (refineP (setsM bareM))).part)) ++ ([.slice A199 ((buildM bareM (refineP (setsM bareM))).next).length c199, .slice A201 ((buildM bareM (refineP (setsM bareM))).final).length c201] : List Value))) rfl
   dsimp only [lAa, lAn, lA0, lAs] at S209
   have hf210 : (LeadsS kSet A185 (setsM bareM)).1 w208 := (ld185.mono ((Le.refl _).trans (lf201_7.trans S209.ghost)))
   have hf211 : (CFs ⟨b11, 0, none⟩ [.slice A3 bareM.spots.length c3, .slice A5 bareM.first.length c5, .slice A7 bareM.follow.length c7, .slice A9 bareM.last.length c9, .bool bareM.empty]).1 w208 := (CF.box (m := 5) (S209.box_at (j := 4) rfl) rfl)
   have hf212 : (CFs ⟨b11, 0, none⟩ [.slice A3 bareM.spots.length c3, .slice A5 bareM.first.length c5, .slice A7 bareM.follow.length c7, .slice A9 bareM.last.length c9, .bool bareM.empty]).1 w208 := (CF.box (m := 5) (S209.box_at (j := 4) rfl) rfl)
   refine d_s rfl rfl (x_store rfl rfl r208) (.inr (keep_w (by decide +kernel) (keep_w (by decide +kernel) (keep_w (by decide +kernel) trivial)))) ?_
   refine qd0 (i := 10) (v := .int .i64 (errB bareM (refineP (setsM bareM)))) rfl (by decide +kernel) rfl rfl (x_assign rfl) (of_no rfl) ?_
   refine ra_done (by decide +kernel) ?_
   intro wd213 gd213
   have S214 := S209.keep gd213
   exact jn69 _ _ ⟨h201, b173, A199, c199, A201, c201, lf201_5, S214.sub [4, 5] (by decide) rfl _ rfl, rfl, rfl, rfl, in194_1, ok194_0, (And.intro lc199 cm199), (ld199.mono le201), (And.intro lc201 cm201), ld201⟩
end Go.Proofs.YtfoemogojbnfhaaDoor
namespace Go.Proofs.YtfoemogojbnfhaaDoor
open Go Go.RowKit Gx
set_option maxHeartbeats 1000000
set_option linter.unusedVariables false
set_option linter.unusedSimpArgs false
set_option maxRecDepth 8000
attribute [local irreducible] listOf count first someIn has setOf wbits Lib.ctz badQ badRow rightD goD runD nextB nextC outTo readTo rowIn finalB lastB leastB leastBTo buildM errB fitsP madeM allM bfs numbered putB beginB okB lessL lessW strLt cmpW cmpI orI wordW okW wordS wordT revTo leL lfp greatD greatDTo
theorem seekLeast_calls (w : World) (d : Dfa) (o0_0 : okPart d.part) (A0_1 : Option Addr) (c0_1 : Nat) (b0_1 : d.next.length ≤ c0_1 ∧ c0_1 ≤ maxLen) (l0_1 : Leads (Kd.int .i64).slice (hp w) A0_1 d.next) (A0_2 : Option Addr) (c0_2 : Nat) (b0_2 : d.final.length ≤ c0_2 ∧ c0_2 ≤ maxLen) (l0_2 : Leads Kd.bool (hp w) A0_2 d.final) (xw : ByteArray) (s1 : xw.size ≤ maxLen) (tb : Block 0 tzTab w) :
    Calls Tryd.prog 15 #[.agg ((encPart d.part) ++ ([.slice A0_1 d.next.length c0_1, .slice A0_2 d.final.length c0_2] : List Value)).toArray, .string xw] w fun e w' => ∃ v, e = .returned v ∧ ∃ (hn : Ghost), St w.heap.size w hn w' [] ∧ v = .bool true := by
 refine calls_of_run Tryd.func15 rfl Tryd.ntmps15 rfl ?_
 have S0 := St.init w
 have ploo0_0 := i64_lo o0_0.2; have phio0_0 := i64_hi o0_0.2
 have bb0_1 := b0_1.1; have bc0_1 := b0_1.2; simp only [maxLen] at bc0_1
 have bb0_2 := b0_2.1; have bc0_2 := b0_2.2; simp only [maxLen] at bc0_2
 have sz1 := s1; simp only [maxLen] at sz1
 refine run_seq ?_
 refine run_reg (l := [0, 1]) rfl ?_
 obtain ⟨b1, w1, r1, g1, T1⟩ := e_box (P := Tryd.prog) S0 35 (v := .agg ((encPart d.part) ++ ([.slice A0_1 d.next.length c0_1, .slice A0_2 d.final.length c0_2] : List Value)).toArray) ((encPart d.part) ++ ([.slice A0_1 d.next.length c0_1, .slice A0_2 d.final.length c0_2] : List Value)) rfl
 have S2 := T1
 dsimp only [lAa, lAn, lA0, lAs] at S2
 refine p_v (v := .pointer (some ⟨b1, 0, none⟩)) rfl rfl rfl (x_box rfl r1) ?_
 refine p_v (v := .bool false) rfl rfl rfl (x_assign rfl) ?_
 refine run_region_end ?_
 refine run_seq ?_
 refine run_seq ?_
 refine run_reg (l := [0, 1, 2, 3, 4, 5, 6, 7, 8, 9, 10, 11]) rfl ?_
 refine p_v (v := .agg ((encPart d.part) ++ ([.slice A0_1 d.next.length c0_1, .slice A0_2 d.final.length c0_2] : List Value)).toArray) rfl rfl rfl (x_load (seg := ((encPart d.part) ++ ([.slice A0_1 d.next.length c0_1, .slice A0_2 d.final.length c0_2] : List Value))) ty35 (len_app (encPart_len o0_0) rfl) (by simp) rfl (CF.box (m := 259) (S2.box_at (j := 0) rfl) (take_all (len_app (encPart_len o0_0) rfl)))) ?_
 refine p_c rfl rfl rfl (y_call (args := [.agg ((encPart d.part) ++ ([.slice A0_1 d.next.length c0_1, .slice A0_2 d.final.length c0_2] : List Value)).toArray]) ca54 rfl rfl) (great13_calls w1 d o0_0 A0_1 c0_1 b0_1 (l0_1.mono (St.le0 S2)) A0_2 c0_2 b0_2 (l0_2.mono (St.le0 S2))) ?_
 rintro _ w3 ⟨h3, T3, rfl⟩
 have S4 := S2.keep (Chg.of_below T3.below)
 refine p_v (v := .bool (greatD d)) rfl rfl rfl (x_move rfl) ?_
 rcases Bool.eq_false_or_eq_true (greatD d) with hc5 | hc5
 ·skip
  refine p_off rfl (wanted_of (j := 2) (want := false) (d := 9) (b := true) rfl rfl (congrArg Value.bool hc5) rfl) rfl ?_
  refine p_off rfl (wanted_of (j := 2) (want := false) (d := 9) (b := true) rfl rfl (congrArg Value.bool hc5) rfl) rfl ?_
  refine p_off rfl (wanted_of (j := 2) (want := false) (d := 9) (b := true) rfl rfl (congrArg Value.bool hc5) rfl) rfl ?_
  refine p_v (v := .bool true) rfl rfl rfl (x_pick_t (congrArg Value.bool hc5) rfl) ?_
  refine p_v (v := .bool true) rfl rfl rfl (x_move rfl) ?_
  refine p_off rfl rfl rfl ?_
  refine p_off rfl rfl rfl ?_
  refine p_off rfl rfl rfl ?_
  refine p_v (v := .bool true) rfl rfl rfl (x_pick_t rfl rfl) ?_
  refine run_region_end ?_
  refine run_cond (b := true) rfl ?_
  simp only [if_true, if_false, Bool.false_eq_true]
  refine run_seq ?_
  refine run_reg (l := [0, 1]) rfl ?_
  refine p_c rfl rfl rfl (y_call (args := []) ca55 rfl rfl) (awake13_calls w3  (Block.st S4 tb)) ?_
  rintro _ w6 ⟨h6, T6, rfl⟩
  have S7 := S4.keep (Chg.of_below T6.below)
  refine p_v (v := .bool true) rfl rfl rfl (x_assign rfl) ?_
  refine run_region_end ?_
  refine run_ret Tryd.func15 (res1 rfl (res_tmp (v := .bool true) rfl)) ?_
  have q0 : (true : Bool) = true := rfl
  refine ⟨_, rfl, (fun _ => none), ?_, ?_⟩
  · exact S7.sub [] (by decide) rfl _ rfl
  · rfl
 ·skip
  have hg_ := greatD_len hc5; have hg0_ := hg_.1
  refine p_v (v := .string xw) rfl (wanted_of (j := 2) (want := false) (d := 9) (b := false) rfl rfl (congrArg Value.bool hc5) rfl) rfl (x_move rfl) ?_
  refine p_v (v := .int .i64 (xw.size : Int)) rfl (wanted_of (j := 2) (want := false) (d := 9) (b := false) rfl rfl (congrArg Value.bool hc5) rfl) rfl (x_len_string u9 rfl) ?_
  refine p_v (v := .bool (decide (100 < (xw.size : Int)))) rfl (wanted_of (j := 2) (want := false) (d := 9) (b := false) rfl rfl (congrArg Value.bool hc5) rfl) rfl (x_gtr rfl rfl) ?_
  refine p_v (v := .bool (decide (100 < (xw.size : Int)))) rfl rfl rfl (x_pick_f (congrArg Value.bool hc5) rfl) ?_
  refine p_v (v := .bool (decide (100 < (xw.size : Int)))) rfl rfl rfl (x_move rfl) ?_
  by_cases hc9 : 100 < (xw.size : Int)
  ·skip
   refine p_off rfl (wanted_of (j := 7) (want := false) (d := 14) (b := true) rfl rfl (congrArg Value.bool (decide_eq_true hc9)) rfl) rfl ?_
   refine p_off rfl (wanted_of (j := 7) (want := false) (d := 14) (b := true) rfl rfl (congrArg Value.bool (decide_eq_true hc9)) rfl) rfl ?_
   refine p_off rfl (wanted_of (j := 7) (want := false) (d := 14) (b := true) rfl rfl (congrArg Value.bool (decide_eq_true hc9)) rfl) rfl ?_
   refine p_v (v := .bool true) rfl rfl rfl (x_pick_t (congrArg Value.bool (decide_eq_true hc9)) rfl) ?_
   refine run_region_end ?_
   refine run_cond (b := true) rfl ?_
   simp only [if_true, if_false, Bool.false_eq_true]
   refine run_seq ?_
   refine run_reg (l := [0, 1]) rfl ?_
   refine p_c rfl rfl rfl (y_call (args := []) ca55 rfl rfl) (awake13_calls w3  (Block.st S4 tb)) ?_
   rintro _ w10 ⟨h10, T10, rfl⟩
   have S11 := S4.keep (Chg.of_below T10.below)
   refine p_v (v := .bool true) rfl rfl rfl (x_assign rfl) ?_
   refine run_region_end ?_
   refine run_ret Tryd.func15 (res1 rfl (res_tmp (v := .bool true) rfl)) ?_
   have q0 : (true : Bool) = true := rfl
   refine ⟨_, rfl, (fun _ => none), ?_, ?_⟩
   · exact S11.sub [] (by decide) rfl _ rfl
   · rfl
  ·skip
   refine p_v (v := .agg ((encPart d.part) ++ ([.slice A0_1 d.next.length c0_1, .slice A0_2 d.final.length c0_2] : List Value)).toArray) rfl (wanted_of (j := 7) (want := false) (d := 14) (b := false) rfl rfl (congrArg Value.bool (decide_eq_false hc9)) rfl) rfl (x_load (seg := ((encPart d.part) ++ ([.slice A0_1 d.next.length c0_1, .slice A0_2 d.final.length c0_2] : List Value))) ty35 (len_app (encPart_len o0_0) rfl) (by simp) rfl (CF.box (m := 259) (S4.box_at (j := 0) rfl) (take_all (len_app (encPart_len o0_0) rfl)))) ?_
   refine p_c rfl (wanted_of (j := 7) (want := false) (d := 14) (b := false) rfl rfl (congrArg Value.bool (decide_eq_false hc9)) rfl) rfl (y_call (args := [.agg ((encPart d.part) ++ ([.slice A0_1 d.next.length c0_1, .slice A0_2 d.final.length c0_2] : List Value)).toArray]) ca48 rfl rfl) (rightD_calls w3 d o0_0 A0_1 c0_1 b0_1 (l0_1.mono (St.le0 S4)) A0_2 c0_2 b0_2 (l0_2.mono (St.le0 S4))) ?_
   rintro _ w13 ⟨h13, T13, rfl⟩
   have S14 := S4.keep (Chg.of_below T13.below)
   refine p_v (v := .bool (!(rightD d))) rfl (wanted_of (j := 7) (want := false) (d := 14) (b := false) rfl rfl (congrArg Value.bool (decide_eq_false hc9)) rfl) rfl (x_not rfl) ?_
   refine p_v (v := .bool (!(rightD d))) rfl rfl rfl (x_pick_f (congrArg Value.bool (decide_eq_false hc9)) rfl) ?_
   refine run_region_end ?_
   refine run_cond_nsplit (b := rightD d) rfl (fun hc15 => ?_) (fun hc15 => ?_)
   ·skip
    refine run_seq ?_
    refine run_reg (l := [0, 1]) rfl ?_
    refine p_c rfl rfl rfl (y_call (args := []) ca55 rfl rfl) (awake13_calls w13  (Block.st S14 tb)) ?_
    rintro _ w16 ⟨h16, T16, rfl⟩
    have S17 := S14.keep (Chg.of_below T16.below)
    refine p_v (v := .bool true) rfl rfl rfl (x_assign rfl) ?_
    refine run_region_end ?_
    refine run_ret Tryd.func15 (res1 rfl (res_tmp (v := .bool true) rfl)) ?_
    have q0 : (true : Bool) = true := rfl
    refine ⟨_, rfl, (fun _ => none), ?_, ?_⟩
    · exact S17.sub [] (by decide) rfl _ rfl
    · rfl
   ·skip
    refine run_skip ?_
    refine run_seq ?_
    refine run_reg (l := [0, 1, 2, 3, 4, 5, 6]) rfl ?_
    refine p_v (v := .agg ((encPart d.part) ++ ([.slice A0_1 d.next.length c0_1, .slice A0_2 d.final.length c0_2] : List Value)).toArray) rfl rfl rfl (x_load (seg := ((encPart d.part) ++ ([.slice A0_1 d.next.length c0_1, .slice A0_2 d.final.length c0_2] : List Value))) ty35 (len_app (encPart_len o0_0) rfl) (by simp) rfl (CF.box (m := 259) (S14.box_at (j := 0) rfl) (take_all (len_app (encPart_len o0_0) rfl)))) ?_
    refine p_c rfl rfl rfl (y_call (args := [.agg ((encPart d.part) ++ ([.slice A0_1 d.next.length c0_1, .slice A0_2 d.final.length c0_2] : List Value)).toArray]) ca58 rfl rfl) (wordD_calls w13 d o0_0 A0_1 c0_1 b0_1 (l0_1.mono (St.le0 S14)) A0_2 c0_2 b0_2 (l0_2.mono (St.le0 S14)) (by first | assumption | omega | decide) (Block.st S14 tb)) ?_
    rintro _ w19 ⟨h19, T19, rfl, sz19_0, fx19⟩
    have S20 := S14.keep (Chg.of_below T19.below)
    have bd_sz19_0 := sz19_0; simp only [maxLen] at bd_sz19_0
    have hwA_ := fx19.1; have hwB_ := fx19.2
    refine p_v (v := .tuple #[.string (wordW (runD d)), .bool (okW (runD d))]) rfl rfl rfl (x_move rfl) ?_
    refine p_v (v := .string (wordW (runD d))) rfl rfl rfl (x_extract (vs := [.string (wordW (runD d)), .bool (okW (runD d))]) rfl rfl) ?_
    refine p_v (v := .bool (okW (runD d))) rfl rfl rfl (x_extract (vs := [.string (wordW (runD d)), .bool (okW (runD d))]) rfl rfl) ?_
    refine p_v (v := .string (wordW (runD d))) rfl rfl rfl (x_assign rfl) ?_
    refine p_v (v := .bool (okW (runD d))) rfl rfl rfl (x_assign rfl) ?_
    refine run_region_end ?_
    refine run_seq ?_
    refine run_seq ?_
    refine run_reg (l := [0, 1]) rfl ?_
    refine p_v (v := .bool (okW (runD d))) rfl rfl rfl (x_move rfl) ?_
    refine p_v (v := .bool (!(okW (runD d)))) rfl rfl rfl (x_not rfl) ?_
    refine run_region_end ?_
    refine run_cond_nsplit (b := okW (runD d)) rfl (fun hc21 => ?_) (fun hc21 => ?_)
    ·skip
     have hkn_ := word_not hc21; have hkb_ := hwB_ hc21
     refine run_seq ?_
     refine run_reg (l := [0, 1, 2, 3, 4, 5, 6, 7, 8, 9, 10, 11]) rfl ?_
     refine p_v (v := .string (wordW (runD d))) rfl rfl rfl (x_move rfl) ?_
     refine p_v (v := .bool (decide ((wordW (runD d)) = (⟨#[]⟩ : ByteArray)))) rfl rfl rfl (x_eql_string rfl rfl) ?_
     refine p_v (v := .bool (decide ((wordW (runD d)) = (⟨#[]⟩ : ByteArray)))) rfl rfl rfl (x_move rfl) ?_
     have hc22 : ((wordW (runD d)) = (⟨#[]⟩ : ByteArray)) := by
      exact hkn_
     refine p_v (v := .agg ((encPart d.part) ++ ([.slice A0_1 d.next.length c0_1, .slice A0_2 d.final.length c0_2] : List Value)).toArray) rfl (wanted_of (j := 2) (want := true) (d := 29) (b := true) rfl rfl (congrArg Value.bool (decide_eq_true hc22)) rfl) rfl (x_load (seg := ((encPart d.part) ++ ([.slice A0_1 d.next.length c0_1, .slice A0_2 d.final.length c0_2] : List Value))) ty35 (len_app (encPart_len o0_0) rfl) (by simp) rfl (CF.box (m := 259) (S20.box_at (j := 0) rfl) (take_all (len_app (encPart_len o0_0) rfl)))) ?_
     refine p_v (v := .string xw) rfl (wanted_of (j := 2) (want := true) (d := 29) (b := true) rfl rfl (congrArg Value.bool (decide_eq_true hc22)) rfl) rfl (x_move rfl) ?_
     refine p_c rfl (wanted_of (j := 2) (want := true) (d := 29) (b := true) rfl rfl (congrArg Value.bool (decide_eq_true hc22)) rfl) rfl (y_call (args := [.agg ((encPart d.part) ++ ([.slice A0_1 d.next.length c0_1, .slice A0_2 d.final.length c0_2] : List Value)).toArray, .string xw]) ca24 rfl rfl) (runD_calls w19 d o0_0 A0_1 c0_1 b0_1 (l0_1.mono (St.le0 S20)) A0_2 c0_2 b0_2 (l0_2.mono (St.le0 S20)) xw s1) ?_
     rintro _ w23 ⟨h23, T23, rfl⟩
     have S24 := S20.keep (Chg.of_below T23.below)
     refine p_v (v := .bool (!(runD d xw))) rfl (wanted_of (j := 2) (want := true) (d := 29) (b := true) rfl rfl (congrArg Value.bool (decide_eq_true hc22)) rfl) rfl (x_not rfl) ?_
     refine p_v (v := .bool (!(runD d xw))) rfl rfl rfl (x_pick_t (congrArg Value.bool (decide_eq_true hc22)) rfl) ?_
     refine p_v (v := .bool (!(runD d xw))) rfl rfl rfl (x_move rfl) ?_
     have hc25 : (runD d xw) = false := by
      exact hkb_ _
     refine p_c rfl (wanted_of (j := 8) (want := true) (d := 35) (b := true) rfl rfl (congrArg (fun z => Value.bool (!z)) hc25) rfl) rfl (y_call (args := []) ca55 rfl rfl) (awake13_calls w23  (Block.st S24 tb)) ?_
     rintro _ w26 ⟨h26, T26, rfl⟩
     have S27 := S24.keep (Chg.of_below T26.below)
     refine p_v (v := .bool true) rfl rfl rfl (x_pick_t (congrArg (fun z => Value.bool (!z)) hc25) rfl) ?_
     refine p_v (v := .bool true) rfl rfl rfl (x_assign rfl) ?_
     refine run_region_end ?_
     refine run_ret Tryd.func15 (res1 rfl (res_tmp (v := .bool true) rfl)) ?_
     have q0 : (true : Bool) = true := rfl
     refine ⟨_, rfl, (fun _ => none), ?_, ?_⟩
     · exact S27.sub [] (by decide) rfl _ rfl
     · rfl
    ·skip
     have hk_ := word_ok hc21; have hka_ := hwA_ hc21
     refine run_skip ?_
     refine run_seq ?_
     refine run_reg (l := [0, 1, 2, 3, 4, 5, 6, 7, 8, 9, 10, 11, 12, 13, 14, 15, 16, 17, 18, 19, 20, 21, 22, 23, 24, 25, 26]) rfl ?_
     refine p_v (v := .agg ((encPart d.part) ++ ([.slice A0_1 d.next.length c0_1, .slice A0_2 d.final.length c0_2] : List Value)).toArray) rfl rfl rfl (x_load (seg := ((encPart d.part) ++ ([.slice A0_1 d.next.length c0_1, .slice A0_2 d.final.length c0_2] : List Value))) ty35 (len_app (encPart_len o0_0) rfl) (by simp) rfl (CF.box (m := 259) (S20.box_at (j := 0) rfl) (take_all (len_app (encPart_len o0_0) rfl)))) ?_
     refine p_v (v := .string (wordW (runD d))) rfl rfl rfl (x_move rfl) ?_
     refine p_c rfl rfl rfl (y_call (args := [.agg ((encPart d.part) ++ ([.slice A0_1 d.next.length c0_1, .slice A0_2 d.final.length c0_2] : List Value)).toArray, .string (wordW (runD d))]) ca24 rfl rfl) (runD_calls w19 d o0_0 A0_1 c0_1 b0_1 (l0_1.mono (St.le0 S20)) A0_2 c0_2 b0_2 (l0_2.mono (St.le0 S20)) (wordW (runD d)) sz19_0) ?_
     rintro _ w29 ⟨h29, T29, rfl⟩
     have S30 := S20.keep (Chg.of_below T29.below)
     refine p_v (v := .bool (runD d (wordW (runD d)))) rfl rfl rfl (x_move rfl) ?_
     have hc31 : (runD d (wordW (runD d))) = true := by
      exact hk_.1
     refine p_v (v := .string (wordW (runD d))) rfl (wanted_of (j := 3) (want := true) (d := 41) (b := true) rfl rfl (congrArg Value.bool hc31) rfl) rfl (x_move rfl) ?_
     refine p_v (v := .int .i64 ((wordW (runD d)).size : Int)) rfl (wanted_of (j := 3) (want := true) (d := 41) (b := true) rfl rfl (congrArg Value.bool hc31) rfl) rfl (x_len_string u9 rfl) ?_
     refine p_v (v := .pointer (some ⟨b1, 257, none⟩)) rfl (wanted_of (j := 3) (want := true) (d := 41) (b := true) rfl rfl (congrArg Value.bool hc31) rfl) rfl (x_fieldAt fd35_1 ty24 rfl rfl) ?_
     refine p_v (v := .slice A0_1 d.next.length c0_1) rfl (wanted_of (j := 3) (want := true) (d := 41) (b := true) rfl rfl (congrArg Value.bool hc31) rfl) rfl (x_load (seg := [.slice A0_1 d.next.length c0_1]) ty24 rfl (by simp) rfl (CF.box (m := 1) (S30.box_at (j := 0) rfl) (seg_mid2 (a := (encPart d.part)) (pre := []) (seg := [.slice A0_1 d.next.length c0_1]) (post := [.slice A0_2 d.final.length c0_2]) (encPart_len o0_0) rfl rfl))) ?_
     refine p_v (v := .int .i64 (d.next.length : Int)) rfl (wanted_of (j := 3) (want := true) (d := 41) (b := true) rfl rfl (congrArg Value.bool hc31) rfl) rfl (x_len_slice u24 rfl) ?_
     refine p_v (v := .bool (decide (((wordW (runD d)).size : Int) < (d.next.length : Int)))) rfl (wanted_of (j := 3) (want := true) (d := 41) (b := true) rfl rfl (congrArg Value.bool hc31) rfl) rfl (x_lss rfl rfl) ?_
     refine p_v (v := .bool (decide (((wordW (runD d)).size : Int) < (d.next.length : Int)))) rfl rfl rfl (x_pick_t (congrArg Value.bool hc31) rfl) ?_
     refine p_v (v := .bool (decide (((wordW (runD d)).size : Int) < (d.next.length : Int)))) rfl rfl rfl (x_move rfl) ?_
     have hc32 : (((wordW (runD d)).size : Int) < (d.next.length : Int)) := by
      omega
     refine p_v (v := .agg ((encPart d.part) ++ ([.slice A0_1 d.next.length c0_1, .slice A0_2 d.final.length c0_2] : List Value)).toArray) rfl (wanted_of (j := 11) (want := true) (d := 49) (b := true) rfl rfl (congrArg Value.bool (decide_eq_true hc32)) rfl) rfl (x_load (seg := ((encPart d.part) ++ ([.slice A0_1 d.next.length c0_1, .slice A0_2 d.final.length c0_2] : List Value))) ty35 (len_app (encPart_len o0_0) rfl) (by simp) rfl (CF.box (m := 259) (S30.box_at (j := 0) rfl) (take_all (len_app (encPart_len o0_0) rfl)))) ?_
     refine p_v (v := .string xw) rfl (wanted_of (j := 11) (want := true) (d := 49) (b := true) rfl rfl (congrArg Value.bool (decide_eq_true hc32)) rfl) rfl (x_move rfl) ?_
     refine p_c rfl (wanted_of (j := 11) (want := true) (d := 49) (b := true) rfl rfl (congrArg Value.bool (decide_eq_true hc32)) rfl) rfl (y_call (args := [.agg ((encPart d.part) ++ ([.slice A0_1 d.next.length c0_1, .slice A0_2 d.final.length c0_2] : List Value)).toArray, .string xw]) ca24 rfl rfl) (runD_calls w29 d o0_0 A0_1 c0_1 b0_1 (l0_1.mono (St.le0 S30)) A0_2 c0_2 b0_2 (l0_2.mono (St.le0 S30)) xw s1) ?_
     rintro _ w33 ⟨h33, T33, rfl⟩
     have S34 := S30.keep (Chg.of_below T33.below)
     refine p_v (v := .bool (!(runD d xw))) rfl (wanted_of (j := 11) (want := true) (d := 49) (b := true) rfl rfl (congrArg Value.bool (decide_eq_true hc32)) rfl) rfl (x_not rfl) ?_
     refine p_v (v := .bool (!(runD d xw))) rfl (wanted_of (j := 11) (want := true) (d := 49) (b := true) rfl rfl (congrArg Value.bool (decide_eq_true hc32)) rfl) rfl (x_move rfl) ?_
     rcases Bool.eq_false_or_eq_true (runD d xw) with hc35 | hc35
     ·skip
      refine p_v (v := .string xw) rfl (wanted_of (j := 16) (want := false) (d := 54) (b := false) rfl rfl (congrArg (fun z => Value.bool (!z)) hc35) rfl) rfl (x_move rfl) ?_
      refine p_v (v := .string (wordW (runD d))) rfl (wanted_of (j := 16) (want := false) (d := 54) (b := false) rfl rfl (congrArg (fun z => Value.bool (!z)) hc35) rfl) rfl (x_move rfl) ?_
      refine p_c rfl (wanted_of (j := 16) (want := false) (d := 54) (b := false) rfl rfl (congrArg (fun z => Value.bool (!z)) hc35) rfl) rfl (y_call (args := [.string xw, .string (wordW (runD d))]) ca56 rfl rfl) (less_calls w33 xw s1 (wordW (runD d)) sz19_0) ?_
      rintro _ w36 ⟨h36, T36, rfl⟩
      have S37 := S34.keep (Chg.of_below T36.below)
      refine p_v (v := .bool (!(lessW xw (wordW (runD d))))) rfl (wanted_of (j := 16) (want := false) (d := 54) (b := false) rfl rfl (congrArg (fun z => Value.bool (!z)) hc35) rfl) rfl (x_not rfl) ?_
      refine p_v (v := .bool (!(lessW xw (wordW (runD d))))) rfl (wanted_of (j := 11) (want := true) (d := 49) (b := true) rfl rfl (congrArg Value.bool (decide_eq_true hc32)) rfl) rfl (x_pick_f (congrArg (fun z => Value.bool (!z)) hc35) rfl) ?_
      refine p_v (v := .bool (!(lessW xw (wordW (runD d))))) rfl rfl rfl (x_pick_t (congrArg Value.bool (decide_eq_true hc32)) rfl) ?_
      refine p_v (v := .bool (!(lessW xw (wordW (runD d))))) rfl rfl rfl (x_move rfl) ?_
      have hc38 : (lessW xw (wordW (runD d))) = false := by
       exact hk_.2 _ (by assumption)
      refine p_c rfl (wanted_of (j := 23) (want := true) (d := 61) (b := true) rfl rfl (congrArg (fun z => Value.bool (!z)) hc38) rfl) rfl (y_call (args := []) ca55 rfl rfl) (awake13_calls w36  (Block.st S37 tb)) ?_
      rintro _ w39 ⟨h39, T39, rfl⟩
      have S40 := S37.keep (Chg.of_below T39.below)
      refine p_v (v := .bool true) rfl rfl rfl (x_pick_t (congrArg (fun z => Value.bool (!z)) hc38) rfl) ?_
      refine p_v (v := .bool true) rfl rfl rfl (x_assign rfl) ?_
      refine run_region_end ?_
      refine run_ret Tryd.func15 (res1 rfl (res_tmp (v := .bool true) rfl)) ?_
      have q0 : (true : Bool) = true := rfl
      refine ⟨_, rfl, (fun _ => none), ?_, ?_⟩
      · exact S40.sub [] (by decide) rfl _ rfl
      · rfl
     ·skip
      refine p_off rfl (wanted_of (j := 16) (want := false) (d := 54) (b := true) rfl rfl (congrArg (fun z => Value.bool (!z)) hc35) rfl) rfl ?_
      refine p_off rfl (wanted_of (j := 16) (want := false) (d := 54) (b := true) rfl rfl (congrArg (fun z => Value.bool (!z)) hc35) rfl) rfl ?_
      refine p_off rfl (wanted_of (j := 16) (want := false) (d := 54) (b := true) rfl rfl (congrArg (fun z => Value.bool (!z)) hc35) rfl) rfl ?_
      refine p_off rfl (wanted_of (j := 16) (want := false) (d := 54) (b := true) rfl rfl (congrArg (fun z => Value.bool (!z)) hc35) rfl) rfl ?_
      refine p_v (v := .bool true) rfl (wanted_of (j := 11) (want := true) (d := 49) (b := true) rfl rfl (congrArg Value.bool (decide_eq_true hc32)) rfl) rfl (x_pick_t (congrArg (fun z => Value.bool (!z)) hc35) rfl) ?_
      refine p_v (v := .bool true) rfl rfl rfl (x_pick_t (congrArg Value.bool (decide_eq_true hc32)) rfl) ?_
      refine p_v (v := .bool true) rfl rfl rfl (x_move rfl) ?_
      refine p_c rfl rfl rfl (y_call (args := []) ca55 rfl rfl) (awake13_calls w33  (Block.st S34 tb)) ?_
      rintro _ w42 ⟨h42, T42, rfl⟩
      have S43 := S34.keep (Chg.of_below T42.below)
      refine p_v (v := .bool true) rfl rfl rfl (x_pick_t rfl rfl) ?_
      refine p_v (v := .bool true) rfl rfl rfl (x_assign rfl) ?_
      refine run_region_end ?_
      refine run_ret Tryd.func15 (res1 rfl (res_tmp (v := .bool true) rfl)) ?_
      have q0 : (true : Bool) = true := rfl
      refine ⟨_, rfl, (fun _ => none), ?_, ?_⟩
      · exact S43.sub [] (by decide) rfl _ rfl
      · rfl
end Go.Proofs.YtfoemogojbnfhaaDoor
namespace Gx
open Go Go.RowKit
set_option linter.unusedSimpArgs false
set_option linter.unusedSectionVars false
set_option linter.unusedVariables false
def Opens {α : Type} (P : Program) (k : Kd α) (t : TypeId) : Prop :=
  ∀ {H : Type} {enc : TypeId × Value → H} {w : World} {spare : Nat → Bool} {held : Bool} {fuel : Nat} {cs : List Value} {x : DataW H × List MemPlace}, DataW.trod enc P w 0 spare held fuel t cs = some x → ∃ m, k.rep (hp w) m cs
section
variable {P : Program} {t e : TypeId}
theorem inK_wf {k : IntKind} {n : Int} (h : (Lit.int k n).wf = true) : inK k n := by
  simp only [Lit.wf, Bool.and_eq_true, decide_eq_true_eq] at h
  exact h
theorem Opens.int {k : IntKind} (ht : P.underlying t = some (.int k)) : Opens P (Kd.int k) t := fun h => by
  obtain ⟨n, rfl, _, hw⟩ := DataW.trod_int ht h
  exact ⟨n, rfl, inK_wf hw⟩
theorem Opens.bool (ht : P.underlying t = some .bool) : Opens P Kd.bool t := fun h => by
  obtain ⟨b, rfl, _⟩ := DataW.trod_bool ht h
  exact ⟨b, rfl, trivial⟩
theorem Opens.string (ht : P.underlying t = some .string) : Opens P Kd.string t := fun h => by
  obtain ⟨s, rfl, _, hs⟩ := DataW.trod_string ht h
  exact ⟨s, rfl, hs⟩
theorem exists_list {α : Type} {Q : Nat → α → Prop} : ∀ (n : Nat), (∀ i, i < n → ∃ m, Q i m) → ∃ l : List α, l.length = n ∧ ∀ i m, l[i]? = some m → Q i m
  | 0, _ => ⟨[], rfl, fun i m h => by simp at h⟩
  | n + 1, h => by
    obtain ⟨l, hl, hq⟩ := exists_list n fun i hi => h i (by omega)
    obtain ⟨m, hm⟩ := h n (by omega)
    refine ⟨l ++ [m], by simp [hl], fun i y hy => ?_⟩
    rw [List.getElem?_append] at hy
    split at hy
    · exact hq i y hy
    · rename_i hi
      have e : i - l.length = 0 := by
        rcases Nat.eq_zero_or_pos (i - l.length) with h0 | h0
        · exact h0
        · rw [List.getElem?_eq_none (by simp; omega)] at hy; cases hy
      rw [e] at hy
      simp at hy
      subst hy
      have : i = n := by omega
      rw [this]; exact hm
theorem Opens.ints {k : IntKind} {n : Nat} (hn : 0 < n) (ht : P.underlying t = some (.array n e)) (he : P.underlying e = some (.int k)) (hc : P.cellsOf e = 1) (hct : P.cellsOf t = n) : Opens P (kInts k n hn) t := fun {H enc w spare held fuel cs x} h => by
  obtain ⟨xs, m, _, _, hl, hx, hel⟩ := DataW.trod_array ht h
  rw [hct] at hl
  have h1 : ∀ i, i < n → ∃ z : Int, cs[i]? = some (.int k z) ∧ inK k z := fun i hi => by
    have h2 := hel i hi
    rw [hc, Nat.mul_one, List.getElem?_eq_getElem (by omega)] at h2
    obtain ⟨z, hz, _, hw⟩ := DataW.trod_int he h2
    refine ⟨z, ?_, inK_wf hw⟩
    have h3 := congrArg (fun l : List Value => l[0]?) hz
    simpa [List.getElem?_take, List.getElem?_drop] using h3
  obtain ⟨l, hll, hq⟩ := exists_list n h1
  refine ⟨l, ?_, hll, fun z hz => ?_⟩
  · apply List.ext_getElem?
    intro i
    rw [encInts, List.getElem?_map]
    by_cases hi : i < n
    · have h4 := hq i (l[i]'(by omega)) (List.getElem?_eq_getElem _)
      rw [h4.1, List.getElem?_eq_getElem (by omega)]; rfl
    · rw [List.getElem?_eq_none (by omega), List.getElem?_eq_none (by omega)]; rfl
  · obtain ⟨i, hi⟩ := List.mem_iff_getElem?.1 hz
    exact (hq i z hi).2
theorem Opens.set (ht : P.underlying t = some (.array 4 e)) (he : P.underlying e = some (.int .u64)) (hc : P.cellsOf e = 1) (hct : P.cellsOf t = 4) : Opens P kSet t := fun h => by
  obtain ⟨l, hl, hok⟩ := Opens.ints (n := 4) (by omega) ht he hc hct h
  exact ⟨ofWords l, by rw [hl, encSet_of hok], trivial⟩
theorem Opens.slice {α : Type} {k : Kd α} (ht : P.underlying t = some (.slice e)) (hc : P.cellsOf e = k.sz) (ho : Opens P k e) : Opens P k.slice t := fun {H enc w spare held fuel cs x} h => by
  rcases DataW.trod_slice ht h with ⟨rfl, _⟩ | ⟨a, len, cap, elems, rest, n, _, rfl, _, _, hl, hm, hlen, hel, _, _⟩
  · exact ⟨[], none, 0, rfl, Nat.le_refl _, by simp [maxLen], fun hne => (hne rfl).elim⟩
  · rw [hc] at hel
    have h1 : ∀ i, i < len → ∃ m, ∃ seg, k.rep (hp w) m seg ∧ ∀ j v, seg[j]? = some v → gcell (hp w) (a.add (i * k.sz + j)) = some v := fun i hi => by
      have h2 := hel i hi
      rw [List.getElem?_eq_getElem (by omega)] at h2
      obtain ⟨seg, hseg, hd⟩ := Option.bind_eq_some_iff.1 h2
      obtain ⟨m, hr⟩ := ho hd
      refine ⟨m, seg, hr, fun j v hj => ?_⟩
      obtain ⟨_, hlen2, hcell⟩ := World.cells?_some hseg
      have hjl : j < k.sz := by
        have := (List.getElem?_eq_some_iff.1 hj).1
        rw [k.len hr] at this; exact this
      have h5 := hcell j hjl
      rw [hj] at h5
      rw [Addr.add_add] at h5
      show gcell (hp w) _ = _
      unfold gcell hp
      unfold World.cell? at h5
      exact h5
    obtain ⟨l, hll, hq⟩ := exists_list len h1
    refine ⟨l, some a, cap, by rw [hll], by omega, hm, fun _ => ⟨a, rfl, hq⟩⟩
end
end Gx
namespace Gx
open Go Go.RowKit
set_option linter.unusedSimpArgs false
set_option linter.unusedSectionVars false
set_option linter.unusedVariables false
section
variable {P : Program} {t : TypeId}
theorem trod_field {H : Type} {enc : TypeId × Value → H} {w : World} {spare : Nat → Bool} {held : Bool} {fuel : Nat} {cs : List Value} {x : DataW H × List MemPlace} {α : Type} {k : Kd α} {q o ft : Nat} (hf : fieldInfo P t q = some (o, ft)) (hc : P.cellsOf ft = k.sz) (ho : Opens P k ft) (h : DataW.trod enc P w 0 spare held fuel t cs = some x) : ∃ m, k.rep (hp w) m ((cs.drop o).take k.sz) := by
  obtain ⟨fs, fd, hu, hq, rfl, rfl⟩ := fieldInfo_parts hf
  obtain ⟨xs, n, _, _, _, hl, hp⟩ := DataW.trod_struct hu h
  have h1 := hp q fd hq
  have hlt : q < fs.size := (Array.getElem?_eq_some_iff.1 hq).1
  rw [hc, List.getElem?_eq_getElem (by omega)] at h1
  exact ho h1
theorem trod_len {H : Type} {enc : TypeId × Value → H} {w : World} {spare : Nat → Bool} {held : Bool} {fuel : Nat} {cs : List Value} {x : DataW H × List MemPlace} {q o ft : Nat} (hf : fieldInfo P t q = some (o, ft)) (h : DataW.trod enc P w 0 spare held fuel t cs = some x) : cs.length = P.cellsOf t := by
  obtain ⟨fs, fd, hu, hq, rfl, rfl⟩ := fieldInfo_parts hf
  obtain ⟨xs, n, _, _, hl, _, _⟩ := DataW.trod_struct hu h
  exact hl
theorem Opens.spot {a b : TypeId} (h0 : fieldInfo P t 0 = some (0, a)) (h1 : fieldInfo P t 1 = some (4, b)) (hc : P.cellsOf t = 5) (ha : P.cellsOf a = 4) (hb : P.cellsOf b = 1) (oa : Opens P kSet a) (ob : Opens P (Kd.int .u8) b) : Opens P kSpot t := fun {H enc w spare held fuel cs x} h => by
  obtain ⟨s, e0, _⟩ := trod_field h0 ha oa h
  obtain ⟨n, e1, hn⟩ := trod_field h1 hb ob h
  have hl := trod_len h0 h
  rw [hc] at hl
  refine ⟨⟨s, n⟩, ?_, hn⟩
  have e2 : cs = (cs.drop 0).take 4 ++ (cs.drop 4).take 1 := by
    rw [List.drop_zero, List.take_of_length_le (l := cs.drop 4) (by simp; omega), List.take_append_drop]
  rw [e2]
  show (cs.drop 0).take kSet.sz ++ (cs.drop 4).take (Kd.int .u8).sz = _
  rw [e0, e1]; rfl
end
end Gx
namespace Gx
open Go Go.RowKit
set_option linter.unusedSimpArgs false
set_option linter.unusedSectionVars false
set_option linter.unusedVariables false
section
variable {P : Program} {t : TypeId}
theorem parts_of {cs : List Value} {n m : Nat} (h : cs.length = n + m) : cs = (cs.drop 0).take n ++ (cs.drop n).take m := by
  rw [List.drop_zero, List.take_of_length_le (l := cs.drop n) (by simp; omega), List.take_append_drop]
theorem Opens.part {a b : TypeId} (h0 : fieldInfo P t 0 = some (0, a)) (h1 : fieldInfo P t 1 = some (256, b)) (hc : P.cellsOf t = 257) (ha : P.cellsOf a = 256) (hb : P.cellsOf b = 1) (oa : Opens P (kInts .u8 256 (by decide)) a) (ob : Opens P (Kd.int .i64) b) : Opens P kPart t := fun {H enc w spare held fuel cs x} h => by
  obtain ⟨l, e0, ok⟩ := trod_field (k := kInts .u8 256 (by decide)) h0 ha oa h
  obtain ⟨n, e1, hn⟩ := trod_field h1 hb ob h
  have hl := trod_len h0 h
  rw [hc] at hl
  refine ⟨⟨l, n⟩, ?_, ok, hn⟩
  rw [parts_of (n := 256) (m := 1) hl]
  show (cs.drop 0).take (kInts .u8 256 (by decide)).sz ++ (cs.drop 256).take (Kd.int .i64).sz = _
  rw [e0, e1]; rfl
def kDfa : Kd Dfa where
  sz := 259
  pos := by omega
  rep := fun h d cs => ∃ A1 c1 A2 c2, cs = encPart d.part ++ [.slice A1 d.next.length c1, .slice A2 d.final.length c2] ∧ okPart d.part ∧
    ((d.next.length ≤ c1 ∧ c1 ≤ maxLen) ∧ Leads (Kd.int .i64).slice h A1 d.next) ∧ ((d.final.length ≤ c2 ∧ c2 ≤ maxLen) ∧ Leads Kd.bool h A2 d.final)
  mono := fun hl ⟨A1, c1, A2, c2, e, o, h1, h2⟩ => ⟨A1, c1, A2, c2, e, o, ⟨h1.1, h1.2.mono hl⟩, ⟨h2.1, h2.2.mono hl⟩⟩
  len := fun ⟨_, _, _, _, e, o, _⟩ => by rw [e, List.length_append, encPart_len o]; rfl
  one := fun ⟨_, _, _, _, e, _⟩ u hu => by
    rw [e] at hu
    rcases List.mem_append.1 hu with hu | hu
    · exact encPart_one _ u hu
    · exact one_cons rfl (one_cons rfl one_nil) u hu
theorem Opens.dfa {t0 t1 t2 : TypeId} (h0 : fieldInfo P t 0 = some (0, t0)) (h1 : fieldInfo P t 1 = some (257, t1)) (h2 : fieldInfo P t 2 = some (258, t2)) (hc : P.cellsOf t = 259) (c0 : P.cellsOf t0 = 257) (c1 : P.cellsOf t1 = 1) (c2 : P.cellsOf t2 = 1)
    (o0 : Opens P kPart t0) (o1 : Opens P (Kd.int .i64).slice.slice t1) (o2 : Opens P Kd.bool.slice t2) : Opens P kDfa t := fun {H enc w spare held fuel cs x} h => by
  obtain ⟨m0, e0, ok⟩ := trod_field (k := kPart) h0 c0 o0 h
  obtain ⟨m1, A1, d1, e1, b1, b1', l1⟩ := trod_field h1 c1 o1 h
  obtain ⟨m2, A2, d2, e2, b2, b2', l2⟩ := trod_field h2 c2 o2 h
  have hl := trod_len h0 h
  rw [hc] at hl
  refine ⟨⟨m0, m1, m2⟩, A1, d1, A2, d2, ?_, ok, ⟨⟨b1, b1'⟩, l1⟩, ⟨⟨b2, b2'⟩, l2⟩⟩
  have p2 : (cs.drop 257) = ((cs.drop 257).drop 0).take 1 ++ ((cs.drop 257).drop 1).take 1 := parts_of (n := 1) (m := 1) (by rw [List.length_drop]; omega)
  have p1 : cs = (cs.drop 0).take 257 ++ cs.drop 257 := by rw [List.drop_zero, List.take_append_drop]
  rw [p1, p2, List.drop_drop, List.drop_drop]
  have e0' : (cs.drop 0).take 257 = encPart m0 := e0
  have e1' : (cs.drop 257).take 1 = [.slice A1 m1.length d1] := e1
  have e2' : (cs.drop 258).take 1 = [.slice A2 m2.length d2] := e2
  rw [e0', show 257 + 0 = 257 from rfl, show 257 + 1 = 258 from rfl, e1', e2']; rfl
end
end Gx
namespace Go.Proofs.YtfoemogojbnfhaaDoor
open Go Go.ChangeShapes Go.WideShapes Go.ChangeAt Go.RowKit Gx
set_option linter.unusedVariables false
theorem own : ownKnob Tryd.prog.godebug = none := by kernel_rfl
theorem laidOut : laidOutB Tryd.prog = true := by kernel_rfl
def laid : List (String × DataW Unit) := [("math/bits.deBruijn64tab", Rows.laid_math_bits_deBruijn64tab)]
theorem gTab : Tryd.prog.globalNamed "math/bits.deBruijn64tab" = some 0 := by kernel_rfl
theorem tTab : (Tryd.prog.globals[0]?).map (·.type) = some 222 := by kernel_rfl
theorem door_met (os : Os) (args : Array Value) : laidMetH Tryd.prog laid ((World.doorLaid Tryd.prog 4000 os).forCall (fun _ _ => 0) ⟨#[], args, []⟩).memory :=
  laidMetH_of_parts3 (fuel := 8) (laidMet_of_run' 8 (by kernel_rfl) (by kernel_rfl)) (by kernel_rfl) (by kernel_rfl)
set_option maxRecDepth 20000 in
theorem tab_of_laid {W : World} (h : laidMetH Tryd.prog laid W) : Block 0 tzTab W := by
  rw [MakeChecks.laidMetH_plain _ _ _ (by kernel_rfl)] at h
  obtain ⟨ps, ⟨g0, t0, cs0, f0, p0, q0, hg0, ht0, hv0, hd0, _⟩, _, _⟩ := h
  obtain rfl := Option.some.inj (gTab.symm.trans hg0)
  obtain rfl := Option.some.inj (tTab.symm.trans ht0)
  obtain ⟨xs, m, _, hx, hl, hn, hel⟩ := DataW.trod_array (n := 64) (e := 5) (by kernel_rfl) hd0
  have c5 : Tryd.prog.cellsOf 5 = 1 := by kernel_rfl
  have c70 : Tryd.prog.cellsOf 222 = 64 := by kernel_rfl
  rw [c70] at hl
  intro j hj
  have hj64 : j < 64 := hj
  rw [World.var?_cell hg0 hv0 j]
  have h2 := hel j hj64
  rw [c5, Nat.mul_one, List.getElem?_eq_getElem (by omega)] at h2
  obtain ⟨z, hz, hzx, _⟩ := DataW.trod_int (k := .u8) (by kernel_rfl) h2
  have h3 := congrArg (fun l : List Value => l[0]?) hz
  simp only [List.getElem?_take, List.getElem?_drop, List.getElem?_cons_zero, Nat.add_zero] at h3
  have h4 : cs0[j]? = some (.int .u8 z) := by rw [← Array.getElem?_toList]; simpa using h3
  rw [h4]
  simp only [Prod.mk.injEq] at hx
  have h6 : (xs.map (·.1))[j]? = some (.lit (.int .u8 z)) := by rw [List.getElem?_map, List.getElem?_eq_getElem (by omega), Option.map_some, hzx]
  have h7 : Rows.laid_math_bits_deBruijn64tab (H := Unit) = .agg (tzTab.map fun v => match v with | .int k n => .lit (.int k n) | _ => .nil) := by kernel_rfl
  rw [h7] at hx
  injection hx.1 with h8
  rw [← h8] at h6
  have h9 : ∀ j, j < 64 → ∃ n, tzTab[j]? = some (.int .u8 n) := fun j hj => ⟨_, by unfold tzTab; rw [List.getElem?_map, List.getElem?_eq_getElem (by exact hj)]; rfl⟩
  obtain ⟨n, hn9⟩ := h9 j hj64
  rw [List.getElem?_map, hn9] at h6
  simp at h6
  rw [hn9, h6]
end Go.Proofs.YtfoemogojbnfhaaDoor
