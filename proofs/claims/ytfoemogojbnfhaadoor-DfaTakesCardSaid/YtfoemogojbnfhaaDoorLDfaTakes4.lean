/- My own library for walks through the translated code, and the walks of the functions that the law DfaTakes comes to, part 5; no conditions but those that each contract tells. -/
import Derived.Test.YtfoemogojbnfhaaDoorLDfaTakes3
namespace Go.Proofs.YtfoemogojbnfhaaDoor
open Go Go.RowKit Gx
set_option maxHeartbeats 1000000
set_option linter.unusedVariables false
set_option linter.unusedSimpArgs false
set_option maxRecDepth 8000
attribute [local irreducible] listOf count first has setOf wbits Lib.ctz rises rightM rowOk tab markP intoP intoTo behindP behindTo behindIn runTo endsIn endTo runM anyTo allTo placeF addS setsOfTo setsM badQ badRow rightD goD runD notD errD notTo nextP finalP howB okBoth bothM errO nextB nextC outTo readTo rowIn finalB lastB leastB leastBTo buildM errB fitsP madeM allM bfs numbered putB beginB okB
theorem notD_calls (w : World) (d : Dfa) (o0_0 : okPart d.part) (A0_1 : Option Addr) (c0_1 : Nat) (b0_1 : d.next.length ≤ c0_1 ∧ c0_1 ≤ maxLen) (l0_1 : Leads (Kd.int .i64).slice (hp w) A0_1 d.next) (A0_2 : Option Addr) (c0_2 : Nat) (b0_2 : d.final.length ≤ c0_2 ∧ c0_2 ≤ maxLen) (l0_2 : Leads Kd.bool (hp w) A0_2 d.final) (pre0 : (d.next.length : Int) ≤ 1048577) :
    Calls Tryd.prog 23 #[.agg ((encPart d.part) ++ ([.slice A0_1 d.next.length c0_1, .slice A0_2 d.final.length c0_2] : List Value)).toArray] w fun e w' => ∃ v, e = .returned v ∧ ∃ (hn : Ghost) (r0 : Value) (r1 : Value), St w.heap.size w hn w' [row 23 (Kd.int .i64).slice r0 ((notD d).next), row 4 Kd.bool r1 ((notD d).final)] ∧ v = .tuple #[.agg ((encPart ((notD d).part)) ++ ([r0, r1] : List Value)).toArray, .int .i64 (errD d)] ∧ okPart ((notD d).part) ∧ inK .i64 (errD d) := by
 refine calls_of_run Tryd.func23 rfl Tryd.ntmps23 rfl ?_
 have S0 := St.init w
 have ploo0_0 := i64_lo o0_0.2; have phio0_0 := i64_hi o0_0.2
 have bb0_1 := b0_1.1; have bc0_1 := b0_1.2; simp only [maxLen] at bc0_1
 have bb0_2 := b0_2.1; have bc0_2 := b0_2.2; simp only [maxLen] at bc0_2
 refine run_seq ?_
 refine run_reg (l := [0, 1, 2]) rfl ?_
 obtain ⟨b1, w1, r1, g1, T1⟩ := e_box (P := Tryd.prog) S0 35 (v := .agg ((encPart d.part) ++ ([.slice A0_1 d.next.length c0_1, .slice A0_2 d.final.length c0_2] : List Value)).toArray) ((encPart d.part) ++ ([.slice A0_1 d.next.length c0_1, .slice A0_2 d.final.length c0_2] : List Value)) rfl
 have S2 := T1
 dsimp only [lAa, lAn, lA0, lAs] at S2
 refine p_v (v := .pointer (some ⟨b1, 0, none⟩)) rfl rfl rfl (x_box rfl r1) ?_
 obtain ⟨b3, w3, r3, g3, T3⟩ := e_box (P := Tryd.prog) S2 35 (v := zv35) ((encPart zPart) ++ ([.slice none 0 0, .slice none 0 0] : List Value)) (by kernel_rfl)
 have S4 := T3
 dsimp only [lAa, lAn, lA0, lAs] at S4
 refine p_v (v := .pointer (some ⟨b3, 0, none⟩)) rfl rfl rfl (x_alloc ty35 r3) ?_
 refine p_v (v := .int .i64 0) rfl rfl rfl (x_assign rfl) ?_
 refine run_region_end ?_
 refine run_seq ?_
 refine run_seq ?_
 refine run_reg (l := [0, 1, 2]) rfl ?_
 refine p_v (v := .agg ((encPart d.part) ++ ([.slice A0_1 d.next.length c0_1, .slice A0_2 d.final.length c0_2] : List Value)).toArray) rfl rfl rfl (x_load (seg := ((encPart d.part) ++ ([.slice A0_1 d.next.length c0_1, .slice A0_2 d.final.length c0_2] : List Value))) ty35 (len_app (encPart_len o0_0) rfl) (by simp) rfl (CF.box (m := 259) (S4.box_at (j := 0) rfl) (take_all (len_app (encPart_len o0_0) rfl)))) ?_
 refine p_c rfl rfl rfl (y_call (args := [.agg ((encPart d.part) ++ ([.slice A0_1 d.next.length c0_1, .slice A0_2 d.final.length c0_2] : List Value)).toArray]) ca48 rfl rfl) (rightD_calls w3 d o0_0 A0_1 c0_1 b0_1 (l0_1.mono (St.le0 S4)) A0_2 c0_2 b0_2 (l0_2.mono (St.le0 S4))) ?_
 rintro _ w5 ⟨h5, T5, rfl⟩
 have S6 := S4.keep (Chg.of_below T5.below)
 refine p_v (v := .bool (!(rightD d))) rfl rfl rfl (x_not rfl) ?_
 refine run_region_end ?_
 refine run_cond_nsplit (b := rightD d) rfl (fun hc7 => ?_) (fun hc7 => ?_)
 ·skip
  refine run_seq ?_
  refine run_reg (l := [0, 1, 2]) rfl ?_
  refine p_v (v := .agg ((encPart zPart) ++ ([.slice none 0 0, .slice none 0 0] : List Value)).toArray) rfl rfl rfl (y_build (pv := []) rfl (run_build_struct pl35 ty35 rfl (cs := ((encPart zPart) ++ ([.slice none 0 0, .slice none 0 0] : List Value))) (by kernel_rfl))) ?_
  obtain ⟨w8, r8, g8, T8⟩ := e_store_all (P := Tryd.prog) (v := .agg ((encPart zPart) ++ ([.slice none 0 0, .slice none 0 0] : List Value)).toArray) (vs := ((encPart zPart) ++ ([.slice none 0 0, .slice none 0 0] : List Value))) (cs := ((encPart zPart) ++ ([.slice none 0 0, .slice none 0 0] : List Value))) S6 ty35 rfl (len_app (encPart_len (okPart_zero)) rfl) (len_app (encPart_len (okPart_zero)) rfl) (j := 1) rfl (one_app (encPart_one _) (by simp [Value.oneCell']))
  have S9 : St w.heap.size w (fun _ => none) w8 [box b1 35 ((encPart d.part) ++ ([.slice A0_1 d.next.length c0_1, .slice A0_2 d.final.length c0_2] : List Value)), box b3 35 ((encPart zPart) ++ ([.slice none 0 0, .slice none 0 0] : List Value))] := T8
  refine p_s rfl rfl (x_store rfl rfl r8) ?_
  refine p_v (v := .int .i64 1) rfl rfl rfl (x_assign rfl) ?_
  refine run_region_end ?_
  have T10 := S9.row_nil 23 (Kd.int .i64).slice
  have S11 := T10
  dsimp only [lAa, lAn, lA0, lAs] at S11
  have T12 := S11.row_nil 4 Kd.bool
  have S13 := T12
  dsimp only [lAa, lAn, lA0, lAs] at S13
  refine run_ret Tryd.func23 (res2 rfl (res_cell S9 ty35 rfl (j := 1) rfl (len_app (encPart_len (okPart_zero)) rfl) (by simp) rfl) (res_tmp (v := .int .i64 1) rfl)) ?_
  have q0 : ((notD d).part : PartM) = zPart := by
   first | exact errD_yes (by assumption) | exact errD_no (by assumption) | (rw [notD_no (by assumption)]; rfl) | (rw [notD_yes (by assumption)]; done) | (rw [notD_yes (by assumption)]; show d.next = _; rw [hI_.2.2.1, List.take_of_length_le (by omega)]) | (rw [notD_yes (by assumption)]; show d.final.map _ = _; rw [hI_.2.2.2, not_end d (by omega)])
  have q1 : ((notD d).next : List (List Int)) = ([] : List (List Int)) := by
   first | exact errD_yes (by assumption) | exact errD_no (by assumption) | (rw [notD_no (by assumption)]; rfl) | (rw [notD_yes (by assumption)]; done) | (rw [notD_yes (by assumption)]; show d.next = _; rw [hI_.2.2.1, List.take_of_length_le (by omega)]) | (rw [notD_yes (by assumption)]; show d.final.map _ = _; rw [hI_.2.2.2, not_end d (by omega)])
  have q2 : ((notD d).final : List Bool) = ([] : List Bool) := by
   first | exact errD_yes (by assumption) | exact errD_no (by assumption) | (rw [notD_no (by assumption)]; rfl) | (rw [notD_yes (by assumption)]; done) | (rw [notD_yes (by assumption)]; show d.next = _; rw [hI_.2.2.1, List.take_of_length_le (by omega)]) | (rw [notD_yes (by assumption)]; show d.final.map _ = _; rw [hI_.2.2.2, not_end d (by omega)])
  have q3 : (errD d : Int) = 1 := by
   first | exact errD_yes (by assumption) | exact errD_no (by assumption) | (rw [notD_no (by assumption)]; rfl) | (rw [notD_yes (by assumption)]; done) | (rw [notD_yes (by assumption)]; show d.next = _; rw [hI_.2.2.1, List.take_of_length_le (by omega)]) | (rw [notD_yes (by assumption)]; show d.final.map _ = _; rw [hI_.2.2.2, not_end d (by omega)])
  refine ⟨_, rfl, (fun _ => none), (.slice none 0 0), (.slice none 0 0), ?_, ?_, ?_, ?_⟩
  · rw [q1]; rw [q2]; exact S13.sub [2, 3] (by decide) rfl _ rfl
  · first | rfl | (simp only [q0, q1, q2, q3]; rfl) | (simp only [q0, q1, q2, q3])
  · rw [q0]; first | assumption | exact okPart_zero
  · rw [q3]; exact (in_i64 (by first|omega|(simp;omega)|assumption|simp) (by first|omega|(simp;omega)|assumption|simp))
 ·skip
  have hD_ := rightD_of o0_0 hc7; have hfl_ := hD_.final; have hsm_ := hD_.some_
  refine run_skip ?_
  refine run_seq ?_
  refine run_reg (l := [0, 1, 2, 3, 4]) rfl ?_
  refine p_v (v := .pointer (some ⟨b1, 0, none⟩)) rfl rfl rfl (x_fieldAt fd35_0 ty32 rfl rfl) ?_
  refine p_v (v := .agg (encPart d.part).toArray) rfl rfl rfl (x_load (seg := ((encPart d.part))) ty32 (encPart_len o0_0) (by simp) rfl (CF.box (m := 257) (S6.box_at (j := 0) rfl) (seg_mid (pre := []) (seg := ((encPart d.part))) (post := [.slice A0_1 d.next.length c0_1, .slice A0_2 d.final.length c0_2]) rfl (encPart_len o0_0)))) ?_
  refine p_v (v := .agg ((encPart d.part) ++ ([.slice none 0 0, .slice none 0 0] : List Value)).toArray) rfl rfl rfl (y_build (pv := [(0, .agg (encPart d.part).toArray)]) rfl (run_build_struct pl35 ty35 rfl (cs := ((encPart d.part) ++ ([.slice none 0 0, .slice none 0 0] : List Value))) (fill_mid (vc := (encPart d.part)) (pre := []) (seg := (encPart zPart)) (post := [.slice none 0 0, .slice none 0 0]) rfl rfl (encPart_len o0_0) (by kernel_rfl) rfl (encPart_len (okPart_zero)) rfl))) ?_
  obtain ⟨b14, w14, r14, g14, T14⟩ := e_box (P := Tryd.prog) S6 35 (v := zv35) ((encPart zPart) ++ ([.slice none 0 0, .slice none 0 0] : List Value)) (by kernel_rfl)
  have S15 := T14
  dsimp only [lAa, lAn, lA0, lAs] at S15
  refine p_v (v := .pointer (some ⟨b14, 0, none⟩)) rfl rfl rfl (x_alloc ty35 r14) ?_
  obtain ⟨w16, r16, g16, T16⟩ := e_store_all (P := Tryd.prog) (v := .agg ((encPart d.part) ++ ([.slice none 0 0, .slice none 0 0] : List Value)).toArray) (vs := ((encPart d.part) ++ ([.slice none 0 0, .slice none 0 0] : List Value))) (cs := ((encPart zPart) ++ ([.slice none 0 0, .slice none 0 0] : List Value))) S15 ty35 rfl (len_app (encPart_len o0_0) rfl) (len_app (encPart_len (okPart_zero)) rfl) (j := 2) rfl (one_app (encPart_one _) (by simp [Value.oneCell']))
  have S17 := T16.fx 2 (box b14 35 ((encPart d.part) ++ ([.slice none 0 0, .slice none 0 0] : List Value))) rfl
  dsimp only [lAa, lAn, lA0, lAs] at S17
  refine p_s rfl rfl (x_store rfl rfl r16) ?_
  refine run_region_end ?_
  refine run_seq ?_
  refine run_seq ?_
  refine run_reg (l := [0, 1, 2, 3]) rfl ?_
  refine p_v (v := .pointer (some ⟨b1, 257, none⟩)) rfl rfl rfl (x_fieldAt fd35_1 ty24 rfl rfl) ?_
  refine p_v (v := .slice A0_1 d.next.length c0_1) rfl rfl rfl (x_load (seg := [.slice A0_1 d.next.length c0_1]) ty24 rfl (by simp) rfl (CF.box (m := 1) (S17.box_at (j := 0) rfl) (seg_mid2 (a := (encPart d.part)) (pre := []) (seg := [.slice A0_1 d.next.length c0_1]) (post := [.slice A0_2 d.final.length c0_2]) (encPart_len o0_0) rfl rfl))) ?_
  refine p_v (v := .int .i64 (d.next.length : Int)) rfl rfl rfl (x_len_slice u24 rfl) ?_
  refine p_v (v := .int .i64 0) rfl rfl rfl (x_move rfl) ?_
  refine run_region_end ?_
  refine run_block ?_
  have T18 := S17.row_nil 23 (Kd.int .i64).slice
  obtain ⟨vn18, ev18, T18⟩ : ∃ v, v = (.slice none 0 0 : Value) ∧ St w.heap.size w (fun _ => none) w16 [box b1 35 ((encPart d.part) ++ ([.slice A0_1 d.next.length c0_1, .slice A0_2 d.final.length c0_2] : List Value)), box b3 35 ((encPart zPart) ++ ([.slice none 0 0, .slice none 0 0] : List Value)), box b14 35 ((encPart d.part) ++ ([v, .slice none 0 0] : List Value)), row 23 (Kd.int .i64).slice v ([] : List (List Int))] := ⟨_, rfl, T18⟩
  have S19 : St w.heap.size w (fun _ => none) w16 [box b1 35 ((encPart d.part) ++ ([.slice A0_1 d.next.length c0_1, .slice A0_2 d.final.length c0_2] : List Value)), box b3 35 ((encPart zPart) ++ ([.slice none 0 0, .slice none 0 0] : List Value)), box b14 35 ((encPart d.part) ++ ([vn18, .slice none 0 0] : List Value)), row 23 (Kd.int .i64).slice vn18 ([] : List (List Int))] := T18
  have T20 := S19.row_nil 4 Kd.bool
  obtain ⟨vn20, ev20, T20⟩ : ∃ v, v = (.slice none 0 0 : Value) ∧ St w.heap.size w (fun _ => none) w16 [box b1 35 ((encPart d.part) ++ ([.slice A0_1 d.next.length c0_1, .slice A0_2 d.final.length c0_2] : List Value)), box b3 35 ((encPart zPart) ++ ([.slice none 0 0, .slice none 0 0] : List Value)), box b14 35 ((encPart d.part) ++ ([vn18, v] : List Value)), row 23 (Kd.int .i64).slice vn18 ([] : List (List Int)), row 4 Kd.bool v ([] : List Bool)] := ⟨_, rfl, T20⟩
  have S21 : St w.heap.size w (fun _ => none) w16 [box b1 35 ((encPart d.part) ++ ([.slice A0_1 d.next.length c0_1, .slice A0_2 d.final.length c0_2] : List Value)), box b3 35 ((encPart zPart) ++ ([.slice none 0 0, .slice none 0 0] : List Value)), box b14 35 ((encPart d.part) ++ ([vn18, vn20] : List Value)), row 23 (Kd.int .i64).slice vn18 ([] : List (List Int)), row 4 Kd.bool vn20 ([] : List Bool)] := T20
  refine run_loop (S := (List (List Int)) × (List Bool) × Int) (fun (q_ : (List (List Int)) × (List Bool) × Int) ρ w' => match q_ with | (out_1, out_2, t17) => ∃ (h : Ghost) (v_out_1 : Value) (v_out_2 : Value), Le (fun _ => none) h ∧ St w.heap.size w h w' [box b1 35 ((encPart d.part) ++ ([.slice A0_1 d.next.length c0_1, .slice A0_2 d.final.length c0_2] : List Value)), box b3 35 ((encPart zPart) ++ ([.slice none 0 0, .slice none 0 0] : List Value)), box b14 35 ((encPart d.part) ++ ([v_out_1, v_out_2] : List Value)), row 23 (Kd.int .i64).slice v_out_1 out_1, row 4 Kd.bool v_out_2 out_2] ∧ ρ 1 = .pointer (some ⟨b1, 0, none⟩) ∧ ρ 2 = .pointer (some ⟨b3, 0, none⟩) ∧ ρ 4 = .pointer (some ⟨b14, 0, none⟩) ∧ ρ 15 = .slice A0_1 d.next.length c0_1 ∧ ρ 16 = .int .i64 (d.next.length : Int) ∧ ρ 17 = .int .i64 t17 ∧ inK .i64 t17 ∧ (0 ≤ t17 ∧ t17 ≤ (d.next.length : Int) ∧ out_1 = d.next.take t17.toNat ∧ out_2 = notTo d t17)) (fun q_ => match q_ with | (out_1, out_2, t17) => (d.next.length - t17).toNat) (([] : List (List Int)), ([] : List Bool), 0) ⟨(fun _ => none), vn18, vn20, Le.refl _, S21.sub [0, 1, 2, 3, 4] (by decide) rfl _ rfl, rfl, rfl, rfl, rfl, rfl, rfl, (in_i64 (by first|omega|(simp;omega)|assumption|simp) (by first|omega|(simp;omega)|assumption|simp)), (by exact ⟨by omega, by omega, rfl, not_0 d⟩)⟩ ?_
  rintro ⟨out_1, out_2, t17⟩ ih22 ρ22 w22 ⟨h22, v_out_1, v_out_2, le22, S22, r22_1, r22_2, r22_4, r22_15, r22_16, r22_17, f22_0, hI22⟩
  have lf22_0 := i64_lo f22_0; have hf22_0 := i64_hi f22_0
  have rl22_3 := S22.row_le (j := 3) rfl; simp only [maxLen] at rl22_3
  have rl22_4 := S22.row_le (j := 4) rfl; simp only [maxLen] at rl22_4
  have hq_ := hI22.1; have hn_ : (out_1.length : Int) ≤ t17 := (by rw [hI22.2.2.1, List.length_take]; omega); have hf_ : (out_2.length : Int) ≤ t17 := (by rw [hI22.2.2.2]; exact not_len d hI22.1); have hr_ := hD_.row t17 hI22.1; have hpm_ := hD_.part.hi
  refine run_seq ?_
  refine run_reg (l := [0]) rfl ?_
  refine p_v (v := .bool (decide (t17 < (d.next.length : Int)))) rfl rfl rfl (x_lss r22_17 r22_16) ?_
  refine run_region_end ?_
  refine run_seq ?_
  refine run_cond_prop (p := t17 < (d.next.length : Int)) rfl (fun hc23 => ?_) (fun hc23 => ?_)
  ·skip
   refine run_skip ?_
   refine run_seq ?_
   refine run_block ?_
   refine run_seq ?_
   refine run_reg (l := [0, 1, 2, 3, 4]) rfl ?_
   refine p_v (v := .int .i64 t17) rfl rfl rfl (x_move r22_17) ?_
   obtain ⟨ad24, seg24, a24, rp24, ce24⟩ := e_index_ro (q := t17) (m := 1) l0_1 rfl (by first|omega|(simp;omega)|assumption|simp) (by first|omega|(simp;omega)|assumption|simp)
   refine p_v (v := .pointer (some ad24)) rfl rfl rfl (x_index_ro u24 ty23 r22_15 r22_17 a24 (by first|omega|(simp;omega)|assumption|simp) (by first|omega|(simp;omega)|assumption|simp)) ?_
   obtain ⟨A24, c24, rfl, lc24, cm24, ld24⟩ := rp24
   have cn24 := cm24; simp only [maxLen] at cn24
   refine p_v (v := .slice A24 (at_ d.next t17).length c24) rfl rfl rfl (x_load (seg := [.slice A24 (at_ d.next t17).length c24]) ty23 rfl (by simp) rfl (CF.ghost ce24 (St.le0 S22))) ?_
   refine p_v (v := .int .i64 t17) rfl rfl rfl (x_assign rfl) ?_
   refine p_v (v := .slice A24 (at_ d.next t17).length c24) rfl rfl rfl (x_assign rfl) ?_
   refine run_region_end ?_
   obtain ⟨ad25, seg25, a25, rp25, ce25⟩ := e_index_ro (q := t17) (m := 1) l0_2 rfl (by first|omega|(simp;omega)|assumption|simp) (by first|omega|(simp;omega)|assumption|simp)
   obtain ⟨rfl, _⟩ := rp25
   have hf26 : (CFs ⟨b14, 257, none⟩ [v_out_1]).1 w22 := (CF.box (m := 1) (S22.box_at (j := 2) rfl) (seg_mid2 (a := (encPart d.part)) (pre := []) (seg := [v_out_1]) (post := [v_out_2]) (encPart_len o0_0) rfl rfl))
   have hf27 : (CFs ⟨b14, 258, none⟩ [v_out_2]).1 w22 := (CF.box (m := 1) (S22.box_at (j := 2) rfl) (seg_mid2 (a := (encPart d.part)) (pre := [v_out_1]) (seg := [v_out_2]) (post := []) (encPart_len o0_0) rfl rfl))
   have hf28 : (CFs ⟨b1, 258, none⟩ [.slice A0_2 d.final.length c0_2]).1 w22 := (CF.box (m := 1) (S22.box_at (j := 0) rfl) (seg_mid2 (a := (encPart d.part)) (pre := [.slice A0_1 d.next.length c0_1]) (seg := [.slice A0_2 d.final.length c0_2]) (post := []) (encPart_len o0_0) rfl rfl))
   have hf29 : (CFs ad25 [.bool (at_ d.final t17)]).1 w22 := (CF.ghost ce25 (St.le0 S22))
   refine daS (hkC 1 hf26 (hkC 7 hf27 (hkC 9 hf28 (hkC 12 hf29 (hkN (w := w22)))))) 20 rfl mixed ?_
   intro wd30 gd30 hd30
   have S31 := S22.keep gd30
   have hf32 := spUp gd30 hf26
   have hf33 := spUp gd30 hf27
   have hf34 := spUp gd30 hf28
   have hf35 := spUp gd30 hf29
   refine qd0 (i := 0) (v := .pointer (some ⟨b14, 257, none⟩)) rfl (by decide +kernel) rfl rfl (x_fieldAt fd35_1 ty24 rfl r22_4) (of_no rfl) ?_
   refine qd1 0 (i := 1) (v := v_out_1) rfl rfl (by decide +kernel) rfl rfl (fun wq hq => (x_load (seg := [v_out_1]) ty24 rfl (by simp) rfl hq)) (of_eq hf32 (of_no rfl)) ?_
   refine qd0 (i := 2) (v := .slice A24 (at_ d.next t17).length c24) rfl (by decide +kernel) rfl rfl (x_move rfl) (of_no rfl) ?_
   refine qd0 (i := 6) (v := .pointer (some ⟨b14, 258, none⟩)) rfl (by decide +kernel) rfl rfl (x_fieldAt fd35_2 ty25 rfl r22_4) (of_no rfl) ?_
   refine qd1 1 (i := 7) (v := v_out_2) rfl rfl (by decide +kernel) rfl rfl (fun wq hq => (x_load (seg := [v_out_2]) ty25 rfl (by simp) rfl hq)) (of_ne rfl (of_eq hf33 (of_no rfl))) ?_
   refine qd0 (i := 8) (v := .pointer (some ⟨b1, 258, none⟩)) rfl (by decide +kernel) rfl rfl (x_fieldAt fd35_2 ty25 rfl r22_1) (of_no rfl) ?_
   refine qd1 2 (i := 9) (v := .slice A0_2 d.final.length c0_2) rfl rfl (by decide +kernel) rfl rfl (fun wq hq => (x_load (seg := [.slice A0_2 d.final.length c0_2]) ty25 rfl (by simp) rfl hq)) (of_ne rfl (of_ne rfl (of_eq hf34 (of_no rfl)))) ?_
   refine qd0 (i := 10) (v := .int .i64 t17) rfl (by decide +kernel) rfl rfl (x_move rfl) (of_no rfl) ?_
   refine qd0 (i := 11) (v := .pointer (some ad25)) rfl (by decide +kernel) rfl rfl (x_index_ro u25 ty4 rfl rfl a25 (by first|omega|(simp;omega)|assumption|simp) (by first|omega|(simp;omega)|assumption|simp)) (of_no rfl) ?_
   refine qd1 3 (i := 12) (v := .bool (at_ d.final t17)) rfl rfl (by decide +kernel) rfl rfl (fun wq hq => (x_load (seg := [.bool (at_ d.final t17)]) ty4 rfl (by simp) rfl hq)) (of_ne rfl (of_ne rfl (of_ne rfl (of_eq hf35 (of_no rfl))))) ?_
   refine qd0 (i := 13) (v := .bool (!(at_ d.final t17))) rfl (by decide +kernel) rfl rfl (x_not rfl) (of_no rfl) ?_
   refine ra_join (fun ρ w' => ∃ (h : Ghost) (j124_v70 : Value) (j124_v96 : Value), Le h22 h ∧ St w.heap.size w h w' [box b1 35 ((encPart d.part) ++ ([.slice A0_1 d.next.length c0_1, .slice A0_2 d.final.length c0_2] : List Value)), box b3 35 ((encPart zPart) ++ ([.slice none 0 0, .slice none 0 0] : List Value)), box b14 35 ((encPart d.part) ++ ([j124_v70, j124_v96] : List Value)), row 23 (Kd.int .i64).slice j124_v70 (out_1 ++ ([(at_ d.next t17)] : List (List Int))), row 4 Kd.bool j124_v96 (out_2 ++ ([!(at_ d.final t17)] : List Bool))] ∧ ρ 1 = .pointer (some ⟨b1, 0, none⟩) ∧ ρ 2 = .pointer (some ⟨b3, 0, none⟩) ∧ ρ 4 = .pointer (some ⟨b14, 0, none⟩) ∧ ρ 15 = .slice A0_1 d.next.length c0_1 ∧ ρ 16 = .int .i64 (d.next.length : Int) ∧ ρ 17 = .int .i64 t17 ∧ okPart d.part ∧ okPart d.part) ?_ (fun jn124 => ?_)
   ·skip
    rintro ρj124 wj124 ⟨hj124, j124_v70, j124_v96, lej124, Sj124, rj124_1, rj124_2, rj124_4, rj124_15, rj124_16, rj124_17, jf124_0, jf124_1⟩
    have jr124_3 := Sj124.row_le (j := 3) rfl; simp only [maxLen] at jr124_3
    have jr124_4 := Sj124.row_le (j := 4) rfl; simp only [maxLen] at jr124_4
    refine run_inBlock ?_
    refine run_reg (l := [0, 1]) rfl ?_
    refine p_v (v := .int .i64 (t17 + 1)) rfl rfl rfl (x_add rj124_17 rfl (in_i64 (by first|omega|(simp;omega)|assumption|simp) (by first|omega|(simp;omega)|assumption|simp))) ?_
    refine p_v (v := .int .i64 (t17 + 1)) rfl rfl rfl (x_move rfl) ?_
    refine run_region_end ?_
    refine ih22 (out_1 ++ ([(at_ d.next t17)] : List (List Int)), out_2 ++ ([!(at_ d.final t17)] : List Bool), t17 + 1) _ _ (by dsimp only; omega) ⟨hj124, j124_v70, j124_v96, ((le22).trans lej124), Sj124.sub [0, 1, 2, 3, 4] (by decide) rfl _ rfl, rj124_1, rj124_2, rj124_4, rj124_15, rj124_16, rfl, (in_i64 (by first|omega|(simp;omega)|assumption|simp) (by first|omega|(simp;omega)|assumption|simp)), (by exact ⟨by omega, by omega, by rw [hI22.2.2.1]; exact (take_next _ hI22.1 (by omega)).symm, by rw [hI22.2.2.2]; exact not_step d hI22.1 (by omega)⟩)⟩
   ·skip
    refine ra_two (i := 3) (i2 := 14) (by decide +kernel) ?_ ?_
    ·skip
     intro wd125 gd125
     have S126 := S31.keep gd125
     have hf127 := spUp gd125 hf32
     have hf128 := spUp gd125 hf33
     have hf129 := spUp gd125 hf34
     have hf130 := spUp gd125 hf35
     refine d_c rfl rfl rfl (y_call (args := [.slice A24 (at_ d.next t17).length c24]) ca87 rfl rfl) (cloneI_calls wd125 (at_ d.next t17) A24 c24 (And.intro lc24 cm24) (ld24.mono (St.le0 S126)) (by omega)) ?_
     rintro v131_0 w131 ⟨h131, _, T131, rfl⟩
     obtain ⟨k131, lk131, ll131, U131⟩ := call_joins S126 T131
     have lc131_0 := (le22).trans lk131
     have S132 := U131
     dsimp only [lAa, lAn, lA0, lAs] at S132
     have hf133 := spUp (Chg.of_below T131.below) hf127
     have hf134 := spUp (Chg.of_below T131.below) hf128
     have hf135 := spUp (Chg.of_below T131.below) hf129
     have hf136 := spUp (Chg.of_below T131.below) hf130
     refine ⟨.inl (Chg.of_below T131.below), ?_⟩
     obtain ⟨h137, le137, T137, rp137⟩ := S132.freeze (i := 5) rfl
     have lf137_0 := (lc131_0).trans le137
     have lf137_1 := (lk131).trans le137
     have S138 := T137.fx 5 (emp) rfl
     dsimp only [lAa, lAn, lA0, lAs] at S138
     obtain ⟨A137, c137, e137, lc137, cm137, ld137⟩ := rp137
     injection e137 with e137 _; subst e137
     have cn137 := cm137; simp only [maxLen] at cn137
     refine ra_two (i := 4) (i2 := 14) (by decide +kernel) ?_ ?_
     ·skip
      intro wd139 gd139
      have S140 := S138.keep gd139
      have hf141 := spUp gd139 hf133
      have hf142 := spUp gd139 hf134
      have hf143 := spUp gd139 hf135
      have hf144 := spUp gd139 hf136
      obtain ⟨v145, w145, r145, g145, T145⟩ := e_build_ones (kd := (Kd.int .i64).slice) (xs := ([(at_ d.next t17)] : List (List Int))) (len := 1) [.slice A137 (at_ d.next t17).length c137] S140 u24 ty23 rfl rfl rfl rfl rfl (ones_cons rfl ones_nil) [.slice A137 (at_ d.next t17).length c137] (Elems.single (k := (Kd.int .i64).slice) (h := h137) (x := (at_ d.next t17)) (cs := [.slice A137 (at_ d.next t17).length c137]) ⟨_, _, rfl, (And.intro lc137 cm137).1, (And.intro lc137 cm137).2, ld137.mono (Le.refl _)⟩) rfl
      have S146 := T145
      dsimp only [lAa, lAn, lA0, lAs] at S146
      have hf147 := spUp g145 hf141
      have hf148 := spUp g145 hf142
      have hf149 := spUp g145 hf143
      have hf150 := spUp g145 hf144
      refine d_v (v := v145) rfl rfl rfl (y_build_slice (pv := [(0, .slice A137 (at_ d.next t17).length c137)]) rfl r145) (.inl g145) ?_
      refine ra_two (i := 5) (i2 := 14) (by decide +kernel) ?_ ?_
      ·skip
       intro wd151 gd151
       have S152 := S146.keep gd151
       have hf153 := spUp gd151 hf147
       have hf154 := spUp gd151 hf148
       have hf155 := spUp gd151 hf149
       have hf156 := spUp gd151 hf150
       obtain ⟨A158, c158, ev158, lc158, cm158⟩ := S152.row_val (j := 6) rfl
       obtain ⟨v159, w159, r159, g159, T159⟩ := e_append (kd := (Kd.int .i64).slice) (A := A158) (c := c158) (ys := ([(at_ d.next t17)] : List (List Int))) (len := ([(at_ d.next t17)] : List (List Int)).length) 24 S152 u24 ty23 rfl rfl (j := 3) rfl rfl (news_own S152 (j := 6) rfl ev158) (by first|omega|(simp;omega)|assumption|simp) (by first|omega|(simp;omega)|assumption|simp)
       have S160 := T159.fx 3 (row 23 (Kd.int .i64).slice v159 (out_1 ++ ([(at_ d.next t17)] : List (List Int)))) rfl
       dsimp only [lAa, lAn, lA0, lAs] at S160
       have hf161 : (CFs ⟨b14, 257, none⟩ [v_out_1]).1 w159 := (CF.box (m := 1) (S160.box_at (j := 2) rfl) (seg_mid2 (a := (encPart d.part)) (pre := []) (seg := [v_out_1]) (post := [v_out_2]) (encPart_len o0_0) rfl rfl))
       have hf162 : (CFs ⟨b14, 258, none⟩ [v_out_2]).1 w159 := (CF.box (m := 1) (S160.box_at (j := 2) rfl) (seg_mid2 (a := (encPart d.part)) (pre := [v_out_1]) (seg := [v_out_2]) (post := []) (encPart_len o0_0) rfl rfl))
       have hf163 : (CFs ⟨b1, 258, none⟩ [.slice A0_2 d.final.length c0_2]).1 w159 := (CF.box (m := 1) (S160.box_at (j := 0) rfl) (seg_mid2 (a := (encPart d.part)) (pre := [.slice A0_1 d.next.length c0_1]) (seg := [.slice A0_2 d.final.length c0_2]) (post := []) (encPart_len o0_0) rfl rfl))
       have hf164 : (CFs ad25 [.bool (at_ d.final t17)]).1 w159 := (CF.ghost ce25 (St.le0 S160))
       refine d_v (v := v159) rfl rfl rfl (x_append rfl ev158 r159) (.inr (keep_w (by decide +kernel) (keep_v hf162 (keep_v hf163 (keep_v hf164 trivial))))) ?_
       refine qd0 (i := 16) (v := .pointer (some ⟨b14, 257, none⟩)) rfl (by decide +kernel) rfl rfl (x_fieldAt fd35_1 ty24 rfl r22_4) (of_no rfl) ?_
       refine ra_one (i := 14) (by decide +kernel) ?_
       intro wd165 gd165
       have S166 := S160.keep gd165
       have hf167 := spUp gd165 hf161
       have hf168 := spUp gd165 hf162
       have hf169 := spUp gd165 hf163
       have hf170 := spUp gd165 hf164
       obtain ⟨v171, w171, r171, g171, T171⟩ := e_build_ones (kd := Kd.bool) (xs := ([!(at_ d.final t17)] : List Bool)) (len := 1) [.bool (!(at_ d.final t17))] S166 u25 ty4 rfl rfl rfl rfl rfl (ones_cons rfl ones_nil) [.bool (!(at_ d.final t17))] (Elems.single (k := Kd.bool) (h := h137) (x := !(at_ d.final t17)) (cs := [.bool (!(at_ d.final t17))]) ⟨rfl, trivial⟩) rfl
       have S172 := T171
       dsimp only [lAa, lAn, lA0, lAs] at S172
       have hf173 := spUp g171 hf167
       have hf174 := spUp g171 hf168
       have hf175 := spUp g171 hf169
       have hf176 := spUp g171 hf170
       refine d_v (v := v171) rfl rfl rfl (y_build_slice (pv := [(0, .bool (!(at_ d.final t17)))]) rfl r171) (.inl g171) ?_
       refine ra_one (i := 15) (by decide +kernel) ?_
       intro wd177 gd177
       have S178 := S172.keep gd177
       have hf179 := spUp gd177 hf173
       have hf180 := spUp gd177 hf174
       have hf181 := spUp gd177 hf175
       have hf182 := spUp gd177 hf176
       obtain ⟨A184, c184, ev184, lc184, cm184⟩ := S178.row_val (j := 7) rfl
       obtain ⟨v185, w185, r185, g185, T185⟩ := e_append (kd := Kd.bool) (A := A184) (c := c184) (ys := ([!(at_ d.final t17)] : List Bool)) (len := ([!(at_ d.final t17)] : List Bool).length) 25 S178 u25 ty4 rfl rfl (j := 4) rfl rfl (news_own S178 (j := 7) rfl ev184) (by first|omega|(simp;omega)|assumption|simp) (by first|omega|(simp;omega)|assumption|simp)
       have S186 := T185.fx 4 (row 4 Kd.bool v185 (out_2 ++ ([!(at_ d.final t17)] : List Bool))) rfl
       dsimp only [lAa, lAn, lA0, lAs] at S186
       have hf187 : (CFs ⟨b14, 257, none⟩ [v_out_1]).1 w185 := (CF.box (m := 1) (S186.box_at (j := 2) rfl) (seg_mid2 (a := (encPart d.part)) (pre := []) (seg := [v_out_1]) (post := [v_out_2]) (encPart_len o0_0) rfl rfl))
       have hf188 : (CFs ⟨b14, 258, none⟩ [v_out_2]).1 w185 := (CF.box (m := 1) (S186.box_at (j := 2) rfl) (seg_mid2 (a := (encPart d.part)) (pre := [v_out_1]) (seg := [v_out_2]) (post := []) (encPart_len o0_0) rfl rfl))
       have hf189 : (CFs ⟨b1, 258, none⟩ [.slice A0_2 d.final.length c0_2]).1 w185 := (CF.box (m := 1) (S186.box_at (j := 0) rfl) (seg_mid2 (a := (encPart d.part)) (pre := [.slice A0_1 d.next.length c0_1]) (seg := [.slice A0_2 d.final.length c0_2]) (post := []) (encPart_len o0_0) rfl rfl))
       have hf190 : (CFs ad25 [.bool (at_ d.final t17)]).1 w185 := (CF.ghost ce25 (St.le0 S186))
       refine d_v (v := v185) rfl rfl rfl (x_append rfl ev184 r185) (.inr (keep_v hf187 (keep_w (by decide +kernel) (keep_v hf189 (keep_v hf190 trivial))))) ?_
       refine ra_one (i := 17) (by decide +kernel) ?_
       intro wd191 gd191
       have S192 := S186.keep gd191
       have hf193 := spUp gd191 hf187
       have hf194 := spUp gd191 hf188
       have hf195 := spUp gd191 hf189
       have hf196 := spUp gd191 hf190
       have oc198 := row_one S192 (j := 3) rfl
       obtain ⟨w197, r197, g197, T197⟩ := e_store_mid2 (P := Tryd.prog) (off := 257) (v := v159) (vs := [v159]) (a := (encPart d.part)) (pre := []) (seg := [v_out_1]) (post := [v_out_2]) S192 ty24 (row_cells S192 (j := 3) rfl) rfl (encPart_len o0_0) rfl rfl (j := 2) rfl (one_cons oc198 one_nil)
       have S199 := T197.fx 2 (box b14 35 ((encPart d.part) ++ ([v159, v_out_2] : List Value))) rfl
       dsimp only [lAa, lAn, lA0, lAs] at S199
       have hf200 : (CFs ⟨b1, 258, none⟩ [.slice A0_2 d.final.length c0_2]).1 w197 := (CF.box (m := 1) (S199.box_at (j := 0) rfl) (seg_mid2 (a := (encPart d.part)) (pre := [.slice A0_1 d.next.length c0_1]) (seg := [.slice A0_2 d.final.length c0_2]) (post := []) (encPart_len o0_0) rfl rfl))
       have hf201 : (CFs ad25 [.bool (at_ d.final t17)]).1 w197 := (CF.ghost ce25 (St.le0 S199))
       refine d_s rfl rfl (x_store rfl rfl r197) (.inr (keep_w (by decide +kernel) (keep_w (by decide +kernel) (keep_v hf200 (keep_v hf201 trivial))))) ?_
       refine qd0 (i := 18) (v := .pointer (some ⟨b14, 258, none⟩)) rfl (by decide +kernel) rfl rfl (x_fieldAt fd35_2 ty25 rfl r22_4) (of_no rfl) ?_
       refine ra_one (i := 19) (by decide +kernel) ?_
       intro wd202 gd202
       have S203 := S199.keep gd202
       have hf204 := spUp gd202 hf200
       have hf205 := spUp gd202 hf201
       have oc207 := row_one S203 (j := 4) rfl
       obtain ⟨w206, r206, g206, T206⟩ := e_store_mid2 (P := Tryd.prog) (off := 258) (v := v185) (vs := [v185]) (a := (encPart d.part)) (pre := [v159]) (seg := [v_out_2]) (post := []) S203 ty25 (row_cells S203 (j := 4) rfl) rfl (encPart_len o0_0) rfl rfl (j := 2) rfl (one_cons oc207 one_nil)
       have S208 := T206.fx 2 (box b14 35 ((encPart d.part) ++ ([v159, v185] : List Value))) rfl
       dsimp only [lAa, lAn, lA0, lAs] at S208
       have hf209 : (CFs ⟨b1, 258, none⟩ [.slice A0_2 d.final.length c0_2]).1 w206 := (CF.box (m := 1) (S208.box_at (j := 0) rfl) (seg_mid2 (a := (encPart d.part)) (pre := [.slice A0_1 d.next.length c0_1]) (seg := [.slice A0_2 d.final.length c0_2]) (post := []) (encPart_len o0_0) rfl rfl))
       have hf210 : (CFs ad25 [.bool (at_ d.final t17)]).1 w206 := (CF.ghost ce25 (St.le0 S208))
       refine d_s rfl rfl (x_store rfl rfl r206) (.inr (keep_w (by decide +kernel) (keep_w (by decide +kernel) (keep_w (by decide +kernel) (keep_w (by decide +kernel) trivial))))) ?_
       refine ra_done (by decide +kernel) ?_
       intro wd211 gd211
       have S212 := S208.keep gd211
       exact jn124 _ _ ⟨h137, v159, v185, lf137_1, S212.sub [0, 1, 2, 3, 4] (by decide) rfl _ rfl, r22_1, r22_2, r22_4, r22_15, r22_16, r22_17, o0_0, o0_0⟩
      ·skip
       intro wd213 gd213
       have S214 := S146.keep gd213
       have hf215 := spUp gd213 hf147
       have hf216 := spUp gd213 hf148
       have hf217 := spUp gd213 hf149
       have hf218 := spUp gd213 hf150
       obtain ⟨v219, w219, r219, g219, T219⟩ := e_build_ones (kd := Kd.bool) (xs := ([!(at_ d.final t17)] : List Bool)) (len := 1) [.bool (!(at_ d.final t17))] S214 u25 ty4 rfl rfl rfl rfl rfl (ones_cons rfl ones_nil) [.bool (!(at_ d.final t17))] (Elems.single (k := Kd.bool) (h := h137) (x := !(at_ d.final t17)) (cs := [.bool (!(at_ d.final t17))]) ⟨rfl, trivial⟩) rfl
       have S220 := T219
       dsimp only [lAa, lAn, lA0, lAs] at S220
       have hf221 := spUp g219 hf215
       have hf222 := spUp g219 hf216
       have hf223 := spUp g219 hf217
       have hf224 := spUp g219 hf218
       refine d_v (v := v219) rfl rfl rfl (y_build_slice (pv := [(0, .bool (!(at_ d.final t17)))]) rfl r219) (.inl g219) ?_
       refine ra_one (i := 5) (by decide +kernel) ?_
       intro wd225 gd225
       have S226 := S220.keep gd225
       have hf227 := spUp gd225 hf221
       have hf228 := spUp gd225 hf222
       have hf229 := spUp gd225 hf223
       have hf230 := spUp gd225 hf224
       obtain ⟨A232, c232, ev232, lc232, cm232⟩ := S226.row_val (j := 6) rfl
       obtain ⟨v233, w233, r233, g233, T233⟩ := e_append (kd := (Kd.int .i64).slice) (A := A232) (c := c232) (ys := ([(at_ d.next t17)] : List (List Int))) (len := ([(at_ d.next t17)] : List (List Int)).length) 24 S226 u24 ty23 rfl rfl (j := 3) rfl rfl (news_own S226 (j := 6) rfl ev232) (by first|omega|(simp;omega)|assumption|simp) (by first|omega|(simp;omega)|assumption|simp)
       have S234 := T233.fx 3 (row 23 (Kd.int .i64).slice v233 (out_1 ++ ([(at_ d.next t17)] : List (List Int)))) rfl
       dsimp only [lAa, lAn, lA0, lAs] at S234
       have hf235 : (CFs ⟨b14, 257, none⟩ [v_out_1]).1 w233 := (CF.box (m := 1) (S234.box_at (j := 2) rfl) (seg_mid2 (a := (encPart d.part)) (pre := []) (seg := [v_out_1]) (post := [v_out_2]) (encPart_len o0_0) rfl rfl))
       have hf236 : (CFs ⟨b14, 258, none⟩ [v_out_2]).1 w233 := (CF.box (m := 1) (S234.box_at (j := 2) rfl) (seg_mid2 (a := (encPart d.part)) (pre := [v_out_1]) (seg := [v_out_2]) (post := []) (encPart_len o0_0) rfl rfl))
       have hf237 : (CFs ⟨b1, 258, none⟩ [.slice A0_2 d.final.length c0_2]).1 w233 := (CF.box (m := 1) (S234.box_at (j := 0) rfl) (seg_mid2 (a := (encPart d.part)) (pre := [.slice A0_1 d.next.length c0_1]) (seg := [.slice A0_2 d.final.length c0_2]) (post := []) (encPart_len o0_0) rfl rfl))
       have hf238 : (CFs ad25 [.bool (at_ d.final t17)]).1 w233 := (CF.ghost ce25 (St.le0 S234))
       refine d_v (v := v233) rfl rfl rfl (x_append rfl ev232 r233) (.inr (keep_w (by decide +kernel) (keep_v hf236 (keep_v hf237 (keep_v hf238 trivial))))) ?_
       refine qd0 (i := 16) (v := .pointer (some ⟨b14, 257, none⟩)) rfl (by decide +kernel) rfl rfl (x_fieldAt fd35_1 ty24 rfl r22_4) (of_no rfl) ?_
       refine ra_one (i := 15) (by decide +kernel) ?_
       intro wd239 gd239
       have S240 := S234.keep gd239
       have hf241 := spUp gd239 hf235
       have hf242 := spUp gd239 hf236
       have hf243 := spUp gd239 hf237
       have hf244 := spUp gd239 hf238
       obtain ⟨A246, c246, ev246, lc246, cm246⟩ := S240.row_val (j := 7) rfl
       obtain ⟨v247, w247, r247, g247, T247⟩ := e_append (kd := Kd.bool) (A := A246) (c := c246) (ys := ([!(at_ d.final t17)] : List Bool)) (len := ([!(at_ d.final t17)] : List Bool).length) 25 S240 u25 ty4 rfl rfl (j := 4) rfl rfl (news_own S240 (j := 7) rfl ev246) (by first|omega|(simp;omega)|assumption|simp) (by first|omega|(simp;omega)|assumption|simp)
       have S248 := T247.fx 4 (row 4 Kd.bool v247 (out_2 ++ ([!(at_ d.final t17)] : List Bool))) rfl
       dsimp only [lAa, lAn, lA0, lAs] at S248
       have hf249 : (CFs ⟨b14, 257, none⟩ [v_out_1]).1 w247 := (CF.box (m := 1) (S248.box_at (j := 2) rfl) (seg_mid2 (a := (encPart d.part)) (pre := []) (seg := [v_out_1]) (post := [v_out_2]) (encPart_len o0_0) rfl rfl))
       have hf250 : (CFs ⟨b14, 258, none⟩ [v_out_2]).1 w247 := (CF.box (m := 1) (S248.box_at (j := 2) rfl) (seg_mid2 (a := (encPart d.part)) (pre := [v_out_1]) (seg := [v_out_2]) (post := []) (encPart_len o0_0) rfl rfl))
       have hf251 : (CFs ⟨b1, 258, none⟩ [.slice A0_2 d.final.length c0_2]).1 w247 := (CF.box (m := 1) (S248.box_at (j := 0) rfl) (seg_mid2 (a := (encPart d.part)) (pre := [.slice A0_1 d.next.length c0_1]) (seg := [.slice A0_2 d.final.length c0_2]) (post := []) (encPart_len o0_0) rfl rfl))
       have hf252 : (CFs ad25 [.bool (at_ d.final t17)]).1 w247 := (CF.ghost ce25 (St.le0 S248))
       refine d_v (v := v247) rfl rfl rfl (x_append rfl ev246 r247) (.inr (keep_v hf249 (keep_w (by decide +kernel) (keep_v hf251 (keep_v hf252 trivial))))) ?_
       refine ra_one (i := 17) (by decide +kernel) ?_
       intro wd253 gd253
       have S254 := S248.keep gd253
       have hf255 := spUp gd253 hf249
       have hf256 := spUp gd253 hf250
       have hf257 := spUp gd253 hf251
       have hf258 := spUp gd253 hf252
       have oc260 := row_one S254 (j := 3) rfl
       obtain ⟨w259, r259, g259, T259⟩ := e_store_mid2 (P := Tryd.prog) (off := 257) (v := v233) (vs := [v233]) (a := (encPart d.part)) (pre := []) (seg := [v_out_1]) (post := [v_out_2]) S254 ty24 (row_cells S254 (j := 3) rfl) rfl (encPart_len o0_0) rfl rfl (j := 2) rfl (one_cons oc260 one_nil)
       have S261 := T259.fx 2 (box b14 35 ((encPart d.part) ++ ([v233, v_out_2] : List Value))) rfl
       dsimp only [lAa, lAn, lA0, lAs] at S261
       have hf262 : (CFs ⟨b1, 258, none⟩ [.slice A0_2 d.final.length c0_2]).1 w259 := (CF.box (m := 1) (S261.box_at (j := 0) rfl) (seg_mid2 (a := (encPart d.part)) (pre := [.slice A0_1 d.next.length c0_1]) (seg := [.slice A0_2 d.final.length c0_2]) (post := []) (encPart_len o0_0) rfl rfl))
       have hf263 : (CFs ad25 [.bool (at_ d.final t17)]).1 w259 := (CF.ghost ce25 (St.le0 S261))
       refine d_s rfl rfl (x_store rfl rfl r259) (.inr (keep_w (by decide +kernel) (keep_w (by decide +kernel) (keep_v hf262 (keep_v hf263 trivial))))) ?_
       refine qd0 (i := 18) (v := .pointer (some ⟨b14, 258, none⟩)) rfl (by decide +kernel) rfl rfl (x_fieldAt fd35_2 ty25 rfl r22_4) (of_no rfl) ?_
       refine ra_one (i := 19) (by decide +kernel) ?_
       intro wd264 gd264
       have S265 := S261.keep gd264
       have hf266 := spUp gd264 hf262
       have hf267 := spUp gd264 hf263
       have oc269 := row_one S265 (j := 4) rfl
       obtain ⟨w268, r268, g268, T268⟩ := e_store_mid2 (P := Tryd.prog) (off := 258) (v := v247) (vs := [v247]) (a := (encPart d.part)) (pre := [v233]) (seg := [v_out_2]) (post := []) S265 ty25 (row_cells S265 (j := 4) rfl) rfl (encPart_len o0_0) rfl rfl (j := 2) rfl (one_cons oc269 one_nil)
       have S270 := T268.fx 2 (box b14 35 ((encPart d.part) ++ ([v233, v247] : List Value))) rfl
       dsimp only [lAa, lAn, lA0, lAs] at S270
       have hf271 : (CFs ⟨b1, 258, none⟩ [.slice A0_2 d.final.length c0_2]).1 w268 := (CF.box (m := 1) (S270.box_at (j := 0) rfl) (seg_mid2 (a := (encPart d.part)) (pre := [.slice A0_1 d.next.length c0_1]) (seg := [.slice A0_2 d.final.length c0_2]) (post := []) (encPart_len o0_0) rfl rfl))
       have hf272 : (CFs ad25 [.bool (at_ d.final t17)]).1 w268 := (CF.ghost ce25 (St.le0 S270))
       refine d_s rfl rfl (x_store rfl rfl r268) (.inr (keep_w (by decide +kernel) (keep_w (by decide +kernel) (keep_w (by decide +kernel) (keep_w (by decide +kernel) trivial))))) ?_
       refine ra_done (by decide +kernel) ?_
       intro wd273 gd273
       have S274 := S270.keep gd273
       exact jn124 _ _ ⟨h137, v233, v247, lf137_1, S274.sub [0, 1, 2, 3, 4] (by decide) rfl _ rfl, r22_1, r22_2, r22_4, r22_15, r22_16, r22_17, o0_0, o0_0⟩
     ·skip
      intro wd275 gd275
      have S276 := S138.keep gd275
      have hf277 := spUp gd275 hf133
      have hf278 := spUp gd275 hf134
      have hf279 := spUp gd275 hf135
      have hf280 := spUp gd275 hf136
      obtain ⟨v281, w281, r281, g281, T281⟩ := e_build_ones (kd := Kd.bool) (xs := ([!(at_ d.final t17)] : List Bool)) (len := 1) [.bool (!(at_ d.final t17))] S276 u25 ty4 rfl rfl rfl rfl rfl (ones_cons rfl ones_nil) [.bool (!(at_ d.final t17))] (Elems.single (k := Kd.bool) (h := h137) (x := !(at_ d.final t17)) (cs := [.bool (!(at_ d.final t17))]) ⟨rfl, trivial⟩) rfl
      have S282 := T281
      dsimp only [lAa, lAn, lA0, lAs] at S282
      have hf283 := spUp g281 hf277
      have hf284 := spUp g281 hf278
      have hf285 := spUp g281 hf279
      have hf286 := spUp g281 hf280
      refine d_v (v := v281) rfl rfl rfl (y_build_slice (pv := [(0, .bool (!(at_ d.final t17)))]) rfl r281) (.inl g281) ?_
      refine ra_one (i := 4) (by decide +kernel) ?_
      intro wd287 gd287
      have S288 := S282.keep gd287
      have hf289 := spUp gd287 hf283
      have hf290 := spUp gd287 hf284
      have hf291 := spUp gd287 hf285
      have hf292 := spUp gd287 hf286
      obtain ⟨v293, w293, r293, g293, T293⟩ := e_build_ones (kd := (Kd.int .i64).slice) (xs := ([(at_ d.next t17)] : List (List Int))) (len := 1) [.slice A137 (at_ d.next t17).length c137] S288 u24 ty23 rfl rfl rfl rfl rfl (ones_cons rfl ones_nil) [.slice A137 (at_ d.next t17).length c137] (Elems.single (k := (Kd.int .i64).slice) (h := h137) (x := (at_ d.next t17)) (cs := [.slice A137 (at_ d.next t17).length c137]) ⟨_, _, rfl, (And.intro lc137 cm137).1, (And.intro lc137 cm137).2, ld137.mono (Le.refl _)⟩) rfl
      have S294 := T293
      dsimp only [lAa, lAn, lA0, lAs] at S294
      have hf295 := spUp g293 hf289
      have hf296 := spUp g293 hf290
      have hf297 := spUp g293 hf291
      have hf298 := spUp g293 hf292
      refine d_v (v := v293) rfl rfl rfl (y_build_slice (pv := [(0, .slice A137 (at_ d.next t17).length c137)]) rfl r293) (.inl g293) ?_
      refine ra_one (i := 5) (by decide +kernel) ?_
      intro wd299 gd299
      have S300 := S294.keep gd299
      have hf301 := spUp gd299 hf295
      have hf302 := spUp gd299 hf296
      have hf303 := spUp gd299 hf297
      have hf304 := spUp gd299 hf298
      obtain ⟨A306, c306, ev306, lc306, cm306⟩ := S300.row_val (j := 7) rfl
      obtain ⟨v307, w307, r307, g307, T307⟩ := e_append (kd := (Kd.int .i64).slice) (A := A306) (c := c306) (ys := ([(at_ d.next t17)] : List (List Int))) (len := ([(at_ d.next t17)] : List (List Int)).length) 24 S300 u24 ty23 rfl rfl (j := 3) rfl rfl (news_own S300 (j := 7) rfl ev306) (by first|omega|(simp;omega)|assumption|simp) (by first|omega|(simp;omega)|assumption|simp)
      have S308 := T307.fx 3 (row 23 (Kd.int .i64).slice v307 (out_1 ++ ([(at_ d.next t17)] : List (List Int)))) rfl
      dsimp only [lAa, lAn, lA0, lAs] at S308
      have hf309 : (CFs ⟨b14, 257, none⟩ [v_out_1]).1 w307 := (CF.box (m := 1) (S308.box_at (j := 2) rfl) (seg_mid2 (a := (encPart d.part)) (pre := []) (seg := [v_out_1]) (post := [v_out_2]) (encPart_len o0_0) rfl rfl))
      have hf310 : (CFs ⟨b14, 258, none⟩ [v_out_2]).1 w307 := (CF.box (m := 1) (S308.box_at (j := 2) rfl) (seg_mid2 (a := (encPart d.part)) (pre := [v_out_1]) (seg := [v_out_2]) (post := []) (encPart_len o0_0) rfl rfl))
      have hf311 : (CFs ⟨b1, 258, none⟩ [.slice A0_2 d.final.length c0_2]).1 w307 := (CF.box (m := 1) (S308.box_at (j := 0) rfl) (seg_mid2 (a := (encPart d.part)) (pre := [.slice A0_1 d.next.length c0_1]) (seg := [.slice A0_2 d.final.length c0_2]) (post := []) (encPart_len o0_0) rfl rfl))
      have hf312 : (CFs ad25 [.bool (at_ d.final t17)]).1 w307 := (CF.ghost ce25 (St.le0 S308))
      refine d_v (v := v307) rfl rfl rfl (x_append rfl ev306 r307) (.inr (keep_w (by decide +kernel) (keep_v hf310 (keep_v hf311 (keep_v hf312 trivial))))) ?_
      refine qd0 (i := 16) (v := .pointer (some ⟨b14, 257, none⟩)) rfl (by decide +kernel) rfl rfl (x_fieldAt fd35_1 ty24 rfl r22_4) (of_no rfl) ?_
      refine ra_one (i := 15) (by decide +kernel) ?_
      intro wd313 gd313
      have S314 := S308.keep gd313
      have hf315 := spUp gd313 hf309
      have hf316 := spUp gd313 hf310
      have hf317 := spUp gd313 hf311
      have hf318 := spUp gd313 hf312
      obtain ⟨A320, c320, ev320, lc320, cm320⟩ := S314.row_val (j := 6) rfl
      obtain ⟨v321, w321, r321, g321, T321⟩ := e_append (kd := Kd.bool) (A := A320) (c := c320) (ys := ([!(at_ d.final t17)] : List Bool)) (len := ([!(at_ d.final t17)] : List Bool).length) 25 S314 u25 ty4 rfl rfl (j := 4) rfl rfl (news_own S314 (j := 6) rfl ev320) (by first|omega|(simp;omega)|assumption|simp) (by first|omega|(simp;omega)|assumption|simp)
      have S322 := T321.fx 4 (row 4 Kd.bool v321 (out_2 ++ ([!(at_ d.final t17)] : List Bool))) rfl
      dsimp only [lAa, lAn, lA0, lAs] at S322
      have hf323 : (CFs ⟨b14, 257, none⟩ [v_out_1]).1 w321 := (CF.box (m := 1) (S322.box_at (j := 2) rfl) (seg_mid2 (a := (encPart d.part)) (pre := []) (seg := [v_out_1]) (post := [v_out_2]) (encPart_len o0_0) rfl rfl))
      have hf324 : (CFs ⟨b14, 258, none⟩ [v_out_2]).1 w321 := (CF.box (m := 1) (S322.box_at (j := 2) rfl) (seg_mid2 (a := (encPart d.part)) (pre := [v_out_1]) (seg := [v_out_2]) (post := []) (encPart_len o0_0) rfl rfl))
      have hf325 : (CFs ⟨b1, 258, none⟩ [.slice A0_2 d.final.length c0_2]).1 w321 := (CF.box (m := 1) (S322.box_at (j := 0) rfl) (seg_mid2 (a := (encPart d.part)) (pre := [.slice A0_1 d.next.length c0_1]) (seg := [.slice A0_2 d.final.length c0_2]) (post := []) (encPart_len o0_0) rfl rfl))
      have hf326 : (CFs ad25 [.bool (at_ d.final t17)]).1 w321 := (CF.ghost ce25 (St.le0 S322))
      refine d_v (v := v321) rfl rfl rfl (x_append rfl ev320 r321) (.inr (keep_v hf323 (keep_w (by decide +kernel) (keep_v hf325 (keep_v hf326 trivial))))) ?_
      refine ra_one (i := 17) (by decide +kernel) ?_
      intro wd327 gd327
      have S328 := S322.keep gd327
      have hf329 := spUp gd327 hf323
      have hf330 := spUp gd327 hf324
      have hf331 := spUp gd327 hf325
      have hf332 := spUp gd327 hf326
      have oc334 := row_one S328 (j := 3) rfl
      obtain ⟨w333, r333, g333, T333⟩ := e_store_mid2 (P := Tryd.prog) (off := 257) (v := v307) (vs := [v307]) (a := (encPart d.part)) (pre := []) (seg := [v_out_1]) (post := [v_out_2]) S328 ty24 (row_cells S328 (j := 3) rfl) rfl (encPart_len o0_0) rfl rfl (j := 2) rfl (one_cons oc334 one_nil)
      have S335 := T333.fx 2 (box b14 35 ((encPart d.part) ++ ([v307, v_out_2] : List Value))) rfl
      dsimp only [lAa, lAn, lA0, lAs] at S335
      have hf336 : (CFs ⟨b1, 258, none⟩ [.slice A0_2 d.final.length c0_2]).1 w333 := (CF.box (m := 1) (S335.box_at (j := 0) rfl) (seg_mid2 (a := (encPart d.part)) (pre := [.slice A0_1 d.next.length c0_1]) (seg := [.slice A0_2 d.final.length c0_2]) (post := []) (encPart_len o0_0) rfl rfl))
      have hf337 : (CFs ad25 [.bool (at_ d.final t17)]).1 w333 := (CF.ghost ce25 (St.le0 S335))
      refine d_s rfl rfl (x_store rfl rfl r333) (.inr (keep_w (by decide +kernel) (keep_w (by decide +kernel) (keep_v hf336 (keep_v hf337 trivial))))) ?_
      refine qd0 (i := 18) (v := .pointer (some ⟨b14, 258, none⟩)) rfl (by decide +kernel) rfl rfl (x_fieldAt fd35_2 ty25 rfl r22_4) (of_no rfl) ?_
      refine ra_one (i := 19) (by decide +kernel) ?_
      intro wd338 gd338
      have S339 := S335.keep gd338
      have hf340 := spUp gd338 hf336
      have hf341 := spUp gd338 hf337
      have oc343 := row_one S339 (j := 4) rfl
      obtain ⟨w342, r342, g342, T342⟩ := e_store_mid2 (P := Tryd.prog) (off := 258) (v := v321) (vs := [v321]) (a := (encPart d.part)) (pre := [v307]) (seg := [v_out_2]) (post := []) S339 ty25 (row_cells S339 (j := 4) rfl) rfl (encPart_len o0_0) rfl rfl (j := 2) rfl (one_cons oc343 one_nil)
      have S344 := T342.fx 2 (box b14 35 ((encPart d.part) ++ ([v307, v321] : List Value))) rfl
      dsimp only [lAa, lAn, lA0, lAs] at S344
      have hf345 : (CFs ⟨b1, 258, none⟩ [.slice A0_2 d.final.length c0_2]).1 w342 := (CF.box (m := 1) (S344.box_at (j := 0) rfl) (seg_mid2 (a := (encPart d.part)) (pre := [.slice A0_1 d.next.length c0_1]) (seg := [.slice A0_2 d.final.length c0_2]) (post := []) (encPart_len o0_0) rfl rfl))
      have hf346 : (CFs ad25 [.bool (at_ d.final t17)]).1 w342 := (CF.ghost ce25 (St.le0 S344))
      refine d_s rfl rfl (x_store rfl rfl r342) (.inr (keep_w (by decide +kernel) (keep_w (by decide +kernel) (keep_w (by decide +kernel) (keep_w (by decide +kernel) trivial))))) ?_
      refine ra_done (by decide +kernel) ?_
      intro wd347 gd347
      have S348 := S344.keep gd347
      exact jn124 _ _ ⟨h137, v307, v321, lf137_1, S348.sub [0, 1, 2, 3, 4] (by decide) rfl _ rfl, r22_1, r22_2, r22_4, r22_15, r22_16, r22_17, o0_0, o0_0⟩
    ·skip
     intro wd349 gd349
     have S350 := S31.keep gd349
     have hf351 := spUp gd349 hf32
     have hf352 := spUp gd349 hf33
     have hf353 := spUp gd349 hf34
     have hf354 := spUp gd349 hf35
     obtain ⟨v355, w355, r355, g355, T355⟩ := e_build_ones (kd := Kd.bool) (xs := ([!(at_ d.final t17)] : List Bool)) (len := 1) [.bool (!(at_ d.final t17))] S350 u25 ty4 rfl rfl rfl rfl rfl (ones_cons rfl ones_nil) [.bool (!(at_ d.final t17))] (Elems.single (k := Kd.bool) (h := h22) (x := !(at_ d.final t17)) (cs := [.bool (!(at_ d.final t17))]) ⟨rfl, trivial⟩) rfl
     have S356 := T355
     dsimp only [lAa, lAn, lA0, lAs] at S356
     have hf357 := spUp g355 hf351
     have hf358 := spUp g355 hf352
     have hf359 := spUp g355 hf353
     have hf360 := spUp g355 hf354
     refine d_v (v := v355) rfl rfl rfl (y_build_slice (pv := [(0, .bool (!(at_ d.final t17)))]) rfl r355) (.inl g355) ?_
     refine ra_one (i := 3) (by decide +kernel) ?_
     intro wd361 gd361
     have S362 := S356.keep gd361
     have hf363 := spUp gd361 hf357
     have hf364 := spUp gd361 hf358
     have hf365 := spUp gd361 hf359
     have hf366 := spUp gd361 hf360
     refine d_c rfl rfl rfl (y_call (args := [.slice A24 (at_ d.next t17).length c24]) ca87 rfl rfl) (cloneI_calls wd361 (at_ d.next t17) A24 c24 (And.intro lc24 cm24) (ld24.mono (St.le0 S362)) (by omega)) ?_
     rintro v367_0 w367 ⟨h367, _, T367, rfl⟩
     obtain ⟨k367, lk367, ll367, U367⟩ := call_joins S362 T367
     have lc367_0 := (le22).trans lk367
     have S368 := U367
     dsimp only [lAa, lAn, lA0, lAs] at S368
     have hf369 := spUp (Chg.of_below T367.below) hf363
     have hf370 := spUp (Chg.of_below T367.below) hf364
     have hf371 := spUp (Chg.of_below T367.below) hf365
     have hf372 := spUp (Chg.of_below T367.below) hf366
     refine ⟨.inl (Chg.of_below T367.below), ?_⟩
     obtain ⟨h373, le373, T373, rp373⟩ := S368.freeze (i := 6) rfl
     have lf373_0 := (lc367_0).trans le373
     have lf373_1 := (lk367).trans le373
     have S374 := T373.fx 6 (emp) rfl
     dsimp only [lAa, lAn, lA0, lAs] at S374
     obtain ⟨A373, c373, e373, lc373, cm373, ld373⟩ := rp373
     injection e373 with e373 _; subst e373
     have cn373 := cm373; simp only [maxLen] at cn373
     refine ra_one (i := 4) (by decide +kernel) ?_
     intro wd375 gd375
     have S376 := S374.keep gd375
     have hf377 := spUp gd375 hf369
     have hf378 := spUp gd375 hf370
     have hf379 := spUp gd375 hf371
     have hf380 := spUp gd375 hf372
     obtain ⟨v381, w381, r381, g381, T381⟩ := e_build_ones (kd := (Kd.int .i64).slice) (xs := ([(at_ d.next t17)] : List (List Int))) (len := 1) [.slice A373 (at_ d.next t17).length c373] S376 u24 ty23 rfl rfl rfl rfl rfl (ones_cons rfl ones_nil) [.slice A373 (at_ d.next t17).length c373] (Elems.single (k := (Kd.int .i64).slice) (h := h373) (x := (at_ d.next t17)) (cs := [.slice A373 (at_ d.next t17).length c373]) ⟨_, _, rfl, (And.intro lc373 cm373).1, (And.intro lc373 cm373).2, ld373.mono (Le.refl _)⟩) rfl
     have S382 := T381
     dsimp only [lAa, lAn, lA0, lAs] at S382
     have hf383 := spUp g381 hf377
     have hf384 := spUp g381 hf378
     have hf385 := spUp g381 hf379
     have hf386 := spUp g381 hf380
     refine d_v (v := v381) rfl rfl rfl (y_build_slice (pv := [(0, .slice A373 (at_ d.next t17).length c373)]) rfl r381) (.inl g381) ?_
     refine ra_one (i := 5) (by decide +kernel) ?_
     intro wd387 gd387
     have S388 := S382.keep gd387
     have hf389 := spUp gd387 hf383
     have hf390 := spUp gd387 hf384
     have hf391 := spUp gd387 hf385
     have hf392 := spUp gd387 hf386
     obtain ⟨A394, c394, ev394, lc394, cm394⟩ := S388.row_val (j := 7) rfl
     obtain ⟨v395, w395, r395, g395, T395⟩ := e_append (kd := (Kd.int .i64).slice) (A := A394) (c := c394) (ys := ([(at_ d.next t17)] : List (List Int))) (len := ([(at_ d.next t17)] : List (List Int)).length) 24 S388 u24 ty23 rfl rfl (j := 3) rfl rfl (news_own S388 (j := 7) rfl ev394) (by first|omega|(simp;omega)|assumption|simp) (by first|omega|(simp;omega)|assumption|simp)
     have S396 := T395.fx 3 (row 23 (Kd.int .i64).slice v395 (out_1 ++ ([(at_ d.next t17)] : List (List Int)))) rfl
     dsimp only [lAa, lAn, lA0, lAs] at S396
     have hf397 : (CFs ⟨b14, 257, none⟩ [v_out_1]).1 w395 := (CF.box (m := 1) (S396.box_at (j := 2) rfl) (seg_mid2 (a := (encPart d.part)) (pre := []) (seg := [v_out_1]) (post := [v_out_2]) (encPart_len o0_0) rfl rfl))
     have hf398 : (CFs ⟨b14, 258, none⟩ [v_out_2]).1 w395 := (CF.box (m := 1) (S396.box_at (j := 2) rfl) (seg_mid2 (a := (encPart d.part)) (pre := [v_out_1]) (seg := [v_out_2]) (post := []) (encPart_len o0_0) rfl rfl))
     have hf399 : (CFs ⟨b1, 258, none⟩ [.slice A0_2 d.final.length c0_2]).1 w395 := (CF.box (m := 1) (S396.box_at (j := 0) rfl) (seg_mid2 (a := (encPart d.part)) (pre := [.slice A0_1 d.next.length c0_1]) (seg := [.slice A0_2 d.final.length c0_2]) (post := []) (encPart_len o0_0) rfl rfl))
     have hf400 : (CFs ad25 [.bool (at_ d.final t17)]).1 w395 := (CF.ghost ce25 (St.le0 S396))
     refine d_v (v := v395) rfl rfl rfl (x_append rfl ev394 r395) (.inr (keep_w (by decide +kernel) (keep_v hf398 (keep_v hf399 (keep_v hf400 trivial))))) ?_
     refine qd0 (i := 16) (v := .pointer (some ⟨b14, 257, none⟩)) rfl (by decide +kernel) rfl rfl (x_fieldAt fd35_1 ty24 rfl r22_4) (of_no rfl) ?_
     refine ra_one (i := 15) (by decide +kernel) ?_
     intro wd401 gd401
     have S402 := S396.keep gd401
     have hf403 := spUp gd401 hf397
     have hf404 := spUp gd401 hf398
     have hf405 := spUp gd401 hf399
     have hf406 := spUp gd401 hf400
     obtain ⟨A408, c408, ev408, lc408, cm408⟩ := S402.row_val (j := 5) rfl
     obtain ⟨v409, w409, r409, g409, T409⟩ := e_append (kd := Kd.bool) (A := A408) (c := c408) (ys := ([!(at_ d.final t17)] : List Bool)) (len := ([!(at_ d.final t17)] : List Bool).length) 25 S402 u25 ty4 rfl rfl (j := 4) rfl rfl (news_own S402 (j := 5) rfl ev408) (by first|omega|(simp;omega)|assumption|simp) (by first|omega|(simp;omega)|assumption|simp)
     have S410 := T409.fx 4 (row 4 Kd.bool v409 (out_2 ++ ([!(at_ d.final t17)] : List Bool))) rfl
     dsimp only [lAa, lAn, lA0, lAs] at S410
     have hf411 : (CFs ⟨b14, 257, none⟩ [v_out_1]).1 w409 := (CF.box (m := 1) (S410.box_at (j := 2) rfl) (seg_mid2 (a := (encPart d.part)) (pre := []) (seg := [v_out_1]) (post := [v_out_2]) (encPart_len o0_0) rfl rfl))
     have hf412 : (CFs ⟨b14, 258, none⟩ [v_out_2]).1 w409 := (CF.box (m := 1) (S410.box_at (j := 2) rfl) (seg_mid2 (a := (encPart d.part)) (pre := [v_out_1]) (seg := [v_out_2]) (post := []) (encPart_len o0_0) rfl rfl))
     have hf413 : (CFs ⟨b1, 258, none⟩ [.slice A0_2 d.final.length c0_2]).1 w409 := (CF.box (m := 1) (S410.box_at (j := 0) rfl) (seg_mid2 (a := (encPart d.part)) (pre := [.slice A0_1 d.next.length c0_1]) (seg := [.slice A0_2 d.final.length c0_2]) (post := []) (encPart_len o0_0) rfl rfl))
     have hf414 : (CFs ad25 [.bool (at_ d.final t17)]).1 w409 := (CF.ghost ce25 (St.le0 S410))
     refine d_v (v := v409) rfl rfl rfl (x_append rfl ev408 r409) (.inr (keep_v hf411 (keep_w (by decide +kernel) (keep_v hf413 (keep_v hf414 trivial))))) ?_
     refine ra_one (i := 17) (by decide +kernel) ?_
     intro wd415 gd415
     have S416 := S410.keep gd415
     have hf417 := spUp gd415 hf411
     have hf418 := spUp gd415 hf412
     have hf419 := spUp gd415 hf413
     have hf420 := spUp gd415 hf414
     have oc422 := row_one S416 (j := 3) rfl
     obtain ⟨w421, r421, g421, T421⟩ := e_store_mid2 (P := Tryd.prog) (off := 257) (v := v395) (vs := [v395]) (a := (encPart d.part)) (pre := []) (seg := [v_out_1]) (post := [v_out_2]) S416 ty24 (row_cells S416 (j := 3) rfl) rfl (encPart_len o0_0) rfl rfl (j := 2) rfl (one_cons oc422 one_nil)
     have S423 := T421.fx 2 (box b14 35 ((encPart d.part) ++ ([v395, v_out_2] : List Value))) rfl
     dsimp only [lAa, lAn, lA0, lAs] at S423
     have hf424 : (CFs ⟨b1, 258, none⟩ [.slice A0_2 d.final.length c0_2]).1 w421 := (CF.box (m := 1) (S423.box_at (j := 0) rfl) (seg_mid2 (a := (encPart d.part)) (pre := [.slice A0_1 d.next.length c0_1]) (seg := [.slice A0_2 d.final.length c0_2]) (post := []) (encPart_len o0_0) rfl rfl))
     have hf425 : (CFs ad25 [.bool (at_ d.final t17)]).1 w421 := (CF.ghost ce25 (St.le0 S423))
     refine d_s rfl rfl (x_store rfl rfl r421) (.inr (keep_w (by decide +kernel) (keep_w (by decide +kernel) (keep_v hf424 (keep_v hf425 trivial))))) ?_
     refine qd0 (i := 18) (v := .pointer (some ⟨b14, 258, none⟩)) rfl (by decide +kernel) rfl rfl (x_fieldAt fd35_2 ty25 rfl r22_4) (of_no rfl) ?_
     refine ra_one (i := 19) (by decide +kernel) ?_
     intro wd426 gd426
     have S427 := S423.keep gd426
     have hf428 := spUp gd426 hf424
     have hf429 := spUp gd426 hf425
     have oc431 := row_one S427 (j := 4) rfl
     obtain ⟨w430, r430, g430, T430⟩ := e_store_mid2 (P := Tryd.prog) (off := 258) (v := v409) (vs := [v409]) (a := (encPart d.part)) (pre := [v395]) (seg := [v_out_2]) (post := []) S427 ty25 (row_cells S427 (j := 4) rfl) rfl (encPart_len o0_0) rfl rfl (j := 2) rfl (one_cons oc431 one_nil)
     have S432 := T430.fx 2 (box b14 35 ((encPart d.part) ++ ([v395, v409] : List Value))) rfl
     dsimp only [lAa, lAn, lA0, lAs] at S432
     have hf433 : (CFs ⟨b1, 258, none⟩ [.slice A0_2 d.final.length c0_2]).1 w430 := (CF.box (m := 1) (S432.box_at (j := 0) rfl) (seg_mid2 (a := (encPart d.part)) (pre := [.slice A0_1 d.next.length c0_1]) (seg := [.slice A0_2 d.final.length c0_2]) (post := []) (encPart_len o0_0) rfl rfl))
     have hf434 : (CFs ad25 [.bool (at_ d.final t17)]).1 w430 := (CF.ghost ce25 (St.le0 S432))
     refine d_s rfl rfl (x_store rfl rfl r430) (.inr (keep_w (by decide +kernel) (keep_w (by decide +kernel) (keep_w (by decide +kernel) (keep_w (by decide +kernel) trivial))))) ?_
     refine ra_done (by decide +kernel) ?_
     intro wd435 gd435
     have S436 := S432.keep gd435
     exact jn124 _ _ ⟨h373, v395, v409, lf373_1, S436.sub [0, 1, 2, 3, 4] (by decide) rfl _ rfl, r22_1, r22_2, r22_4, r22_15, r22_16, r22_17, o0_0, o0_0⟩
  ·skip
   refine run_exit rfl ?_
   refine run_seq ?_
   refine run_reg (l := [0, 1, 2]) rfl ?_
   refine p_v (v := .agg ((encPart d.part) ++ ([v_out_1, v_out_2] : List Value)).toArray) rfl rfl rfl (x_load (seg := ((encPart d.part) ++ ([v_out_1, v_out_2] : List Value))) ty35 (len_app (encPart_len o0_0) rfl) (by simp) r22_4 (CF.box (m := 259) (S22.box_at (j := 2) rfl) (take_all (len_app (encPart_len o0_0) rfl)))) ?_
   have oc438 := row_one S22 (j := 3) rfl
   have oc439 := row_one S22 (j := 4) rfl
   obtain ⟨w437, r437, g437, T437⟩ := e_store_all (P := Tryd.prog) (v := .agg ((encPart d.part) ++ ([v_out_1, v_out_2] : List Value)).toArray) (vs := ((encPart d.part) ++ ([v_out_1, v_out_2] : List Value))) (cs := ((encPart zPart) ++ ([.slice none 0 0, .slice none 0 0] : List Value))) S22 ty35 rfl (len_app (encPart_len o0_0) rfl) (len_app (encPart_len (okPart_zero)) rfl) (j := 1) rfl (one_app (encPart_one _) (one_cons oc438 (one_cons oc439 one_nil)))
   have S440 := T437.fx 1 (box b3 35 ((encPart d.part) ++ ([v_out_1, v_out_2] : List Value))) rfl
   dsimp only [lAa, lAn, lA0, lAs] at S440
   refine p_s rfl rfl (x_store r22_2 rfl r437) ?_
   refine p_v (v := .int .i64 0) rfl rfl rfl (x_assign rfl) ?_
   refine run_region_end ?_
   refine run_ret Tryd.func23 (res2 rfl (res_cell S440 ty35 r22_2 (j := 1) rfl (len_app (encPart_len o0_0) rfl) (by simp) rfl) (res_tmp (v := .int .i64 0) rfl)) ?_
   have q0 : ((notD d).part : PartM) = d.part := by
    first | exact errD_yes (by assumption) | exact errD_no (by assumption) | (rw [notD_no (by assumption)]; rfl) | (rw [notD_yes (by assumption)]; done) | (rw [notD_yes (by assumption)]; show d.next = _; rw [hI22.2.2.1, List.take_of_length_le (by omega)]) | (rw [notD_yes (by assumption)]; show d.final.map _ = _; rw [hI22.2.2.2, not_end d (by omega)])
   have q1 : ((notD d).next : List (List Int)) = out_1 := by
    first | exact errD_yes (by assumption) | exact errD_no (by assumption) | (rw [notD_no (by assumption)]; rfl) | (rw [notD_yes (by assumption)]; done) | (rw [notD_yes (by assumption)]; show d.next = _; rw [hI22.2.2.1, List.take_of_length_le (by omega)]) | (rw [notD_yes (by assumption)]; show d.final.map _ = _; rw [hI22.2.2.2, not_end d (by omega)])
   have q2 : ((notD d).final : List Bool) = out_2 := by
    first | exact errD_yes (by assumption) | exact errD_no (by assumption) | (rw [notD_no (by assumption)]; rfl) | (rw [notD_yes (by assumption)]; done) | (rw [notD_yes (by assumption)]; show d.next = _; rw [hI22.2.2.1, List.take_of_length_le (by omega)]) | (rw [notD_yes (by assumption)]; show d.final.map _ = _; rw [hI22.2.2.2, not_end d (by omega)])
   have q3 : (errD d : Int) = 0 := by
    first | exact errD_yes (by assumption) | exact errD_no (by assumption) | (rw [notD_no (by assumption)]; rfl) | (rw [notD_yes (by assumption)]; done) | (rw [notD_yes (by assumption)]; show d.next = _; rw [hI22.2.2.1, List.take_of_length_le (by omega)]) | (rw [notD_yes (by assumption)]; show d.final.map _ = _; rw [hI22.2.2.2, not_end d (by omega)])
   refine ⟨_, rfl, h22, v_out_1, v_out_2, ?_, ?_, ?_, ?_⟩
   · rw [q1]; rw [q2]; exact S440.sub [3, 4] (by decide) rfl _ rfl
   · first | rfl | (simp only [q0, q1, q2, q3]; rfl) | (simp only [q0, q1, q2, q3])
   · rw [q0]; first | assumption | exact okPart_zero
   · rw [q3]; exact (in_i64 (by first|omega|(simp;omega)|assumption|simp) (by first|omega|(simp;omega)|assumption|simp))
end Go.Proofs.YtfoemogojbnfhaaDoor
namespace Gx
open Go Go.RowKit
set_option linter.unusedSimpArgs false
set_option linter.unusedSectionVars false
set_option linter.unusedVariables false
section
variable {S : Type} [DecidableEq S]
theorem bfs_none {next : S → Int → S} {n : Int} {first : S} {i : Nat} (h : (bfs next n first i)[i]? = none) : bfs next n first (i + 1) = bfs next n first i := by
  show (match (bfs next n first i)[i]? with | some s => _ | none => _) = _
  rw [h]
theorem bfs_closed (next : S → Int → S) (n : Int) (first : S) : ∀ i, Closed next n (bfs next n first i) i
  | 0 => fun s hs => by simp at hs
  | i + 1 => by
    have ih := bfs_closed next n first i
    cases h : (bfs next n first i)[i]? with
    | none =>
      rw [bfs_none h]
      intro s hs
      have hl : (bfs next n first i).length ≤ i := List.getElem?_eq_none_iff.1 h
      rw [List.take_of_length_le (by omega)] at hs
      exact ih s (by rw [List.take_of_length_le hl]; exact hs)
    | some s =>
      have hlt := (List.getElem?_eq_some_iff.1 h).1
      rw [bfs_step h]
      obtain ⟨q, hq⟩ := fold_pre (rowsOf next n s) (bfs next n first i)
      intro t ht u hu
      rw [hq, List.take_append_of_le_length (by omega), List.take_add_one, h] at ht
      rcases List.mem_append.1 ht with ht | ht
      · rw [hq]; exact List.mem_append_left _ (ih t ht u hu)
      · simp only [Option.toList_some, List.mem_singleton] at ht
        rw [ht] at hu
        exact fold_mem _ _ u hu
theorem bfs_head (next : S → Int → S) (n : Int) (first : S) : ∀ i, (bfs next n first i)[0]? = some first
  | 0 => rfl
  | i + 1 => by
    obtain ⟨q, hq⟩ := bfs_pre next n first i
    have ih := bfs_head next n first i
    rw [hq, List.getElem?_append_left (List.getElem?_eq_some_iff.1 ih).1, ih]
structure AllOk (next : S → Int → S) (n : Int) (first : S) (all : List S) : Prop where
  head : all[0]? = some first
  nodup : all.Nodup
  cl : ∀ s ∈ all, ∀ k : Int, 0 ≤ k → k < n → next s k ∈ all
variable {next : S → Int → S} {n : Int} {first : S}
theorem mem_rows {s : S} {k : Int} (h0 : 0 ≤ k) (h1 : k < n) : next s k ∈ rowsOf next n s := by
  unfold rowsOf
  exact List.mem_map.2 ⟨k.toNat, List.mem_range.2 (by omega), by rw [Int.toNat_of_nonneg h0]⟩
theorem all_found {i : Nat} (h : (bfs next n first i).length ≤ i) : AllOk next n first (allM next n first) := by
  rw [allM_eq h]
  refine ⟨bfs_head _ _ _ _, bfs_nodup _ _ _ _, fun s hs k h0 h1 => ?_⟩
  exact bfs_closed next n first i s (by rw [List.take_of_length_le h]; exact hs) _ (mem_rows h0 h1)
theorem all_ok {P : S → Prop} {f : S → Nat} {N : Nat} (h0 : P first) (h1 : ∀ s k, P s → 0 ≤ k → k < n → P (next s k)) (hf : ∀ a b, P a → P b → f a = f b → a = b) (hN : ∀ a, P a → f a < N) : AllOk next n first (allM next n first) ∧ (allM next n first).length ≤ N ∧ ∀ s ∈ allM next n first, P s := by
  have hb := bfs_bound (P := P) (f := f) (N := N) (next := next) (n := n) (first := first) h0 h1 hf hN
  refine ⟨all_found (hb N), ?_, ?_⟩
  · rw [allM_eq (hb N)]; exact hb N
  · rw [allM_eq (hb N)]; exact bfs_all h0 h1 N
theorem rowsOf_len (s : S) (h : 0 ≤ n) : ((rowsOf next n s).length : Int) = n := by unfold rowsOf; simp; omega
variable {p : PartM} {fin : S → Bool}
theorem made_right (hp : rightP p = true) (hR : RightP p) (A : AllOk next p.n first (allM next p.n first)) : rightD (madeM p first next fin) = true := by
  have hl : 0 < (allM next p.n first).length := (List.getElem?_eq_some_iff.1 A.head).1
  have hn : (madeM p first next fin).next.length = (allM next p.n first).length := by
    rw [madeM_next]; unfold nextTo; rw [List.take_length, List.length_map]
  refine rightD_to (by rw [hn]; omega) (by rw [hn, madeM_final, List.length_map]) hp fun l hl2 => ?_
  rw [hn]
  rw [madeM_next] at hl2
  unfold nextTo at hl2
  rw [List.take_length] at hl2
  obtain ⟨s, hs, rfl⟩ := List.mem_map.1 hl2
  refine ⟨by rw [List.length_map, madeM_part]; exact rowsOf_len s hR.lo, fun x hx => ?_⟩
  obtain ⟨t, ht, rfl⟩ := List.mem_map.1 hx
  unfold rowsOf at ht
  obtain ⟨k, hk, rfl⟩ := List.mem_map.1 ht
  rw [List.mem_range] at hk
  have := place_mem (A.cl s hs ((k : Nat) : Int) (by omega) (by omega))
  omega
def goS (next : S → Int → S) (p : PartM) (first : S) (w : ByteArray) : Nat → S
  | 0 => first
  | i + 1 => next (goS next p first w i) (at_ p.of (byt w ((i : Nat) : Int)))
theorem at_get {α : Type} [Inhabited α] {l : List α} {i : Int} {x : α} (h : l[i.toNat]? = some x) : at_ l i = x := by
  unfold at_
  rw [List.getD_eq_getElem?_getD, h]; rfl
theorem made_at {q k : Int} {s : S} (A : AllOk next p.n first (allM next p.n first)) (hq : (allM next p.n first)[q.toNat]? = some s) (h0 : 0 ≤ k) (h1 : k < p.n) : at_ (at_ (madeM p first next fin).next q) k = placeL (next s k) (allM next p.n first) := by
  have hrow : at_ (madeM p first next fin).next q = (rowsOf next p.n s).map fun t => placeL t (allM next p.n first) := by
    refine at_get ?_
    rw [madeM_next]; unfold nextTo
    rw [List.take_length, List.getElem?_map, hq]; rfl
  rw [hrow]
  refine at_get ?_
  rw [List.getElem?_map]
  unfold rowsOf
  rw [List.getElem?_map, List.getElem?_range (by omega)]
  simp only [Option.map_some, Int.toNat_of_nonneg h0]
theorem made_go (ho : okPart p) (hR : RightP p) (A : AllOk next p.n first (allM next p.n first)) (w : ByteArray) : ∀ i, 0 ≤ goD (madeM p first next fin) w i ∧ (allM next p.n first)[(goD (madeM p first next fin) w i).toNat]? = some (goS next p first w i)
  | 0 => ⟨Int.le_refl _, A.head⟩
  | i + 1 => by
    have ih := made_go ho hR A w i
    have hb := byt_range w ((i : Nat) : Int)
    have c0 : 0 ≤ at_ p.of (byt w ((i : Nat) : Int)) := u8_lo (okInts_at ho.1 (by omega) (by omega))
    have c1 := hR.of_lt _ hb.1 (by omega : byt w ((i : Nat) : Int) < 256)
    have e : goD (madeM p first next fin) w (i + 1) = placeL (next (goS next p first w i) (at_ p.of (byt w ((i : Nat) : Int)))) (allM next p.n first) := made_at A ih.2 c0 c1
    have hm := A.cl _ (List.mem_of_getElem? ih.2) _ c0 c1
    rw [e]
    have := place_mem hm
    exact ⟨this.1, this.2.2⟩
theorem made_run (ho : okPart p) (hp : rightP p = true) (A : AllOk next p.n first (allM next p.n first)) (w : ByteArray) : runD (madeM p first next fin) w = fin (goS next p first w w.size) := by
  have hR := rightP_of ho hp
  unfold runD
  rw [made_right hp hR A, Bool.true_and]
  refine at_get ?_
  rw [madeM_final, List.getElem?_map, (made_go ho hR A w w.size).2]; rfl
end
theorem spots_ok {m : Mach} {bs : List Int} {n : Int} (hR : Right m) : AllOk (nextB m bs) n beginB (allM (nextB m bs) n beginB) ∧ (allM (nextB m bs) n beginB).length ≤ 2 ^ m.spots.length + 1 ∧ ∀ s ∈ allM (nextB m bs) n beginB, InB m s :=
  all_ok (P := InB m) (f := codeB m) (.inl rfl) (fun s k _ _ _ => .inr (nextC_in hR _ s)) (fun a b => code_inj) (fun a h => code_lt h)
theorem splits_same {p : PartM} {s : BSet} (hR : RightP p) (h : splitsP p s = false) {c d : Int} (c0 : 0 ≤ c) (c1 : c < 256) (d0 : 0 ≤ d) (d1 : d < 256) (k0 : 0 ≤ at_ p.of c) (e : at_ p.of c = at_ p.of d) : has s c = has s d := by
  unfold splitsP at h
  have hk := hR.of_lt c c0 c1
  have hl := setsP_len p
  have := List.any_eq_false.1 h (at_ (setsP p) (at_ p.of c)) (at_mem k0 (by have := hR.hi; omega))
  have hc := (cuts_iff _ _).1 (by simpa using this)
  have b1 := setsP_at k0 hk hR.hi c0 c1
  have b2 := setsP_at k0 hk hR.hi d0 d1
  rw [decide_eq_true rfl] at b1
  rw [decide_eq_true e.symm] at b2
  unfold has at b1 b2 ⊢
  rcases hc with hc | hc
  · rw [hc _ (by omega) b1, hc _ (by omega) b2]
  · rw [hc _ (by omega) b1, hc _ (by omega) b2]
theorem next_same {m : Mach} (hR : Right m) {c d : Int} (h : ∀ k : Int, 0 ≤ k → k < (m.spots.length : Int) → has (at_ m.spots k).set c = has (at_ m.spots k).set d) (s : BSet) : nextC m c s = nextC m d s := by
  refine has_ext fun k k0 k1 => ?_
  rw [nextC_has hR c s k0 k1, nextC_has hR d s k0 k1]
  by_cases hk : k < (m.spots.length : Int)
  · rw [h k k0 hk]
  · have h1 : decide (k ∈ m.first) = false := decide_eq_false fun e => hk (hR.firsts k e).2
    have h2 : anyTo (fun i => has s ((i : Nat) : Int) && decide (k ∈ at_ m.follow ((i : Nat) : Int))) m.spots.length = false := by
      refine Bool.eq_false_iff.2 fun e => ?_
      obtain ⟨i, hi, h2⟩ := (anyTo_iff _ _).1 e
      simp only [Bool.and_eq_true, decide_eq_true_eq] at h2
      exact hk (hR.rows (by omega) hi k h2.2).2
    rw [h1, h2]; simp
theorem okB_of {m : Mach} {p : PartM} (ho : okPart p) (h : okB m p = true) : rightM m = true ∧ Right m ∧ rightP p = true ∧ RightP p ∧ ∀ k : Int, 0 ≤ k → k < (m.spots.length : Int) → splitsP p (at_ m.spots k).set = false := by
  unfold okB at h
  rw [Bool.and_eq_true] at h
  have h2 := h.2
  unfold fitsP at h2
  rw [Bool.and_eq_true] at h2
  refine ⟨h.1, right_iff.1 h.1, h2.1, rightP_of ho h2.1, fun k k0 k1 => ?_⟩
  have h3 : ((setsM m).any (splitsP p)) = false := by simpa using h2.2
  have := spot_set m (i := k.toNat) (by omega)
  rw [Int.toNat_of_nonneg k0] at this
  simpa using List.any_eq_false.1 h3 _ this
theorem build_state {m : Mach} {p : PartM} (ho : okPart p) (h : okB m p = true) (w : ByteArray) : ∀ i, goS (nextB m (leastB p)) p beginB w (i + 1) ≠ beginB ∧ ∀ k : Int, 0 ≤ k → k < (m.spots.length : Int) → has (goS (nextB m (leastB p)) p beginB w (i + 1)) k = at_ (runTo m w i) k := by
  obtain ⟨hr, hR, hp, hP, hs⟩ := okB_of ho h
  have hsm := hR.small
  have step : ∀ (s : BSet) (i : Nat), nextB m (leastB p) s (at_ p.of (byt w ((i : Nat) : Int))) = nextC m (byt w ((i : Nat) : Int)) s := fun s i => by
    have hb := byt_range w ((i : Nat) : Int)
    have c0 : 0 ≤ at_ p.of (byt w ((i : Nat) : Int)) := u8_lo (okInts_at ho.1 (by omega) (by omega))
    have c1 := hP.of_lt _ hb.1 (by omega : byt w ((i : Nat) : Int) < 256)
    have hl := leastB_at hP c0 c1
    exact next_same hR (fun k k0 k1 => (splits_same hP (hs k k0 k1) hb.1 (by omega) hl.1 hl.2.1 c0 hl.2.2.symm).symm) s
  intro i
  refine ⟨next_ne hR _ _, ?_⟩
  induction i with
  | zero =>
    intro k k0 k1
    show has (nextB m (leastB p) beginB (at_ p.of (byt w ((0 : Nat) : Int)))) k = _
    rw [step, nextC_has hR _ _ k0 (by omega)]
    unfold runTo intoP
    rw [tab_at k0 k1, Int.toNat_of_nonneg k0]
    unfold markP
    rw [tab_at k0 k1, Int.toNat_of_nonneg k0]
    have : anyTo (fun i => has beginB ((i : Nat) : Int) && decide (k ∈ at_ m.follow ((i : Nat) : Int))) m.spots.length = false := by
      refine Bool.eq_false_iff.2 fun e => ?_
      obtain ⟨i, hi, h2⟩ := (anyTo_iff _ _).1 e
      rw [has_begin (by omega) (by omega)] at h2
      simp only [Bool.and_eq_true, decide_eq_true_eq] at h2
      omega
    rw [this]; simp
  | succ i ih =>
    intro k k0 k1
    have hne := next_ne hR (at_ (leastB p) (at_ p.of (byt w ((i : Nat) : Int)))) (goS (nextB m (leastB p)) p beginB w i)
    show has (nextB m (leastB p) (goS (nextB m (leastB p)) p beginB w (i + 1)) (at_ p.of (byt w ((i + 1 : Nat) : Int)))) k = _
    rw [step, nextC_has hR _ _ k0 (by omega)]
    have hne2 : goS (nextB m (leastB p)) p beginB w (i + 1) ≠ beginB := hne
    rw [decide_eq_false hne2]
    show _ = at_ (intoP m (behindP m (runTo m w i)) (byt w ((i + 1 : Nat) : Int))) k
    unfold intoP
    rw [tab_at k0 k1, Int.toNat_of_nonneg k0]
    unfold behindP
    rw [tab_at k0 k1, Int.toNat_of_nonneg k0]
    congr 1
    rw [Bool.false_and, Bool.false_or, Bool.eq_iff_iff, anyTo_iff, anyTo_iff]
    refine exists_congr fun d => and_congr_right fun hd => ?_
    rw [ih _ (by omega) hd]
theorem build_run {m : Mach} {p : PartM} (ho : okPart p) (h : okB m p = true) (w : ByteArray) : runD (buildM m p) w = runM m w := by
  obtain ⟨hr, hR, hp, hP, hs⟩ := okB_of ho h
  unfold buildM
  rw [if_pos h, made_run ho hp (spots_ok hR).1]
  unfold runM
  rw [hr, Bool.true_and]
  by_cases hw : w.size = 0
  · rw [hw, if_pos rfl]
    exact finalB_begin rfl
  · rw [if_neg hw]
    obtain ⟨n, hn⟩ : ∃ n, w.size = n + 1 := ⟨w.size - 1, by omega⟩
    rw [hn, Nat.add_sub_cancel]
    have := build_state ho h w n
    unfold finalB lastB endsIn
    rw [if_neg this.1, hR.last, Bool.eq_iff_iff, anyTo_iff, anyTo_iff]
    refine exists_congr fun d => and_congr_right fun hd => ?_
    rw [this.2 _ (by omega) hd, Bool.and_comm]
theorem build_right {m : Mach} {p : PartM} (ho : okPart p) (h : okB m p = true) : rightD (buildM m p) = true := by
  obtain ⟨hr, hR, hp, hP, hs⟩ := okB_of ho h
  unfold buildM
  rw [if_pos h]
  exact made_right hp hP (spots_ok hR).1
theorem build_part {m : Mach} {p : PartM} (h : okB m p = true) : (buildM m p).part = p := by unfold buildM; rw [if_pos h]; rfl
theorem made_len_eq {S : Type} [DecidableEq S] (p : PartM) (first : S) (next : S → Int → S) (fin : S → Bool) : (madeM p first next fin).next.length = (allM next p.n first).length ∧ (madeM p first next fin).final.length = (allM next p.n first).length := by
  rw [madeM_next, madeM_final]; unfold nextTo
  exact ⟨by rw [List.take_length, List.length_map], by rw [List.length_map]⟩
theorem build_len {m : Mach} {p : PartM} (h20 : (m.spots.length : Int) ≤ 20) : ((buildM m p).next.length : Int) ≤ 1048577 := by
  unfold buildM
  split
  · rename_i h
    have hR : Right m := by
      unfold okB at h
      rw [Bool.and_eq_true] at h
      exact right_iff.1 h.1
    rw [(made_len_eq _ _ _ _).1]
    have := (spots_ok (bs := leastB p) (n := p.n) hR).2.1
    have h2 := two_pow_le (a := m.spots.length) (by omega)
    omega
  · simp
theorem errB_iff {m : Mach} {p : PartM} : errB m p = 0 ↔ okB m p = true := by
  unfold errB
  split
  · simp [*]
  · simp [*]
theorem fits_ref (a b : List BSet) (hp : rightP (refineP (a ++ b)) = true) : fitsP (refineP (a ++ b)) a = true ∧ fitsP (refineP (a ++ b)) b = true := by
  have h1 : a.any (splitsP (refineP (a ++ b))) = false := List.any_eq_false.2 fun s hs => by rw [splits_own (List.mem_append_left _ hs)]; simp
  have h2 : b.any (splitsP (refineP (a ++ b))) = false := List.any_eq_false.2 fun s hs => by rw [splits_own (List.mem_append_right _ hs)]; simp
  unfold fitsP
  rw [hp, h1, h2]; exact ⟨rfl, rfl⟩
theorem rightP_ref (l : List BSet) : rightP (refineP l) = true := by unfold refineP; exact right_of _
theorem okB_ref1 (a b : Mach) : okB a (refineP (setsM a ++ setsM b)) = rightM a := by
  unfold okB
  rw [(fits_ref _ _ (rightP_ref _)).1, Bool.and_true]
theorem okB_ref2 (a b : Mach) : okB b (refineP (setsM a ++ setsM b)) = rightM b := by
  unfold okB
  rw [(fits_ref _ _ (rightP_ref _)).2, Bool.and_true]
theorem not_run {d : Dfa} (h : rightD d = true) (ho : okPart d.part) (w : ByteArray) : runD (notD d) w = !runD d w := by
  have hR := rightD_of ho h
  have hr : rightD (notD d) = true := by
    rw [notD_yes h]
    refine rightD_to hR.some_ (by show (((d.final.map fun x => !x).length : Nat) : Int) = _; rw [List.length_map]; exact hR.final) hR.rp fun l hl => ?_
    obtain ⟨j, hj, e⟩ := List.getElem_of_mem hl
    have e2 : at_ d.next ((j : Nat) : Int) = l := at_get (by rw [Int.toNat_natCast, List.getElem?_eq_getElem hj, e])
    have hj' : j < d.next.length := hj
    have a1 := hR.row ((j : Nat) : Int) (by omega) (by omega)
    have a2 := hR.cell ((j : Nat) : Int) (by omega) (by omega)
    rw [e2] at a1 a2
    exact ⟨a1, a2⟩
  have hg : ∀ i, goD (notD d) w i = goD d w i := by
    rw [notD_yes h]
    intro i
    induction i with
    | zero => rfl
    | succ i ih => show at_ (at_ d.next (goD _ w i)) _ = at_ (at_ d.next (goD d w i)) _; rw [ih]
  unfold runD
  rw [hr, h, hg, Bool.true_and, Bool.true_and]
  have hi := goD_in ho hR w w.size
  rw [notD_yes h]
  exact at_map _ _ hi.1 (by rw [hR.final]; exact hi.2)
theorem okBoth_of {a b : Dfa} {how : Int} (h : okBoth a b how = true) : rightD a = true ∧ rightD b = true ∧ a.part = b.part ∧ 1 ≤ how ∧ how ≤ 3 := by
  unfold okBoth at h
  simp only [Bool.and_eq_true, decide_eq_true_eq] at h
  exact ⟨h.1.1.1.1, h.1.1.1.2, h.1.1.2, h.1.2, h.2⟩
theorem pairs_ok {a b : Dfa} (ha : RightD a) (hb : RightD b) (he : a.part.n = b.part.n) : AllOk (nextP a b) a.part.n (0, 0) (allM (nextP a b) a.part.n ((0, 0) : Int × Int)) ∧ (allM (nextP a b) a.part.n ((0, 0) : Int × Int)).length ≤ a.next.length * b.next.length ∧ ∀ s ∈ allM (nextP a b) a.part.n ((0, 0) : Int × Int), InP a b s :=
  all_ok (P := InP a b) (f := codeP b) ⟨⟨by omega, ha.some_⟩, by omega, hb.some_⟩ (fun s k hs h0 h1 => nextP_in ha hb he hs h0 h1) (fun s t => codeP_inj) (fun s h => codeP_lt h)
theorem pair_state {a b : Dfa} (he : a.part = b.part) (w : ByteArray) : ∀ i, goS (nextP a b) a.part ((0, 0) : Int × Int) w i = (goD a w i, goD b w i)
  | 0 => rfl
  | i + 1 => by
    show nextP a b (goS (nextP a b) a.part ((0, 0) : Int × Int) w i) _ = _
    rw [pair_state he w i]
    refine Prod.ext rfl ?_
    show at_ (at_ b.next (goD b w i)) (at_ a.part.of _) = at_ (at_ b.next (goD b w i)) (at_ b.part.of _)
    rw [he]
theorem both_run {a b : Dfa} {how : Int} (ho : okPart a.part) (h : okBoth a b how = true) (w : ByteArray) : runD (bothM a b how) w = howB (runD a w) (runD b w) how := by
  obtain ⟨ha, hb, he, _, _⟩ := okBoth_of h
  have hA := rightD_of ho ha
  have hB := rightD_of (by rw [← he]; exact ho) hb
  unfold bothM
  rw [if_pos h, made_run ho hA.rp (pairs_ok hA hB (by rw [he])).1, pair_state he]
  unfold runD
  rw [ha, hb]; rfl
theorem okb_1 {a b : Dfa} {how : Int} (h : rightD a = false) : okBoth a b how = false := by unfold okBoth; rw [h]; rfl
theorem okb_2 {a b : Dfa} {how : Int} (h : rightD b = false) : okBoth a b how = false := by unfold okBoth; rw [h]; simp
theorem okb_3 {a b : Dfa} {how : Int} (h : a.part ≠ b.part) : okBoth a b how = false := by unfold okBoth; rw [decide_eq_false h]; simp
theorem okb_4 {a b : Dfa} {how : Int} (h : how < 1) : okBoth a b how = false := by unfold okBoth; rw [decide_eq_false (by omega : ¬ 1 ≤ how)]; simp
theorem okb_5 {a b : Dfa} {how : Int} (h : 3 < how) : okBoth a b how = false := by unfold okBoth; rw [decide_eq_false (by omega : ¬ how ≤ 3)]; simp
theorem okb_y {a b : Dfa} {how : Int} (h1 : rightD a = true) (h2 : rightD b = true) (h3 : a.part = b.part) (h4 : 1 ≤ how) (h5 : how ≤ 3) : okBoth a b how = true := by
  unfold okBoth
  rw [h1, h2, decide_eq_true h3, decide_eq_true h4, decide_eq_true h5]; rfl
theorem both_f {a b : Dfa} {how : Int} (h : okBoth a b how = false) : (bothM a b how).part = ⟨List.replicate 256 0, 0⟩ ∧ (bothM a b how).next = [] ∧ (bothM a b how).final = [] ∧ errO a b how = 1 := by
  unfold bothM errO
  rw [if_neg (by rw [h]; simp), if_neg (by rw [h]; simp)]
  exact ⟨rfl, rfl, rfl, rfl⟩
theorem both_y {a b : Dfa} {how : Int} (h : okBoth a b how = true) : (bothM a b how).part = a.part ∧ (bothM a b how).next = nextTo (nextP a b) a.part.n (allM (nextP a b) a.part.n (0, 0)) (allM (nextP a b) a.part.n ((0, 0) : Int × Int)).length ∧ (bothM a b how).final = (allM (nextP a b) a.part.n ((0, 0) : Int × Int)).map (finalP a b how) ∧ errO a b how = 0 := by
  unfold bothM errO
  rw [if_pos h, if_pos h]
  exact ⟨rfl, rfl, rfl, rfl⟩
theorem errO_iff {a b : Dfa} {how : Int} : errO a b how = 0 ↔ okBoth a b how = true := by
  unfold errO
  split
  · simp [*]
  · simp [*]
end Gx
namespace Gx
open Go Go.RowKit
set_option linter.unusedSimpArgs false
set_option linter.unusedSectionVars false
set_option linter.unusedVariables false
inductive Path (m : Mach) (src : List Int) : List Int → Int → Prop
  | one {i c : Int} : i ∈ src → 0 ≤ c → c < 256 → has (at_ m.spots i).set c = true → Path m src [c] i
  | snoc {l : List Int} {j i c : Int} : Path m src l j → i ∈ at_ m.follow j → 0 ≤ c → c < 256 → has (at_ m.spots i).set c = true → Path m src (l ++ [c]) i
theorem Path.some {m : Mach} {src l : List Int} {i : Int} (h : Path m src l i) : 0 < l.length := by cases h <;> simp
theorem Path.inn {m : Mach} (hR : Right m) {src l : List Int} {i : Int} (hs : ∀ x ∈ src, 0 ≤ x ∧ x < (m.spots.length : Int)) (h : Path m src l i) : 0 ≤ i ∧ i < (m.spots.length : Int) := by
  induction h with
  | one h3 => exact hs _ h3
  | snoc h3 h4 h5 h6 h7 ih => exact hR.rows ih.1 ih.2 _ h4
theorem Path.run {m : Mach} (hR : Right m) {l : List Int} {i : Int} (h : Path m m.first l i) : ∀ s : ByteArray, (∀ k : Nat, k < l.length → byt s ((k : Nat) : Int) = at_ l ((k : Nat) : Int)) → at_ (runTo m s (l.length - 1)) i = true := by
  induction h with
  | one h3 h4 h5 h6 =>
    intro s hb
    have hi := hR.firsts _ h3
    have h0 := hb 0 (by simp)
    show at_ (intoP m (markP m.spots.length m.first) (byt s 0)) _ = true
    unfold intoP
    rw [tab_at hi.1 hi.2]
    unfold markP
    rw [tab_at (by omega) (by omega), Int.toNat_natCast, Int.toNat_of_nonneg hi.1, decide_eq_true h3, Bool.true_and]
    have e : byt s 0 = _ := h0
    rw [e]; exact h6
  | snoc h3 h4 h5 h6 h7 ih =>
    rename_i l j i c
    intro s hb
    have hj := Path.inn hR hR.firsts h3
    have hi := hR.rows hj.1 hj.2 _ h4
    have hl := h3.some
    have h8 := ih s fun k hk => by
      rw [hb k (by simp; omega)]
      unfold at_
      rw [List.getD_eq_getElem?_getD, List.getD_eq_getElem?_getD, List.getElem?_append_left (by omega)]
    have h9 := hb l.length (by simp)
    have e1 : at_ (l ++ [c]) ((l.length : Nat) : Int) = c := by unfold at_; simp
    rw [e1] at h9
    rw [show (l ++ [c]).length - 1 = (l.length - 1) + 1 by simp; omega]
    show at_ (intoP m (behindP m (runTo m s (l.length - 1))) (byt s ((l.length - 1 + 1 : Nat) : Int))) i = true
    rw [show l.length - 1 + 1 = l.length by omega, h9]
    unfold intoP
    rw [tab_at hi.1 hi.2]
    unfold behindP
    rw [tab_at (by omega) (by omega), Int.toNat_natCast, Int.toNat_of_nonneg hi.1, h7, Bool.and_true, anyTo_iff]
    exact ⟨j.toNat, by omega, by rw [Int.toNat_of_nonneg hj.1, h8, decide_eq_true h4]; rfl⟩
end Gx
namespace Gx
open Go Go.RowKit
set_option linter.unusedSimpArgs false
set_option linter.unusedSectionVars false
set_option linter.unusedVariables false
structure StepM where
  st : Int
  fr : Int
  by_ : Int
deriving DecidableEq
instance : Inhabited StepM := ⟨⟨0, 0, 0⟩⟩
end Gx
namespace Go.Proofs.YtfoemogojbnfhaaDoor
open Go Go.RowKit Gx
set_option maxHeartbeats 1000000
set_option linter.unusedVariables false
set_option linter.unusedSimpArgs false
set_option maxRecDepth 8000
attribute [local irreducible] listOf count first has setOf wbits Lib.ctz rises rightM rowOk tab markP intoP intoTo behindP behindTo behindIn runTo endsIn endTo runM anyTo allTo placeF addS setsOfTo setsM badQ badRow rightD goD runD notD errD notTo nextP finalP howB okBoth bothM errO nextB nextC outTo readTo rowIn finalB lastB leastB leastBTo buildM errB fitsP madeM allM bfs numbered putB beginB okB
theorem bothF_calls (w : World) (s : (Int × Int)) (o0 : okPair s) (a : Dfa) (o1_0 : okPart a.part) (A1_1 : Option Addr) (c1_1 : Nat) (b1_1 : a.next.length ≤ c1_1 ∧ c1_1 ≤ maxLen) (l1_1 : Leads (Kd.int .i64).slice (hp w) A1_1 a.next) (A1_2 : Option Addr) (c1_2 : Nat) (b1_2 : a.final.length ≤ c1_2 ∧ c1_2 ≤ maxLen) (l1_2 : Leads Kd.bool (hp w) A1_2 a.final) (a1 : Addr) (pc1 : ∀ j v, ((encPart a.part) ++ ([.slice A1_1 a.next.length c1_1, .slice A1_2 a.final.length c1_2] : List Value))[j]? = some v → gcell (hp w) (a1.add j) = some v) (b : Dfa) (o2_0 : okPart b.part) (A2_1 : Option Addr) (c2_1 : Nat) (b2_1 : b.next.length ≤ c2_1 ∧ c2_1 ≤ maxLen) (l2_1 : Leads (Kd.int .i64).slice (hp w) A2_1 b.next) (A2_2 : Option Addr) (c2_2 : Nat) (b2_2 : b.final.length ≤ c2_2 ∧ c2_2 ≤ maxLen) (l2_2 : Leads Kd.bool (hp w) A2_2 b.final) (a2 : Addr) (pc2 : ∀ j v, ((encPart b.part) ++ ([.slice A2_1 b.next.length c2_1, .slice A2_2 b.final.length c2_2] : List Value))[j]? = some v → gcell (hp w) (a2.add j) = some v) (how : Int) (i3 : inK .u8 how) (a3 : Addr) (pc3 : ∀ j v, [.int .u8 how][j]? = some v → gcell (hp w) (a3.add j) = some v) (pre0 : (0 ≤ s.1 ∧ s.1 < (a.final.length : Int)) ∧ 0 ≤ s.2 ∧ s.2 < (b.final.length : Int)) :
    Calls Tryd.prog 90 #[.agg (encPair s).toArray, .pointer (some a1), .pointer (some a2), .pointer (some a3)] w fun e w' => ∃ v, e = .returned v ∧ ∃ (hn : Ghost), St w.heap.size w hn w' [] ∧ v = .bool (finalP a b how s) := by
 refine calls_of_run Tryd.func90 rfl Tryd.ntmps90 rfl ?_
 have S0 := St.init w
 have palo0 := i64_lo o0.1; have paho0 := i64_hi o0.1; have pblo0 := i64_lo o0.2; have pbho0 := i64_hi o0.2
 have ploo1_0 := i64_lo o1_0.2; have phio1_0 := i64_hi o1_0.2
 have bb1_1 := b1_1.1; have bc1_1 := b1_1.2; simp only [maxLen] at bc1_1
 have bb1_2 := b1_2.1; have bc1_2 := b1_2.2; simp only [maxLen] at bc1_2
 have ploo2_0 := i64_lo o2_0.2; have phio2_0 := i64_hi o2_0.2
 have bb2_1 := b2_1.1; have bc2_1 := b2_1.2; simp only [maxLen] at bc2_1
 have bb2_2 := b2_2.1; have bc2_2 := b2_2.2; simp only [maxLen] at bc2_2
 have lo3 := u8_lo i3; have hi3 := u8_hi i3
 have hs_ := pre0
 refine run_seq ?_
 refine run_reg (l := [0, 1]) rfl ?_
 obtain ⟨b1, w1, r1, g1, T1⟩ := e_box (P := Tryd.prog) S0 130 (v := .agg (encPair s).toArray) (encPair s) rfl
 have S2 := T1
 dsimp only [lAa, lAn, lA0, lAs] at S2
 refine p_v (v := .pointer (some ⟨b1, 0, none⟩)) rfl rfl rfl (x_box rfl r1) ?_
 refine p_v (v := .bool false) rfl rfl rfl (x_assign rfl) ?_
 refine run_region_end ?_
 refine run_seq ?_
 obtain ⟨ad4, seg4, a4, rp4, ce4⟩ := e_index_ro (q := s.1) (m := 1) l1_2 rfl (by first|omega|(simp;omega)|assumption|simp) (by first|omega|(simp;omega)|assumption|simp)
 obtain ⟨rfl, _⟩ := rp4
 obtain ⟨ad6, seg6, a6, rp6, ce6⟩ := e_index_ro (q := s.2) (m := 1) l2_2 rfl (by first|omega|(simp;omega)|assumption|simp) (by first|omega|(simp;omega)|assumption|simp)
 obtain ⟨rfl, _⟩ := rp6
 have hf7 : (CFs (a1.add 258) [.slice A1_2 a.final.length c1_2]).1 w1 := (CF.ghost (sub_seg (o := 258) (m := 1) (ds := [.slice A1_2 a.final.length c1_2]) pc1 (seg_mid2 (a := (encPart a.part)) (pre := [.slice A1_1 a.next.length c1_1]) (seg := [.slice A1_2 a.final.length c1_2]) (post := []) (encPart_len o1_0) rfl rfl)) (St.le0 S2))
 have hf8 : (CFs ⟨b1, 0, none⟩ [.int .i64 s.1]).1 w1 := (CF.box (m := 1) (S2.box_at (j := 0) rfl) rfl)
 have hf9 : (CFs ad4 [.bool (at_ a.final s.1)]).1 w1 := (CF.ghost ce4 (St.le0 S2))
 have hf10 : (CFs (a2.add 258) [.slice A2_2 b.final.length c2_2]).1 w1 := (CF.ghost (sub_seg (o := 258) (m := 1) (ds := [.slice A2_2 b.final.length c2_2]) pc2 (seg_mid2 (a := (encPart b.part)) (pre := [.slice A2_1 b.next.length c2_1]) (seg := [.slice A2_2 b.final.length c2_2]) (post := []) (encPart_len o2_0) rfl rfl)) (St.le0 S2))
 have hf11 : (CFs ⟨b1, 1, none⟩ [.int .i64 s.2]).1 w1 := (CF.box (m := 1) (S2.box_at (j := 0) rfl) rfl)
 have hf12 : (CFs ad6 [.bool (at_ b.final s.2)]).1 w1 := (CF.ghost ce6 (St.le0 S2))
 refine daS (hkC 1 hf7 (hkC 3 hf8 (hkC 5 hf9 (hkC 7 hf10 (hkC 9 hf11 (hkC 11 hf12 (hkN (w := w1)))))))) 14 rfl mixed ?_
 intro wd13 gd13 hd13
 have S14 := S2.keep gd13
 have hf15 := spUp gd13 hf7
 have hf16 := spUp gd13 hf8
 have hf17 := spUp gd13 hf9
 have hf18 := spUp gd13 hf10
 have hf19 := spUp gd13 hf11
 have hf20 := spUp gd13 hf12
 refine qd0 (i := 0) (v := .pointer (some (a1.add 258))) rfl (by decide +kernel) rfl rfl (x_fieldAd fd35_2 ty25 rfl rfl) (of_no rfl) ?_
 refine qd1 0 (i := 1) (v := .slice A1_2 a.final.length c1_2) rfl rfl (by decide +kernel) rfl rfl (fun wq hq => (x_load (seg := [.slice A1_2 a.final.length c1_2]) ty25 rfl (by simp) rfl hq)) (of_eq hf15 (of_no rfl)) ?_
 refine qd0 (i := 2) (v := .pointer (some ⟨b1, 0, none⟩)) rfl (by decide +kernel) rfl rfl (x_fieldAt fd130_0 ty3 rfl rfl) (of_no rfl) ?_
 refine qd1 1 (i := 3) (v := .int .i64 s.1) rfl rfl (by decide +kernel) rfl rfl (fun wq hq => (x_load (seg := [.int .i64 s.1]) ty3 rfl (by simp) rfl hq)) (of_ne rfl (of_eq hf16 (of_no rfl))) ?_
 refine qd0 (i := 4) (v := .pointer (some ad4)) rfl (by decide +kernel) rfl rfl (x_index_ro u25 ty4 rfl rfl a4 (by first|omega|(simp;omega)|assumption|simp) (by first|omega|(simp;omega)|assumption|simp)) (of_no rfl) ?_
 refine qd1 2 (i := 5) (v := .bool (at_ a.final s.1)) rfl rfl (by decide +kernel) rfl rfl (fun wq hq => (x_load (seg := [.bool (at_ a.final s.1)]) ty4 rfl (by simp) rfl hq)) (of_ne rfl (of_ne rfl (of_eq hf17 (of_no rfl)))) ?_
 refine qd0 (i := 6) (v := .pointer (some (a2.add 258))) rfl (by decide +kernel) rfl rfl (x_fieldAd fd35_2 ty25 rfl rfl) (of_no rfl) ?_
 refine qd1 3 (i := 7) (v := .slice A2_2 b.final.length c2_2) rfl rfl (by decide +kernel) rfl rfl (fun wq hq => (x_load (seg := [.slice A2_2 b.final.length c2_2]) ty25 rfl (by simp) rfl hq)) (of_ne rfl (of_ne rfl (of_ne rfl (of_eq hf18 (of_no rfl))))) ?_
 refine qd0 (i := 8) (v := .pointer (some ⟨b1, 1, none⟩)) rfl (by decide +kernel) rfl rfl (x_fieldAt fd130_1 ty3 rfl rfl) (of_no rfl) ?_
 refine qd1 4 (i := 9) (v := .int .i64 s.2) rfl rfl (by decide +kernel) rfl rfl (fun wq hq => (x_load (seg := [.int .i64 s.2]) ty3 rfl (by simp) rfl hq)) (of_ne rfl (of_ne rfl (of_ne rfl (of_ne rfl (of_eq hf19 (of_no rfl)))))) ?_
 refine qd0 (i := 10) (v := .pointer (some ad6)) rfl (by decide +kernel) rfl rfl (x_index_ro u25 ty4 rfl rfl a6 (by first|omega|(simp;omega)|assumption|simp) (by first|omega|(simp;omega)|assumption|simp)) (of_no rfl) ?_
 refine qd1 5 (i := 11) (v := .bool (at_ b.final s.2)) rfl rfl (by decide +kernel) rfl rfl (fun wq hq => (x_load (seg := [.bool (at_ b.final s.2)]) ty4 rfl (by simp) rfl hq)) (of_ne rfl (of_ne rfl (of_ne rfl (of_ne rfl (of_ne rfl (of_eq hf20 (of_no rfl))))))) ?_
 refine qd0 (i := 12) (v := .bool (at_ a.final s.1)) rfl (by decide +kernel) rfl rfl (x_assign rfl) (of_no rfl) ?_
 refine qd0 (i := 13) (v := .bool (at_ b.final s.2)) rfl (by decide +kernel) rfl rfl (x_assign rfl) (of_no rfl) ?_
 refine ra_done (by decide +kernel) ?_
 intro wd21 gd21
 have S22 := S14.keep gd21
 refine run_seq ?_
 refine run_seq ?_
 refine run_reg (l := [0]) rfl ?_
 refine p_v (v := .int .u8 how) rfl rfl rfl (x_load (seg := [.int .u8 how]) ty5 rfl (by simp) rfl (CF.ghost pc3 (St.le0 S22))) ?_
 refine run_region_end ?_
 refine run_block ?_
 refine run_seq ?_
 refine run_reg (l := [0, 1]) rfl ?_
 refine p_v (v := .bool (decide (how = 1))) rfl rfl rfl (x_eql rfl rfl) ?_
 refine p_v (v := .bool (decide (how = 1))) rfl rfl rfl (x_assign rfl) ?_
 refine run_region_end ?_
 refine run_cond_prop (p := how = 1) rfl (fun hc23 => ?_) (fun hc23 => ?_)
 ·skip
  refine run_seq ?_
  refine run_reg (l := [0, 1, 2, 3, 4]) rfl ?_
  refine p_v (v := .bool (at_ a.final s.1)) rfl rfl rfl (x_move rfl) ?_
  refine p_v (v := .bool (at_ a.final s.1)) rfl rfl rfl (x_move rfl) ?_
  rcases Bool.eq_false_or_eq_true (at_ a.final s.1) with hc24 | hc24
  ·skip
   refine p_v (v := .bool (at_ b.final s.2)) rfl (wanted_of (j := 1) (want := true) (d := 24) (b := true) rfl rfl (congrArg Value.bool hc24) rfl) rfl (x_move rfl) ?_
   refine p_v (v := .bool (at_ b.final s.2)) rfl rfl rfl (x_pick_t (congrArg Value.bool hc24) rfl) ?_
   refine p_v (v := .bool (at_ b.final s.2)) rfl rfl rfl (x_assign rfl) ?_
   refine run_region_end ?_
   refine run_ret Tryd.func90 (res1 rfl (res_tmp (v := .bool (at_ b.final s.2)) rfl)) ?_
   have q0 : (finalP a b how s : Bool) = at_ b.final s.2 := by
    unfold finalP howB; simp [*]
   refine ⟨_, rfl, (fun _ => none), ?_, ?_⟩
   · exact S22.sub [] (by decide) rfl _ rfl
   · first | rfl | (simp only [q0]; rfl) | (simp only [q0])
  ·skip
   refine p_off rfl (wanted_of (j := 1) (want := true) (d := 24) (b := false) rfl rfl (congrArg Value.bool hc24) rfl) rfl ?_
   refine p_v (v := .bool false) rfl rfl rfl (x_pick_f (congrArg Value.bool hc24) rfl) ?_
   refine p_v (v := .bool false) rfl rfl rfl (x_assign rfl) ?_
   refine run_region_end ?_
   refine run_ret Tryd.func90 (res1 rfl (res_tmp (v := .bool false) rfl)) ?_
   have q0 : (finalP a b how s : Bool) = false := by
    unfold finalP howB; simp [*]
   refine ⟨_, rfl, (fun _ => none), ?_, ?_⟩
   · exact S22.sub [] (by decide) rfl _ rfl
   · first | rfl | (simp only [q0]; rfl) | (simp only [q0])
 ·skip
  refine run_seq ?_
  refine run_reg (l := [0, 1]) rfl ?_
  refine p_v (v := .bool (decide (how = 2))) rfl rfl rfl (x_eql rfl rfl) ?_
  refine p_v (v := .bool (decide (how = 2))) rfl rfl rfl (x_assign rfl) ?_
  refine run_region_end ?_
  refine run_cond_prop (p := how = 2) rfl (fun hc26 => ?_) (fun hc26 => ?_)
  ·skip
   refine run_seq ?_
   refine run_reg (l := [0, 1, 2, 3, 4]) rfl ?_
   refine p_v (v := .bool (at_ a.final s.1)) rfl rfl rfl (x_move rfl) ?_
   refine p_v (v := .bool (at_ a.final s.1)) rfl rfl rfl (x_move rfl) ?_
   rcases Bool.eq_false_or_eq_true (at_ a.final s.1) with hc27 | hc27
   ·skip
    refine p_off rfl (wanted_of (j := 1) (want := false) (d := 30) (b := true) rfl rfl (congrArg Value.bool hc27) rfl) rfl ?_
    refine p_v (v := .bool true) rfl rfl rfl (x_pick_t (congrArg Value.bool hc27) rfl) ?_
    refine p_v (v := .bool true) rfl rfl rfl (x_assign rfl) ?_
    refine run_region_end ?_
    refine run_ret Tryd.func90 (res1 rfl (res_tmp (v := .bool true) rfl)) ?_
    have q0 : (finalP a b how s : Bool) = true := by
     unfold finalP howB; simp [*]
    refine ⟨_, rfl, (fun _ => none), ?_, ?_⟩
    · exact S22.sub [] (by decide) rfl _ rfl
    · first | rfl | (simp only [q0]; rfl) | (simp only [q0])
   ·skip
    refine p_v (v := .bool (at_ b.final s.2)) rfl (wanted_of (j := 1) (want := false) (d := 30) (b := false) rfl rfl (congrArg Value.bool hc27) rfl) rfl (x_move rfl) ?_
    refine p_v (v := .bool (at_ b.final s.2)) rfl rfl rfl (x_pick_f (congrArg Value.bool hc27) rfl) ?_
    refine p_v (v := .bool (at_ b.final s.2)) rfl rfl rfl (x_assign rfl) ?_
    refine run_region_end ?_
    refine run_ret Tryd.func90 (res1 rfl (res_tmp (v := .bool (at_ b.final s.2)) rfl)) ?_
    have q0 : (finalP a b how s : Bool) = at_ b.final s.2 := by
     unfold finalP howB; simp [*]
    refine ⟨_, rfl, (fun _ => none), ?_, ?_⟩
    · exact S22.sub [] (by decide) rfl _ rfl
    · first | rfl | (simp only [q0]; rfl) | (simp only [q0])
  ·skip
   refine run_skip ?_
   refine run_inBlock ?_
   refine run_seq ?_
   refine run_reg (l := [0, 1, 2, 3]) rfl ?_
   refine p_v (v := .bool (at_ a.final s.1)) rfl rfl rfl (x_move rfl) ?_
   refine p_v (v := .bool (at_ b.final s.2)) rfl rfl rfl (x_move rfl) ?_
   refine p_v (v := .bool (decide ((at_ a.final s.1) ≠ (at_ b.final s.2)))) rfl rfl rfl (x_neq_bool u4 rfl rfl) ?_
   refine p_v (v := .bool (decide ((at_ a.final s.1) ≠ (at_ b.final s.2)))) rfl rfl rfl (x_assign rfl) ?_
   refine run_region_end ?_
   refine run_ret Tryd.func90 (res1 rfl (res_tmp (v := .bool (decide ((at_ a.final s.1) ≠ (at_ b.final s.2)))) rfl)) ?_
   have q0 : (finalP a b how s : Bool) = decide ((at_ a.final s.1) ≠ (at_ b.final s.2)) := by
    unfold finalP howB; simp [*]
   refine ⟨_, rfl, (fun _ => none), ?_, ?_⟩
   · exact S22.sub [] (by decide) rfl _ rfl
   · first | rfl | (simp only [q0]; rfl) | (simp only [q0])
theorem bothN_calls (w : World) (s : (Int × Int)) (o0 : okPair s) (k : Int) (i1 : inK .i64 k) (a : Dfa) (o2_0 : okPart a.part) (A2_1 : Option Addr) (c2_1 : Nat) (b2_1 : a.next.length ≤ c2_1 ∧ c2_1 ≤ maxLen) (l2_1 : Leads (Kd.int .i64).slice (hp w) A2_1 a.next) (A2_2 : Option Addr) (c2_2 : Nat) (b2_2 : a.final.length ≤ c2_2 ∧ c2_2 ≤ maxLen) (l2_2 : Leads Kd.bool (hp w) A2_2 a.final) (a2 : Addr) (pc2 : ∀ j v, ((encPart a.part) ++ ([.slice A2_1 a.next.length c2_1, .slice A2_2 a.final.length c2_2] : List Value))[j]? = some v → gcell (hp w) (a2.add j) = some v) (b : Dfa) (o3_0 : okPart b.part) (A3_1 : Option Addr) (c3_1 : Nat) (b3_1 : b.next.length ≤ c3_1 ∧ c3_1 ≤ maxLen) (l3_1 : Leads (Kd.int .i64).slice (hp w) A3_1 b.next) (A3_2 : Option Addr) (c3_2 : Nat) (b3_2 : b.final.length ≤ c3_2 ∧ c3_2 ≤ maxLen) (l3_2 : Leads Kd.bool (hp w) A3_2 b.final) (a3 : Addr) (pc3 : ∀ j v, ((encPart b.part) ++ ([.slice A3_1 b.next.length c3_1, .slice A3_2 b.final.length c3_2] : List Value))[j]? = some v → gcell (hp w) (a3.add j) = some v) (pre0 : ((0 ≤ s.1 ∧ s.1 < (a.next.length : Int)) ∧ 0 ≤ s.2 ∧ s.2 < (b.next.length : Int)) ∧ (0 ≤ k ∧ k < ((at_ a.next s.1).length : Int)) ∧ k < ((at_ b.next s.2).length : Int)) :
    Calls Tryd.prog 92 #[.agg (encPair s).toArray, .int .i64 k, .pointer (some a2), .pointer (some a3)] w fun e w' => ∃ v, e = .returned v ∧ ∃ (hn : Ghost), St w.heap.size w hn w' [] ∧ v = .agg (encPair (nextP a b s k)).toArray ∧ okPair (nextP a b s k) := by
 refine calls_of_run Tryd.func92 rfl Tryd.ntmps92 rfl ?_
 have S0 := St.init w
 have palo0 := i64_lo o0.1; have paho0 := i64_hi o0.1; have pblo0 := i64_lo o0.2; have pbho0 := i64_hi o0.2
 have lo1 := i64_lo i1; have hi1 := i64_hi i1
 have ploo2_0 := i64_lo o2_0.2; have phio2_0 := i64_hi o2_0.2
 have bb2_1 := b2_1.1; have bc2_1 := b2_1.2; simp only [maxLen] at bc2_1
 have bb2_2 := b2_2.1; have bc2_2 := b2_2.2; simp only [maxLen] at bc2_2
 have ploo3_0 := i64_lo o3_0.2; have phio3_0 := i64_hi o3_0.2
 have bb3_1 := b3_1.1; have bc3_1 := b3_1.2; simp only [maxLen] at bc3_1
 have bb3_2 := b3_2.1; have bc3_2 := b3_2.2; simp only [maxLen] at bc3_2
 have hs_ := pre0
 refine run_seq ?_
 refine run_reg (l := [0, 1]) rfl ?_
 obtain ⟨b1, w1, r1, g1, T1⟩ := e_box (P := Tryd.prog) S0 130 (v := .agg (encPair s).toArray) (encPair s) rfl
 have S2 := T1
 dsimp only [lAa, lAn, lA0, lAs] at S2
 refine p_v (v := .pointer (some ⟨b1, 0, none⟩)) rfl rfl rfl (x_box rfl r1) ?_
 obtain ⟨b3, w3, r3, g3, T3⟩ := e_box (P := Tryd.prog) S2 130 (v := (.agg #[.int .i64 0, .int .i64 0])) (encPair ((0, 0) : Int × Int)) rfl
 have S4 := T3
 dsimp only [lAa, lAn, lA0, lAs] at S4
 refine p_v (v := .pointer (some ⟨b3, 0, none⟩)) rfl rfl rfl (x_alloc ty130 r3) ?_
 refine run_region_end ?_
 refine run_seq ?_
 obtain ⟨ad6, seg6, a6, rp6, ce6⟩ := e_index_ro (q := s.1) (m := 1) l2_1 rfl (by first|omega|(simp;omega)|assumption|simp) (by first|omega|(simp;omega)|assumption|simp)
 obtain ⟨A6, c6, rfl, lc6, cm6, ld6⟩ := rp6
 have cn6 := cm6; simp only [maxLen] at cn6
 obtain ⟨ad7, seg7, a7, rp7, ce7⟩ := e_index_ro (q := k) (m := 1) ld6 rfl (by first|omega|(simp;omega)|assumption|simp) (by first|omega|(simp;omega)|assumption|simp)
 obtain ⟨rfl, in7⟩ := rp7
 have lo7 := i64_lo in7; have hi7 := i64_hi in7
 obtain ⟨ad9, seg9, a9, rp9, ce9⟩ := e_index_ro (q := s.2) (m := 1) l3_1 rfl (by first|omega|(simp;omega)|assumption|simp) (by first|omega|(simp;omega)|assumption|simp)
 obtain ⟨A9, c9, rfl, lc9, cm9, ld9⟩ := rp9
 have cn9 := cm9; simp only [maxLen] at cn9
 obtain ⟨ad10, seg10, a10, rp10, ce10⟩ := e_index_ro (q := k) (m := 1) ld9 rfl (by first|omega|(simp;omega)|assumption|simp) (by first|omega|(simp;omega)|assumption|simp)
 obtain ⟨rfl, in10⟩ := rp10
 have lo10 := i64_lo in10; have hi10 := i64_hi in10
 have hf11 : (CFs (a2.add 257) [.slice A2_1 a.next.length c2_1]).1 w3 := (CF.ghost (sub_seg (o := 257) (m := 1) (ds := [.slice A2_1 a.next.length c2_1]) pc2 (seg_mid2 (a := (encPart a.part)) (pre := []) (seg := [.slice A2_1 a.next.length c2_1]) (post := [.slice A2_2 a.final.length c2_2]) (encPart_len o2_0) rfl rfl)) (St.le0 S4))
 have hf12 : (CFs ⟨b1, 0, none⟩ [.int .i64 s.1]).1 w3 := (CF.box (m := 1) (S4.box_at (j := 0) rfl) rfl)
 have hf13 : (CFs ad6 [.slice A6 (at_ a.next s.1).length c6]).1 w3 := (CF.ghost ce6 (St.le0 S4))
 have hf14 : (CFs ad7 [.int .i64 (at_ (at_ a.next s.1) k)]).1 w3 := (CF.ghost ce7 (St.le0 S4))
 have hf15 : (CFs (a3.add 257) [.slice A3_1 b.next.length c3_1]).1 w3 := (CF.ghost (sub_seg (o := 257) (m := 1) (ds := [.slice A3_1 b.next.length c3_1]) pc3 (seg_mid2 (a := (encPart b.part)) (pre := []) (seg := [.slice A3_1 b.next.length c3_1]) (post := [.slice A3_2 b.final.length c3_2]) (encPart_len o3_0) rfl rfl)) (St.le0 S4))
 have hf16 : (CFs ⟨b1, 1, none⟩ [.int .i64 s.2]).1 w3 := (CF.box (m := 1) (S4.box_at (j := 0) rfl) rfl)
 have hf17 : (CFs ad9 [.slice A9 (at_ b.next s.2).length c9]).1 w3 := (CF.ghost ce9 (St.le0 S4))
 have hf18 : (CFs ad10 [.int .i64 (at_ (at_ b.next s.2) k)]).1 w3 := (CF.ghost ce10 (St.le0 S4))
 refine daS (hkC 1 hf11 (hkC 3 hf12 (hkC 5 hf13 (hkC 8 hf14 (hkC 10 hf15 (hkC 12 hf16 (hkC 14 hf17 (hkC 17 hf18 (hkN (w := w3)))))))))) 20 rfl mixed ?_
 intro wd19 gd19 hd19
 have S20 := S4.keep gd19
 have hf21 := spUp gd19 hf11
 have hf22 := spUp gd19 hf12
 have hf23 := spUp gd19 hf13
 have hf24 := spUp gd19 hf14
 have hf25 := spUp gd19 hf15
 have hf26 := spUp gd19 hf16
 have hf27 := spUp gd19 hf17
 have hf28 := spUp gd19 hf18
 refine qd0 (i := 0) (v := .pointer (some (a2.add 257))) rfl (by decide +kernel) rfl rfl (x_fieldAd fd35_1 ty24 rfl rfl) (of_no rfl) ?_
 refine qd1 0 (i := 1) (v := .slice A2_1 a.next.length c2_1) rfl rfl (by decide +kernel) rfl rfl (fun wq hq => (x_load (seg := [.slice A2_1 a.next.length c2_1]) ty24 rfl (by simp) rfl hq)) (of_eq hf21 (of_no rfl)) ?_
 refine qd0 (i := 2) (v := .pointer (some ⟨b1, 0, none⟩)) rfl (by decide +kernel) rfl rfl (x_fieldAt fd130_0 ty3 rfl rfl) (of_no rfl) ?_
 refine qd1 1 (i := 3) (v := .int .i64 s.1) rfl rfl (by decide +kernel) rfl rfl (fun wq hq => (x_load (seg := [.int .i64 s.1]) ty3 rfl (by simp) rfl hq)) (of_ne rfl (of_eq hf22 (of_no rfl))) ?_
 refine qd0 (i := 4) (v := .pointer (some ad6)) rfl (by decide +kernel) rfl rfl (x_index_ro u24 ty23 rfl rfl a6 (by first|omega|(simp;omega)|assumption|simp) (by first|omega|(simp;omega)|assumption|simp)) (of_no rfl) ?_
 refine qd1 2 (i := 5) (v := .slice A6 (at_ a.next s.1).length c6) rfl rfl (by decide +kernel) rfl rfl (fun wq hq => (x_load (seg := [.slice A6 (at_ a.next s.1).length c6]) ty23 rfl (by simp) rfl hq)) (of_ne rfl (of_ne rfl (of_eq hf23 (of_no rfl)))) ?_
 refine qd0 (i := 6) (v := .int .i64 k) rfl (by decide +kernel) rfl rfl (x_move rfl) (of_no rfl) ?_
 refine qd0 (i := 7) (v := .pointer (some ad7)) rfl (by decide +kernel) rfl rfl (x_index_ro u23 ty3 rfl rfl a7 (by first|omega|(simp;omega)|assumption|simp) (by first|omega|(simp;omega)|assumption|simp)) (of_no rfl) ?_
 refine qd1 3 (i := 8) (v := .int .i64 (at_ (at_ a.next s.1) k)) rfl rfl (by decide +kernel) rfl rfl (fun wq hq => (x_load (seg := [.int .i64 (at_ (at_ a.next s.1) k)]) ty3 rfl (by simp) rfl hq)) (of_ne rfl (of_ne rfl (of_ne rfl (of_eq hf24 (of_no rfl))))) ?_
 refine qd0 (i := 9) (v := .pointer (some (a3.add 257))) rfl (by decide +kernel) rfl rfl (x_fieldAd fd35_1 ty24 rfl rfl) (of_no rfl) ?_
 refine qd1 4 (i := 10) (v := .slice A3_1 b.next.length c3_1) rfl rfl (by decide +kernel) rfl rfl (fun wq hq => (x_load (seg := [.slice A3_1 b.next.length c3_1]) ty24 rfl (by simp) rfl hq)) (of_ne rfl (of_ne rfl (of_ne rfl (of_ne rfl (of_eq hf25 (of_no rfl)))))) ?_
 refine qd0 (i := 11) (v := .pointer (some ⟨b1, 1, none⟩)) rfl (by decide +kernel) rfl rfl (x_fieldAt fd130_1 ty3 rfl rfl) (of_no rfl) ?_
 refine qd1 5 (i := 12) (v := .int .i64 s.2) rfl rfl (by decide +kernel) rfl rfl (fun wq hq => (x_load (seg := [.int .i64 s.2]) ty3 rfl (by simp) rfl hq)) (of_ne rfl (of_ne rfl (of_ne rfl (of_ne rfl (of_ne rfl (of_eq hf26 (of_no rfl))))))) ?_
 refine qd0 (i := 13) (v := .pointer (some ad9)) rfl (by decide +kernel) rfl rfl (x_index_ro u24 ty23 rfl rfl a9 (by first|omega|(simp;omega)|assumption|simp) (by first|omega|(simp;omega)|assumption|simp)) (of_no rfl) ?_
 refine qd1 6 (i := 14) (v := .slice A9 (at_ b.next s.2).length c9) rfl rfl (by decide +kernel) rfl rfl (fun wq hq => (x_load (seg := [.slice A9 (at_ b.next s.2).length c9]) ty23 rfl (by simp) rfl hq)) (of_ne rfl (of_ne rfl (of_ne rfl (of_ne rfl (of_ne rfl (of_ne rfl (of_eq hf27 (of_no rfl)))))))) ?_
 refine qd0 (i := 15) (v := .int .i64 k) rfl (by decide +kernel) rfl rfl (x_move rfl) (of_no rfl) ?_
 refine qd0 (i := 16) (v := .pointer (some ad10)) rfl (by decide +kernel) rfl rfl (x_index_ro u23 ty3 rfl rfl a10 (by first|omega|(simp;omega)|assumption|simp) (by first|omega|(simp;omega)|assumption|simp)) (of_no rfl) ?_
 refine qd1 7 (i := 17) (v := .int .i64 (at_ (at_ b.next s.2) k)) rfl rfl (by decide +kernel) rfl rfl (fun wq hq => (x_load (seg := [.int .i64 (at_ (at_ b.next s.2) k)]) ty3 rfl (by simp) rfl hq)) (of_ne rfl (of_ne rfl (of_ne rfl (of_ne rfl (of_ne rfl (of_ne rfl (of_ne rfl (of_eq hf28 (of_no rfl))))))))) ?_
 refine qd0 (i := 18) (v := .agg (encPair ((at_ (at_ a.next s.1) k, at_ (at_ b.next s.2) k) : Int × Int)).toArray) rfl (by decide +kernel) rfl rfl (y_build (pv := [(0, .int .i64 (at_ (at_ a.next s.1) k)), (1, .int .i64 (at_ (at_ b.next s.2) k))]) rfl (run_build_struct pl130 ty130 rfl (cs := (encPair ((at_ (at_ a.next s.1) k, at_ (at_ b.next s.2) k) : Int × Int))) rfl)) (of_no rfl) ?_
 refine ra_one (i := 19) (by decide +kernel) ?_
 intro wd29 gd29
 have S30 := S20.keep gd29
 have hf31 := spUp gd29 hf21
 have hf32 := spUp gd29 hf22
 have hf33 := spUp gd29 hf23
 have hf34 := spUp gd29 hf24
 have hf35 := spUp gd29 hf25
 have hf36 := spUp gd29 hf26
 have hf37 := spUp gd29 hf27
 have hf38 := spUp gd29 hf28
 obtain ⟨w39, r39, g39, T39⟩ := e_store (P := Tryd.prog) (off := 0) (v := .agg (encPair ((at_ (at_ a.next s.1) k, at_ (at_ b.next s.2) k) : Int × Int)).toArray) (vs := (encPair ((at_ (at_ a.next s.1) k, at_ (at_ b.next s.2) k) : Int × Int))) S30 ty130 rfl rfl (j := 1) rfl (by first | decide | exact Nat.le_of_ble_eq_true rfl) (encPair_one _)
 have S40 := T39.fx 1 (box b3 130 (encPair ((at_ (at_ a.next s.1) k, at_ (at_ b.next s.2) k) : Int × Int))) rfl
 dsimp only [lAa, lAn, lA0, lAs] at S40
 have hf41 : (CFs (a2.add 257) [.slice A2_1 a.next.length c2_1]).1 w39 := (CF.ghost (sub_seg (o := 257) (m := 1) (ds := [.slice A2_1 a.next.length c2_1]) pc2 (seg_mid2 (a := (encPart a.part)) (pre := []) (seg := [.slice A2_1 a.next.length c2_1]) (post := [.slice A2_2 a.final.length c2_2]) (encPart_len o2_0) rfl rfl)) (St.le0 S40))
 have hf42 : (CFs ⟨b1, 0, none⟩ [.int .i64 s.1]).1 w39 := (CF.box (m := 1) (S40.box_at (j := 0) rfl) rfl)
 have hf43 : (CFs ad6 [.slice A6 (at_ a.next s.1).length c6]).1 w39 := (CF.ghost ce6 (St.le0 S40))
 have hf44 : (CFs ad7 [.int .i64 (at_ (at_ a.next s.1) k)]).1 w39 := (CF.ghost ce7 (St.le0 S40))
 have hf45 : (CFs (a3.add 257) [.slice A3_1 b.next.length c3_1]).1 w39 := (CF.ghost (sub_seg (o := 257) (m := 1) (ds := [.slice A3_1 b.next.length c3_1]) pc3 (seg_mid2 (a := (encPart b.part)) (pre := []) (seg := [.slice A3_1 b.next.length c3_1]) (post := [.slice A3_2 b.final.length c3_2]) (encPart_len o3_0) rfl rfl)) (St.le0 S40))
 have hf46 : (CFs ⟨b1, 1, none⟩ [.int .i64 s.2]).1 w39 := (CF.box (m := 1) (S40.box_at (j := 0) rfl) rfl)
 have hf47 : (CFs ad9 [.slice A9 (at_ b.next s.2).length c9]).1 w39 := (CF.ghost ce9 (St.le0 S40))
 have hf48 : (CFs ad10 [.int .i64 (at_ (at_ b.next s.2) k)]).1 w39 := (CF.ghost ce10 (St.le0 S40))
 refine d_s rfl rfl (x_store rfl rfl r39) (.inr (keep_w (by decide +kernel) (keep_w (by decide +kernel) (keep_w (by decide +kernel) (keep_w (by decide +kernel) (keep_w (by decide +kernel) (keep_w (by decide +kernel) (keep_w (by decide +kernel) (keep_w (by decide +kernel) trivial))))))))) ?_
 refine ra_done (by decide +kernel) ?_
 intro wd49 gd49
 have S50 := S40.keep gd49
 refine run_ret Tryd.func92 (res1 rfl (res_cell S50 ty130 rfl (j := 1) rfl rfl (by simp) rfl)) ?_
 have q0 : (nextP a b s k : (Int × Int)) = ((at_ (at_ a.next s.1) k, at_ (at_ b.next s.2) k) : Int × Int) := by
  unfold nextP; rfl
 refine ⟨_, rfl, (fun _ => none), ?_, ?_, ?_⟩
 · exact S50.sub [] (by decide) rfl _ rfl
 · first | rfl | (simp only [q0]; rfl) | (simp only [q0])
 · rw [q0]; first | assumption | exact ⟨in_i64 (by decide) (by decide), in_i64 (by decide) (by decide)⟩ | exact ⟨in_i64 (by omega) (by omega), in_i64 (by omega) (by omega)⟩
theorem both_calls (w : World) (xa : Dfa) (o0_0 : okPart xa.part) (A0_1 : Option Addr) (c0_1 : Nat) (b0_1 : xa.next.length ≤ c0_1 ∧ c0_1 ≤ maxLen) (l0_1 : Leads (Kd.int .i64).slice (hp w) A0_1 xa.next) (A0_2 : Option Addr) (c0_2 : Nat) (b0_2 : xa.final.length ≤ c0_2 ∧ c0_2 ≤ maxLen) (l0_2 : Leads Kd.bool (hp w) A0_2 xa.final) (xb : Dfa) (o1_0 : okPart xb.part) (A1_1 : Option Addr) (c1_1 : Nat) (b1_1 : xb.next.length ≤ c1_1 ∧ c1_1 ≤ maxLen) (l1_1 : Leads (Kd.int .i64).slice (hp w) A1_1 xb.next) (A1_2 : Option Addr) (c1_2 : Nat) (b1_2 : xb.final.length ≤ c1_2 ∧ c1_2 ≤ maxLen) (l1_2 : Leads Kd.bool (hp w) A1_2 xb.final) (how : Int) (i2 : inK .u8 how) (u : Unit) (pre0 : (xa.next.length : Int) ≤ 1048577 ∧ (xb.next.length : Int) ≤ 1048577) :
    Calls Tryd.prog 28 #[.agg ((encPart xa.part) ++ ([.slice A0_1 xa.next.length c0_1, .slice A0_2 xa.final.length c0_2] : List Value)).toArray, .agg ((encPart xb.part) ++ ([.slice A1_1 xb.next.length c1_1, .slice A1_2 xb.final.length c1_2] : List Value)).toArray, .int .u8 how, .pointer none] w fun e w' => ∃ v, e = .returned v ∧ ∃ (hn : Ghost) (r0 : Value) (r1 : Value), St w.heap.size w hn w' [row 23 (Kd.int .i64).slice r0 ((bothM xa xb how).next), row 4 Kd.bool r1 ((bothM xa xb how).final)] ∧ v = .tuple #[.agg ((encPart ((bothM xa xb how).part)) ++ ([r0, r1] : List Value)).toArray, .int .i64 (errO xa xb how)] ∧ okPart ((bothM xa xb how).part) ∧ inK .i64 (errO xa xb how) := by
 refine calls_of_run Tryd.func28 rfl Tryd.ntmps28 rfl ?_
 have S0 := St.init w
 have ploo0_0 := i64_lo o0_0.2; have phio0_0 := i64_hi o0_0.2
 have bb0_1 := b0_1.1; have bc0_1 := b0_1.2; simp only [maxLen] at bc0_1
 have bb0_2 := b0_2.1; have bc0_2 := b0_2.2; simp only [maxLen] at bc0_2
 have ploo1_0 := i64_lo o1_0.2; have phio1_0 := i64_hi o1_0.2
 have bb1_1 := b1_1.1; have bc1_1 := b1_1.2; simp only [maxLen] at bc1_1
 have bb1_2 := b1_2.1; have bc1_2 := b1_2.2; simp only [maxLen] at bc1_2
 have lo2 := u8_lo i2; have hi2 := u8_hi i2
 refine run_seq ?_
 refine run_reg (l := [0, 1, 2, 3, 4]) rfl ?_
 obtain ⟨b1, w1, r1, g1, T1⟩ := e_box (P := Tryd.prog) S0 35 (v := .agg ((encPart xa.part) ++ ([.slice A0_1 xa.next.length c0_1, .slice A0_2 xa.final.length c0_2] : List Value)).toArray) ((encPart xa.part) ++ ([.slice A0_1 xa.next.length c0_1, .slice A0_2 xa.final.length c0_2] : List Value)) rfl
 have S2 := T1
 dsimp only [lAa, lAn, lA0, lAs] at S2
 refine p_v (v := .pointer (some ⟨b1, 0, none⟩)) rfl rfl rfl (x_box rfl r1) ?_
 obtain ⟨b3, w3, r3, g3, T3⟩ := e_box (P := Tryd.prog) S2 35 (v := .agg ((encPart xb.part) ++ ([.slice A1_1 xb.next.length c1_1, .slice A1_2 xb.final.length c1_2] : List Value)).toArray) ((encPart xb.part) ++ ([.slice A1_1 xb.next.length c1_1, .slice A1_2 xb.final.length c1_2] : List Value)) rfl
 have S4 := T3
 dsimp only [lAa, lAn, lA0, lAs] at S4
 refine p_v (v := .pointer (some ⟨b3, 0, none⟩)) rfl rfl rfl (x_box rfl r3) ?_
 obtain ⟨b5, w5, r5, g5, T5⟩ := e_box (P := Tryd.prog) S4 5 (v := .int .u8 how) [.int .u8 how] rfl
 have S6 := T5
 dsimp only [lAa, lAn, lA0, lAs] at S6
 refine p_v (v := .pointer (some ⟨b5, 0, none⟩)) rfl rfl rfl (x_box rfl r5) ?_
 obtain ⟨b7, w7, r7, g7, T7⟩ := e_box (P := Tryd.prog) S6 35 (v := zv35) ((encPart zPart) ++ ([.slice none 0 0, .slice none 0 0] : List Value)) (by kernel_rfl)
 have S8 := T7
 dsimp only [lAa, lAn, lA0, lAs] at S8
 refine p_v (v := .pointer (some ⟨b7, 0, none⟩)) rfl rfl rfl (x_alloc ty35 r7) ?_
 refine p_v (v := .int .i64 0) rfl rfl rfl (x_assign rfl) ?_
 refine run_region_end ?_
 refine run_seq ?_
 refine run_seq ?_
 refine run_reg (l := [0, 1, 2, 3, 4, 5, 6, 7, 8, 9, 10, 11, 12, 13, 14, 15, 16, 17, 18, 19, 20, 21, 22]) rfl ?_
 refine p_v (v := .agg ((encPart xa.part) ++ ([.slice A0_1 xa.next.length c0_1, .slice A0_2 xa.final.length c0_2] : List Value)).toArray) rfl rfl rfl (x_load (seg := ((encPart xa.part) ++ ([.slice A0_1 xa.next.length c0_1, .slice A0_2 xa.final.length c0_2] : List Value))) ty35 (len_app (encPart_len o0_0) rfl) (by simp) rfl (CF.box (m := 259) (S8.box_at (j := 0) rfl) (take_all (len_app (encPart_len o0_0) rfl)))) ?_
 refine p_c rfl rfl rfl (y_call (args := [.agg ((encPart xa.part) ++ ([.slice A0_1 xa.next.length c0_1, .slice A0_2 xa.final.length c0_2] : List Value)).toArray]) ca48 rfl rfl) (rightD_calls w7 xa o0_0 A0_1 c0_1 b0_1 (l0_1.mono (St.le0 S8)) A0_2 c0_2 b0_2 (l0_2.mono (St.le0 S8))) ?_
 rintro _ w9 ⟨h9, T9, rfl⟩
 have S10 := S8.keep (Chg.of_below T9.below)
 refine p_v (v := .bool (!(rightD xa))) rfl rfl rfl (x_not rfl) ?_
 refine p_v (v := .bool (!(rightD xa))) rfl rfl rfl (x_move rfl) ?_
 rcases Bool.eq_false_or_eq_true (rightD xa) with hc11 | hc11
 ·skip
  have hA1_ := hc11; have hA_ := rightD_of o0_0 hc11
  refine p_v (v := .agg ((encPart xb.part) ++ ([.slice A1_1 xb.next.length c1_1, .slice A1_2 xb.final.length c1_2] : List Value)).toArray) rfl (wanted_of (j := 3) (want := false) (d := 14) (b := false) rfl rfl (congrArg (fun z => Value.bool (!z)) hc11) rfl) rfl (x_load (seg := ((encPart xb.part) ++ ([.slice A1_1 xb.next.length c1_1, .slice A1_2 xb.final.length c1_2] : List Value))) ty35 (len_app (encPart_len o1_0) rfl) (by simp) rfl (CF.box (m := 259) (S10.box_at (j := 1) rfl) (take_all (len_app (encPart_len o1_0) rfl)))) ?_
  refine p_c rfl (wanted_of (j := 3) (want := false) (d := 14) (b := false) rfl rfl (congrArg (fun z => Value.bool (!z)) hc11) rfl) rfl (y_call (args := [.agg ((encPart xb.part) ++ ([.slice A1_1 xb.next.length c1_1, .slice A1_2 xb.final.length c1_2] : List Value)).toArray]) ca48 rfl rfl) (rightD_calls w9 xb o1_0 A1_1 c1_1 b1_1 (l1_1.mono (St.le0 S10)) A1_2 c1_2 b1_2 (l1_2.mono (St.le0 S10))) ?_
  rintro _ w12 ⟨h12, T12, rfl⟩
  have S13 := S10.keep (Chg.of_below T12.below)
  refine p_v (v := .bool (!(rightD xb))) rfl (wanted_of (j := 3) (want := false) (d := 14) (b := false) rfl rfl (congrArg (fun z => Value.bool (!z)) hc11) rfl) rfl (x_not rfl) ?_
  refine p_v (v := .bool (!(rightD xb))) rfl rfl rfl (x_pick_f (congrArg (fun z => Value.bool (!z)) hc11) rfl) ?_
  refine p_v (v := .bool (!(rightD xb))) rfl rfl rfl (x_move rfl) ?_
  rcases Bool.eq_false_or_eq_true (rightD xb) with hc14 | hc14
  ·skip
   have hB1_ := hc14; have hB_ := rightD_of o1_0 hc14
   refine p_v (v := .pointer (some ⟨b1, 0, none⟩)) rfl (wanted_of (j := 8) (want := false) (d := 19) (b := false) rfl rfl (congrArg (fun z => Value.bool (!z)) hc14) rfl) rfl (x_fieldAt fd35_0 ty32 rfl rfl) ?_
   refine p_v (v := .agg (encPart xa.part).toArray) rfl (wanted_of (j := 8) (want := false) (d := 19) (b := false) rfl rfl (congrArg (fun z => Value.bool (!z)) hc14) rfl) rfl (x_load (seg := ((encPart xa.part))) ty32 (encPart_len o0_0) (by simp) rfl (CF.box (m := 257) (S13.box_at (j := 0) rfl) (seg_mid (pre := []) (seg := ((encPart xa.part))) (post := [.slice A0_1 xa.next.length c0_1, .slice A0_2 xa.final.length c0_2]) rfl (encPart_len o0_0)))) ?_
   refine p_v (v := .pointer (some ⟨b3, 0, none⟩)) rfl (wanted_of (j := 8) (want := false) (d := 19) (b := false) rfl rfl (congrArg (fun z => Value.bool (!z)) hc14) rfl) rfl (x_fieldAt fd35_0 ty32 rfl rfl) ?_
   refine p_v (v := .agg (encPart xb.part).toArray) rfl (wanted_of (j := 8) (want := false) (d := 19) (b := false) rfl rfl (congrArg (fun z => Value.bool (!z)) hc14) rfl) rfl (x_load (seg := ((encPart xb.part))) ty32 (encPart_len o1_0) (by simp) rfl (CF.box (m := 257) (S13.box_at (j := 1) rfl) (seg_mid (pre := []) (seg := ((encPart xb.part))) (post := [.slice A1_1 xb.next.length c1_1, .slice A1_2 xb.final.length c1_2]) rfl (encPart_len o1_0)))) ?_
   refine p_v (v := .bool (decide (xa.part ≠ xb.part))) rfl (wanted_of (j := 8) (want := false) (d := 19) (b := false) rfl rfl (congrArg (fun z => Value.bool (!z)) hc14) rfl) rfl (x_neq_agg eqk32 o0_0 o1_0 q32 rfl rfl) ?_
   refine p_v (v := .bool (decide (xa.part ≠ xb.part))) rfl rfl rfl (x_pick_f (congrArg (fun z => Value.bool (!z)) hc14) rfl) ?_
   refine p_v (v := .bool (decide (xa.part ≠ xb.part))) rfl rfl rfl (x_move rfl) ?_
   by_cases hc15 : xa.part ≠ xb.part
   ·skip
    have hz_ := okb_3 (how := how) hc15
    refine p_off rfl (wanted_of (j := 15) (want := false) (d := 26) (b := true) rfl rfl (congrArg Value.bool (decide_eq_true hc15)) rfl) rfl ?_
    refine p_off rfl (wanted_of (j := 15) (want := false) (d := 26) (b := true) rfl rfl (congrArg Value.bool (decide_eq_true hc15)) rfl) rfl ?_
    refine p_v (v := .bool true) rfl rfl rfl (x_pick_t (congrArg Value.bool (decide_eq_true hc15)) rfl) ?_
    refine p_v (v := .bool true) rfl rfl rfl (x_move rfl) ?_
    refine p_off rfl rfl rfl ?_
    refine p_off rfl rfl rfl ?_
    refine p_v (v := .bool true) rfl rfl rfl (x_pick_t rfl rfl) ?_
    refine run_region_end ?_
    refine run_cond (b := true) rfl ?_
    simp only [if_true, if_false, Bool.false_eq_true]
    refine run_seq ?_
    refine run_reg (l := [0, 1, 2]) rfl ?_
    refine p_v (v := .agg ((encPart zPart) ++ ([.slice none 0 0, .slice none 0 0] : List Value)).toArray) rfl rfl rfl (y_build (pv := []) rfl (run_build_struct pl35 ty35 rfl (cs := ((encPart zPart) ++ ([.slice none 0 0, .slice none 0 0] : List Value))) (by kernel_rfl))) ?_
    obtain ⟨w16, r16, g16, T16⟩ := e_store_all (P := Tryd.prog) (v := .agg ((encPart zPart) ++ ([.slice none 0 0, .slice none 0 0] : List Value)).toArray) (vs := ((encPart zPart) ++ ([.slice none 0 0, .slice none 0 0] : List Value))) (cs := ((encPart zPart) ++ ([.slice none 0 0, .slice none 0 0] : List Value))) S13 ty35 rfl (len_app (encPart_len (okPart_zero)) rfl) (len_app (encPart_len (okPart_zero)) rfl) (j := 3) rfl (one_app (encPart_one _) (by simp [Value.oneCell']))
    have S17 : St w.heap.size w (fun _ => none) w16 [box b1 35 ((encPart xa.part) ++ ([.slice A0_1 xa.next.length c0_1, .slice A0_2 xa.final.length c0_2] : List Value)), box b3 35 ((encPart xb.part) ++ ([.slice A1_1 xb.next.length c1_1, .slice A1_2 xb.final.length c1_2] : List Value)), box b5 5 [.int .u8 how], box b7 35 ((encPart zPart) ++ ([.slice none 0 0, .slice none 0 0] : List Value))] := T16
    refine p_s rfl rfl (x_store rfl rfl r16) ?_
    refine p_v (v := .int .i64 1) rfl rfl rfl (x_assign rfl) ?_
    refine run_region_end ?_
    have T18 := S17.row_nil 23 (Kd.int .i64).slice
    have S19 := T18
    dsimp only [lAa, lAn, lA0, lAs] at S19
    have T20 := S19.row_nil 4 Kd.bool
    have S21 := T20
    dsimp only [lAa, lAn, lA0, lAs] at S21
    refine run_ret Tryd.func28 (res2 rfl (res_cell S17 ty35 rfl (j := 3) rfl (len_app (encPart_len (okPart_zero)) rfl) (by simp) rfl) (res_tmp (v := .int .i64 1) rfl)) ?_
    have q0 : ((bothM xa xb how).part : PartM) = zPart := by
     first | exact (both_f hz_).1 | exact (both_f hz_).2.1 | exact (both_f hz_).2.2.1 | exact (both_f hz_).2.2.2 | exact (both_y hy_).1 | exact (both_y hy_).2.2.2 | exact (both_y hy_).2.1.trans (made_end hI_ (by omega)).2.1.symm | exact (both_y hy_).2.2.1.trans (made_end hI_ (by omega)).2.2.symm
    have q1 : ((bothM xa xb how).next : List (List Int)) = ([] : List (List Int)) := by
     first | exact (both_f hz_).1 | exact (both_f hz_).2.1 | exact (both_f hz_).2.2.1 | exact (both_f hz_).2.2.2 | exact (both_y hy_).1 | exact (both_y hy_).2.2.2 | exact (both_y hy_).2.1.trans (made_end hI_ (by omega)).2.1.symm | exact (both_y hy_).2.2.1.trans (made_end hI_ (by omega)).2.2.symm
    have q2 : ((bothM xa xb how).final : List Bool) = ([] : List Bool) := by
     first | exact (both_f hz_).1 | exact (both_f hz_).2.1 | exact (both_f hz_).2.2.1 | exact (both_f hz_).2.2.2 | exact (both_y hy_).1 | exact (both_y hy_).2.2.2 | exact (both_y hy_).2.1.trans (made_end hI_ (by omega)).2.1.symm | exact (both_y hy_).2.2.1.trans (made_end hI_ (by omega)).2.2.symm
    have q3 : (errO xa xb how : Int) = 1 := by
     first | exact (both_f hz_).1 | exact (both_f hz_).2.1 | exact (both_f hz_).2.2.1 | exact (both_f hz_).2.2.2 | exact (both_y hy_).1 | exact (both_y hy_).2.2.2 | exact (both_y hy_).2.1.trans (made_end hI_ (by omega)).2.1.symm | exact (both_y hy_).2.2.1.trans (made_end hI_ (by omega)).2.2.symm
    refine ⟨_, rfl, (fun _ => none), (.slice none 0 0), (.slice none 0 0), ?_, ?_, ?_, ?_⟩
    · rw [q1]; rw [q2]; exact S21.sub [4, 5] (by decide) rfl _ rfl
    · first | rfl | (simp only [q0, q1, q2, q3]; rfl) | (simp only [q0, q1, q2, q3])
    · rw [q0]; first | assumption | exact okPart_zero
    · rw [q3]; exact (in_i64 (by first|omega|(simp;omega)|assumption|simp) (by first|omega|(simp;omega)|assumption|simp))
   ·skip
    have hE_ := Decidable.not_not.1 hc15; have hN_ : xa.part.n = xb.part.n := by rw [hE_]
    refine p_v (v := .int .u8 how) rfl (wanted_of (j := 15) (want := false) (d := 26) (b := false) rfl rfl (congrArg Value.bool (decide_eq_false hc15)) rfl) rfl (x_load (seg := [.int .u8 how]) ty5 rfl (by simp) rfl (CF.box (m := 1) (S13.box_at (j := 2) rfl) rfl)) ?_
    refine p_v (v := .bool (decide (how < 1))) rfl (wanted_of (j := 15) (want := false) (d := 26) (b := false) rfl rfl (congrArg Value.bool (decide_eq_false hc15)) rfl) rfl (x_lss rfl rfl) ?_
    refine p_v (v := .bool (decide (how < 1))) rfl rfl rfl (x_pick_f (congrArg Value.bool (decide_eq_false hc15)) rfl) ?_
    refine p_v (v := .bool (decide (how < 1))) rfl rfl rfl (x_move rfl) ?_
    by_cases hc22 : how < 1
    ·skip
     have hz_ := okb_4 (a := xa) (b := xb) hc22
     refine p_off rfl (wanted_of (j := 19) (want := false) (d := 30) (b := true) rfl rfl (congrArg Value.bool (decide_eq_true hc22)) rfl) rfl ?_
     refine p_off rfl (wanted_of (j := 19) (want := false) (d := 30) (b := true) rfl rfl (congrArg Value.bool (decide_eq_true hc22)) rfl) rfl ?_
     refine p_v (v := .bool true) rfl rfl rfl (x_pick_t (congrArg Value.bool (decide_eq_true hc22)) rfl) ?_
     refine run_region_end ?_
     refine run_cond (b := true) rfl ?_
     simp only [if_true, if_false, Bool.false_eq_true]
     refine run_seq ?_
     refine run_reg (l := [0, 1, 2]) rfl ?_
     refine p_v (v := .agg ((encPart zPart) ++ ([.slice none 0 0, .slice none 0 0] : List Value)).toArray) rfl rfl rfl (y_build (pv := []) rfl (run_build_struct pl35 ty35 rfl (cs := ((encPart zPart) ++ ([.slice none 0 0, .slice none 0 0] : List Value))) (by kernel_rfl))) ?_
     obtain ⟨w23, r23, g23, T23⟩ := e_store_all (P := Tryd.prog) (v := .agg ((encPart zPart) ++ ([.slice none 0 0, .slice none 0 0] : List Value)).toArray) (vs := ((encPart zPart) ++ ([.slice none 0 0, .slice none 0 0] : List Value))) (cs := ((encPart zPart) ++ ([.slice none 0 0, .slice none 0 0] : List Value))) S13 ty35 rfl (len_app (encPart_len (okPart_zero)) rfl) (len_app (encPart_len (okPart_zero)) rfl) (j := 3) rfl (one_app (encPart_one _) (by simp [Value.oneCell']))
     have S24 : St w.heap.size w (fun _ => none) w23 [box b1 35 ((encPart xa.part) ++ ([.slice A0_1 xa.next.length c0_1, .slice A0_2 xa.final.length c0_2] : List Value)), box b3 35 ((encPart xb.part) ++ ([.slice A1_1 xb.next.length c1_1, .slice A1_2 xb.final.length c1_2] : List Value)), box b5 5 [.int .u8 how], box b7 35 ((encPart zPart) ++ ([.slice none 0 0, .slice none 0 0] : List Value))] := T23
     refine p_s rfl rfl (x_store rfl rfl r23) ?_
     refine p_v (v := .int .i64 1) rfl rfl rfl (x_assign rfl) ?_
     refine run_region_end ?_
     have T25 := S24.row_nil 23 (Kd.int .i64).slice
     have S26 := T25
     dsimp only [lAa, lAn, lA0, lAs] at S26
     have T27 := S26.row_nil 4 Kd.bool
     have S28 := T27
     dsimp only [lAa, lAn, lA0, lAs] at S28
     refine run_ret Tryd.func28 (res2 rfl (res_cell S24 ty35 rfl (j := 3) rfl (len_app (encPart_len (okPart_zero)) rfl) (by simp) rfl) (res_tmp (v := .int .i64 1) rfl)) ?_
     have q0 : ((bothM xa xb how).part : PartM) = zPart := by
      first | exact (both_f hz_).1 | exact (both_f hz_).2.1 | exact (both_f hz_).2.2.1 | exact (both_f hz_).2.2.2 | exact (both_y hy_).1 | exact (both_y hy_).2.2.2 | exact (both_y hy_).2.1.trans (made_end hI_ (by omega)).2.1.symm | exact (both_y hy_).2.2.1.trans (made_end hI_ (by omega)).2.2.symm
     have q1 : ((bothM xa xb how).next : List (List Int)) = ([] : List (List Int)) := by
      first | exact (both_f hz_).1 | exact (both_f hz_).2.1 | exact (both_f hz_).2.2.1 | exact (both_f hz_).2.2.2 | exact (both_y hy_).1 | exact (both_y hy_).2.2.2 | exact (both_y hy_).2.1.trans (made_end hI_ (by omega)).2.1.symm | exact (both_y hy_).2.2.1.trans (made_end hI_ (by omega)).2.2.symm
     have q2 : ((bothM xa xb how).final : List Bool) = ([] : List Bool) := by
      first | exact (both_f hz_).1 | exact (both_f hz_).2.1 | exact (both_f hz_).2.2.1 | exact (both_f hz_).2.2.2 | exact (both_y hy_).1 | exact (both_y hy_).2.2.2 | exact (both_y hy_).2.1.trans (made_end hI_ (by omega)).2.1.symm | exact (both_y hy_).2.2.1.trans (made_end hI_ (by omega)).2.2.symm
     have q3 : (errO xa xb how : Int) = 1 := by
      first | exact (both_f hz_).1 | exact (both_f hz_).2.1 | exact (both_f hz_).2.2.1 | exact (both_f hz_).2.2.2 | exact (both_y hy_).1 | exact (both_y hy_).2.2.2 | exact (both_y hy_).2.1.trans (made_end hI_ (by omega)).2.1.symm | exact (both_y hy_).2.2.1.trans (made_end hI_ (by omega)).2.2.symm
     refine ⟨_, rfl, (fun _ => none), (.slice none 0 0), (.slice none 0 0), ?_, ?_, ?_, ?_⟩
     · rw [q1]; rw [q2]; exact S28.sub [4, 5] (by decide) rfl _ rfl
     · first | rfl | (simp only [q0, q1, q2, q3]; rfl) | (simp only [q0, q1, q2, q3])
     · rw [q0]; first | assumption | exact okPart_zero
     · rw [q3]; exact (in_i64 (by first|omega|(simp;omega)|assumption|simp) (by first|omega|(simp;omega)|assumption|simp))
    ·skip
     refine p_v (v := .int .u8 how) rfl (wanted_of (j := 19) (want := false) (d := 30) (b := false) rfl rfl (congrArg Value.bool (decide_eq_false hc22)) rfl) rfl (x_load (seg := [.int .u8 how]) ty5 rfl (by simp) rfl (CF.box (m := 1) (S13.box_at (j := 2) rfl) rfl)) ?_
     refine p_v (v := .bool (decide (3 < how))) rfl (wanted_of (j := 19) (want := false) (d := 30) (b := false) rfl rfl (congrArg Value.bool (decide_eq_false hc22)) rfl) rfl (x_gtr rfl rfl) ?_
     refine p_v (v := .bool (decide (3 < how))) rfl rfl rfl (x_pick_f (congrArg Value.bool (decide_eq_false hc22)) rfl) ?_
     refine run_region_end ?_
     refine run_cond_prop (p := 3 < how) rfl (fun hc29 => ?_) (fun hc29 => ?_)
     ·skip
      have hz_ := okb_5 (a := xa) (b := xb) hc29
      refine run_seq ?_
      refine run_reg (l := [0, 1, 2]) rfl ?_
      refine p_v (v := .agg ((encPart zPart) ++ ([.slice none 0 0, .slice none 0 0] : List Value)).toArray) rfl rfl rfl (y_build (pv := []) rfl (run_build_struct pl35 ty35 rfl (cs := ((encPart zPart) ++ ([.slice none 0 0, .slice none 0 0] : List Value))) (by kernel_rfl))) ?_
      obtain ⟨w30, r30, g30, T30⟩ := e_store_all (P := Tryd.prog) (v := .agg ((encPart zPart) ++ ([.slice none 0 0, .slice none 0 0] : List Value)).toArray) (vs := ((encPart zPart) ++ ([.slice none 0 0, .slice none 0 0] : List Value))) (cs := ((encPart zPart) ++ ([.slice none 0 0, .slice none 0 0] : List Value))) S13 ty35 rfl (len_app (encPart_len (okPart_zero)) rfl) (len_app (encPart_len (okPart_zero)) rfl) (j := 3) rfl (one_app (encPart_one _) (by simp [Value.oneCell']))
      have S31 : St w.heap.size w (fun _ => none) w30 [box b1 35 ((encPart xa.part) ++ ([.slice A0_1 xa.next.length c0_1, .slice A0_2 xa.final.length c0_2] : List Value)), box b3 35 ((encPart xb.part) ++ ([.slice A1_1 xb.next.length c1_1, .slice A1_2 xb.final.length c1_2] : List Value)), box b5 5 [.int .u8 how], box b7 35 ((encPart zPart) ++ ([.slice none 0 0, .slice none 0 0] : List Value))] := T30
      refine p_s rfl rfl (x_store rfl rfl r30) ?_
      refine p_v (v := .int .i64 1) rfl rfl rfl (x_assign rfl) ?_
      refine run_region_end ?_
      have T32 := S31.row_nil 23 (Kd.int .i64).slice
      have S33 := T32
      dsimp only [lAa, lAn, lA0, lAs] at S33
      have T34 := S33.row_nil 4 Kd.bool
      have S35 := T34
      dsimp only [lAa, lAn, lA0, lAs] at S35
      refine run_ret Tryd.func28 (res2 rfl (res_cell S31 ty35 rfl (j := 3) rfl (len_app (encPart_len (okPart_zero)) rfl) (by simp) rfl) (res_tmp (v := .int .i64 1) rfl)) ?_
      have q0 : ((bothM xa xb how).part : PartM) = zPart := by
       first | exact (both_f hz_).1 | exact (both_f hz_).2.1 | exact (both_f hz_).2.2.1 | exact (both_f hz_).2.2.2 | exact (both_y hy_).1 | exact (both_y hy_).2.2.2 | exact (both_y hy_).2.1.trans (made_end hI_ (by omega)).2.1.symm | exact (both_y hy_).2.2.1.trans (made_end hI_ (by omega)).2.2.symm
      have q1 : ((bothM xa xb how).next : List (List Int)) = ([] : List (List Int)) := by
       first | exact (both_f hz_).1 | exact (both_f hz_).2.1 | exact (both_f hz_).2.2.1 | exact (both_f hz_).2.2.2 | exact (both_y hy_).1 | exact (both_y hy_).2.2.2 | exact (both_y hy_).2.1.trans (made_end hI_ (by omega)).2.1.symm | exact (both_y hy_).2.2.1.trans (made_end hI_ (by omega)).2.2.symm
      have q2 : ((bothM xa xb how).final : List Bool) = ([] : List Bool) := by
       first | exact (both_f hz_).1 | exact (both_f hz_).2.1 | exact (both_f hz_).2.2.1 | exact (both_f hz_).2.2.2 | exact (both_y hy_).1 | exact (both_y hy_).2.2.2 | exact (both_y hy_).2.1.trans (made_end hI_ (by omega)).2.1.symm | exact (both_y hy_).2.2.1.trans (made_end hI_ (by omega)).2.2.symm
      have q3 : (errO xa xb how : Int) = 1 := by
       first | exact (both_f hz_).1 | exact (both_f hz_).2.1 | exact (both_f hz_).2.2.1 | exact (both_f hz_).2.2.2 | exact (both_y hy_).1 | exact (both_y hy_).2.2.2 | exact (both_y hy_).2.1.trans (made_end hI_ (by omega)).2.1.symm | exact (both_y hy_).2.2.1.trans (made_end hI_ (by omega)).2.2.symm
      refine ⟨_, rfl, (fun _ => none), (.slice none 0 0), (.slice none 0 0), ?_, ?_, ?_, ?_⟩
      · rw [q1]; rw [q2]; exact S35.sub [4, 5] (by decide) rfl _ rfl
      · first | rfl | (simp only [q0, q1, q2, q3]; rfl) | (simp only [q0, q1, q2, q3])
      · rw [q0]; first | assumption | exact okPart_zero
      · rw [q3]; exact (in_i64 (by first|omega|(simp;omega)|assumption|simp) (by first|omega|(simp;omega)|assumption|simp))
     ·skip
      have hy_ := okb_y hA1_ hB1_ hE_ (how := how) (by omega) (by omega)
      refine run_skip ?_
      refine run_seq ?_
      refine run_reg (l := [0, 1]) rfl ?_
      refine p_v (v := .func (.func 90) #[] #[.pointer (some ⟨b1, 0, none⟩), .pointer (some ⟨b3, 0, none⟩), .pointer (some ⟨b5, 0, none⟩)]) rfl rfl rfl (y_makeFunc (fv := []) (cv := [.pointer (some ⟨b1, 0, none⟩), .pointer (some ⟨b3, 0, none⟩), .pointer (some ⟨b5, 0, none⟩)]) rfl rfl) ?_
      refine p_v (v := .func (.func 90) #[] #[.pointer (some ⟨b1, 0, none⟩), .pointer (some ⟨b3, 0, none⟩), .pointer (some ⟨b5, 0, none⟩)]) rfl rfl rfl (x_assign rfl) ?_
      refine run_region_end ?_
      refine run_seq ?_
      refine run_reg (l := [0, 1, 2, 3, 4, 5, 6, 7, 8]) rfl ?_
      refine p_v (v := .pointer (some ⟨b1, 0, none⟩)) rfl rfl rfl (x_fieldAt fd35_0 ty32 rfl rfl) ?_
      refine p_v (v := .agg (encPart xa.part).toArray) rfl rfl rfl (x_load (seg := ((encPart xa.part))) ty32 (encPart_len o0_0) (by simp) rfl (CF.box (m := 257) (S13.box_at (j := 0) rfl) (seg_mid (pre := []) (seg := ((encPart xa.part))) (post := [.slice A0_1 xa.next.length c0_1, .slice A0_2 xa.final.length c0_2]) rfl (encPart_len o0_0)))) ?_
      refine p_v (v := .pointer none) rfl rfl rfl (x_move rfl) ?_
      refine p_v (v := .agg (encPair ((0, 0) : Int × Int)).toArray) rfl rfl rfl (y_build (pv := []) rfl (run_build_struct pl130 ty130 rfl (cs := (encPair ((0, 0) : Int × Int))) rfl)) ?_
      refine p_v (v := .func (.func 92) #[] #[.pointer (some ⟨b1, 0, none⟩), .pointer (some ⟨b3, 0, none⟩)]) rfl rfl rfl (y_makeFunc (fv := []) (cv := [.pointer (some ⟨b1, 0, none⟩), .pointer (some ⟨b3, 0, none⟩)]) rfl rfl) ?_
      refine p_v (v := .func (.func 90) #[] #[.pointer (some ⟨b1, 0, none⟩), .pointer (some ⟨b3, 0, none⟩), .pointer (some ⟨b5, 0, none⟩)]) rfl rfl rfl (x_move rfl) ?_
      refine p_i rfl rfl rfl (y_call (args := [.agg (encPart xa.part).toArray, .pointer none, .agg (encPair ((0, 0) : Int × Int)).toArray, .func (.func 92) #[] #[.pointer (some ⟨b1, 0, none⟩), .pointer (some ⟨b3, 0, none⟩)], .func (.func 90) #[] #[.pointer (some ⟨b1, 0, none⟩), .pointer (some ⟨b3, 0, none⟩), .pointer (some ⟨b5, 0, none⟩)]]) ca91 rfl rfl) (calls_of_run Tryd.func91 rfl Tryd.ntmps91 rfl ?_)
      refine run_seq ?_
      refine run_reg (l := [0, 1, 2]) rfl ?_
      obtain ⟨b36, w36, r36, g36, T36⟩ := e_box (P := Tryd.prog) S13 32 (v := .agg (encPart xa.part).toArray) (encPart xa.part) rfl
      have S37 := T36
      dsimp only [lAa, lAn, lA0, lAs] at S37
      refine p_v (v := .pointer (some ⟨b36, 0, none⟩)) rfl rfl rfl (x_box rfl r36) ?_
      obtain ⟨b38, w38, r38, g38, T38⟩ := e_box (P := Tryd.prog) S37 130 (v := .agg (encPair ((0, 0) : Int × Int)).toArray) (encPair ((0, 0) : Int × Int)) rfl
      have S39 := T38
      dsimp only [lAa, lAn, lA0, lAs] at S39
      refine p_v (v := .pointer (some ⟨b38, 0, none⟩)) rfl rfl rfl (x_box rfl r38) ?_
      obtain ⟨b40, w40, r40, g40, T40⟩ := e_box (P := Tryd.prog) S39 35 (v := zv35) ((encPart zPart) ++ ([.slice none 0 0, .slice none 0 0] : List Value)) (by kernel_rfl)
      have S41 := T40
      dsimp only [lAa, lAn, lA0, lAs] at S41
      refine p_v (v := .pointer (some ⟨b40, 0, none⟩)) rfl rfl rfl (x_alloc ty35 r40) ?_
      refine run_region_end ?_
      refine run_seq ?_
      refine run_reg (l := [0, 1, 2, 3, 4]) rfl ?_
      refine p_v (v := .pointer none) rfl rfl rfl (x_move rfl) ?_
      obtain ⟨b42, w42, r42, g42, T42⟩ := e_makeMap (P := Tryd.prog) S41 190 (fun x : (Int × Int) => Value.agg (encPair x).toArray) (fun x : Int => Value.int .i64 x)
      have S43 := T42
      dsimp only [lAa, lAn, lA0, lAs] at S43
      refine p_v (v := .map (some b42)) rfl rfl rfl (x_makeMap r42) ?_
      refine p_v (v := .agg #[.pointer none, .map (some b42), .slice none 0 0]) rfl rfl rfl (y_build (pv := [(0, .pointer none), (1, .map (some b42))]) rfl (run_build_struct pl193 ty193 rfl (cs := [.pointer none, .map (some b42), .slice none 0 0]) rfl)) ?_
      obtain ⟨b44, w44, r44, g44, T44⟩ := e_box (P := Tryd.prog) S43 193 (v := .agg #[.pointer none, .map (some b42), .slice none 0 0]) [.pointer none, .map (some b42), .slice none 0 0] rfl
      have S45 := T44
      dsimp only [lAa, lAn, lA0, lAs] at S45
      refine p_v (v := .pointer (some ⟨b44, 0, none⟩)) rfl rfl rfl (x_box rfl r44) ?_
      refine p_v (v := .pointer (some ⟨b44, 0, none⟩)) rfl rfl rfl (x_assign rfl) ?_
      refine run_region_end ?_
      refine run_seq ?_
      refine run_reg (l := [0, 1, 2]) rfl ?_
      refine p_v (v := .pointer (some ⟨b44, 0, none⟩)) rfl rfl rfl (x_move rfl) ?_
      refine p_v (v := .agg (encPair ((0, 0) : Int × Int)).toArray) rfl rfl rfl (x_load (seg := (encPair ((0, 0) : Int × Int))) ty130 rfl (by simp) rfl (CF.box (m := 2) (S45.box_at (j := 5) rfl) rfl)) ?_
      refine p_i rfl rfl rfl (y_call (args := [.pointer (some ⟨b44, 0, none⟩), .agg (encPair ((0, 0) : Int × Int)).toArray]) ca138 rfl rfl) (calls_of_run Tryd.func138 rfl Tryd.ntmps138 rfl ?_)
      refine run_seq ?_
      refine run_reg (l := [0, 1]) rfl ?_
      obtain ⟨b46, w46, r46, g46, T46⟩ := e_box (P := Tryd.prog) S45 130 (v := .agg (encPair ((0, 0) : Int × Int)).toArray) (encPair ((0, 0) : Int × Int)) rfl
      have S47 := T46
      dsimp only [lAa, lAn, lA0, lAs] at S47
      refine p_v (v := .pointer (some ⟨b46, 0, none⟩)) rfl rfl rfl (x_box rfl r46) ?_
      refine p_v (v := .int .i64 0) rfl rfl rfl (x_assign rfl) ?_
      refine run_region_end ?_
      refine run_seq ?_
      have hf48 : (CFs ⟨b44, 1, none⟩ [.map (some b42)]).1 w46 := (CF.box (m := 1) (S47.box_at (j := 8) rfl) rfl)
      have hf49 : (CFs ⟨b46, 0, none⟩ (encPair ((0, 0) : Int × Int))).1 w46 := (CF.box (m := 2) (S47.box_at (j := 9) rfl) rfl)
      have hf50 : (MapHs (fun x : (Int × Int) => Value.agg (encPair x).toArray) (fun x : Int => Value.int .i64 x) b42 ([] : List ((Int × Int) × Int))).1 w46 := (S47.map_at (j := 7) rfl)
      refine daS (hkC 3 hf48 (hkC 4 hf49 (hkC 5 hf50 (hkN (w := w46))))) 11 rfl mixed ?_
      intro wd51 gd51 hd51
      have S52 := S47.keep gd51
      have hf53 := spUp gd51 hf48
      have hf54 := spUp gd51 hf49
      have hf55 := spUp gd51 hf50
      refine qd0 (i := 0) (v := .pointer (some ⟨b44, 0, none⟩)) rfl (by decide +kernel) rfl rfl (x_move rfl) (of_no rfl) ?_
      refine qd0 (i := 1) (v := .pointer (some ⟨b44, 0, none⟩)) rfl (by decide +kernel) rfl rfl (x_nilCheck rfl) (of_no rfl) ?_
      refine qd0 (i := 2) (v := .pointer (some ⟨b44, 1, none⟩)) rfl (by decide +kernel) rfl rfl (x_fieldAt fd193_1 ty190 rfl rfl) (of_no rfl) ?_
      refine qd1 0 (i := 3) (v := .map (some b42)) rfl rfl (by decide +kernel) rfl rfl (fun wq hq => (x_load (seg := [.map (some b42)]) ty190 rfl (by simp) rfl hq)) (of_eq hf53 (of_no rfl)) ?_
      refine qd1 1 (i := 4) (v := .agg (encPair ((0, 0) : Int × Int)).toArray) rfl rfl (by decide +kernel) rfl rfl (fun wq hq => (x_load (seg := (encPair ((0, 0) : Int × Int))) ty130 rfl (by simp) rfl hq)) (of_ne rfl (of_eq hf54 (of_no rfl))) ?_
      refine qdn (i := 5) (v := .tuple #[.int .i64 ((valAt ((0, 0) : Int × Int) ([] : List ((Int × Int) × Int))).getD 0), .bool ((valAt ((0, 0) : Int × Int) ([] : List ((Int × Int) × Int))).isSome)]) (fun wf => MapH (fun x : (Int × Int) => Value.agg (encPair x).toArray) (fun x : Int => Value.int .i64 x) b42 ([] : List ((Int × Int) × Int)) wf) (fun _ ho => ho _ (List.mem_of_getElem? (i := 2) rfl) rfl) rfl (by decide +kernel) rfl rfl (fun wq hq => (x_lookup (a := .map (some b42)) (k := .agg (encPair ((0, 0) : Int × Int)).toArray) rfl rfl (e_lookup_h (kvs := ([] : List ((Int × Int) × Int))) key130 hq u190 (zero_cells ty3) 0 ((0, 0) : Int × Int)))) (of_ne rfl (of_ne rfl (of_eq hf55 (of_no rfl)))) ?_
      refine qd0 (i := 6) (v := .tuple #[.int .i64 ((valAt ((0, 0) : Int × Int) ([] : List ((Int × Int) × Int))).getD 0), .bool ((valAt ((0, 0) : Int × Int) ([] : List ((Int × Int) × Int))).isSome)]) rfl (by decide +kernel) rfl rfl (x_move rfl) (of_no rfl) ?_
      refine qd0 (i := 7) (v := .int .i64 ((valAt ((0, 0) : Int × Int) ([] : List ((Int × Int) × Int))).getD 0)) rfl (by decide +kernel) rfl rfl (x_extract (vs := [.int .i64 ((valAt ((0, 0) : Int × Int) ([] : List ((Int × Int) × Int))).getD 0), .bool ((valAt ((0, 0) : Int × Int) ([] : List ((Int × Int) × Int))).isSome)]) rfl rfl) (of_no rfl) ?_
      refine qd0 (i := 8) (v := .bool ((valAt ((0, 0) : Int × Int) ([] : List ((Int × Int) × Int))).isSome)) rfl (by decide +kernel) rfl rfl (x_extract (vs := [.int .i64 ((valAt ((0, 0) : Int × Int) ([] : List ((Int × Int) × Int))).getD 0), .bool ((valAt ((0, 0) : Int × Int) ([] : List ((Int × Int) × Int))).isSome)]) rfl rfl) (of_no rfl) ?_
      refine qd0 (i := 9) (v := .int .i64 ((valAt ((0, 0) : Int × Int) ([] : List ((Int × Int) × Int))).getD 0)) rfl (by decide +kernel) rfl rfl (x_assign rfl) (of_no rfl) ?_
      refine qd0 (i := 10) (v := .bool ((valAt ((0, 0) : Int × Int) ([] : List ((Int × Int) × Int))).isSome)) rfl (by decide +kernel) rfl rfl (x_assign rfl) (of_no rfl) ?_
      refine ra_done (by decide +kernel) ?_
      intro wd56 gd56
      have S57 := S52.keep gd56
      refine run_seq ?_
      refine run_seq ?_
      refine run_reg (l := [0, 1]) rfl ?_
      refine p_v (v := .bool ((valAt ((0, 0) : Int × Int) ([] : List ((Int × Int) × Int))).isSome)) rfl rfl rfl (x_move rfl) ?_
      refine p_v (v := .bool (!((valAt ((0, 0) : Int × Int) ([] : List ((Int × Int) × Int))).isSome))) rfl rfl rfl (x_not rfl) ?_
      refine run_region_end ?_
      have hc58 : ((valAt ((0, 0) : Int × Int) ([] : List ((Int × Int) × Int))).isSome) = false := by
       rfl
      refine run_cond (b := true) (congrArg (fun z => Value.bool (!z)) hc58) ?_
      simp only [if_true, if_false, Bool.false_eq_true]
      refine run_seq ?_
      refine run_reg (l := [0, 1, 2, 3, 4]) rfl ?_
      refine p_v (v := .pointer (some ⟨b44, 0, none⟩)) rfl rfl rfl (x_move rfl) ?_
      refine p_v (v := .pointer (some ⟨b44, 0, none⟩)) rfl rfl rfl (x_nilCheck rfl) ?_
      refine p_v (v := .pointer (some ⟨b44, 0, none⟩)) rfl rfl rfl (x_fieldAt fd193_0 ty54 rfl rfl) ?_
      refine p_v (v := .pointer none) rfl rfl rfl (x_load (seg := [.pointer none]) ty54 rfl (by simp) rfl (CF.box (m := 1) (S57.box_at (j := 8) rfl) rfl)) ?_
      refine p_i rfl rfl rfl (y_call (args := [.pointer none, .int .i64 1]) ca161 rfl rfl) (calls_of_run Tryd.func161 rfl Tryd.ntmps161 rfl ?_)
      refine run_seq ?_
      refine run_seq ?_
      refine run_reg (l := [0, 1, 2, 3, 4, 5]) rfl ?_
      refine p_v (v := .pointer none) rfl rfl rfl (x_move rfl) ?_
      refine p_v (v := .bool true) rfl rfl rfl (x_eql_ptr (p := none) u54 rfl rfl) ?_
      refine p_v (v := .bool true) rfl rfl rfl (x_move rfl) ?_
      refine p_off rfl rfl rfl ?_
      refine p_off rfl rfl rfl ?_
      refine p_v (v := .bool true) rfl rfl rfl (x_pick_t rfl rfl) ?_
      refine run_region_end ?_
      refine run_cond (b := true) rfl ?_
      simp only [if_true, if_false, Bool.false_eq_true]
      refine run_ret Tryd.func161 (res0 rfl) ?_
      refine ⟨_, rfl, ?_⟩
      refine run_region_end ?_
      refine run_seq ?_
      refine run_reg (l := [0, 1, 2, 3, 4, 5]) rfl ?_
      refine p_v (v := .pointer (some ⟨b44, 0, none⟩)) rfl rfl rfl (x_move rfl) ?_
      refine p_v (v := .pointer (some ⟨b44, 0, none⟩)) rfl rfl rfl (x_nilCheck rfl) ?_
      refine p_v (v := .pointer (some ⟨b44, 2, none⟩)) rfl rfl rfl (x_fieldAt fd193_2 ty191 rfl rfl) ?_
      refine p_v (v := .slice none 0 0) rfl rfl rfl (x_load (seg := [.slice none 0 0]) ty191 rfl (by simp) rfl (CF.box (m := 1) (S57.box_at (j := 8) rfl) rfl)) ?_
      refine p_v (v := .int .i64 0) rfl rfl rfl (x_len_slice u191 rfl) ?_
      refine p_v (v := .int .i64 0) rfl rfl rfl (x_assign rfl) ?_
      refine run_region_end ?_
      refine run_seq ?_
      have hf59 : (CFs ⟨b44, 1, none⟩ [.map (some b42)]).1 wd56 := (CF.box (m := 1) (S57.box_at (j := 8) rfl) rfl)
      have hf60 : (CFs ⟨b46, 0, none⟩ (encPair ((0, 0) : Int × Int))).1 wd56 := (CF.box (m := 2) (S57.box_at (j := 9) rfl) rfl)
      refine daS (hkC 3 hf59 (hkC 4 hf60 (hkN (w := wd56)))) 7 rfl mixed ?_
      intro wd61 gd61 hd61
      have S62 := S57.keep gd61
      have hf63 := spUp gd61 hf59
      have hf64 := spUp gd61 hf60
      refine qd0 (i := 0) (v := .pointer (some ⟨b44, 0, none⟩)) rfl (by decide +kernel) rfl rfl (x_move rfl) (of_no rfl) ?_
      refine qd0 (i := 1) (v := .pointer (some ⟨b44, 0, none⟩)) rfl (by decide +kernel) rfl rfl (x_nilCheck rfl) (of_no rfl) ?_
      refine qd0 (i := 2) (v := .pointer (some ⟨b44, 1, none⟩)) rfl (by decide +kernel) rfl rfl (x_fieldAt fd193_1 ty190 rfl rfl) (of_no rfl) ?_
      refine qd1 0 (i := 3) (v := .map (some b42)) rfl rfl (by decide +kernel) rfl rfl (fun wq hq => (x_load (seg := [.map (some b42)]) ty190 rfl (by simp) rfl hq)) (of_eq hf63 (of_no rfl)) ?_
      refine qd1 1 (i := 4) (v := .agg (encPair ((0, 0) : Int × Int)).toArray) rfl rfl (by decide +kernel) rfl rfl (fun wq hq => (x_load (seg := (encPair ((0, 0) : Int × Int))) ty130 rfl (by simp) rfl hq)) (of_ne rfl (of_eq hf64 (of_no rfl))) ?_
      refine qd0 (i := 5) (v := .int .i64 0) rfl (by decide +kernel) rfl rfl (x_move rfl) (of_no rfl) ?_
      refine ra_one (i := 6) (by decide +kernel) ?_
      intro wd65 gd65
      have S66 := S62.keep gd65
      have hf67 := spUp gd65 hf63
      have hf68 := spUp gd65 hf64
      obtain ⟨w69, r69, g69, T69⟩ := e_mapUpdate key130 S66 (j := 7) rfl u190 ((0, 0) : Int × Int) 0
      have S70 := T69.fx 7 (amap (fun x : (Int × Int) => Value.agg (encPair x).toArray) (fun x : Int => Value.int .i64 x) b42 (putAt ((0, 0) : Int × Int) 0 ([] : List ((Int × Int) × Int)))) rfl
      dsimp only [lAa, lAn, lA0, lAs] at S70
      have hf71 : (CFs ⟨b44, 1, none⟩ [.map (some b42)]).1 w69 := (CF.box (m := 1) (S70.box_at (j := 8) rfl) rfl)
      have hf72 : (CFs ⟨b46, 0, none⟩ (encPair ((0, 0) : Int × Int))).1 w69 := (CF.box (m := 2) (S70.box_at (j := 9) rfl) rfl)
      refine d_s rfl rfl (x_mapUpdate rfl rfl rfl r69) (.inr (keep_w (by decide +kernel) (keep_w (by decide +kernel) trivial))) ?_
      refine ra_done (by decide +kernel) ?_
      intro wd73 gd73
      have S74 := S70.keep gd73
      have hf75 : (CFs ⟨b44, 2, none⟩ [.slice none 0 0]).1 wd73 := (CF.box (m := 1) (S74.box_at (j := 8) rfl) rfl)
      have hf76 : (CFs ⟨b46, 0, none⟩ (encPair ((0, 0) : Int × Int))).1 wd73 := (CF.box (m := 2) (S74.box_at (j := 9) rfl) rfl)
      refine daS (hkC 4 hf75 (hkC 5 hf76 (hkN (w := wd73)))) 11 rfl mixed ?_
      intro wd77 gd77 hd77
      have S78 := S74.keep gd77
      have hf79 := spUp gd77 hf75
      have hf80 := spUp gd77 hf76
      refine qd0 (i := 0) (v := .pointer (some ⟨b44, 0, none⟩)) rfl (by decide +kernel) rfl rfl (x_move rfl) (of_no rfl) ?_
      refine qd0 (i := 1) (v := .pointer (some ⟨b44, 0, none⟩)) rfl (by decide +kernel) rfl rfl (x_move rfl) (of_no rfl) ?_
      refine qd0 (i := 2) (v := .pointer (some ⟨b44, 0, none⟩)) rfl (by decide +kernel) rfl rfl (x_nilCheck rfl) (of_no rfl) ?_
      refine qd0 (i := 3) (v := .pointer (some ⟨b44, 2, none⟩)) rfl (by decide +kernel) rfl rfl (x_fieldAt fd193_2 ty191 rfl rfl) (of_no rfl) ?_
      refine qd1 0 (i := 4) (v := .slice none 0 0) rfl rfl (by decide +kernel) rfl rfl (fun wq hq => (x_load (seg := [.slice none 0 0]) ty191 rfl (by simp) rfl hq)) (of_eq hf79 (of_no rfl)) ?_
      refine qd1 1 (i := 5) (v := .agg (encPair ((0, 0) : Int × Int)).toArray) rfl rfl (by decide +kernel) rfl rfl (fun wq hq => (x_load (seg := (encPair ((0, 0) : Int × Int))) ty130 rfl (by simp) rfl hq)) (of_ne rfl (of_eq hf80 (of_no rfl))) ?_
      refine ra_one (i := 6) (by decide +kernel) ?_
      intro wd81 gd81
      have S82 := S78.keep gd81
      have hf83 := spUp gd81 hf79
      have hf84 := spUp gd81 hf80
      obtain ⟨v85, w85, r85, g85, T85⟩ := e_build_segs (kd := kPair) (xs := ([((0, 0) : Int × Int)] : List (Int × Int))) (len := 1) (m := 2) [(.agg (encPair ((0, 0) : Int × Int)).toArray, (encPair ((0, 0) : Int × Int)))] S82 u191 ty130 rfl rfl rfl rfl (segs_cons rfl rfl segs_nil) (cs := (encPair ((0, 0) : Int × Int))) (Elems.single (k := kPair) (h := (fun _ => none)) (x := ((0, 0) : Int × Int)) (cs := (encPair ((0, 0) : Int × Int))) ⟨rfl, (⟨in_i64 (by decide) (by decide), in_i64 (by decide) (by decide)⟩)⟩) (by simp)
      have S86 := T85
      dsimp only [lAa, lAn, lA0, lAs] at S86
      have hf87 := spUp g85 hf83
      have hf88 := spUp g85 hf84
      refine d_v (v := v85) rfl rfl rfl (y_build_slice (pv := [(0, .agg (encPair ((0, 0) : Int × Int)).toArray)]) rfl r85) (.inl g85) ?_
      refine ra_one (i := 7) (by decide +kernel) ?_
      intro wd89 gd89
      have S90 := S86.keep gd89
      have hf91 := spUp gd89 hf87
      have hf92 := spUp gd89 hf88
      have T93 := S90.row_nil 130 kPair
      have S94 := T93
      dsimp only [lAa, lAn, lA0, lAs] at S94
      obtain ⟨A95, c95, ev95, lc95, cm95⟩ := S94.row_val (j := 10) rfl
      obtain ⟨v96, w96, r96, g96, T96⟩ := e_append (kd := kPair) (A := A95) (c := c95) (ys := ([((0, 0) : Int × Int)] : List (Int × Int))) (len := ([((0, 0) : Int × Int)] : List (Int × Int)).length) 191 S94 u191 ty130 rfl rfl (j := 11) rfl rfl (news_own S94 (j := 10) rfl ev95) (by first|omega|(simp;omega)|assumption|simp) (by first|omega|(simp;omega)|assumption|simp)
      have S97 := T96.fx 11 (row 130 kPair v96 (([] : List (Int × Int)) ++ ([((0, 0) : Int × Int)] : List (Int × Int)))) rfl
      dsimp only [lAa, lAn, lA0, lAs] at S97
      have hf98 : (CFs ⟨b44, 2, none⟩ [.slice none 0 0]).1 w96 := (CF.box (m := 1) (S97.box_at (j := 8) rfl) rfl)
      have hf99 : (CFs ⟨b46, 0, none⟩ (encPair ((0, 0) : Int × Int))).1 w96 := (CF.box (m := 2) (S97.box_at (j := 9) rfl) rfl)
      refine d_v (v := v96) rfl rfl rfl (x_append rfl ev95 r96) (.inr (keep_w (by decide +kernel) (keep_v hf99 trivial))) ?_
      refine qd0 (i := 8) (v := .pointer (some ⟨b44, 0, none⟩)) rfl (by decide +kernel) rfl rfl (x_nilCheck rfl) (of_no rfl) ?_
      refine qd0 (i := 9) (v := .pointer (some ⟨b44, 2, none⟩)) rfl (by decide +kernel) rfl rfl (x_fieldAt fd193_2 ty191 rfl rfl) (of_no rfl) ?_
      refine ra_one (i := 10) (by decide +kernel) ?_
      intro wd100 gd100
      have S101 := S97.keep gd100
      have hf102 := spUp gd100 hf98
      have hf103 := spUp gd100 hf99
      have oc105 := row_one S101 (j := 11) rfl
      obtain ⟨w104, r104, g104, T104⟩ := e_store (P := Tryd.prog) (off := 2) (v := v96) (vs := [v96]) S101 ty191 (row_cells S101 (j := 11) rfl) rfl (j := 8) rfl (by first | decide | exact Nat.le_of_ble_eq_true rfl) (one_cons oc105 one_nil)
      have S106 := T104.fx 8 (box b44 193 [.pointer none, .map (some b42), v96]) rfl
      dsimp only [lAa, lAn, lA0, lAs] at S106
      have hf107 : (CFs ⟨b46, 0, none⟩ (encPair ((0, 0) : Int × Int))).1 w104 := (CF.box (m := 2) (S106.box_at (j := 9) rfl) rfl)
      refine d_s rfl rfl (x_store rfl rfl r104) (.inr (keep_w (by decide +kernel) (keep_w (by decide +kernel) trivial))) ?_
      refine ra_done (by decide +kernel) ?_
      intro wd108 gd108
      have S109 := S106.keep gd108
      refine run_seq ?_
      refine run_reg (l := [0, 1]) rfl ?_
      refine p_v (v := .int .i64 0) rfl rfl rfl (x_move rfl) ?_
      refine p_v (v := .int .i64 0) rfl rfl rfl (x_assign rfl) ?_
      refine run_region_end ?_
      refine run_ret Tryd.func138 (res1 rfl (res_tmp (v := .int .i64 0) rfl)) ?_
      refine ⟨_, rfl, ?_⟩
      refine run_region_end ?_
      refine run_seq ?_
      refine run_reg (l := [0, 1, 2, 3]) rfl ?_
      refine p_v (v := .agg (encPart xa.part).toArray) rfl rfl rfl (x_load (seg := (encPart xa.part)) ty32 (encPart_len o0_0) (by simp) rfl (CF.box (m := 257) (S109.box_at (j := 4) rfl) (by rw [List.drop_zero, List.take_of_length_le (by rw [encPart_len o0_0]; exact Nat.le_refl _)]))) ?_
      refine p_v (v := .agg ((encPart xa.part) ++ ([.slice none 0 0, .slice none 0 0] : List Value)).toArray) rfl rfl rfl (y_build (pv := [(0, .agg (encPart xa.part).toArray)]) rfl (run_build_struct pl35 ty35 rfl (cs := ((encPart xa.part) ++ ([.slice none 0 0, .slice none 0 0] : List Value))) (fill_mid (vc := (encPart xa.part)) (pre := []) (seg := (encPart zPart)) (post := [.slice none 0 0, .slice none 0 0]) rfl rfl (encPart_len o0_0) (by kernel_rfl) rfl (encPart_len (okPart_zero)) rfl))) ?_
      obtain ⟨b110, w110, r110, g110, T110⟩ := e_box (P := Tryd.prog) S109 35 (v := zv35) ((encPart zPart) ++ ([.slice none 0 0, .slice none 0 0] : List Value)) (by kernel_rfl)
      have S111 := T110
      dsimp only [lAa, lAn, lA0, lAs] at S111
      refine p_v (v := .pointer (some ⟨b110, 0, none⟩)) rfl rfl rfl (x_alloc ty35 r110) ?_
      obtain ⟨w112, r112, g112, T112⟩ := e_store_all (P := Tryd.prog) (v := .agg ((encPart xa.part) ++ ([.slice none 0 0, .slice none 0 0] : List Value)).toArray) (vs := ((encPart xa.part) ++ ([.slice none 0 0, .slice none 0 0] : List Value))) (cs := ((encPart zPart) ++ ([.slice none 0 0, .slice none 0 0] : List Value))) S111 ty35 rfl (len_app (encPart_len o0_0) rfl) (len_app (encPart_len (okPart_zero)) rfl) (j := 12) rfl (one_app (encPart_one _) (by simp [Value.oneCell']))
      have S113 := T112.fx 12 (box b110 35 ((encPart xa.part) ++ ([.slice none 0 0, .slice none 0 0] : List Value))) rfl
      dsimp only [lAa, lAn, lA0, lAs] at S113
      refine p_s rfl rfl (x_store rfl rfl r112) ?_
      refine run_region_end ?_
      refine run_seq ?_
      refine run_seq ?_
      refine run_reg (l := [0]) rfl ?_
      refine p_v (v := .int .i64 0) rfl rfl rfl (x_assign rfl) ?_
      refine run_region_end ?_
      refine run_block ?_
      have T114 := S113.row_nil 23 (Kd.int .i64).slice
      obtain ⟨vn114, ev114, T114⟩ : ∃ v, v = (.slice none 0 0 : Value) ∧ St w.heap.size w (fun _ => none) w112 [box b1 35 ((encPart xa.part) ++ ([.slice A0_1 xa.next.length c0_1, .slice A0_2 xa.final.length c0_2] : List Value)), box b3 35 ((encPart xb.part) ++ ([.slice A1_1 xb.next.length c1_1, .slice A1_2 xb.final.length c1_2] : List Value)), box b5 5 [.int .u8 how], box b7 35 ((encPart zPart) ++ ([.slice none 0 0, .slice none 0 0] : List Value)), box b36 32 (encPart xa.part), box b38 130 (encPair ((0, 0) : Int × Int)), box b40 35 ((encPart zPart) ++ ([.slice none 0 0, .slice none 0 0] : List Value)), amap (fun x : (Int × Int) => Value.agg (encPair x).toArray) (fun x : Int => Value.int .i64 x) b42 (putAt ((0, 0) : Int × Int) 0 ([] : List ((Int × Int) × Int))), box b44 193 [.pointer none, .map (some b42), v96], box b46 130 (encPair ((0, 0) : Int × Int)), row 130 kPair v85 ([((0, 0) : Int × Int)] : List (Int × Int)), row 130 kPair v96 (([] : List (Int × Int)) ++ ([((0, 0) : Int × Int)] : List (Int × Int))), box b110 35 ((encPart xa.part) ++ ([v, .slice none 0 0] : List Value)), row 23 (Kd.int .i64).slice v ([] : List (List Int))] := ⟨_, rfl, T114⟩
      have S115 : St w.heap.size w (fun _ => none) w112 [box b1 35 ((encPart xa.part) ++ ([.slice A0_1 xa.next.length c0_1, .slice A0_2 xa.final.length c0_2] : List Value)), box b3 35 ((encPart xb.part) ++ ([.slice A1_1 xb.next.length c1_1, .slice A1_2 xb.final.length c1_2] : List Value)), box b5 5 [.int .u8 how], box b7 35 ((encPart zPart) ++ ([.slice none 0 0, .slice none 0 0] : List Value)), box b36 32 (encPart xa.part), box b38 130 (encPair ((0, 0) : Int × Int)), box b40 35 ((encPart zPart) ++ ([.slice none 0 0, .slice none 0 0] : List Value)), amap (fun x : (Int × Int) => Value.agg (encPair x).toArray) (fun x : Int => Value.int .i64 x) b42 (putAt ((0, 0) : Int × Int) 0 ([] : List ((Int × Int) × Int))), box b44 193 [.pointer none, .map (some b42), v96], box b46 130 (encPair ((0, 0) : Int × Int)), row 130 kPair v85 ([((0, 0) : Int × Int)] : List (Int × Int)), row 130 kPair v96 (([] : List (Int × Int)) ++ ([((0, 0) : Int × Int)] : List (Int × Int))), box b110 35 ((encPart xa.part) ++ ([vn114, .slice none 0 0] : List Value)), row 23 (Kd.int .i64).slice vn114 ([] : List (List Int))] := T114
      have T116 := S115.row_nil 4 Kd.bool
      obtain ⟨vn116, ev116, T116⟩ : ∃ v, v = (.slice none 0 0 : Value) ∧ St w.heap.size w (fun _ => none) w112 [box b1 35 ((encPart xa.part) ++ ([.slice A0_1 xa.next.length c0_1, .slice A0_2 xa.final.length c0_2] : List Value)), box b3 35 ((encPart xb.part) ++ ([.slice A1_1 xb.next.length c1_1, .slice A1_2 xb.final.length c1_2] : List Value)), box b5 5 [.int .u8 how], box b7 35 ((encPart zPart) ++ ([.slice none 0 0, .slice none 0 0] : List Value)), box b36 32 (encPart xa.part), box b38 130 (encPair ((0, 0) : Int × Int)), box b40 35 ((encPart zPart) ++ ([.slice none 0 0, .slice none 0 0] : List Value)), amap (fun x : (Int × Int) => Value.agg (encPair x).toArray) (fun x : Int => Value.int .i64 x) b42 (putAt ((0, 0) : Int × Int) 0 ([] : List ((Int × Int) × Int))), box b44 193 [.pointer none, .map (some b42), v96], box b46 130 (encPair ((0, 0) : Int × Int)), row 130 kPair v85 ([((0, 0) : Int × Int)] : List (Int × Int)), row 130 kPair v96 (([] : List (Int × Int)) ++ ([((0, 0) : Int × Int)] : List (Int × Int))), box b110 35 ((encPart xa.part) ++ ([vn114, v] : List Value)), row 23 (Kd.int .i64).slice vn114 ([] : List (List Int)), row 4 Kd.bool v ([] : List Bool)] := ⟨_, rfl, T116⟩
      have S117 : St w.heap.size w (fun _ => none) w112 [box b1 35 ((encPart xa.part) ++ ([.slice A0_1 xa.next.length c0_1, .slice A0_2 xa.final.length c0_2] : List Value)), box b3 35 ((encPart xb.part) ++ ([.slice A1_1 xb.next.length c1_1, .slice A1_2 xb.final.length c1_2] : List Value)), box b5 5 [.int .u8 how], box b7 35 ((encPart zPart) ++ ([.slice none 0 0, .slice none 0 0] : List Value)), box b36 32 (encPart xa.part), box b38 130 (encPair ((0, 0) : Int × Int)), box b40 35 ((encPart zPart) ++ ([.slice none 0 0, .slice none 0 0] : List Value)), amap (fun x : (Int × Int) => Value.agg (encPair x).toArray) (fun x : Int => Value.int .i64 x) b42 (putAt ((0, 0) : Int × Int) 0 ([] : List ((Int × Int) × Int))), box b44 193 [.pointer none, .map (some b42), v96], box b46 130 (encPair ((0, 0) : Int × Int)), row 130 kPair v85 ([((0, 0) : Int × Int)] : List (Int × Int)), row 130 kPair v96 (([] : List (Int × Int)) ++ ([((0, 0) : Int × Int)] : List (Int × Int))), box b110 35 ((encPart xa.part) ++ ([vn114, vn116] : List Value)), row 23 (Kd.int .i64).slice vn114 ([] : List (List Int)), row 4 Kd.bool vn116 ([] : List Bool)] := T116
      refine run_loop (S := (List (Int × Int)) × (List (List Int)) × (List Bool) × (List ((Int × Int) × Int)) × Int) (fun (q_ : (List (Int × Int)) × (List (List Int)) × (List Bool) × (List ((Int × Int) × Int)) × Int) ρ w' => match q_ with | (m_2, d_1, d_2, b, i) => ∃ (h : Ghost) (v_m_2 : Value) (v_d_1 : Value) (v_d_2 : Value), Le (fun _ => none) h ∧ St w.heap.size w h w' [box b1 35 ((encPart xa.part) ++ ([.slice A0_1 xa.next.length c0_1, .slice A0_2 xa.final.length c0_2] : List Value)), box b3 35 ((encPart xb.part) ++ ([.slice A1_1 xb.next.length c1_1, .slice A1_2 xb.final.length c1_2] : List Value)), box b5 5 [.int .u8 how], box b7 35 ((encPart zPart) ++ ([.slice none 0 0, .slice none 0 0] : List Value)), box b36 32 (encPart xa.part), box b38 130 (encPair ((0, 0) : Int × Int)), box b40 35 ((encPart zPart) ++ ([.slice none 0 0, .slice none 0 0] : List Value)), amap (fun x : (Int × Int) => Value.agg (encPair x).toArray) (fun x : Int => Value.int .i64 x) b42 b, box b44 193 [.pointer none, .map (some b42), v_m_2], box b46 130 (encPair ((0, 0) : Int × Int)), row 130 kPair v85 ([((0, 0) : Int × Int)] : List (Int × Int)), row 130 kPair v_m_2 m_2, box b110 35 ((encPart xa.part) ++ ([v_d_1, v_d_2] : List Value)), row 23 (Kd.int .i64).slice v_d_1 d_1, row 4 Kd.bool v_d_2 d_2] ∧ ρ 3 = .func (.func 92) #[] #[.pointer (some ⟨b1, 0, none⟩), .pointer (some ⟨b3, 0, none⟩)] ∧ ρ 4 = .func (.func 90) #[] #[.pointer (some ⟨b1, 0, none⟩), .pointer (some ⟨b3, 0, none⟩), .pointer (some ⟨b5, 0, none⟩)] ∧ ρ 5 = .pointer (some ⟨b36, 0, none⟩) ∧ ρ 10 = .pointer (some ⟨b40, 0, none⟩) ∧ ρ 11 = .pointer (some ⟨b44, 0, none⟩) ∧ ρ 12 = .pointer (some ⟨b110, 0, none⟩) ∧ ρ 13 = .int .i64 i ∧ inK .i64 i ∧ (MadeI (nextP xa xb) xa.part.n ((0, 0) : Int × Int) (finalP xa xb how) m_2 b d_1 d_2 i)) (fun q_ => match q_ with | (m_2, d_1, d_2, b, i) => (1099513724931 - i).toNat) (([] : List (Int × Int)) ++ ([((0, 0) : Int × Int)] : List (Int × Int)), ([] : List (List Int)), ([] : List Bool), putAt ((0, 0) : Int × Int) 0 ([] : List ((Int × Int) × Int)), 0) ⟨(fun _ => none), v96, vn114, vn116, Le.refl _, S117.sub [0, 1, 2, 3, 4, 5, 6, 7, 8, 9, 10, 11, 12, 13, 14] (by decide) rfl _ rfl, rfl, rfl, rfl, rfl, rfl, rfl, rfl, (in_i64 (by first|omega|(simp;omega)|assumption|simp) (by first|omega|(simp;omega)|assumption|simp)), (by exact made_0)⟩ ?_
      rintro ⟨m_2, d_1, d_2, b, i⟩ ih118 ρ118 w118 ⟨h118, v_m_2, v_d_1, v_d_2, le118, S118, r118_3, r118_4, r118_5, r118_10, r118_11, r118_12, r118_13, f118_0, hI118⟩
      have lf118_0 := i64_lo f118_0; have hf118_0 := i64_hi f118_0
      have rl118_10 := S118.row_le (j := 10) rfl; simp only [maxLen] at rl118_10
      have rl118_11 := S118.row_le (j := 11) rfl; simp only [maxLen] at rl118_11
      have rl118_13 := S118.row_le (j := 13) rfl; simp only [maxLen] at rl118_13
      have rl118_14 := S118.row_le (j := 14) rfl; simp only [maxLen] at rl118_14
      have hi0_ := hI118.lo; have hi1_ := hI118.hi; have hb0_ := pairs_bound hA_ hB_ hN_ pre0.1 pre0.2 hI118; have hn0_ := (made_len hI118).1; have hf0_ := (made_len hI118).2; have hpn_ := hA_.part.lo; have hpm_ := hA_.part.hi
      have hin_ : i < (m_2.length : Int) → InP xa xb (at_ m_2 i) := fun h => pairs_in hA_ hB_ hN_ hI118 (at_mem hI118.lo h)
      have hpf_ : i < (m_2.length : Int) → (0 ≤ (at_ m_2 i).1 ∧ (at_ m_2 i).1 < (xa.final.length : Int)) ∧ 0 ≤ (at_ m_2 i).2 ∧ (at_ m_2 i).2 < (xb.final.length : Int) := fun h => by rw [hA_.final, hB_.final]; exact hin_ h
      refine run_seq ?_
      refine run_seq ?_
      refine run_reg (l := [0, 1, 2, 3, 4, 5, 6]) rfl ?_
      refine p_v (v := .int .i64 i) rfl rfl rfl (x_move r118_13) ?_
      refine p_v (v := .pointer (some ⟨b44, 0, none⟩)) rfl rfl rfl (x_move r118_11) ?_
      refine p_v (v := .pointer (some ⟨b44, 0, none⟩)) rfl rfl rfl (x_nilCheck rfl) ?_
      refine p_v (v := .pointer (some ⟨b44, 2, none⟩)) rfl rfl rfl (x_fieldAt fd193_2 ty191 rfl rfl) ?_
      refine p_v (v := v_m_2) rfl rfl rfl (x_load (seg := [v_m_2]) ty191 rfl (by simp) rfl (CF.box (m := 1) (S118.box_at (j := 8) rfl) rfl)) ?_
      have lb119 := S118.row_le (j := 11) rfl; simp only [maxLen] at lb119
      refine p_v (v := .int .i64 (m_2.length : Int)) rfl rfl rfl (x_len_own u191 rfl (e_len_own S118 (j := 11) rfl)) ?_
      refine p_v (v := .bool (decide (i < (m_2.length : Int)))) rfl rfl rfl (x_lss rfl rfl) ?_
      refine run_region_end ?_
      refine run_cond_prop (p := i < (m_2.length : Int)) rfl (fun hc120 => ?_) (fun hc120 => ?_)
      ·skip
       refine run_skip ?_
       refine run_seq ?_
       refine run_block ?_
       refine run_seq ?_
       refine run_reg (l := [0, 1, 2, 3, 4, 5, 6, 7, 8]) rfl ?_
       refine p_v (v := .pointer (some ⟨b44, 0, none⟩)) rfl rfl rfl (x_move r118_11) ?_
       refine p_v (v := .pointer (some ⟨b44, 0, none⟩)) rfl rfl rfl (x_nilCheck rfl) ?_
       refine p_v (v := .pointer (some ⟨b44, 2, none⟩)) rfl rfl rfl (x_fieldAt fd193_2 ty191 rfl rfl) ?_
       refine p_v (v := v_m_2) rfl rfl rfl (x_load (seg := [v_m_2]) ty191 rfl (by simp) rfl (CF.box (m := 1) (S118.box_at (j := 8) rfl) rfl)) ?_
       refine p_v (v := .int .i64 i) rfl rfl rfl (x_move r118_13) ?_
       obtain ⟨ad121, a121, at121⟩ := e_index_own (q := i) (m := 2) S118 (j := 11) rfl rfl (by first|omega|(simp;omega)|assumption|simp) (by first|omega|(simp;omega)|assumption|simp)
       refine p_v (v := .pointer (some ad121)) rfl rfl rfl (x_index_own u191 ty130 rfl rfl a121 (by first|omega|(simp;omega)|assumption|simp) (by first|omega|(simp;omega)|assumption|simp)) ?_
       obtain ⟨seg122, rp122, cf122⟩ := e_load_own (q := i) S118 (j := 11) rfl rfl at121 (by first|omega|(simp;omega)|assumption|simp) (by first|omega|(simp;omega)|assumption|simp)
       obtain ⟨rfl, ok122⟩ := rp122
       have palok122 := i64_lo ok122.1; have pahok122 := i64_hi ok122.1; have pblok122 := i64_lo ok122.2; have pbhok122 := i64_hi ok122.2
       refine p_v (v := .agg (encPair (at_ m_2 i)).toArray) rfl rfl rfl (x_load (seg := (encPair (at_ m_2 i))) ty130 rfl (by simp) rfl cf122) ?_
       obtain ⟨b123, w123, r123, g123, T123⟩ := e_box (P := Tryd.prog) S118 130 (v := (.agg #[.int .i64 0, .int .i64 0])) (encPair ((0, 0) : Int × Int)) rfl
       have S124 := T123
       dsimp only [lAa, lAn, lA0, lAs] at S124
       refine p_v (v := .pointer (some ⟨b123, 0, none⟩)) rfl rfl rfl (x_alloc ty130 r123) ?_
       obtain ⟨w125, r125, g125, T125⟩ := e_store (P := Tryd.prog) (off := 0) (v := .agg (encPair (at_ m_2 i)).toArray) (vs := (encPair (at_ m_2 i))) S124 ty130 rfl rfl (j := 15) rfl (by first | decide | exact Nat.le_of_ble_eq_true rfl) (encPair_one _)
       have S126 := T125.fx 15 (box b123 130 (encPair (at_ m_2 i))) rfl
       dsimp only [lAa, lAn, lA0, lAs] at S126
       refine p_s rfl rfl (x_store rfl rfl r125) ?_
       refine run_region_end ?_
       refine run_seq ?_
       refine run_reg (l := [0]) rfl ?_
       refine p_v (v := .slice none 0 0) rfl rfl rfl (x_assign rfl) ?_
       refine run_region_end ?_
       refine run_seq ?_
       refine run_seq ?_
       refine run_reg (l := [0, 1, 2]) rfl ?_
       refine p_v (v := .pointer (some ⟨b36, 256, none⟩)) rfl rfl rfl (x_fieldAt fd32_1 ty3 rfl r118_5) ?_
       have in127 := (o0_0).2
       have lo127 := i64_lo in127; have hi127 := i64_hi in127
       refine p_v (v := .int .i64 xa.part.n) rfl rfl rfl (x_load (seg := [.int .i64 xa.part.n]) ty3 rfl (by simp) rfl (CF.box (m := 1) (S126.box_at (j := 4) rfl) (encPart_n o0_0))) ?_
       refine p_v (v := .int .i64 0) rfl rfl rfl (x_move rfl) ?_
       refine run_region_end ?_
       refine run_block ?_
       have T128 := S126.row_nil 3 (Kd.int .i64)
       obtain ⟨vn128, ev128, T128⟩ : ∃ v, v = (.slice none 0 0 : Value) ∧ St w.heap.size w h118 w125 ([box b1 35 ((encPart xa.part) ++ ([.slice A0_1 xa.next.length c0_1, .slice A0_2 xa.final.length c0_2] : List Value)), box b3 35 ((encPart xb.part) ++ ([.slice A1_1 xb.next.length c1_1, .slice A1_2 xb.final.length c1_2] : List Value)), box b5 5 [.int .u8 how], box b7 35 ((encPart zPart) ++ ([.slice none 0 0, .slice none 0 0] : List Value)), box b36 32 (encPart xa.part), box b38 130 (encPair ((0, 0) : Int × Int)), box b40 35 ((encPart zPart) ++ ([.slice none 0 0, .slice none 0 0] : List Value)), amap (fun x : (Int × Int) => Value.agg (encPair x).toArray) (fun x : Int => Value.int .i64 x) b42 b, box b44 193 [.pointer none, .map (some b42), v_m_2], box b46 130 (encPair ((0, 0) : Int × Int)), row 130 kPair v85 ([((0, 0) : Int × Int)] : List (Int × Int)), row 130 kPair v_m_2 m_2, box b110 35 ((encPart xa.part) ++ ([v_d_1, v_d_2] : List Value)), row 23 (Kd.int .i64).slice v_d_1 d_1, row 4 Kd.bool v_d_2 d_2, box b123 130 (encPair (at_ m_2 i))] ++ [row 3 (Kd.int .i64) v []]) := ⟨_, rfl, T128⟩
       have S129 := T128
       dsimp only [lAa, lAn, lA0, lAs] at S129
       refine run_loop (S := (List (Int × Int)) × (List Int) × (List ((Int × Int) × Int)) × Int) (fun (q_ : (List (Int × Int)) × (List Int) × (List ((Int × Int) × Int)) × Int) ρ w' => match q_ with | (m_22, l, b2, t44) => ∃ (h : Ghost) (v_m_22 : Value) (v_l : Value), Le h118 h ∧ St w.heap.size w h w' [box b1 35 ((encPart xa.part) ++ ([.slice A0_1 xa.next.length c0_1, .slice A0_2 xa.final.length c0_2] : List Value)), box b3 35 ((encPart xb.part) ++ ([.slice A1_1 xb.next.length c1_1, .slice A1_2 xb.final.length c1_2] : List Value)), box b5 5 [.int .u8 how], box b7 35 ((encPart zPart) ++ ([.slice none 0 0, .slice none 0 0] : List Value)), box b36 32 (encPart xa.part), box b38 130 (encPair ((0, 0) : Int × Int)), box b40 35 ((encPart zPart) ++ ([.slice none 0 0, .slice none 0 0] : List Value)), amap (fun x : (Int × Int) => Value.agg (encPair x).toArray) (fun x : Int => Value.int .i64 x) b42 b2, box b44 193 [.pointer none, .map (some b42), v_m_22], box b46 130 (encPair ((0, 0) : Int × Int)), row 130 kPair v85 ([((0, 0) : Int × Int)] : List (Int × Int)), row 130 kPair v_m_22 m_22, box b110 35 ((encPart xa.part) ++ ([v_d_1, v_d_2] : List Value)), row 23 (Kd.int .i64).slice v_d_1 d_1, row 4 Kd.bool v_d_2 d_2, box b123 130 (encPair (at_ m_2 i)), row 3 (Kd.int .i64) v_l l] ∧ ρ 3 = .func (.func 92) #[] #[.pointer (some ⟨b1, 0, none⟩), .pointer (some ⟨b3, 0, none⟩)] ∧ ρ 4 = .func (.func 90) #[] #[.pointer (some ⟨b1, 0, none⟩), .pointer (some ⟨b3, 0, none⟩), .pointer (some ⟨b5, 0, none⟩)] ∧ ρ 5 = .pointer (some ⟨b36, 0, none⟩) ∧ ρ 10 = .pointer (some ⟨b40, 0, none⟩) ∧ ρ 11 = .pointer (some ⟨b44, 0, none⟩) ∧ ρ 12 = .pointer (some ⟨b110, 0, none⟩) ∧ ρ 13 = .int .i64 i ∧ ρ 14 = .pointer (some ⟨b123, 0, none⟩) ∧ ρ 15 = v_l ∧ ρ 43 = .int .i64 xa.part.n ∧ ρ 44 = .int .i64 t44 ∧ inK .i64 t44 ∧ (0 ≤ t44 ∧ t44 ≤ xa.part.n ∧ MadeK (nextP xa xb) (at_ m_2 i) m_2 m_22 b2 l t44)) (fun q_ => match q_ with | (m_22, l, b2, t44) => (xa.part.n - t44).toNat) (m_2, ([] : List Int), b, 0) ⟨h118, v_m_2, vn128, Le.refl _, S129.sub [0, 1, 2, 3, 4, 5, 6, 7, 8, 9, 10, 11, 12, 13, 14, 15, 16] (by decide) rfl _ rfl, r118_3, r118_4, r118_5, r118_10, r118_11, r118_12, r118_13, rfl, (ev128.symm), rfl, rfl, (in_i64 (by first|omega|(simp;omega)|assumption|simp) (by first|omega|(simp;omega)|assumption|simp)), (by exact ⟨by omega, by omega, made_k0 hI118⟩)⟩ ?_
       rintro ⟨m_22, l, b2, t44⟩ ih130 ρ130 w130 ⟨h130, v_m_22, v_l, le130, S130, r130_3, r130_4, r130_5, r130_10, r130_11, r130_12, r130_13, r130_14, r130_15, r130_43, r130_44, f130_0, hI130⟩
       have lf130_0 := i64_lo f130_0; have hf130_0 := i64_hi f130_0
       have rl130_10 := S130.row_le (j := 10) rfl; simp only [maxLen] at rl130_10
       have rl130_11 := S130.row_le (j := 11) rfl; simp only [maxLen] at rl130_11
       have rl130_13 := S130.row_le (j := 13) rfl; simp only [maxLen] at rl130_13
       have rl130_14 := S130.row_le (j := 14) rfl; simp only [maxLen] at rl130_14
       have rl130_16 := S130.row_le (j := 16) rfl; simp only [maxLen] at rl130_16
       have hk0_ := hI130.1; have hk1_ := hI130.2.1; have hb1_ := pairs_bound2 hA_ hB_ hN_ pre0.1 pre0.2 hI118 (at_mem hI118.lo (by omega)) hI130.2.2 hI130.2.1; have hl1_ := madeK_len hI130.2.2; have hv_ := made_val hI130.2.2 (nextP xa xb (at_ m_2 i) t44)
       have hpk_ : t44 < xa.part.n → ((0 ≤ (at_ m_2 i).1 ∧ (at_ m_2 i).1 < (xa.next.length : Int)) ∧ 0 ≤ (at_ m_2 i).2 ∧ (at_ m_2 i).2 < (xb.next.length : Int)) ∧ (0 ≤ t44 ∧ t44 < ((at_ xa.next (at_ m_2 i).1).length : Int)) ∧ t44 < ((at_ xb.next (at_ m_2 i).2).length : Int) := fun h => ⟨hin_ (by omega), ⟨hk0_, by rw [hA_.row _ (hin_ (by omega)).1.1 (hin_ (by omega)).1.2]; exact h⟩, by rw [hB_.row _ (hin_ (by omega)).2.1 (hin_ (by omega)).2.2, ← hN_]; exact h⟩
       refine run_seq ?_
       refine run_reg (l := [0]) rfl ?_
       refine p_v (v := .bool (decide (t44 < xa.part.n))) rfl rfl rfl (x_lss r130_44 r130_43) ?_
       refine run_region_end ?_
       refine run_seq ?_
       refine run_cond_prop (p := t44 < xa.part.n) rfl (fun hc131 => ?_) (fun hc131 => ?_)
       ·skip
        refine run_skip ?_
        refine run_seq ?_
        refine run_block ?_
        refine run_seq ?_
        refine run_reg (l := [0, 1]) rfl ?_
        refine p_v (v := .int .i64 t44) rfl rfl rfl (x_move r130_44) ?_
        refine p_v (v := .int .i64 t44) rfl rfl rfl (x_assign rfl) ?_
        refine run_region_end ?_
        refine run_reg (l := [0, 1, 2, 3, 4, 5, 6, 7, 8, 9]) rfl ?_
        refine p_v (v := v_l) rfl rfl rfl (x_move r130_15) ?_
        refine p_v (v := .pointer (some ⟨b44, 0, none⟩)) rfl rfl rfl (x_move r130_11) ?_
        refine p_v (v := .func (.func 92) #[] #[.pointer (some ⟨b1, 0, none⟩), .pointer (some ⟨b3, 0, none⟩)]) rfl rfl rfl (x_move r130_3) ?_
        refine p_v (v := .agg (encPair (at_ m_2 i)).toArray) rfl rfl rfl (x_load (seg := (encPair (at_ m_2 i))) ty130 rfl (by simp) r130_14 (CF.box (m := 2) (S130.box_at (j := 15) rfl) rfl)) ?_
        refine p_v (v := .int .i64 t44) rfl rfl rfl (x_move rfl) ?_
        refine p_c rfl rfl rfl (y_call (args := [.agg (encPair (at_ m_2 i)).toArray, .int .i64 t44, .pointer (some ⟨b1, 0, none⟩), .pointer (some ⟨b3, 0, none⟩)]) ca92 rfl rfl) (bothN_calls w130 (at_ m_2 i) ok122 t44 f130_0 xa o0_0 A0_1 c0_1 b0_1 (l0_1.mono (St.le0 S130)) A0_2 c0_2 b0_2 (l0_2.mono (St.le0 S130)) ⟨b1, 0, none⟩ (box_gcell (S130.box_at (j := 0) rfl)) xb o1_0 A1_1 c1_1 b1_1 (l1_1.mono (St.le0 S130)) A1_2 c1_2 b1_2 (l1_2.mono (St.le0 S130)) ⟨b3, 0, none⟩ (box_gcell (S130.box_at (j := 1) rfl)) (by first | assumption | exact hpk_ (by omega))) ?_
        rintro _ w132 ⟨h132, T132, rfl, ok132_0⟩
        have S133 := S130.keep (Chg.of_below T132.below)
        refine p_i rfl rfl rfl (y_call (args := [.pointer (some ⟨b44, 0, none⟩), .agg (encPair (nextP xa xb (at_ m_2 i) t44)).toArray]) ca138 rfl rfl) (calls_of_run Tryd.func138 rfl Tryd.ntmps138 rfl ?_)
        refine run_seq ?_
        refine run_reg (l := [0, 1]) rfl ?_
        obtain ⟨b134, w134, r134, g134, T134⟩ := e_box (P := Tryd.prog) S133 130 (v := .agg (encPair (nextP xa xb (at_ m_2 i) t44)).toArray) (encPair (nextP xa xb (at_ m_2 i) t44)) rfl
        have S135 := T134
        dsimp only [lAa, lAn, lA0, lAs] at S135
        refine p_v (v := .pointer (some ⟨b134, 0, none⟩)) rfl rfl rfl (x_box rfl r134) ?_
        refine p_v (v := .int .i64 0) rfl rfl rfl (x_assign rfl) ?_
        refine run_region_end ?_
        refine run_seq ?_
        have hf136 : (CFs ⟨b44, 1, none⟩ [.map (some b42)]).1 w134 := (CF.box (m := 1) (S135.box_at (j := 8) rfl) rfl)
        have hf137 : (CFs ⟨b134, 0, none⟩ (encPair (nextP xa xb (at_ m_2 i) t44))).1 w134 := (CF.box (m := 2) (S135.box_at (j := 17) rfl) rfl)
        have hf138 : (MapHs (fun x : (Int × Int) => Value.agg (encPair x).toArray) (fun x : Int => Value.int .i64 x) b42 b2).1 w134 := (S135.map_at (j := 7) rfl)
        refine daS (hkC 3 hf136 (hkC 4 hf137 (hkC 5 hf138 (hkN (w := w134))))) 11 rfl mixed ?_
        intro wd139 gd139 hd139
        have S140 := S135.keep gd139
        have hf141 := spUp gd139 hf136
        have hf142 := spUp gd139 hf137
        have hf143 := spUp gd139 hf138
        refine qd0 (i := 0) (v := .pointer (some ⟨b44, 0, none⟩)) rfl (by decide +kernel) rfl rfl (x_move rfl) (of_no rfl) ?_
        refine qd0 (i := 1) (v := .pointer (some ⟨b44, 0, none⟩)) rfl (by decide +kernel) rfl rfl (x_nilCheck rfl) (of_no rfl) ?_
        refine qd0 (i := 2) (v := .pointer (some ⟨b44, 1, none⟩)) rfl (by decide +kernel) rfl rfl (x_fieldAt fd193_1 ty190 rfl rfl) (of_no rfl) ?_
        refine qd1 0 (i := 3) (v := .map (some b42)) rfl rfl (by decide +kernel) rfl rfl (fun wq hq => (x_load (seg := [.map (some b42)]) ty190 rfl (by simp) rfl hq)) (of_eq hf141 (of_no rfl)) ?_
        refine qd1 1 (i := 4) (v := .agg (encPair (nextP xa xb (at_ m_2 i) t44)).toArray) rfl rfl (by decide +kernel) rfl rfl (fun wq hq => (x_load (seg := (encPair (nextP xa xb (at_ m_2 i) t44))) ty130 rfl (by simp) rfl hq)) (of_ne rfl (of_eq hf142 (of_no rfl))) ?_
        refine qdn (i := 5) (v := .tuple #[.int .i64 ((valAt (nextP xa xb (at_ m_2 i) t44) b2).getD 0), .bool ((valAt (nextP xa xb (at_ m_2 i) t44) b2).isSome)]) (fun wf => MapH (fun x : (Int × Int) => Value.agg (encPair x).toArray) (fun x : Int => Value.int .i64 x) b42 b2 wf) (fun _ ho => ho _ (List.mem_of_getElem? (i := 2) rfl) rfl) rfl (by decide +kernel) rfl rfl (fun wq hq => (x_lookup (a := .map (some b42)) (k := .agg (encPair (nextP xa xb (at_ m_2 i) t44)).toArray) rfl rfl (e_lookup_h (kvs := b2) key130 hq u190 (zero_cells ty3) 0 (nextP xa xb (at_ m_2 i) t44)))) (of_ne rfl (of_ne rfl (of_eq hf143 (of_no rfl)))) ?_
        refine qd0 (i := 6) (v := .tuple #[.int .i64 ((valAt (nextP xa xb (at_ m_2 i) t44) b2).getD 0), .bool ((valAt (nextP xa xb (at_ m_2 i) t44) b2).isSome)]) rfl (by decide +kernel) rfl rfl (x_move rfl) (of_no rfl) ?_
        refine qd0 (i := 7) (v := .int .i64 ((valAt (nextP xa xb (at_ m_2 i) t44) b2).getD 0)) rfl (by decide +kernel) rfl rfl (x_extract (vs := [.int .i64 ((valAt (nextP xa xb (at_ m_2 i) t44) b2).getD 0), .bool ((valAt (nextP xa xb (at_ m_2 i) t44) b2).isSome)]) rfl rfl) (of_no rfl) ?_
        refine qd0 (i := 8) (v := .bool ((valAt (nextP xa xb (at_ m_2 i) t44) b2).isSome)) rfl (by decide +kernel) rfl rfl (x_extract (vs := [.int .i64 ((valAt (nextP xa xb (at_ m_2 i) t44) b2).getD 0), .bool ((valAt (nextP xa xb (at_ m_2 i) t44) b2).isSome)]) rfl rfl) (of_no rfl) ?_
        refine qd0 (i := 9) (v := .int .i64 ((valAt (nextP xa xb (at_ m_2 i) t44) b2).getD 0)) rfl (by decide +kernel) rfl rfl (x_assign rfl) (of_no rfl) ?_
        refine qd0 (i := 10) (v := .bool ((valAt (nextP xa xb (at_ m_2 i) t44) b2).isSome)) rfl (by decide +kernel) rfl rfl (x_assign rfl) (of_no rfl) ?_
        refine ra_done (by decide +kernel) ?_
        intro wd144 gd144
        have S145 := S140.keep gd144
        refine run_seq ?_
        refine run_seq ?_
        refine run_reg (l := [0, 1]) rfl ?_
        refine p_v (v := .bool ((valAt (nextP xa xb (at_ m_2 i) t44) b2).isSome)) rfl rfl rfl (x_move rfl) ?_
        refine p_v (v := .bool (!((valAt (nextP xa xb (at_ m_2 i) t44) b2).isSome))) rfl rfl rfl (x_not rfl) ?_
        refine run_region_end ?_
        refine run_cond_nsplit (b := (valAt (nextP xa xb (at_ m_2 i) t44) b2).isSome) rfl (fun hc146 => ?_) (fun hc146 => ?_)
        ·skip
         refine run_seq ?_
         refine run_reg (l := [0, 1, 2, 3, 4]) rfl ?_
         refine p_v (v := .pointer (some ⟨b44, 0, none⟩)) rfl rfl rfl (x_move rfl) ?_
         refine p_v (v := .pointer (some ⟨b44, 0, none⟩)) rfl rfl rfl (x_nilCheck rfl) ?_
         refine p_v (v := .pointer (some ⟨b44, 0, none⟩)) rfl rfl rfl (x_fieldAt fd193_0 ty54 rfl rfl) ?_
         refine p_v (v := .pointer none) rfl rfl rfl (x_load (seg := [.pointer none]) ty54 rfl (by simp) rfl (CF.box (m := 1) (S145.box_at (j := 8) rfl) rfl)) ?_
         refine p_i rfl rfl rfl (y_call (args := [.pointer none, .int .i64 1]) ca161 rfl rfl) (calls_of_run Tryd.func161 rfl Tryd.ntmps161 rfl ?_)
         refine run_seq ?_
         refine run_seq ?_
         refine run_reg (l := [0, 1, 2, 3, 4, 5]) rfl ?_
         refine p_v (v := .pointer none) rfl rfl rfl (x_move rfl) ?_
         refine p_v (v := .bool true) rfl rfl rfl (x_eql_ptr (p := none) u54 rfl rfl) ?_
         refine p_v (v := .bool true) rfl rfl rfl (x_move rfl) ?_
         refine p_off rfl rfl rfl ?_
         refine p_off rfl rfl rfl ?_
         refine p_v (v := .bool true) rfl rfl rfl (x_pick_t rfl rfl) ?_
         refine run_region_end ?_
         refine run_cond (b := true) rfl ?_
         simp only [if_true, if_false, Bool.false_eq_true]
         refine run_ret Tryd.func161 (res0 rfl) ?_
         refine ⟨_, rfl, ?_⟩
         refine run_region_end ?_
         refine run_seq ?_
         refine run_reg (l := [0, 1, 2, 3, 4, 5]) rfl ?_
         refine p_v (v := .pointer (some ⟨b44, 0, none⟩)) rfl rfl rfl (x_move rfl) ?_
         refine p_v (v := .pointer (some ⟨b44, 0, none⟩)) rfl rfl rfl (x_nilCheck rfl) ?_
         refine p_v (v := .pointer (some ⟨b44, 2, none⟩)) rfl rfl rfl (x_fieldAt fd193_2 ty191 rfl rfl) ?_
         refine p_v (v := v_m_22) rfl rfl rfl (x_load (seg := [v_m_22]) ty191 rfl (by simp) rfl (CF.box (m := 1) (S145.box_at (j := 8) rfl) rfl)) ?_
         have lb147 := S145.row_le (j := 11) rfl; simp only [maxLen] at lb147
         refine p_v (v := .int .i64 (m_22.length : Int)) rfl rfl rfl (x_len_own u191 rfl (e_len_own S145 (j := 11) rfl)) ?_
         refine p_v (v := .int .i64 (m_22.length : Int)) rfl rfl rfl (x_assign rfl) ?_
         refine run_region_end ?_
         refine run_seq ?_
         have hf148 : (CFs ⟨b44, 1, none⟩ [.map (some b42)]).1 wd144 := (CF.box (m := 1) (S145.box_at (j := 8) rfl) rfl)
         have hf149 : (CFs ⟨b134, 0, none⟩ (encPair (nextP xa xb (at_ m_2 i) t44))).1 wd144 := (CF.box (m := 2) (S145.box_at (j := 17) rfl) rfl)
         refine daS (hkC 3 hf148 (hkC 4 hf149 (hkN (w := wd144)))) 7 rfl mixed ?_
         intro wd150 gd150 hd150
         have S151 := S145.keep gd150
         have hf152 := spUp gd150 hf148
         have hf153 := spUp gd150 hf149
         refine qd0 (i := 0) (v := .pointer (some ⟨b44, 0, none⟩)) rfl (by decide +kernel) rfl rfl (x_move rfl) (of_no rfl) ?_
         refine qd0 (i := 1) (v := .pointer (some ⟨b44, 0, none⟩)) rfl (by decide +kernel) rfl rfl (x_nilCheck rfl) (of_no rfl) ?_
         refine qd0 (i := 2) (v := .pointer (some ⟨b44, 1, none⟩)) rfl (by decide +kernel) rfl rfl (x_fieldAt fd193_1 ty190 rfl rfl) (of_no rfl) ?_
         refine qd1 0 (i := 3) (v := .map (some b42)) rfl rfl (by decide +kernel) rfl rfl (fun wq hq => (x_load (seg := [.map (some b42)]) ty190 rfl (by simp) rfl hq)) (of_eq hf152 (of_no rfl)) ?_
         refine qd1 1 (i := 4) (v := .agg (encPair (nextP xa xb (at_ m_2 i) t44)).toArray) rfl rfl (by decide +kernel) rfl rfl (fun wq hq => (x_load (seg := (encPair (nextP xa xb (at_ m_2 i) t44))) ty130 rfl (by simp) rfl hq)) (of_ne rfl (of_eq hf153 (of_no rfl))) ?_
         refine qd0 (i := 5) (v := .int .i64 (m_22.length : Int)) rfl (by decide +kernel) rfl rfl (x_move rfl) (of_no rfl) ?_
         refine ra_one (i := 6) (by decide +kernel) ?_
         intro wd154 gd154
         have S155 := S151.keep gd154
         have hf156 := spUp gd154 hf152
         have hf157 := spUp gd154 hf153
         obtain ⟨w158, r158, g158, T158⟩ := e_mapUpdate key130 S155 (j := 7) rfl u190 (nextP xa xb (at_ m_2 i) t44) (m_22.length : Int)
         have S159 := T158.fx 7 (amap (fun x : (Int × Int) => Value.agg (encPair x).toArray) (fun x : Int => Value.int .i64 x) b42 (putAt (nextP xa xb (at_ m_2 i) t44) (m_22.length : Int) b2)) rfl
         dsimp only [lAa, lAn, lA0, lAs] at S159
         have hf160 : (CFs ⟨b44, 1, none⟩ [.map (some b42)]).1 w158 := (CF.box (m := 1) (S159.box_at (j := 8) rfl) rfl)
         have hf161 : (CFs ⟨b134, 0, none⟩ (encPair (nextP xa xb (at_ m_2 i) t44))).1 w158 := (CF.box (m := 2) (S159.box_at (j := 17) rfl) rfl)
         refine d_s rfl rfl (x_mapUpdate rfl rfl rfl r158) (.inr (keep_w (by decide +kernel) (keep_w (by decide +kernel) trivial))) ?_
         refine ra_done (by decide +kernel) ?_
         intro wd162 gd162
         have S163 := S159.keep gd162
         have hf164 : (CFs ⟨b44, 2, none⟩ [v_m_22]).1 wd162 := (CF.box (m := 1) (S163.box_at (j := 8) rfl) rfl)
         have hf165 : (CFs ⟨b134, 0, none⟩ (encPair (nextP xa xb (at_ m_2 i) t44))).1 wd162 := (CF.box (m := 2) (S163.box_at (j := 17) rfl) rfl)
         refine daS (hkC 4 hf164 (hkC 5 hf165 (hkN (w := wd162)))) 11 rfl mixed ?_
         intro wd166 gd166 hd166
         have S167 := S163.keep gd166
         have hf168 := spUp gd166 hf164
         have hf169 := spUp gd166 hf165
         refine qd0 (i := 0) (v := .pointer (some ⟨b44, 0, none⟩)) rfl (by decide +kernel) rfl rfl (x_move rfl) (of_no rfl) ?_
         refine qd0 (i := 1) (v := .pointer (some ⟨b44, 0, none⟩)) rfl (by decide +kernel) rfl rfl (x_move rfl) (of_no rfl) ?_
         refine qd0 (i := 2) (v := .pointer (some ⟨b44, 0, none⟩)) rfl (by decide +kernel) rfl rfl (x_nilCheck rfl) (of_no rfl) ?_
         refine qd0 (i := 3) (v := .pointer (some ⟨b44, 2, none⟩)) rfl (by decide +kernel) rfl rfl (x_fieldAt fd193_2 ty191 rfl rfl) (of_no rfl) ?_
         refine qd1 0 (i := 4) (v := v_m_22) rfl rfl (by decide +kernel) rfl rfl (fun wq hq => (x_load (seg := [v_m_22]) ty191 rfl (by simp) rfl hq)) (of_eq hf168 (of_no rfl)) ?_
         refine qd1 1 (i := 5) (v := .agg (encPair (nextP xa xb (at_ m_2 i) t44)).toArray) rfl rfl (by decide +kernel) rfl rfl (fun wq hq => (x_load (seg := (encPair (nextP xa xb (at_ m_2 i) t44))) ty130 rfl (by simp) rfl hq)) (of_ne rfl (of_eq hf169 (of_no rfl))) ?_
         refine ra_one (i := 6) (by decide +kernel) ?_
         intro wd170 gd170
         have S171 := S167.keep gd170
         have hf172 := spUp gd170 hf168
         have hf173 := spUp gd170 hf169
         obtain ⟨v174, w174, r174, g174, T174⟩ := e_build_segs (kd := kPair) (xs := ([nextP xa xb (at_ m_2 i) t44] : List (Int × Int))) (len := 1) (m := 2) [(.agg (encPair (nextP xa xb (at_ m_2 i) t44)).toArray, (encPair (nextP xa xb (at_ m_2 i) t44)))] S171 u191 ty130 rfl rfl rfl rfl (segs_cons rfl rfl segs_nil) (cs := (encPair (nextP xa xb (at_ m_2 i) t44))) (Elems.single (k := kPair) (h := h130) (x := nextP xa xb (at_ m_2 i) t44) (cs := (encPair (nextP xa xb (at_ m_2 i) t44))) ⟨rfl, ok132_0⟩) (by simp)
         have S175 := T174
         dsimp only [lAa, lAn, lA0, lAs] at S175
         have hf176 := spUp g174 hf172
         have hf177 := spUp g174 hf173
         refine d_v (v := v174) rfl rfl rfl (y_build_slice (pv := [(0, .agg (encPair (nextP xa xb (at_ m_2 i) t44)).toArray)]) rfl r174) (.inl g174) ?_
         refine ra_one (i := 7) (by decide +kernel) ?_
         intro wd178 gd178
         have S179 := S175.keep gd178
         have hf180 := spUp gd178 hf176
         have hf181 := spUp gd178 hf177
         obtain ⟨A183, c183, ev183, lc183, cm183⟩ := S179.row_val (j := 18) rfl
         obtain ⟨v184, w184, r184, g184, T184⟩ := e_append (kd := kPair) (A := A183) (c := c183) (ys := ([nextP xa xb (at_ m_2 i) t44] : List (Int × Int))) (len := ([nextP xa xb (at_ m_2 i) t44] : List (Int × Int)).length) 191 S179 u191 ty130 rfl rfl (j := 11) rfl rfl (news_own S179 (j := 18) rfl ev183) (by first|omega|(simp;omega)|assumption|simp) (by first|omega|(simp;omega)|assumption|simp)
         have S185 := T184.fx 11 (row 130 kPair v184 (m_22 ++ ([nextP xa xb (at_ m_2 i) t44] : List (Int × Int)))) rfl
         dsimp only [lAa, lAn, lA0, lAs] at S185
         have hf186 : (CFs ⟨b44, 2, none⟩ [v_m_22]).1 w184 := (CF.box (m := 1) (S185.box_at (j := 8) rfl) rfl)
         have hf187 : (CFs ⟨b134, 0, none⟩ (encPair (nextP xa xb (at_ m_2 i) t44))).1 w184 := (CF.box (m := 2) (S185.box_at (j := 17) rfl) rfl)
         refine d_v (v := v184) rfl rfl rfl (x_append rfl ev183 r184) (.inr (keep_w (by decide +kernel) (keep_v hf187 trivial))) ?_
         refine qd0 (i := 8) (v := .pointer (some ⟨b44, 0, none⟩)) rfl (by decide +kernel) rfl rfl (x_nilCheck rfl) (of_no rfl) ?_
         refine qd0 (i := 9) (v := .pointer (some ⟨b44, 2, none⟩)) rfl (by decide +kernel) rfl rfl (x_fieldAt fd193_2 ty191 rfl rfl) (of_no rfl) ?_
         refine ra_one (i := 10) (by decide +kernel) ?_
         intro wd188 gd188
         have S189 := S185.keep gd188
         have hf190 := spUp gd188 hf186
         have hf191 := spUp gd188 hf187
         have oc193 := row_one S189 (j := 11) rfl
         obtain ⟨w192, r192, g192, T192⟩ := e_store (P := Tryd.prog) (off := 2) (v := v184) (vs := [v184]) S189 ty191 (row_cells S189 (j := 11) rfl) rfl (j := 8) rfl (by first | decide | exact Nat.le_of_ble_eq_true rfl) (one_cons oc193 one_nil)
         have S194 := T192.fx 8 (box b44 193 [.pointer none, .map (some b42), v184]) rfl
         dsimp only [lAa, lAn, lA0, lAs] at S194
         have hf195 : (CFs ⟨b134, 0, none⟩ (encPair (nextP xa xb (at_ m_2 i) t44))).1 w192 := (CF.box (m := 2) (S194.box_at (j := 17) rfl) rfl)
         refine d_s rfl rfl (x_store rfl rfl r192) (.inr (keep_w (by decide +kernel) (keep_w (by decide +kernel) trivial))) ?_
         refine ra_done (by decide +kernel) ?_
         intro wd196 gd196
         have S197 := S194.keep gd196
         refine run_seq ?_
         refine run_reg (l := [0, 1]) rfl ?_
         refine p_v (v := .int .i64 (m_22.length : Int)) rfl rfl rfl (x_move rfl) ?_
         refine p_v (v := .int .i64 (m_22.length : Int)) rfl rfl rfl (x_assign rfl) ?_
         refine run_region_end ?_
         refine run_ret Tryd.func138 (res1 rfl (res_tmp (v := .int .i64 (m_22.length : Int)) rfl)) ?_
         refine ⟨_, rfl, ?_⟩
         obtain ⟨v198, w198, r198, g198, T198⟩ := e_build_ones (kd := (Kd.int .i64)) (xs := ([(m_22.length : Int)] : List Int)) (len := 1) [.int .i64 (m_22.length : Int)] S197 u23 ty3 rfl rfl rfl rfl rfl (ones_cons rfl ones_nil) [.int .i64 (m_22.length : Int)] (Elems.single (k := (Kd.int .i64)) (h := h130) (x := (m_22.length : Int)) (cs := [.int .i64 (m_22.length : Int)]) ⟨rfl, (in_i64 (by first|omega|(simp;omega)|assumption|simp) (by first|omega|(simp;omega)|assumption|simp))⟩) rfl
         have S199 := T198
         dsimp only [lAa, lAn, lA0, lAs] at S199
         refine p_v (v := v198) rfl rfl rfl (y_build_slice (pv := [(0, .int .i64 (m_22.length : Int))]) rfl r198) ?_
         obtain ⟨A201, c201, ev201, lc201, cm201⟩ := S199.row_val (j := 19) rfl
         obtain ⟨v202, w202, r202, g202, T202⟩ := e_append (kd := (Kd.int .i64)) (A := A201) (c := c201) (ys := ([(m_22.length : Int)] : List Int)) (len := ([(m_22.length : Int)] : List Int).length) 23 S199 u23 ty3 rfl rfl (j := 16) rfl rfl (news_own S199 (j := 19) rfl ev201) (by first|omega|(simp;omega)|assumption|simp) (by first|omega|(simp;omega)|assumption|simp)
         have S203 := T202.fx 16 (row 3 (Kd.int .i64) v202 (l ++ ([(m_22.length : Int)] : List Int))) rfl
         dsimp only [lAa, lAn, lA0, lAs] at S203
         refine p_v (v := v202) rfl rfl rfl (x_append rfl ev201 r202) ?_
         refine p_v (v := v202) rfl rfl rfl (x_assign rfl) ?_
         refine run_region_end ?_
         refine run_inBlock ?_
         refine run_reg (l := [0, 1]) rfl ?_
         refine p_v (v := .int .i64 (t44 + 1)) rfl rfl rfl (x_add r130_44 rfl (in_i64 (by first|omega|(simp;omega)|assumption|simp) (by first|omega|(simp;omega)|assumption|simp))) ?_
         refine p_v (v := .int .i64 (t44 + 1)) rfl rfl rfl (x_move rfl) ?_
         refine run_region_end ?_
         refine ih130 (m_22 ++ ([nextP xa xb (at_ m_2 i) t44] : List (Int × Int)), l ++ ([(m_22.length : Int)] : List Int), putAt (nextP xa xb (at_ m_2 i) t44) (m_22.length : Int) b2, t44 + 1) _ _ (by dsimp only; omega) ⟨h130, v184, v202, le130, S203.sub [0, 1, 2, 3, 4, 5, 6, 7, 8, 9, 10, 11, 12, 13, 14, 15, 16] (by decide) rfl _ rfl, r130_3, r130_4, r130_5, r130_10, r130_11, r130_12, r130_13, r130_14, rfl, r130_43, rfl, (in_i64 (by first|omega|(simp;omega)|assumption|simp) (by first|omega|(simp;omega)|assumption|simp)), (by first | exact ⟨by omega, by omega, made_old hI130.2.2 (by assumption)⟩ | exact ⟨by omega, by omega, made_new hI130.2.2 (by assumption)⟩)⟩
        ·skip
         refine run_skip ?_
         refine run_seq ?_
         refine run_reg (l := [0, 1]) rfl ?_
         refine p_v (v := .int .i64 ((valAt (nextP xa xb (at_ m_2 i) t44) b2).getD 0)) rfl rfl rfl (x_move rfl) ?_
         refine p_v (v := .int .i64 ((valAt (nextP xa xb (at_ m_2 i) t44) b2).getD 0)) rfl rfl rfl (x_assign rfl) ?_
         refine run_region_end ?_
         refine run_ret Tryd.func138 (res1 rfl (res_tmp (v := .int .i64 ((valAt (nextP xa xb (at_ m_2 i) t44) b2).getD 0)) rfl)) ?_
         refine ⟨_, rfl, ?_⟩
         obtain ⟨v204, w204, r204, g204, T204⟩ := e_build_ones (kd := (Kd.int .i64)) (xs := ([((valAt (nextP xa xb (at_ m_2 i) t44) b2).getD 0)] : List Int)) (len := 1) [.int .i64 ((valAt (nextP xa xb (at_ m_2 i) t44) b2).getD 0)] S145 u23 ty3 rfl rfl rfl rfl rfl (ones_cons rfl ones_nil) [.int .i64 ((valAt (nextP xa xb (at_ m_2 i) t44) b2).getD 0)] (Elems.single (k := (Kd.int .i64)) (h := h130) (x := ((valAt (nextP xa xb (at_ m_2 i) t44) b2).getD 0)) (cs := [.int .i64 ((valAt (nextP xa xb (at_ m_2 i) t44) b2).getD 0)]) ⟨rfl, (in_i64 (by first|omega|(simp;omega)|assumption|simp) (by first|omega|(simp;omega)|assumption|simp))⟩) rfl
         have S205 := T204
         dsimp only [lAa, lAn, lA0, lAs] at S205
         refine p_v (v := v204) rfl rfl rfl (y_build_slice (pv := [(0, .int .i64 ((valAt (nextP xa xb (at_ m_2 i) t44) b2).getD 0))]) rfl r204) ?_
         obtain ⟨A207, c207, ev207, lc207, cm207⟩ := S205.row_val (j := 18) rfl
         obtain ⟨v208, w208, r208, g208, T208⟩ := e_append (kd := (Kd.int .i64)) (A := A207) (c := c207) (ys := ([((valAt (nextP xa xb (at_ m_2 i) t44) b2).getD 0)] : List Int)) (len := ([((valAt (nextP xa xb (at_ m_2 i) t44) b2).getD 0)] : List Int).length) 23 S205 u23 ty3 rfl rfl (j := 16) rfl rfl (news_own S205 (j := 18) rfl ev207) (by first|omega|(simp;omega)|assumption|simp) (by first|omega|(simp;omega)|assumption|simp)
         have S209 := T208.fx 16 (row 3 (Kd.int .i64) v208 (l ++ ([((valAt (nextP xa xb (at_ m_2 i) t44) b2).getD 0)] : List Int))) rfl
         dsimp only [lAa, lAn, lA0, lAs] at S209
         refine p_v (v := v208) rfl rfl rfl (x_append rfl ev207 r208) ?_
         refine p_v (v := v208) rfl rfl rfl (x_assign rfl) ?_
         refine run_region_end ?_
         refine run_inBlock ?_
         refine run_reg (l := [0, 1]) rfl ?_
         refine p_v (v := .int .i64 (t44 + 1)) rfl rfl rfl (x_add r130_44 rfl (in_i64 (by first|omega|(simp;omega)|assumption|simp) (by first|omega|(simp;omega)|assumption|simp))) ?_
         refine p_v (v := .int .i64 (t44 + 1)) rfl rfl rfl (x_move rfl) ?_
         refine run_region_end ?_
         refine ih130 (m_22, l ++ ([((valAt (nextP xa xb (at_ m_2 i) t44) b2).getD 0)] : List Int), b2, t44 + 1) _ _ (by dsimp only; omega) ⟨h130, v_m_22, v208, le130, S209.sub [0, 1, 2, 3, 4, 5, 6, 7, 8, 9, 10, 11, 12, 13, 14, 15, 16] (by decide) rfl _ rfl, r130_3, r130_4, r130_5, r130_10, r130_11, r130_12, r130_13, r130_14, rfl, r130_43, rfl, (in_i64 (by first|omega|(simp;omega)|assumption|simp) (by first|omega|(simp;omega)|assumption|simp)), (by first | exact ⟨by omega, by omega, made_old hI130.2.2 (by assumption)⟩ | exact ⟨by omega, by omega, made_new hI130.2.2 (by assumption)⟩)⟩
       ·skip
        refine run_exit rfl ?_
        have hf210 : (CFs ⟨b110, 257, none⟩ [v_d_1]).1 w130 := (CF.box (m := 1) (S130.box_at (j := 12) rfl) (seg_mid2 (a := (encPart xa.part)) (pre := []) (seg := [v_d_1]) (post := [v_d_2]) (encPart_len o0_0) rfl rfl))
        have hf211 : (CFs ⟨b110, 258, none⟩ [v_d_2]).1 w130 := (CF.box (m := 1) (S130.box_at (j := 12) rfl) (seg_mid2 (a := (encPart xa.part)) (pre := [v_d_1]) (seg := [v_d_2]) (post := []) (encPart_len o0_0) rfl rfl))
        have hf212 : (CFs ⟨b123, 0, none⟩ (encPair (at_ m_2 i))).1 w130 := (CF.box (m := 2) (S130.box_at (j := 15) rfl) rfl)
        refine daS (hkC 1 hf210 (hkC 6 hf211 (hkC 8 hf212 (hkN (w := w130))))) 16 rfl mixed ?_
        intro wd213 gd213 hd213
        have S214 := S130.keep gd213
        have hf215 := spUp gd213 hf210
        have hf216 := spUp gd213 hf211
        have hf217 := spUp gd213 hf212
        refine qd0 (i := 0) (v := .pointer (some ⟨b110, 257, none⟩)) rfl (by decide +kernel) rfl rfl (x_fieldAt fd35_1 ty24 rfl r130_12) (of_no rfl) ?_
        refine qd1 0 (i := 1) (v := v_d_1) rfl rfl (by decide +kernel) rfl rfl (fun wq hq => (x_load (seg := [v_d_1]) ty24 rfl (by simp) rfl hq)) (of_eq hf215 (of_no rfl)) ?_
        refine qd0 (i := 2) (v := v_l) rfl (by decide +kernel) rfl rfl (x_move r130_15) (of_no rfl) ?_
        refine qd0 (i := 5) (v := .pointer (some ⟨b110, 258, none⟩)) rfl (by decide +kernel) rfl rfl (x_fieldAt fd35_2 ty25 rfl r130_12) (of_no rfl) ?_
        refine qd1 1 (i := 6) (v := v_d_2) rfl rfl (by decide +kernel) rfl rfl (fun wq hq => (x_load (seg := [v_d_2]) ty25 rfl (by simp) rfl hq)) (of_ne rfl (of_eq hf216 (of_no rfl))) ?_
        refine qd0 (i := 7) (v := .func (.func 90) #[] #[.pointer (some ⟨b1, 0, none⟩), .pointer (some ⟨b3, 0, none⟩), .pointer (some ⟨b5, 0, none⟩)]) rfl (by decide +kernel) rfl rfl (x_move r130_4) (of_no rfl) ?_
        refine qd1 2 (i := 8) (v := .agg (encPair (at_ m_2 i)).toArray) rfl rfl (by decide +kernel) rfl rfl (fun wq hq => (x_load (seg := (encPair (at_ m_2 i))) ty130 rfl (by simp) r130_14 hq)) (of_ne rfl (of_ne rfl (of_eq hf217 (of_no rfl)))) ?_
        refine ra_one (i := 3) (by decide +kernel) ?_
        intro wd218 gd218
        have S219 := S214.keep gd218
        have hf220 := spUp gd218 hf215
        have hf221 := spUp gd218 hf216
        have hf222 := spUp gd218 hf217
        obtain ⟨h224, le224, T224, rp224⟩ := S219.freeze (i := 16) rfl
        have lf224_0 := (((le118).trans le130)).trans le224
        have lf224_1 := (le130).trans le224
        have S225 := T224.fx 16 (emp) rfl
        dsimp only [lAa, lAn, lA0, lAs] at S225
        obtain ⟨A224, c224, e224, lc224, cm224, ld224⟩ := rp224
        injection e224 with e224 _; subst e224
        have cn224 := cm224; simp only [maxLen] at cn224
        obtain ⟨v223, w223, r223, g223, T223⟩ := e_build_ones (kd := (Kd.int .i64).slice) (xs := ([l] : List (List Int))) (len := 1) [.slice A224 l.length c224] S225 u24 ty23 rfl rfl rfl rfl rfl (ones_cons rfl ones_nil) [.slice A224 l.length c224] (Elems.single (k := (Kd.int .i64).slice) (h := h224) (x := l) (cs := [.slice A224 l.length c224]) ⟨_, _, rfl, (And.intro lc224 cm224).1, (And.intro lc224 cm224).2, ld224.mono (Le.refl _)⟩) rfl
        have S226 := T223
        dsimp only [lAa, lAn, lA0, lAs] at S226
        have hf227 := spUp g223 hf220
        have hf228 := spUp g223 hf221
        have hf229 := spUp g223 hf222
        refine d_v (v := v223) rfl rfl rfl (y_build_slice (pv := [(0, .slice A224 l.length c224)]) rfl r223) (.inl g223) ?_
        refine ra_one (i := 4) (by decide +kernel) ?_
        intro wd230 gd230
        have S231 := S226.keep gd230
        have hf232 := spUp gd230 hf227
        have hf233 := spUp gd230 hf228
        have hf234 := spUp gd230 hf229
        obtain ⟨A236, c236, ev236, lc236, cm236⟩ := S231.row_val (j := 17) rfl
        obtain ⟨v237, w237, r237, g237, T237⟩ := e_append (kd := (Kd.int .i64).slice) (A := A236) (c := c236) (ys := ([l] : List (List Int))) (len := ([l] : List (List Int)).length) 24 S231 u24 ty23 rfl rfl (j := 13) rfl rfl (news_own S231 (j := 17) rfl ev236) (by first|omega|(simp;omega)|assumption|simp) (by first|omega|(simp;omega)|assumption|simp)
        have S238 := T237.fx 13 (row 23 (Kd.int .i64).slice v237 (d_1 ++ ([l] : List (List Int)))) rfl
        dsimp only [lAa, lAn, lA0, lAs] at S238
        have hf239 : (CFs ⟨b110, 257, none⟩ [v_d_1]).1 w237 := (CF.box (m := 1) (S238.box_at (j := 12) rfl) (seg_mid2 (a := (encPart xa.part)) (pre := []) (seg := [v_d_1]) (post := [v_d_2]) (encPart_len o0_0) rfl rfl))
        have hf240 : (CFs ⟨b110, 258, none⟩ [v_d_2]).1 w237 := (CF.box (m := 1) (S238.box_at (j := 12) rfl) (seg_mid2 (a := (encPart xa.part)) (pre := [v_d_1]) (seg := [v_d_2]) (post := []) (encPart_len o0_0) rfl rfl))
        have hf241 : (CFs ⟨b123, 0, none⟩ (encPair (at_ m_2 i))).1 w237 := (CF.box (m := 2) (S238.box_at (j := 15) rfl) rfl)
        refine d_v (v := v237) rfl rfl rfl (x_append rfl ev236 r237) (.inr (keep_w (by decide +kernel) (keep_v hf240 (keep_v hf241 trivial)))) ?_
        have hf243 : (LeadsS (Kd.int .i64).slice A0_1 xa.next).1 w237 := (l0_1.mono (St.le0 S238))
        have hf244 : (LeadsS Kd.bool A0_2 xa.final).1 w237 := (l0_2.mono (St.le0 S238))
        have hf245 : (GCs ⟨b1, 0, none⟩ ((encPart xa.part) ++ ([.slice A0_1 xa.next.length c0_1, .slice A0_2 xa.final.length c0_2] : List Value))).1 w237 := (box_gcell (S238.box_at (j := 0) rfl))
        have hf246 : (LeadsS (Kd.int .i64).slice A1_1 xb.next).1 w237 := (l1_1.mono (St.le0 S238))
        have hf247 : (LeadsS Kd.bool A1_2 xb.final).1 w237 := (l1_2.mono (St.le0 S238))
        have hf248 : (GCs ⟨b3, 0, none⟩ ((encPart xb.part) ++ ([.slice A1_1 xb.next.length c1_1, .slice A1_2 xb.final.length c1_2] : List Value))).1 w237 := (box_gcell (S238.box_at (j := 1) rfl))
        have hf249 : (GCs ⟨b5, 0, none⟩ [.int .u8 how]).1 w237 := (box_gcell (S238.box_at (j := 2) rfl))
        refine raMo (hkC 9 hf243 (hkC 9 hf244 (hkC 9 hf245 (hkC 9 hf246 (hkC 9 hf247 (hkC 9 hf248 (hkC 9 hf249 (hkN (w := w237))))))))) ?_
        refine d_m (i := 9) (v := .bool (finalP xa xb how (at_ m_2 i))) (fun wf => Leads (Kd.int .i64).slice (hp wf) A0_1 xa.next ∧ Leads Kd.bool (hp wf) A0_2 xa.final ∧ (GCs ⟨b1, 0, none⟩ ((encPart xa.part) ++ ([.slice A0_1 xa.next.length c0_1, .slice A0_2 xa.final.length c0_2] : List Value))).1 wf ∧ Leads (Kd.int .i64).slice (hp wf) A1_1 xb.next ∧ Leads Kd.bool (hp wf) A1_2 xb.final ∧ (GCs ⟨b3, 0, none⟩ ((encPart xb.part) ++ ([.slice A1_1 xb.next.length c1_1, .slice A1_2 xb.final.length c1_2] : List Value))).1 wf ∧ (GCs ⟨b5, 0, none⟩ [.int .u8 how]).1 wf) (fun _ ho => ⟨ho _ (List.mem_of_getElem? (i := 0) rfl) rfl, ho _ (List.mem_of_getElem? (i := 1) rfl) rfl, ho _ (List.mem_of_getElem? (i := 2) rfl) rfl, ho _ (List.mem_of_getElem? (i := 3) rfl) rfl, ho _ (List.mem_of_getElem? (i := 4) rfl) rfl, ho _ (List.mem_of_getElem? (i := 5) rfl) rfl, ho _ (List.mem_of_getElem? (i := 6) rfl) rfl⟩) rfl (by decide +kernel) (by decide +kernel) (by decide +kernel) rfl rfl (fun wq => (y_call (args := [.agg (encPair (at_ m_2 i)).toArray, .pointer (some ⟨b1, 0, none⟩), .pointer (some ⟨b3, 0, none⟩), .pointer (some ⟨b5, 0, none⟩)]) ca90 rfl rfl)) (fun wq hq => (bothF_calls wq (at_ m_2 i) ok122 xa o0_0 A0_1 c0_1 b0_1 hq.1 A0_2 c0_2 b0_2 hq.2.1 ⟨b1, 0, none⟩ hq.2.2.1 xb o1_0 A1_1 c1_1 b1_1 hq.2.2.2.1 A1_2 c1_2 b1_2 hq.2.2.2.2.1 ⟨b3, 0, none⟩ hq.2.2.2.2.2.1 how (in_u8 (by first|omega|(simp;omega)|assumption|simp) (by first|omega|(simp;omega)|assumption|simp)) ⟨b5, 0, none⟩ hq.2.2.2.2.2.2 (by first | assumption | exact hpf_ (by omega))).mono fun e w2 he => by obtain ⟨_, rfl, _, T, rfl⟩ := he; exact ⟨rfl, Chg.of_below T.below⟩) (of_eq hf243 (of_eq hf244 (of_eq hf245 (of_eq hf246 (of_eq hf247 (of_eq hf248 (of_eq hf249 (of_no rfl)))))))) ?_
        refine qd0 (i := 12) (v := .pointer (some ⟨b110, 257, none⟩)) rfl (by decide +kernel) rfl rfl (x_fieldAt fd35_1 ty24 rfl r130_12) (of_no rfl) ?_
        refine ra_one (i := 10) (by decide +kernel) ?_
        intro wd250 gd250
        have S251 := S238.keep gd250
        have hf252 := spUp gd250 hf243
        have hf253 := spUp gd250 hf244
        have hf254 := spUp gd250 hf245
        have hf255 := spUp gd250 hf246
        have hf256 := spUp gd250 hf247
        have hf257 := spUp gd250 hf248
        have hf258 := spUp gd250 hf249
        have hf259 := spUp gd250 hf239
        have hf260 := spUp gd250 hf240
        have hf261 := spUp gd250 hf241
        obtain ⟨v262, w262, r262, g262, T262⟩ := e_build_ones (kd := Kd.bool) (xs := ([finalP xa xb how (at_ m_2 i)] : List Bool)) (len := 1) [.bool (finalP xa xb how (at_ m_2 i))] S251 u25 ty4 rfl rfl rfl rfl rfl (ones_cons rfl ones_nil) [.bool (finalP xa xb how (at_ m_2 i))] (Elems.single (k := Kd.bool) (h := h224) (x := finalP xa xb how (at_ m_2 i)) (cs := [.bool (finalP xa xb how (at_ m_2 i))]) ⟨rfl, trivial⟩) rfl
        have S263 := T262
        dsimp only [lAa, lAn, lA0, lAs] at S263
        have hf264 := spUp g262 hf252
        have hf265 := spUp g262 hf253
        have hf266 := spUp g262 hf254
        have hf267 := spUp g262 hf255
        have hf268 := spUp g262 hf256
        have hf269 := spUp g262 hf257
        have hf270 := spUp g262 hf258
        have hf271 := spUp g262 hf259
        have hf272 := spUp g262 hf260
        have hf273 := spUp g262 hf261
        refine d_v (v := v262) rfl rfl rfl (y_build_slice (pv := [(0, .bool (finalP xa xb how (at_ m_2 i)))]) rfl r262) (.inl g262) ?_
        refine ra_one (i := 11) (by decide +kernel) ?_
        intro wd274 gd274
        have S275 := S263.keep gd274
        have hf276 := spUp gd274 hf264
        have hf277 := spUp gd274 hf265
        have hf278 := spUp gd274 hf266
        have hf279 := spUp gd274 hf267
        have hf280 := spUp gd274 hf268
        have hf281 := spUp gd274 hf269
        have hf282 := spUp gd274 hf270
        have hf283 := spUp gd274 hf271
        have hf284 := spUp gd274 hf272
        have hf285 := spUp gd274 hf273
        obtain ⟨A287, c287, ev287, lc287, cm287⟩ := S275.row_val (j := 18) rfl
        obtain ⟨v288, w288, r288, g288, T288⟩ := e_append (kd := Kd.bool) (A := A287) (c := c287) (ys := ([finalP xa xb how (at_ m_2 i)] : List Bool)) (len := ([finalP xa xb how (at_ m_2 i)] : List Bool).length) 25 S275 u25 ty4 rfl rfl (j := 14) rfl rfl (news_own S275 (j := 18) rfl ev287) (by first|omega|(simp;omega)|assumption|simp) (by first|omega|(simp;omega)|assumption|simp)
        have S289 := T288.fx 14 (row 4 Kd.bool v288 (d_2 ++ ([finalP xa xb how (at_ m_2 i)] : List Bool))) rfl
        dsimp only [lAa, lAn, lA0, lAs] at S289
        have hf290 : (LeadsS (Kd.int .i64).slice A0_1 xa.next).1 w288 := (l0_1.mono (St.le0 S289))
        have hf291 : (LeadsS Kd.bool A0_2 xa.final).1 w288 := (l0_2.mono (St.le0 S289))
        have hf292 : (GCs ⟨b1, 0, none⟩ ((encPart xa.part) ++ ([.slice A0_1 xa.next.length c0_1, .slice A0_2 xa.final.length c0_2] : List Value))).1 w288 := (box_gcell (S289.box_at (j := 0) rfl))
        have hf293 : (LeadsS (Kd.int .i64).slice A1_1 xb.next).1 w288 := (l1_1.mono (St.le0 S289))
        have hf294 : (LeadsS Kd.bool A1_2 xb.final).1 w288 := (l1_2.mono (St.le0 S289))
        have hf295 : (GCs ⟨b3, 0, none⟩ ((encPart xb.part) ++ ([.slice A1_1 xb.next.length c1_1, .slice A1_2 xb.final.length c1_2] : List Value))).1 w288 := (box_gcell (S289.box_at (j := 1) rfl))
        have hf296 : (GCs ⟨b5, 0, none⟩ [.int .u8 how]).1 w288 := (box_gcell (S289.box_at (j := 2) rfl))
        have hf297 : (CFs ⟨b110, 257, none⟩ [v_d_1]).1 w288 := (CF.box (m := 1) (S289.box_at (j := 12) rfl) (seg_mid2 (a := (encPart xa.part)) (pre := []) (seg := [v_d_1]) (post := [v_d_2]) (encPart_len o0_0) rfl rfl))
        have hf298 : (CFs ⟨b110, 258, none⟩ [v_d_2]).1 w288 := (CF.box (m := 1) (S289.box_at (j := 12) rfl) (seg_mid2 (a := (encPart xa.part)) (pre := [v_d_1]) (seg := [v_d_2]) (post := []) (encPart_len o0_0) rfl rfl))
        have hf299 : (CFs ⟨b123, 0, none⟩ (encPair (at_ m_2 i))).1 w288 := (CF.box (m := 2) (S289.box_at (j := 15) rfl) rfl)
        refine d_v (v := v288) rfl rfl rfl (x_append rfl ev287 r288) (.inr (keep_w (by decide +kernel) (keep_w (by decide +kernel) (keep_w (by decide +kernel) (keep_w (by decide +kernel) (keep_w (by decide +kernel) (keep_w (by decide +kernel) (keep_w (by decide +kernel) (keep_v hf297 (keep_w (by decide +kernel) (keep_v hf299 trivial))))))))))) ?_
        refine ra_one (i := 13) (by decide +kernel) ?_
        intro wd300 gd300
        have S301 := S289.keep gd300
        have hf302 := spUp gd300 hf290
        have hf303 := spUp gd300 hf291
        have hf304 := spUp gd300 hf292
        have hf305 := spUp gd300 hf293
        have hf306 := spUp gd300 hf294
        have hf307 := spUp gd300 hf295
        have hf308 := spUp gd300 hf296
        have hf309 := spUp gd300 hf297
        have hf310 := spUp gd300 hf298
        have hf311 := spUp gd300 hf299
        have oc313 := row_one S301 (j := 13) rfl
        obtain ⟨w312, r312, g312, T312⟩ := e_store_mid2 (P := Tryd.prog) (off := 257) (v := v237) (vs := [v237]) (a := (encPart xa.part)) (pre := []) (seg := [v_d_1]) (post := [v_d_2]) S301 ty24 (row_cells S301 (j := 13) rfl) rfl (encPart_len o0_0) rfl rfl (j := 12) rfl (one_cons oc313 one_nil)
        have S314 := T312.fx 12 (box b110 35 ((encPart xa.part) ++ ([v237, v_d_2] : List Value))) rfl
        dsimp only [lAa, lAn, lA0, lAs] at S314
        have hf315 : (LeadsS (Kd.int .i64).slice A0_1 xa.next).1 w312 := (l0_1.mono (St.le0 S314))
        have hf316 : (LeadsS Kd.bool A0_2 xa.final).1 w312 := (l0_2.mono (St.le0 S314))
        have hf317 : (GCs ⟨b1, 0, none⟩ ((encPart xa.part) ++ ([.slice A0_1 xa.next.length c0_1, .slice A0_2 xa.final.length c0_2] : List Value))).1 w312 := (box_gcell (S314.box_at (j := 0) rfl))
        have hf318 : (LeadsS (Kd.int .i64).slice A1_1 xb.next).1 w312 := (l1_1.mono (St.le0 S314))
        have hf319 : (LeadsS Kd.bool A1_2 xb.final).1 w312 := (l1_2.mono (St.le0 S314))
        have hf320 : (GCs ⟨b3, 0, none⟩ ((encPart xb.part) ++ ([.slice A1_1 xb.next.length c1_1, .slice A1_2 xb.final.length c1_2] : List Value))).1 w312 := (box_gcell (S314.box_at (j := 1) rfl))
        have hf321 : (GCs ⟨b5, 0, none⟩ [.int .u8 how]).1 w312 := (box_gcell (S314.box_at (j := 2) rfl))
        have hf322 : (CFs ⟨b123, 0, none⟩ (encPair (at_ m_2 i))).1 w312 := (CF.box (m := 2) (S314.box_at (j := 15) rfl) rfl)
        refine d_s rfl rfl (x_store rfl rfl r312) (.inr (keep_v hf315 (keep_v hf316 (keep_v hf317 (keep_v hf318 (keep_v hf319 (keep_v hf320 (keep_v hf321 (keep_w (by decide +kernel) (keep_w (by decide +kernel) (keep_v hf322 trivial))))))))))) ?_
        refine qd0 (i := 14) (v := .pointer (some ⟨b110, 258, none⟩)) rfl (by decide +kernel) rfl rfl (x_fieldAt fd35_2 ty25 rfl r130_12) (of_no rfl) ?_
        refine ra_one (i := 15) (by decide +kernel) ?_
        intro wd323 gd323
        have S324 := S314.keep gd323
        have hf325 := spUp gd323 hf315
        have hf326 := spUp gd323 hf316
        have hf327 := spUp gd323 hf317
        have hf328 := spUp gd323 hf318
        have hf329 := spUp gd323 hf319
        have hf330 := spUp gd323 hf320
        have hf331 := spUp gd323 hf321
        have hf332 := spUp gd323 hf322
        have oc334 := row_one S324 (j := 14) rfl
        obtain ⟨w333, r333, g333, T333⟩ := e_store_mid2 (P := Tryd.prog) (off := 258) (v := v288) (vs := [v288]) (a := (encPart xa.part)) (pre := [v237]) (seg := [v_d_2]) (post := []) S324 ty25 (row_cells S324 (j := 14) rfl) rfl (encPart_len o0_0) rfl rfl (j := 12) rfl (one_cons oc334 one_nil)
        have S335 := T333.fx 12 (box b110 35 ((encPart xa.part) ++ ([v237, v288] : List Value))) rfl
        dsimp only [lAa, lAn, lA0, lAs] at S335
        have hf336 : (LeadsS (Kd.int .i64).slice A0_1 xa.next).1 w333 := (l0_1.mono (St.le0 S335))
        have hf337 : (LeadsS Kd.bool A0_2 xa.final).1 w333 := (l0_2.mono (St.le0 S335))
        have hf338 : (GCs ⟨b1, 0, none⟩ ((encPart xa.part) ++ ([.slice A0_1 xa.next.length c0_1, .slice A0_2 xa.final.length c0_2] : List Value))).1 w333 := (box_gcell (S335.box_at (j := 0) rfl))
        have hf339 : (LeadsS (Kd.int .i64).slice A1_1 xb.next).1 w333 := (l1_1.mono (St.le0 S335))
        have hf340 : (LeadsS Kd.bool A1_2 xb.final).1 w333 := (l1_2.mono (St.le0 S335))
        have hf341 : (GCs ⟨b3, 0, none⟩ ((encPart xb.part) ++ ([.slice A1_1 xb.next.length c1_1, .slice A1_2 xb.final.length c1_2] : List Value))).1 w333 := (box_gcell (S335.box_at (j := 1) rfl))
        have hf342 : (GCs ⟨b5, 0, none⟩ [.int .u8 how]).1 w333 := (box_gcell (S335.box_at (j := 2) rfl))
        have hf343 : (CFs ⟨b123, 0, none⟩ (encPair (at_ m_2 i))).1 w333 := (CF.box (m := 2) (S335.box_at (j := 15) rfl) rfl)
        refine d_s rfl rfl (x_store rfl rfl r333) (.inr (keep_w (by decide +kernel) (keep_w (by decide +kernel) (keep_w (by decide +kernel) (keep_w (by decide +kernel) (keep_w (by decide +kernel) (keep_w (by decide +kernel) (keep_w (by decide +kernel) (keep_w (by decide +kernel) (keep_w (by decide +kernel) (keep_w (by decide +kernel) trivial))))))))))) ?_
        refine ra_done (by decide +kernel) ?_
        intro wd344 gd344
        have S345 := S335.keep gd344
        refine run_inBlock ?_
        refine run_reg (l := [0, 1, 2]) rfl ?_
        refine p_v (v := .int .i64 i) rfl rfl rfl (x_move r130_13) ?_
        refine p_v (v := .int .i64 (i + 1)) rfl rfl rfl (x_add rfl rfl (in_i64 (by first|omega|(simp;omega)|assumption|simp) (by first|omega|(simp;omega)|assumption|simp))) ?_
        refine p_v (v := .int .i64 (i + 1)) rfl rfl rfl (x_assign rfl) ?_
        refine run_region_end ?_
        refine ih118 (m_22, d_1 ++ ([l] : List (List Int)), d_2 ++ ([finalP xa xb how (at_ m_2 i)] : List Bool), b2, i + 1) _ _ (by dsimp only; omega) ⟨h224, v_m_22, v237, v288, lf224_0, S345.sub [0, 1, 2, 3, 4, 5, 6, 7, 8, 9, 10, 11, 12, 13, 14] (by decide) rfl _ rfl, r130_3, r130_4, r130_5, r130_10, r130_11, r130_12, rfl, (in_i64 (by first|omega|(simp;omega)|assumption|simp) (by first|omega|(simp;omega)|assumption|simp)), (by exact made_next hI118 (by omega) (at_some hI118.lo (by omega)) (by have := hI130.1; rw [show xa.part.n = t44 by omega]; exact hI130.2.2))⟩
      ·skip
       refine run_exit rfl ?_
       refine run_seq ?_
       refine run_reg (l := [0, 1]) rfl ?_
       refine p_v (v := .agg ((encPart xa.part) ++ ([v_d_1, v_d_2] : List Value)).toArray) rfl rfl rfl (x_load (seg := ((encPart xa.part) ++ ([v_d_1, v_d_2] : List Value))) ty35 (len_app (encPart_len o0_0) rfl) (by simp) r118_12 (CF.box (m := 259) (S118.box_at (j := 12) rfl) (take_all (len_app (encPart_len o0_0) rfl)))) ?_
       have oc347 := row_one S118 (j := 13) rfl
       have oc348 := row_one S118 (j := 14) rfl
       obtain ⟨w346, r346, g346, T346⟩ := e_store_all (P := Tryd.prog) (v := .agg ((encPart xa.part) ++ ([v_d_1, v_d_2] : List Value)).toArray) (vs := ((encPart xa.part) ++ ([v_d_1, v_d_2] : List Value))) (cs := ((encPart zPart) ++ ([.slice none 0 0, .slice none 0 0] : List Value))) S118 ty35 rfl (len_app (encPart_len o0_0) rfl) (len_app (encPart_len (okPart_zero)) rfl) (j := 6) rfl (one_app (encPart_one _) (one_cons oc347 (one_cons oc348 one_nil)))
       have S349 := T346.fx 6 (box b40 35 ((encPart xa.part) ++ ([v_d_1, v_d_2] : List Value))) rfl
       dsimp only [lAa, lAn, lA0, lAs] at S349
       refine p_s rfl rfl (x_store r118_10 rfl r346) ?_
       refine run_region_end ?_
       refine run_ret Tryd.func91 (res1 rfl (res_cell S349 ty35 r118_10 (j := 6) rfl (len_app (encPart_len o0_0) rfl) (by simp) rfl)) ?_
       refine ⟨_, rfl, ?_⟩
       have oc351 := row_one S349 (j := 13) rfl
       have oc352 := row_one S349 (j := 14) rfl
       obtain ⟨w350, r350, g350, T350⟩ := e_store_all (P := Tryd.prog) (v := .agg ((encPart xa.part) ++ ([v_d_1, v_d_2] : List Value)).toArray) (vs := ((encPart xa.part) ++ ([v_d_1, v_d_2] : List Value))) (cs := ((encPart zPart) ++ ([.slice none 0 0, .slice none 0 0] : List Value))) S349 ty35 rfl (len_app (encPart_len o0_0) rfl) (len_app (encPart_len (okPart_zero)) rfl) (j := 3) rfl (one_app (encPart_one _) (one_cons oc351 (one_cons oc352 one_nil)))
       have S353 := T350.fx 3 (box b7 35 ((encPart xa.part) ++ ([v_d_1, v_d_2] : List Value))) rfl
       dsimp only [lAa, lAn, lA0, lAs] at S353
       refine p_s rfl rfl (x_store rfl rfl r350) ?_
       refine p_v (v := .int .i64 0) rfl rfl rfl (x_assign rfl) ?_
       refine run_region_end ?_
       refine run_ret Tryd.func28 (res2 rfl (res_cell S353 ty35 rfl (j := 3) rfl (len_app (encPart_len o0_0) rfl) (by simp) rfl) (res_tmp (v := .int .i64 0) rfl)) ?_
       have q0 : ((bothM xa xb how).part : PartM) = xa.part := by
        first | exact (both_f hz_).1 | exact (both_f hz_).2.1 | exact (both_f hz_).2.2.1 | exact (both_f hz_).2.2.2 | exact (both_y hy_).1 | exact (both_y hy_).2.2.2 | exact (both_y hy_).2.1.trans (made_end hI118 (by omega)).2.1.symm | exact (both_y hy_).2.2.1.trans (made_end hI118 (by omega)).2.2.symm
       have q1 : ((bothM xa xb how).next : List (List Int)) = d_1 := by
        first | exact (both_f hz_).1 | exact (both_f hz_).2.1 | exact (both_f hz_).2.2.1 | exact (both_f hz_).2.2.2 | exact (both_y hy_).1 | exact (both_y hy_).2.2.2 | exact (both_y hy_).2.1.trans (made_end hI118 (by omega)).2.1.symm | exact (both_y hy_).2.2.1.trans (made_end hI118 (by omega)).2.2.symm
       have q2 : ((bothM xa xb how).final : List Bool) = d_2 := by
        first | exact (both_f hz_).1 | exact (both_f hz_).2.1 | exact (both_f hz_).2.2.1 | exact (both_f hz_).2.2.2 | exact (both_y hy_).1 | exact (both_y hy_).2.2.2 | exact (both_y hy_).2.1.trans (made_end hI118 (by omega)).2.1.symm | exact (both_y hy_).2.2.1.trans (made_end hI118 (by omega)).2.2.symm
       have q3 : (errO xa xb how : Int) = 0 := by
        first | exact (both_f hz_).1 | exact (both_f hz_).2.1 | exact (both_f hz_).2.2.1 | exact (both_f hz_).2.2.2 | exact (both_y hy_).1 | exact (both_y hy_).2.2.2 | exact (both_y hy_).2.1.trans (made_end hI118 (by omega)).2.1.symm | exact (both_y hy_).2.2.1.trans (made_end hI118 (by omega)).2.2.symm
       refine ⟨_, rfl, h118, v_d_1, v_d_2, ?_, ?_, ?_, ?_⟩
       · rw [q1]; rw [q2]; exact S353.sub [13, 14] (by decide) rfl _ rfl
       · first | rfl | (simp only [q0, q1, q2, q3]; rfl) | (simp only [q0, q1, q2, q3])
       · rw [q0]; first | assumption | exact okPart_zero
       · rw [q3]; exact (in_i64 (by first|omega|(simp;omega)|assumption|simp) (by first|omega|(simp;omega)|assumption|simp))
  ·skip
   have hz_ := okb_2 (a := xa) (how := how) hc14
   refine p_off rfl (wanted_of (j := 8) (want := false) (d := 19) (b := true) rfl rfl (congrArg (fun z => Value.bool (!z)) hc14) rfl) rfl ?_
   refine p_off rfl (wanted_of (j := 8) (want := false) (d := 19) (b := true) rfl rfl (congrArg (fun z => Value.bool (!z)) hc14) rfl) rfl ?_
   refine p_off rfl (wanted_of (j := 8) (want := false) (d := 19) (b := true) rfl rfl (congrArg (fun z => Value.bool (!z)) hc14) rfl) rfl ?_
   refine p_off rfl (wanted_of (j := 8) (want := false) (d := 19) (b := true) rfl rfl (congrArg (fun z => Value.bool (!z)) hc14) rfl) rfl ?_
   refine p_off rfl (wanted_of (j := 8) (want := false) (d := 19) (b := true) rfl rfl (congrArg (fun z => Value.bool (!z)) hc14) rfl) rfl ?_
   refine p_v (v := .bool true) rfl rfl rfl (x_pick_t (congrArg (fun z => Value.bool (!z)) hc14) rfl) ?_
   refine p_v (v := .bool true) rfl rfl rfl (x_move rfl) ?_
   refine p_off rfl rfl rfl ?_
   refine p_off rfl rfl rfl ?_
   refine p_v (v := .bool true) rfl rfl rfl (x_pick_t rfl rfl) ?_
   refine p_v (v := .bool true) rfl rfl rfl (x_move rfl) ?_
   refine p_off rfl rfl rfl ?_
   refine p_off rfl rfl rfl ?_
   refine p_v (v := .bool true) rfl rfl rfl (x_pick_t rfl rfl) ?_
   refine run_region_end ?_
   refine run_cond (b := true) rfl ?_
   simp only [if_true, if_false, Bool.false_eq_true]
   refine run_seq ?_
   refine run_reg (l := [0, 1, 2]) rfl ?_
   refine p_v (v := .agg ((encPart zPart) ++ ([.slice none 0 0, .slice none 0 0] : List Value)).toArray) rfl rfl rfl (y_build (pv := []) rfl (run_build_struct pl35 ty35 rfl (cs := ((encPart zPart) ++ ([.slice none 0 0, .slice none 0 0] : List Value))) (by kernel_rfl))) ?_
   obtain ⟨w354, r354, g354, T354⟩ := e_store_all (P := Tryd.prog) (v := .agg ((encPart zPart) ++ ([.slice none 0 0, .slice none 0 0] : List Value)).toArray) (vs := ((encPart zPart) ++ ([.slice none 0 0, .slice none 0 0] : List Value))) (cs := ((encPart zPart) ++ ([.slice none 0 0, .slice none 0 0] : List Value))) S13 ty35 rfl (len_app (encPart_len (okPart_zero)) rfl) (len_app (encPart_len (okPart_zero)) rfl) (j := 3) rfl (one_app (encPart_one _) (by simp [Value.oneCell']))
   have S355 : St w.heap.size w (fun _ => none) w354 [box b1 35 ((encPart xa.part) ++ ([.slice A0_1 xa.next.length c0_1, .slice A0_2 xa.final.length c0_2] : List Value)), box b3 35 ((encPart xb.part) ++ ([.slice A1_1 xb.next.length c1_1, .slice A1_2 xb.final.length c1_2] : List Value)), box b5 5 [.int .u8 how], box b7 35 ((encPart zPart) ++ ([.slice none 0 0, .slice none 0 0] : List Value))] := T354
   refine p_s rfl rfl (x_store rfl rfl r354) ?_
   refine p_v (v := .int .i64 1) rfl rfl rfl (x_assign rfl) ?_
   refine run_region_end ?_
   have T356 := S355.row_nil 23 (Kd.int .i64).slice
   have S357 := T356
   dsimp only [lAa, lAn, lA0, lAs] at S357
   have T358 := S357.row_nil 4 Kd.bool
   have S359 := T358
   dsimp only [lAa, lAn, lA0, lAs] at S359
   refine run_ret Tryd.func28 (res2 rfl (res_cell S355 ty35 rfl (j := 3) rfl (len_app (encPart_len (okPart_zero)) rfl) (by simp) rfl) (res_tmp (v := .int .i64 1) rfl)) ?_
   have q0 : ((bothM xa xb how).part : PartM) = zPart := by
    first | exact (both_f hz_).1 | exact (both_f hz_).2.1 | exact (both_f hz_).2.2.1 | exact (both_f hz_).2.2.2 | exact (both_y hy_).1 | exact (both_y hy_).2.2.2 | exact (both_y hy_).2.1.trans (made_end hI118 (by omega)).2.1.symm | exact (both_y hy_).2.2.1.trans (made_end hI118 (by omega)).2.2.symm
   have q1 : ((bothM xa xb how).next : List (List Int)) = ([] : List (List Int)) := by
    first | exact (both_f hz_).1 | exact (both_f hz_).2.1 | exact (both_f hz_).2.2.1 | exact (both_f hz_).2.2.2 | exact (both_y hy_).1 | exact (both_y hy_).2.2.2 | exact (both_y hy_).2.1.trans (made_end hI118 (by omega)).2.1.symm | exact (both_y hy_).2.2.1.trans (made_end hI118 (by omega)).2.2.symm
   have q2 : ((bothM xa xb how).final : List Bool) = ([] : List Bool) := by
    first | exact (both_f hz_).1 | exact (both_f hz_).2.1 | exact (both_f hz_).2.2.1 | exact (both_f hz_).2.2.2 | exact (both_y hy_).1 | exact (both_y hy_).2.2.2 | exact (both_y hy_).2.1.trans (made_end hI118 (by omega)).2.1.symm | exact (both_y hy_).2.2.1.trans (made_end hI118 (by omega)).2.2.symm
   have q3 : (errO xa xb how : Int) = 1 := by
    first | exact (both_f hz_).1 | exact (both_f hz_).2.1 | exact (both_f hz_).2.2.1 | exact (both_f hz_).2.2.2 | exact (both_y hy_).1 | exact (both_y hy_).2.2.2 | exact (both_y hy_).2.1.trans (made_end hI118 (by omega)).2.1.symm | exact (both_y hy_).2.2.1.trans (made_end hI118 (by omega)).2.2.symm
   refine ⟨_, rfl, (fun _ => none), (.slice none 0 0), (.slice none 0 0), ?_, ?_, ?_, ?_⟩
   · rw [q1]; rw [q2]; exact S359.sub [4, 5] (by decide) rfl _ rfl
   · first | rfl | (simp only [q0, q1, q2, q3]; rfl) | (simp only [q0, q1, q2, q3])
   · rw [q0]; first | assumption | exact okPart_zero
   · rw [q3]; exact (in_i64 (by first|omega|(simp;omega)|assumption|simp) (by first|omega|(simp;omega)|assumption|simp))
 ·skip
  have hz_ := okb_1 (b := xb) (how := how) hc11
  refine p_off rfl (wanted_of (j := 3) (want := false) (d := 14) (b := true) rfl rfl (congrArg (fun z => Value.bool (!z)) hc11) rfl) rfl ?_
  refine p_off rfl (wanted_of (j := 3) (want := false) (d := 14) (b := true) rfl rfl (congrArg (fun z => Value.bool (!z)) hc11) rfl) rfl ?_
  refine p_off rfl (wanted_of (j := 3) (want := false) (d := 14) (b := true) rfl rfl (congrArg (fun z => Value.bool (!z)) hc11) rfl) rfl ?_
  refine p_v (v := .bool true) rfl rfl rfl (x_pick_t (congrArg (fun z => Value.bool (!z)) hc11) rfl) ?_
  refine p_v (v := .bool true) rfl rfl rfl (x_move rfl) ?_
  refine p_off rfl rfl rfl ?_
  refine p_off rfl rfl rfl ?_
  refine p_off rfl rfl rfl ?_
  refine p_off rfl rfl rfl ?_
  refine p_off rfl rfl rfl ?_
  refine p_v (v := .bool true) rfl rfl rfl (x_pick_t rfl rfl) ?_
  refine p_v (v := .bool true) rfl rfl rfl (x_move rfl) ?_
  refine p_off rfl rfl rfl ?_
  refine p_off rfl rfl rfl ?_
  refine p_v (v := .bool true) rfl rfl rfl (x_pick_t rfl rfl) ?_
  refine p_v (v := .bool true) rfl rfl rfl (x_move rfl) ?_
  refine p_off rfl rfl rfl ?_
  refine p_off rfl rfl rfl ?_
  refine p_v (v := .bool true) rfl rfl rfl (x_pick_t rfl rfl) ?_
  refine run_region_end ?_
  refine run_cond (b := true) rfl ?_
  simp only [if_true, if_false, Bool.false_eq_true]
  refine run_seq ?_
  refine run_reg (l := [0, 1, 2]) rfl ?_
  refine p_v (v := .agg ((encPart zPart) ++ ([.slice none 0 0, .slice none 0 0] : List Value)).toArray) rfl rfl rfl (y_build (pv := []) rfl (run_build_struct pl35 ty35 rfl (cs := ((encPart zPart) ++ ([.slice none 0 0, .slice none 0 0] : List Value))) (by kernel_rfl))) ?_
  obtain ⟨w360, r360, g360, T360⟩ := e_store_all (P := Tryd.prog) (v := .agg ((encPart zPart) ++ ([.slice none 0 0, .slice none 0 0] : List Value)).toArray) (vs := ((encPart zPart) ++ ([.slice none 0 0, .slice none 0 0] : List Value))) (cs := ((encPart zPart) ++ ([.slice none 0 0, .slice none 0 0] : List Value))) S10 ty35 rfl (len_app (encPart_len (okPart_zero)) rfl) (len_app (encPart_len (okPart_zero)) rfl) (j := 3) rfl (one_app (encPart_one _) (by simp [Value.oneCell']))
  have S361 : St w.heap.size w (fun _ => none) w360 [box b1 35 ((encPart xa.part) ++ ([.slice A0_1 xa.next.length c0_1, .slice A0_2 xa.final.length c0_2] : List Value)), box b3 35 ((encPart xb.part) ++ ([.slice A1_1 xb.next.length c1_1, .slice A1_2 xb.final.length c1_2] : List Value)), box b5 5 [.int .u8 how], box b7 35 ((encPart zPart) ++ ([.slice none 0 0, .slice none 0 0] : List Value))] := T360
  refine p_s rfl rfl (x_store rfl rfl r360) ?_
  refine p_v (v := .int .i64 1) rfl rfl rfl (x_assign rfl) ?_
  refine run_region_end ?_
  have T362 := S361.row_nil 23 (Kd.int .i64).slice
  have S363 := T362
  dsimp only [lAa, lAn, lA0, lAs] at S363
  have T364 := S363.row_nil 4 Kd.bool
  have S365 := T364
  dsimp only [lAa, lAn, lA0, lAs] at S365
  refine run_ret Tryd.func28 (res2 rfl (res_cell S361 ty35 rfl (j := 3) rfl (len_app (encPart_len (okPart_zero)) rfl) (by simp) rfl) (res_tmp (v := .int .i64 1) rfl)) ?_
  have q0 : ((bothM xa xb how).part : PartM) = zPart := by
   first | exact (both_f hz_).1 | exact (both_f hz_).2.1 | exact (both_f hz_).2.2.1 | exact (both_f hz_).2.2.2 | exact (both_y hy_).1 | exact (both_y hy_).2.2.2 | exact (both_y hy_).2.1.trans (made_end hI118 (by omega)).2.1.symm | exact (both_y hy_).2.2.1.trans (made_end hI118 (by omega)).2.2.symm
  have q1 : ((bothM xa xb how).next : List (List Int)) = ([] : List (List Int)) := by
   first | exact (both_f hz_).1 | exact (both_f hz_).2.1 | exact (both_f hz_).2.2.1 | exact (both_f hz_).2.2.2 | exact (both_y hy_).1 | exact (both_y hy_).2.2.2 | exact (both_y hy_).2.1.trans (made_end hI118 (by omega)).2.1.symm | exact (both_y hy_).2.2.1.trans (made_end hI118 (by omega)).2.2.symm
  have q2 : ((bothM xa xb how).final : List Bool) = ([] : List Bool) := by
   first | exact (both_f hz_).1 | exact (both_f hz_).2.1 | exact (both_f hz_).2.2.1 | exact (both_f hz_).2.2.2 | exact (both_y hy_).1 | exact (both_y hy_).2.2.2 | exact (both_y hy_).2.1.trans (made_end hI118 (by omega)).2.1.symm | exact (both_y hy_).2.2.1.trans (made_end hI118 (by omega)).2.2.symm
  have q3 : (errO xa xb how : Int) = 1 := by
   first | exact (both_f hz_).1 | exact (both_f hz_).2.1 | exact (both_f hz_).2.2.1 | exact (both_f hz_).2.2.2 | exact (both_y hy_).1 | exact (both_y hy_).2.2.2 | exact (both_y hy_).2.1.trans (made_end hI118 (by omega)).2.1.symm | exact (both_y hy_).2.2.1.trans (made_end hI118 (by omega)).2.2.symm
  refine ⟨_, rfl, (fun _ => none), (.slice none 0 0), (.slice none 0 0), ?_, ?_, ?_, ?_⟩
  · rw [q1]; rw [q2]; exact S365.sub [4, 5] (by decide) rfl _ rfl
  · first | rfl | (simp only [q0, q1, q2, q3]; rfl) | (simp only [q0, q1, q2, q3])
  · rw [q0]; first | assumption | exact okPart_zero
  · rw [q3]; exact (in_i64 (by first|omega|(simp;omega)|assumption|simp) (by first|omega|(simp;omega)|assumption|simp))
end Go.Proofs.YtfoemogojbnfhaaDoor
namespace Gx
open Go Go.RowKit
set_option linter.unusedSimpArgs false
set_option linter.unusedSectionVars false
set_option linter.unusedVariables false
def overM (b : Int) (m : Mach) : Bool := decide (b < (m.spots.length : Int)) || (decide (b < (m.follow.length : Int)) || (decide (b < (m.last.length : Int)) || (decide (b < (m.first.length : Int)) || m.follow.any fun l => decide (b < (l.length : Int)))))
def smallM (m : Mach) : Bool := !overM 8 m
theorem small_1 (m : Mach) (h : (8 : Int) < (m.spots.length : Int)) : smallM m = false := by unfold smallM overM; rw [decide_eq_true h]; rfl
theorem small_2 (m : Mach) (h : (8 : Int) < (m.follow.length : Int)) : smallM m = false := by unfold smallM overM; rw [decide_eq_true h]; simp
theorem small_3 (m : Mach) (h : (8 : Int) < (m.last.length : Int)) : smallM m = false := by unfold smallM overM; rw [decide_eq_true h]; simp
theorem small_4 (m : Mach) (h : (8 : Int) < (m.first.length : Int)) : smallM m = false := by unfold smallM overM; rw [decide_eq_true h]; simp
theorem small_5 (m : Mach) {i : Int} (h0 : 0 ≤ i) (h1 : i < (m.follow.length : Int)) (h : (8 : Int) < ((at_ m.follow i).length : Int)) : smallM m = false := by
  have e : (m.follow.any fun l => decide ((8 : Int) < (l.length : Int))) = true := List.any_eq_true.2 ⟨_, at_mem h0 h1, decide_eq_true h⟩
  unfold smallM overM; rw [e]; simp
def smallTo (m : Mach) (i : Int) : Bool := (m.follow.take i.toNat).any fun l => decide ((8 : Int) < (l.length : Int))
theorem smallTo_0 (m : Mach) : smallTo m 0 = false := rfl
theorem smallTo_step (m : Mach) {i : Int} (h0 : 0 ≤ i) (h1 : i < (m.follow.length : Int)) (h : smallTo m i = false) (h2 : ¬ (8 : Int) < ((at_ m.follow i).length : Int)) : smallTo m (i + 1) = false := by
  unfold smallTo at h ⊢
  rw [take_next _ h0 h1, List.any_append, h]; simp; omega
theorem small_6 (m : Mach) {i : Int} (hi : (m.follow.length : Int) ≤ i) (h1 : ¬ (8 : Int) < (m.spots.length : Int)) (h2 : ¬ (8 : Int) < (m.follow.length : Int)) (h3 : ¬ (8 : Int) < (m.last.length : Int)) (h4 : ¬ (8 : Int) < (m.first.length : Int)) (h : smallTo m i = false) : smallM m = true := by
  unfold smallTo at h
  rw [List.take_of_length_le (by omega)] at h
  unfold smallM overM
  rw [decide_eq_false h1, decide_eq_false h2, decide_eq_false h3, decide_eq_false h4, h]; rfl
theorem smallM_of {m : Mach} (h : smallM m = true) : (m.spots.length : Int) ≤ 8 ∧ (m.follow.length : Int) ≤ 8 ∧ (m.last.length : Int) ≤ 8 ∧ (m.first.length : Int) ≤ 8 := by
  unfold smallM overM at h
  simp only [Bool.not_eq_true', Bool.or_eq_false_iff, decide_eq_false_iff_not] at h
  omega
def lettersP : PartM := refineP [setOf [97], setOf [98], setOf [99]]
theorem ok_some : okB someM lettersP = true := by decide +kernel
theorem letters_ok : okPart lettersP := by
  have h : lettersP.of.length = 256 := by decide +kernel
  have h2 : (lettersP.of.all fun x => decide (0 ≤ x) && decide (x ≤ 255)) = true := by decide +kernel
  have h3 : lettersP.n = 4 := by decide +kernel
  refine ⟨⟨h, fun x hx => ?_⟩, by rw [h3]; constructor <;> decide⟩
  have := List.all_eq_true.1 h2 x hx
  simp only [Bool.and_eq_true, decide_eq_true_eq] at this
  exact in_u8 this.1 this.2
theorem some_1 : errB someM lettersP = 0 := errB_iff.2 ok_some
theorem some_2 : rightD (buildM someM lettersP) = true := build_right letters_ok ok_some
theorem some_all : (bfs (nextB someM (leastB lettersP)) lettersP.n beginB 5).length = 5 := by decide +kernel
theorem some_3 : ((buildM someM lettersP).next.length : Int) = 5 := by
  unfold buildM
  rw [if_pos ok_some, (made_len_eq _ _ _ _).1, allM_eq (i := 5) (by rw [some_all]; exact Nat.le_refl _), some_all]; rfl
theorem some_4 : runD (buildM someM lettersP) ⟨#[]⟩ = true := by rw [build_run letters_ok ok_some]; decide +kernel
theorem some_5 : runD (buildM someM lettersP) ⟨#[97, 98]⟩ = true := by rw [build_run letters_ok ok_some]; decide +kernel
theorem some_6 : runD (buildM someM lettersP) ⟨#[97, 99]⟩ = false := by rw [build_run letters_ok ok_some]; decide +kernel
theorem sets_le (m : Mach) : ((setsM m).length : Int) ≤ m.spots.length := by
  have := fold_add_len (m.spots.map fun x => x.set) []
  unfold setsM
  rw [List.length_map, List.length_nil] at this; omega
theorem errB_ref1 {m other : Mach} (h : errB m (refineP (setsM m ++ setsM other)) ≠ 0) : rightM m = false := by
  rw [← okB_ref1 m other]
  exact Bool.eq_false_iff.2 fun e => h (errB_iff.2 e)
theorem errB_ref2 {m other : Mach} (h : errB other (refineP (setsM m ++ setsM other)) ≠ 0) : rightM other = false := by
  rw [← okB_ref2 m other]
  exact Bool.eq_false_iff.2 fun e => h (errB_iff.2 e)
theorem okPart_ref (l : List BSet) : okPart (refineP l) := by unfold refineP; exact okPart_of _
def partP (a b : Mach) : PartM := refineP (setsM a ++ setsM b)
theorem partP_eq (a b : Mach) : refineP (setsM a ++ setsM b) = partP a b := rfl
theorem okPart_pP (a b : Mach) : okPart (partP a b) := okPart_ref _
theorem errB_p1 {m other : Mach} (h : errB m (partP m other) ≠ 0) : rightM m = false := errB_ref1 h
theorem errB_p2 {m other : Mach} (h : errB other (partP m other) ≠ 0) : rightM other = false := errB_ref2 h
end Gx
