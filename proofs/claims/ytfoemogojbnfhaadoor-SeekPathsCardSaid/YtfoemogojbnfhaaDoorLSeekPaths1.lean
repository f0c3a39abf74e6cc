/- My own library for walks through the translated code, and the walks of the functions that the law SeekPaths comes to, part 2; no conditions but those that each contract tells. -/
import Derived.Test.YtfoemogojbnfhaaDoorProg
import Derived.KernelRfl
import Derived.Laws.BytesArg
import Derived.Laws.Pointers
import Derived.Test.YtfoemogojbnfhaaDoorLSeekPaths0
namespace Go.Proofs.YtfoemogojbnfhaaDoor
open Go Go.RowKit Gx
set_option maxHeartbeats 1000000
set_option linter.unusedVariables false
set_option linter.unusedSimpArgs false
set_option maxRecDepth 8000
attribute [local irreducible] listOf count first someIn has setOf wbits Lib.ctz
theorem bit_calls (w : World) (c : Int) (i0 : inK .u8 c) :
    Calls Tryd.prog 127 #[.int .u8 c] w fun e w' => ∃ v, e = .returned v ∧ ∃ (hn : Ghost), St w.heap.size w hn w' [] ∧ v = .tuple #[.int .i64 (c / 64), .int .u64 (2 ^ (c % 64).toNat)] ∧ inK .i64 (c / 64) ∧ inK .u64 (2 ^ (c % 64).toNat) := by
 refine calls_of_run Tryd.func127 rfl Tryd.ntmps127 rfl ?_
 have S0 := St.init w
 have lo0 := u8_lo i0; have hi0 := u8_hi i0
 refine run_seq ?_
 refine run_reg (l := [0, 1]) rfl ?_
 refine p_v (v := .int .i64 0) rfl rfl rfl (x_assign rfl) ?_
 refine p_v (v := .int .u64 0) rfl rfl rfl (x_assign rfl) ?_
 refine run_region_end ?_
 refine run_seq ?_
 refine run_reg (l := [0, 1, 2, 3, 4, 5, 6, 7]) rfl ?_
 refine p_v (v := .int .u8 c) rfl rfl rfl (x_move rfl) ?_
 refine p_v (v := .int .u8 (c / 64)) rfl rfl rfl (x_quo rfl rfl (by first|omega|(simp;omega)|assumption) (by first|omega|(simp;omega)|assumption) (in_u8 (by first|omega|(simp;omega)|assumption) (by first|omega|(simp;omega)|assumption))) ?_
 refine p_v (v := .int .i64 (c / 64)) rfl rfl rfl (x_conv u5 u3 rfl (in_i64 (by first|omega|(simp;omega)|assumption) (by first|omega|(simp;omega)|assumption))) ?_
 refine p_v (v := .int .u8 c) rfl rfl rfl (x_move rfl) ?_
 refine p_v (v := .int .u8 (c % 64)) rfl rfl rfl (x_rem rfl rfl (by first|omega|(simp;omega)|assumption) (by first|omega|(simp;omega)|assumption)) ?_
 have in1 := pow_in (b := c % 64) (by first|omega|(simp;omega)|assumption) (by first|omega|(simp;omega)|assumption)
 have lo1 := u64_lo in1; have hi1 := u64_hi in1
 refine p_v (v := .int .u64 (2 ^ (c % 64).toNat)) rfl rfl rfl (x_shl_one rfl rfl (by first|omega|(simp;omega)|assumption) (by first|omega|(simp;omega)|assumption)) ?_
 refine p_v (v := .int .i64 (c / 64)) rfl rfl rfl (x_assign rfl) ?_
 refine p_v (v := .int .u64 (2 ^ (c % 64).toNat)) rfl rfl rfl (x_assign rfl) ?_
 refine run_region_end ?_
 refine run_ret Tryd.func127 (res2 rfl (res_tmp (v := .int .i64 (c / 64)) rfl) (res_tmp (v := .int .u64 (2 ^ (c % 64).toNat)) rfl)) ?_
 have q0 : (c / 64 : Int) = c / 64 := rfl
 have q1 : (2 ^ (c % 64).toNat : Int) = 2 ^ (c % 64).toNat := rfl
 refine ⟨_, rfl, (fun _ => none), ?_, ?_, ?_, ?_⟩
 · exact S0.sub [] (by decide) rfl _ rfl
 · rfl
 · exact (in_i64 (by first|omega|(simp;omega)|assumption) (by first|omega|(simp;omega)|assumption))
 · exact (in_u64 (by first|omega|(simp;omega)|assumption) (by first|omega|(simp;omega)|assumption))
theorem has_calls (w : World) (s : BSet) (c : Int) (i1 : inK .u8 c) :
    Calls Tryd.prog 80 #[.agg (encSet s).toArray, .int .u8 c] w fun e w' => ∃ v, e = .returned v ∧ ∃ (hn : Ghost), St w.heap.size w hn w' [] ∧ v = .bool (has s c) := by
 refine calls_of_run Tryd.func80 rfl Tryd.ntmps80 rfl ?_
 have S0 := St.init w
 have lo1 := u8_lo i1; have hi1 := u8_hi i1
 refine run_seq ?_
 refine run_reg (l := [0, 1]) rfl ?_
 obtain ⟨b1, w1, r1, g1, T1⟩ := e_box (P := Tryd.prog) S0 74 (v := .agg (encSet s).toArray) (encSet s) rfl
 have S2 := T1
 dsimp only [lAa, lAn, lA0, lAs] at S2
 refine p_v (v := .pointer (some ⟨b1, 0, none⟩)) rfl rfl rfl (x_box rfl r1) ?_
 refine p_v (v := .bool false) rfl rfl rfl (x_assign rfl) ?_
 refine run_region_end ?_
 refine run_seq ?_
 refine run_reg (l := [0, 1, 2, 3, 4, 5, 6]) rfl ?_
 refine p_v (v := .int .u8 c) rfl rfl rfl (x_move rfl) ?_
 refine p_c rfl rfl rfl (y_call (args := [.int .u8 c]) ca127 rfl rfl) (bit_calls w1 c (in_u8 (by first|omega|(simp;omega)|assumption) (by first|omega|(simp;omega)|assumption))) ?_
 rintro _ w3 ⟨h3, T3, rfl, in3_0, in3_1⟩
 have S4 := S2.keep (Chg.of_below T3.below)
 have lo_in3_0 := i64_lo in3_0; have hi_in3_0 := i64_hi in3_0
 have lo_in3_1 := u64_lo in3_1; have hi_in3_1 := u64_hi in3_1
 refine p_v (v := .tuple #[.int .i64 (c / 64), .int .u64 (2 ^ (c % 64).toNat)]) rfl rfl rfl (x_move rfl) ?_
 refine p_v (v := .int .i64 (c / 64)) rfl rfl rfl (x_extract (vs := [.int .i64 (c / 64), .int .u64 (2 ^ (c % 64).toNat)]) rfl rfl) ?_
 refine p_v (v := .int .u64 (2 ^ (c % 64).toNat)) rfl rfl rfl (x_extract (vs := [.int .i64 (c / 64), .int .u64 (2 ^ (c % 64).toNat)]) rfl rfl) ?_
 refine p_v (v := .int .i64 (c / 64)) rfl rfl rfl (x_assign rfl) ?_
 refine p_v (v := .int .u64 (2 ^ (c % 64).toNat)) rfl rfl rfl (x_assign rfl) ?_
 refine run_region_end ?_
 refine run_seq ?_
 refine run_reg (l := [0, 1, 2, 3, 4, 5, 6]) rfl ?_
 refine p_v (v := .int .i64 (c / 64)) rfl rfl rfl (x_move rfl) ?_
 refine p_v (v := .pointer (some ⟨b1, 0 + (c / 64).toNat * 1, none⟩)) rfl rfl rfl (x_indexAddr_arr u74 ty56 rfl rfl (by first|omega|(simp;omega)|assumption) (by first|omega|(simp;omega)|assumption)) ?_
 have S5 : St w.heap.size w (fun _ => none) w3 [box b1 74 (encInts .u64 (words s))] := S4
 have in6 := okInts_at (okWords s) (i := c / 64) (by first|omega|(simp;omega)|assumption) (by first|omega|(simp;omega)|assumption)
 have lo6 := u64_lo in6; have hi6 := u64_hi in6
 refine p_v (v := .int .u64 (at_ (words s) (c / 64))) rfl rfl rfl (x_load (seg := [.int .u64 (at_ (words s) (c / 64))]) ty56 rfl (by simp) rfl (CF.box (m := 1) (S5.box_at (j := 0) rfl) (cs := (encInts .u64 (words s))) (encInts_at (okWords s) (by first|omega|(simp;omega)|assumption) (by first|omega|(simp;omega)|assumption)))) ?_
 refine p_v (v := .int .u64 (2 ^ (c % 64).toNat)) rfl rfl rfl (x_move rfl) ?_
 have in7 : inK .u64 (iand (at_ (words s) (c / 64)) (2 ^ (c % 64).toNat)) := iand_in (2 ^ (c % 64).toNat) (in_u64 (by first|omega|(simp;omega)|assumption) (by first|omega|(simp;omega)|assumption))
 have lo7 := u64_lo in7; have hi7 := u64_hi in7
 refine p_v (v := .int .u64 (iand (at_ (words s) (c / 64)) (2 ^ (c % 64).toNat))) rfl rfl rfl (x_and_u64 rfl rfl (in_u64 (by first|omega|(simp;omega)|assumption) (by first|omega|(simp;omega)|assumption)) in3_1) ?_
 refine p_v (v := .bool (decide ((iand (at_ (words s) (c / 64)) (2 ^ (c % 64).toNat)) ≠ 0))) rfl rfl rfl (x_neq rfl rfl) ?_
 refine p_v (v := .bool (decide ((iand (at_ (words s) (c / 64)) (2 ^ (c % 64).toNat)) ≠ 0))) rfl rfl rfl (x_assign rfl) ?_
 refine run_region_end ?_
 refine run_ret Tryd.func80 (res1 rfl (res_tmp (v := .bool (decide ((iand (at_ (words s) (c / 64)) (2 ^ (c % 64).toNat)) ≠ 0))) rfl)) ?_
 have q0 : (has s c : Bool) = decide ((iand (at_ (words s) (c / 64)) (2 ^ (c % 64).toNat)) ≠ 0) := by
  exact (has_eq s lo1 hi1).symm
 refine ⟨_, rfl, (fun _ => none), ?_, ?_⟩
 · exact S5.sub [] (by decide) rfl _ rfl
 · first | rfl | (simp only [q0]; rfl) | (simp only [q0])
theorem and_calls (w : World) (a : BSet) (b : BSet) :
    Calls Tryd.prog 137 #[.agg (encSet a).toArray, .agg (encSet b).toArray] w fun e w' => ∃ v, e = .returned v ∧ ∃ (hn : Ghost), St w.heap.size w hn w' [] ∧ v = .agg (encSet (a &&& b)).toArray := by
 refine calls_of_run Tryd.func137 rfl Tryd.ntmps137 rfl ?_
 have S0 := St.init w
 refine run_seq ?_
 refine run_reg (l := [0, 1, 2]) rfl ?_
 obtain ⟨b1, w1, r1, g1, T1⟩ := e_box (P := Tryd.prog) S0 74 (v := .agg (encSet a).toArray) (encSet a) rfl
 have S2 := T1
 dsimp only [lAa, lAn, lA0, lAs] at S2
 refine p_v (v := .pointer (some ⟨b1, 0, none⟩)) rfl rfl rfl (x_box rfl r1) ?_
 obtain ⟨b3, w3, r3, g3, T3⟩ := e_box (P := Tryd.prog) S2 74 (v := .agg (encSet b).toArray) (encSet b) rfl
 have S4 := T3
 dsimp only [lAa, lAn, lA0, lAs] at S4
 refine p_v (v := .pointer (some ⟨b3, 0, none⟩)) rfl rfl rfl (x_box rfl r3) ?_
 obtain ⟨b5, w5, r5, g5, T5⟩ := e_box (P := Tryd.prog) S4 74 (v := (.agg #[.int .u64 0, .int .u64 0, .int .u64 0, .int .u64 0])) (encSet (0 : BSet)) rfl
 have S6 := T5
 dsimp only [lAa, lAn, lA0, lAs] at S6
 refine p_v (v := .pointer (some ⟨b5, 0, none⟩)) rfl rfl rfl (x_alloc ty74 r5) ?_
 refine run_region_end ?_
 refine run_seq ?_
 refine run_seq ?_
 refine run_reg (l := [0]) rfl ?_
 refine p_v (v := .int .i64 0) rfl rfl rfl (x_move rfl) ?_
 refine run_region_end ?_
 refine run_block ?_
 have S7 : St w.heap.size w (fun _ => none) w5 [box b1 74 (encInts .u64 (words a)), box b3 74 (encSet b), box b5 74 (encSet (0 : BSet))] := S6
 have S8 : St w.heap.size w (fun _ => none) w5 [box b1 74 (encInts .u64 (words a)), box b3 74 (encInts .u64 (words b)), box b5 74 (encSet (0 : BSet))] := S7
 refine run_loop (S := (List Int) × Int) (fun (q_ : (List Int) × Int) ρ w' => match q_ with | (a2, t6) => ∃ (h : Ghost), Le (fun _ => none) h ∧ St w.heap.size w h w' [box b1 74 (encInts .u64 a2), box b3 74 (encInts .u64 (words b)), box b5 74 (encSet (0 : BSet))] ∧ ρ 2 = .pointer (some ⟨b1, 0, none⟩) ∧ ρ 3 = .pointer (some ⟨b3, 0, none⟩) ∧ ρ 4 = .pointer (some ⟨b5, 0, none⟩) ∧ ρ 6 = .int .i64 t6 ∧ okInts .u64 4 a2 ∧ inK .i64 t6 ∧ (0 ≤ t6 ∧ t6 ≤ 4 ∧ a2 = zipTo iand (words a) (words b) t6)) (fun q_ => match q_ with | (a2, t6) => (4 - t6).toNat) ((words a), 0) ⟨(fun _ => none), Le.refl _, S8.sub [0, 1, 2] (by decide) rfl _ rfl, rfl, rfl, rfl, rfl, (okWords a), (in_i64 (by first|omega|(simp;omega)|assumption) (by first|omega|(simp;omega)|assumption)), (by exact ⟨by omega, by omega, zipTo_0 _ _ _⟩)⟩ ?_
 rintro ⟨a2, t6⟩ ih9 ρ9 w9 ⟨h9, le9, S9, r9_2, r9_3, r9_4, r9_6, f9_0, f9_1, hI9⟩
 have lf9_1 := i64_lo f9_1; have hf9_1 := i64_hi f9_1
 refine run_seq ?_
 refine run_reg (l := [0]) rfl ?_
 refine p_v (v := .bool (decide (t6 < 4))) rfl rfl rfl (x_lss r9_6 rfl) ?_
 refine run_region_end ?_
 refine run_seq ?_
 refine run_cond_prop (p := t6 < 4) rfl (fun hc10 => ?_) (fun hc10 => ?_)
 ·skip
  refine run_skip ?_
  refine run_seq ?_
  refine run_block ?_
  refine run_seq ?_
  refine run_reg (l := [0, 1]) rfl ?_
  refine p_v (v := .int .i64 t6) rfl rfl rfl (x_move r9_6) ?_
  refine p_v (v := .int .i64 t6) rfl rfl rfl (x_assign rfl) ?_
  refine run_region_end ?_
  have in11 := okInts_at f9_0 (i := t6) (by first|omega|(simp;omega)|assumption) (by first|omega|(simp;omega)|assumption)
  have lo11 := u64_lo in11; have hi11 := u64_hi in11
  have in12 := okInts_at (okWords b) (i := t6) (by first|omega|(simp;omega)|assumption) (by first|omega|(simp;omega)|assumption)
  have lo12 := u64_lo in12; have hi12 := u64_hi in12
  have in13 : inK .u64 (iand (at_ a2 t6) (at_ (words b) t6)) := iand_in (at_ (words b) t6) (in_u64 (by first|omega|(simp;omega)|assumption) (by first|omega|(simp;omega)|assumption))
  have lo13 := u64_lo in13; have hi13 := u64_hi in13
  have hf14 : (CFs ⟨b1, 0 + t6.toNat * 1, none⟩ [.int .u64 (at_ a2 t6)]).1 w9 := (CF.box (m := 1) (S9.box_at (j := 0) rfl) (cs := (encInts .u64 a2)) (encInts_at f9_0 (by first|omega|(simp;omega)|assumption) (by first|omega|(simp;omega)|assumption)))
  have hf15 : (CFs ⟨b3, 0 + t6.toNat * 1, none⟩ [.int .u64 (at_ (words b) t6)]).1 w9 := (CF.box (m := 1) (S9.box_at (j := 1) rfl) (cs := (encInts .u64 (words b))) (encInts_at (okWords b) (by first|omega|(simp;omega)|assumption) (by first|omega|(simp;omega)|assumption)))
  refine daS (hkC 2 hf14 (hkC 5 hf15 (hkN (w := w9)))) 9 rfl mixed ?_
  intro wd16 gd16 hd16
  have S17 := S9.keep gd16
  have hf18 := spUp gd16 hf14
  have hf19 := spUp gd16 hf15
  refine qd0 (i := 0) (v := .int .i64 t6) rfl (by decide +kernel) rfl rfl (x_move rfl) (of_no rfl) ?_
  refine qd0 (i := 1) (v := .pointer (some ⟨b1, 0 + t6.toNat * 1, none⟩)) rfl (by decide +kernel) rfl rfl (x_indexAddr_arr u74 ty56 r9_2 rfl (by first|omega|(simp;omega)|assumption) (by first|omega|(simp;omega)|assumption)) (of_no rfl) ?_
  refine qd1 0 (i := 2) (v := .int .u64 (at_ a2 t6)) rfl rfl (by decide +kernel) rfl rfl (fun wq hq => (x_load (seg := [.int .u64 (at_ a2 t6)]) ty56 rfl (by simp) rfl hq)) (of_eq hf18 (of_no rfl)) ?_
  refine qd0 (i := 3) (v := .int .i64 t6) rfl (by decide +kernel) rfl rfl (x_move rfl) (of_no rfl) ?_
  refine qd0 (i := 4) (v := .pointer (some ⟨b3, 0 + t6.toNat * 1, none⟩)) rfl (by decide +kernel) rfl rfl (x_indexAddr_arr u74 ty56 r9_3 rfl (by first|omega|(simp;omega)|assumption) (by first|omega|(simp;omega)|assumption)) (of_no rfl) ?_
  refine qd1 1 (i := 5) (v := .int .u64 (at_ (words b) t6)) rfl rfl (by decide +kernel) rfl rfl (fun wq hq => (x_load (seg := [.int .u64 (at_ (words b) t6)]) ty56 rfl (by simp) rfl hq)) (of_ne rfl (of_eq hf19 (of_no rfl))) ?_
  refine qd0 (i := 6) (v := .int .u64 (iand (at_ a2 t6) (at_ (words b) t6))) rfl (by decide +kernel) rfl rfl (x_and_u64 rfl rfl (in_u64 (by first|omega|(simp;omega)|assumption) (by first|omega|(simp;omega)|assumption)) (in_u64 (by first|omega|(simp;omega)|assumption) (by first|omega|(simp;omega)|assumption))) (of_no rfl) ?_
  refine qd0 (i := 7) (v := .pointer (some ⟨b1, 0 + t6.toNat * 1, none⟩)) rfl (by decide +kernel) rfl rfl (x_indexAddr_arr u74 ty56 r9_2 rfl (by first|omega|(simp;omega)|assumption) (by first|omega|(simp;omega)|assumption)) (of_no rfl) ?_
  refine ra_one (i := 8) (by decide +kernel) ?_
  intro wd20 gd20
  have S21 := S17.keep gd20
  have hf22 := spUp gd20 hf18
  have hf23 := spUp gd20 hf19
  obtain ⟨w24, r24, g24, T24⟩ := e_store (P := Tryd.prog) (off := 0 + t6.toNat * 1) (v := .int .u64 (iand (at_ a2 t6) (at_ (words b) t6))) (vs := [.int .u64 (iand (at_ a2 t6) (at_ (words b) t6))]) S21 ty56 rfl rfl (j := 0) rfl (by rw [encInts_len f9_0]; first|omega|(simp;omega)|assumption) (by simp [Value.oneCell'])
  rw [encInts_put] at T24
  have ok24 : okInts .u64 4 (a2.set t6.toNat (iand (at_ a2 t6) (at_ (words b) t6))) := okInts_set f9_0 _ in13
  have S25 := T24.fx 0 (box b1 74 (encInts .u64 (a2.set t6.toNat (iand (at_ a2 t6) (at_ (words b) t6))))) rfl
  dsimp only [lAa, lAn, lA0, lAs] at S25
  have hf26 : (CFs ⟨b3, 0 + t6.toNat * 1, none⟩ [.int .u64 (at_ (words b) t6)]).1 w24 := (CF.box (m := 1) (S25.box_at (j := 1) rfl) (cs := (encInts .u64 (words b))) (encInts_at (okWords b) (by first|omega|(simp;omega)|assumption) (by first|omega|(simp;omega)|assumption)))
  refine d_s rfl rfl (x_store rfl rfl r24) (.inr (keep_w (by decide +kernel) (keep_w (by decide +kernel) trivial))) ?_
  refine ra_done (by decide +kernel) ?_
  intro wd27 gd27
  have S28 := S25.keep gd27
  refine run_inBlock ?_
  refine run_reg (l := [0, 1]) rfl ?_
  refine p_v (v := .int .i64 (t6 + 1)) rfl rfl rfl (x_add r9_6 rfl (in_i64 (by first|omega|(simp;omega)|assumption) (by first|omega|(simp;omega)|assumption))) ?_
  refine p_v (v := .int .i64 (t6 + 1)) rfl rfl rfl (x_move rfl) ?_
  refine run_region_end ?_
  refine ih9 (a2.set t6.toNat (iand (at_ a2 t6) (at_ (words b) t6)), t6 + 1) _ _ (by dsimp only; omega) ⟨h9, le9, S28.sub [0, 1, 2] (by decide) rfl _ rfl, r9_2, r9_3, r9_4, rfl, ok24, (in_i64 (by first|omega|(simp;omega)|assumption) (by first|omega|(simp;omega)|assumption)), (by exact ⟨by omega, by omega, by rw [hI9.2.2]; exact zipTo_step _ (words a) (words b) rfl hI9.1 (by show _ < ((4 : Nat) : Int); omega)⟩)⟩
 ·skip
  refine run_exit rfl ?_
  refine run_seq ?_
  refine run_reg (l := [0, 1]) rfl ?_
  refine p_v (v := .agg (encSet (ofWords a2)).toArray) rfl rfl rfl (x_load (seg := (encSet (ofWords a2))) ty74 rfl (by simp) r9_2 (CF.box (m := 4) (S9.box_at (j := 0) rfl) (by rw [← encSet_of f9_0]; exact encInts_full f9_0))) ?_
  obtain ⟨w29, r29, g29, T29⟩ := e_store (P := Tryd.prog) (off := 0) (v := .agg (encSet (ofWords a2)).toArray) (vs := (encSet (ofWords a2))) S9 ty74 rfl rfl (j := 2) rfl (by first | decide | exact Nat.le_of_ble_eq_true rfl) (encSet_one _)
  have S30 := T29.fx 2 (box b5 74 (encSet (ofWords a2))) rfl
  dsimp only [lAa, lAn, lA0, lAs] at S30
  refine p_s rfl rfl (x_store r9_4 rfl r29) ?_
  refine run_region_end ?_
  refine run_ret Tryd.func137 (res1 rfl (res_cell S30 ty74 r9_4 (j := 2) rfl rfl (by simp) rfl)) ?_
  have q0 : (a &&& b : BSet) = (ofWords a2) := by
   rw [hI9.2.2, show t6 = 4 by omega]; exact (and_words a b).symm
  refine ⟨_, rfl, h9, ?_, ?_⟩
  · exact S30.sub [] (by decide) rfl _ rfl
  · first | rfl | (simp only [q0]; rfl) | (simp only [q0])
theorem or_calls (w : World) (a : BSet) (b : BSet) :
    Calls Tryd.prog 162 #[.agg (encSet a).toArray, .agg (encSet b).toArray] w fun e w' => ∃ v, e = .returned v ∧ ∃ (hn : Ghost), St w.heap.size w hn w' [] ∧ v = .agg (encSet (a ||| b)).toArray := by
 refine calls_of_run Tryd.func162 rfl Tryd.ntmps162 rfl ?_
 have S0 := St.init w
 refine run_seq ?_
 refine run_reg (l := [0, 1, 2]) rfl ?_
 obtain ⟨b1, w1, r1, g1, T1⟩ := e_box (P := Tryd.prog) S0 74 (v := .agg (encSet a).toArray) (encSet a) rfl
 have S2 := T1
 dsimp only [lAa, lAn, lA0, lAs] at S2
 refine p_v (v := .pointer (some ⟨b1, 0, none⟩)) rfl rfl rfl (x_box rfl r1) ?_
 obtain ⟨b3, w3, r3, g3, T3⟩ := e_box (P := Tryd.prog) S2 74 (v := .agg (encSet b).toArray) (encSet b) rfl
 have S4 := T3
 dsimp only [lAa, lAn, lA0, lAs] at S4
 refine p_v (v := .pointer (some ⟨b3, 0, none⟩)) rfl rfl rfl (x_box rfl r3) ?_
 obtain ⟨b5, w5, r5, g5, T5⟩ := e_box (P := Tryd.prog) S4 74 (v := (.agg #[.int .u64 0, .int .u64 0, .int .u64 0, .int .u64 0])) (encSet (0 : BSet)) rfl
 have S6 := T5
 dsimp only [lAa, lAn, lA0, lAs] at S6
 refine p_v (v := .pointer (some ⟨b5, 0, none⟩)) rfl rfl rfl (x_alloc ty74 r5) ?_
 refine run_region_end ?_
 refine run_seq ?_
 refine run_seq ?_
 refine run_reg (l := [0]) rfl ?_
 refine p_v (v := .int .i64 0) rfl rfl rfl (x_move rfl) ?_
 refine run_region_end ?_
 refine run_block ?_
 have S7 : St w.heap.size w (fun _ => none) w5 [box b1 74 (encInts .u64 (words a)), box b3 74 (encSet b), box b5 74 (encSet (0 : BSet))] := S6
 have S8 : St w.heap.size w (fun _ => none) w5 [box b1 74 (encInts .u64 (words a)), box b3 74 (encInts .u64 (words b)), box b5 74 (encSet (0 : BSet))] := S7
 refine run_loop (S := (List Int) × Int) (fun (q_ : (List Int) × Int) ρ w' => match q_ with | (a2, t6) => ∃ (h : Ghost), Le (fun _ => none) h ∧ St w.heap.size w h w' [box b1 74 (encInts .u64 a2), box b3 74 (encInts .u64 (words b)), box b5 74 (encSet (0 : BSet))] ∧ ρ 2 = .pointer (some ⟨b1, 0, none⟩) ∧ ρ 3 = .pointer (some ⟨b3, 0, none⟩) ∧ ρ 4 = .pointer (some ⟨b5, 0, none⟩) ∧ ρ 6 = .int .i64 t6 ∧ okInts .u64 4 a2 ∧ inK .i64 t6 ∧ (0 ≤ t6 ∧ t6 ≤ 4 ∧ a2 = zipTo ior (words a) (words b) t6)) (fun q_ => match q_ with | (a2, t6) => (4 - t6).toNat) ((words a), 0) ⟨(fun _ => none), Le.refl _, S8.sub [0, 1, 2] (by decide) rfl _ rfl, rfl, rfl, rfl, rfl, (okWords a), (in_i64 (by first|omega|(simp;omega)|assumption) (by first|omega|(simp;omega)|assumption)), (by exact ⟨by omega, by omega, zipTo_0 _ _ _⟩)⟩ ?_
 rintro ⟨a2, t6⟩ ih9 ρ9 w9 ⟨h9, le9, S9, r9_2, r9_3, r9_4, r9_6, f9_0, f9_1, hI9⟩
 have lf9_1 := i64_lo f9_1; have hf9_1 := i64_hi f9_1
 refine run_seq ?_
 refine run_reg (l := [0]) rfl ?_
 refine p_v (v := .bool (decide (t6 < 4))) rfl rfl rfl (x_lss r9_6 rfl) ?_
 refine run_region_end ?_
 refine run_seq ?_
 refine run_cond_prop (p := t6 < 4) rfl (fun hc10 => ?_) (fun hc10 => ?_)
 ·skip
  refine run_skip ?_
  refine run_seq ?_
  refine run_block ?_
  refine run_seq ?_
  refine run_reg (l := [0, 1]) rfl ?_
  refine p_v (v := .int .i64 t6) rfl rfl rfl (x_move r9_6) ?_
  refine p_v (v := .int .i64 t6) rfl rfl rfl (x_assign rfl) ?_
  refine run_region_end ?_
  have in11 := okInts_at f9_0 (i := t6) (by first|omega|(simp;omega)|assumption) (by first|omega|(simp;omega)|assumption)
  have lo11 := u64_lo in11; have hi11 := u64_hi in11
  have in12 := okInts_at (okWords b) (i := t6) (by first|omega|(simp;omega)|assumption) (by first|omega|(simp;omega)|assumption)
  have lo12 := u64_lo in12; have hi12 := u64_hi in12
  have in13 : inK .u64 (ior (at_ a2 t6) (at_ (words b) t6)) := ior_in (in_u64 (by first|omega|(simp;omega)|assumption) (by first|omega|(simp;omega)|assumption)) (in_u64 (by first|omega|(simp;omega)|assumption) (by first|omega|(simp;omega)|assumption))
  have lo13 := u64_lo in13; have hi13 := u64_hi in13
  have hf14 : (CFs ⟨b1, 0 + t6.toNat * 1, none⟩ [.int .u64 (at_ a2 t6)]).1 w9 := (CF.box (m := 1) (S9.box_at (j := 0) rfl) (cs := (encInts .u64 a2)) (encInts_at f9_0 (by first|omega|(simp;omega)|assumption) (by first|omega|(simp;omega)|assumption)))
  have hf15 : (CFs ⟨b3, 0 + t6.toNat * 1, none⟩ [.int .u64 (at_ (words b) t6)]).1 w9 := (CF.box (m := 1) (S9.box_at (j := 1) rfl) (cs := (encInts .u64 (words b))) (encInts_at (okWords b) (by first|omega|(simp;omega)|assumption) (by first|omega|(simp;omega)|assumption)))
  refine daS (hkC 2 hf14 (hkC 5 hf15 (hkN (w := w9)))) 9 rfl mixed ?_
  intro wd16 gd16 hd16
  have S17 := S9.keep gd16
  have hf18 := spUp gd16 hf14
  have hf19 := spUp gd16 hf15
  refine qd0 (i := 0) (v := .int .i64 t6) rfl (by decide +kernel) rfl rfl (x_move rfl) (of_no rfl) ?_
  refine qd0 (i := 1) (v := .pointer (some ⟨b1, 0 + t6.toNat * 1, none⟩)) rfl (by decide +kernel) rfl rfl (x_indexAddr_arr u74 ty56 r9_2 rfl (by first|omega|(simp;omega)|assumption) (by first|omega|(simp;omega)|assumption)) (of_no rfl) ?_
  refine qd1 0 (i := 2) (v := .int .u64 (at_ a2 t6)) rfl rfl (by decide +kernel) rfl rfl (fun wq hq => (x_load (seg := [.int .u64 (at_ a2 t6)]) ty56 rfl (by simp) rfl hq)) (of_eq hf18 (of_no rfl)) ?_
  refine qd0 (i := 3) (v := .int .i64 t6) rfl (by decide +kernel) rfl rfl (x_move rfl) (of_no rfl) ?_
  refine qd0 (i := 4) (v := .pointer (some ⟨b3, 0 + t6.toNat * 1, none⟩)) rfl (by decide +kernel) rfl rfl (x_indexAddr_arr u74 ty56 r9_3 rfl (by first|omega|(simp;omega)|assumption) (by first|omega|(simp;omega)|assumption)) (of_no rfl) ?_
  refine qd1 1 (i := 5) (v := .int .u64 (at_ (words b) t6)) rfl rfl (by decide +kernel) rfl rfl (fun wq hq => (x_load (seg := [.int .u64 (at_ (words b) t6)]) ty56 rfl (by simp) rfl hq)) (of_ne rfl (of_eq hf19 (of_no rfl))) ?_
  refine qd0 (i := 6) (v := .int .u64 (ior (at_ a2 t6) (at_ (words b) t6))) rfl (by decide +kernel) rfl rfl (x_or_u64 rfl rfl (in_u64 (by first|omega|(simp;omega)|assumption) (by first|omega|(simp;omega)|assumption)) (in_u64 (by first|omega|(simp;omega)|assumption) (by first|omega|(simp;omega)|assumption))) (of_no rfl) ?_
  refine qd0 (i := 7) (v := .pointer (some ⟨b1, 0 + t6.toNat * 1, none⟩)) rfl (by decide +kernel) rfl rfl (x_indexAddr_arr u74 ty56 r9_2 rfl (by first|omega|(simp;omega)|assumption) (by first|omega|(simp;omega)|assumption)) (of_no rfl) ?_
  refine ra_one (i := 8) (by decide +kernel) ?_
  intro wd20 gd20
  have S21 := S17.keep gd20
  have hf22 := spUp gd20 hf18
  have hf23 := spUp gd20 hf19
  obtain ⟨w24, r24, g24, T24⟩ := e_store (P := Tryd.prog) (off := 0 + t6.toNat * 1) (v := .int .u64 (ior (at_ a2 t6) (at_ (words b) t6))) (vs := [.int .u64 (ior (at_ a2 t6) (at_ (words b) t6))]) S21 ty56 rfl rfl (j := 0) rfl (by rw [encInts_len f9_0]; first|omega|(simp;omega)|assumption) (by simp [Value.oneCell'])
  rw [encInts_put] at T24
  have ok24 : okInts .u64 4 (a2.set t6.toNat (ior (at_ a2 t6) (at_ (words b) t6))) := okInts_set f9_0 _ in13
  have S25 := T24.fx 0 (box b1 74 (encInts .u64 (a2.set t6.toNat (ior (at_ a2 t6) (at_ (words b) t6))))) rfl
  dsimp only [lAa, lAn, lA0, lAs] at S25
  have hf26 : (CFs ⟨b3, 0 + t6.toNat * 1, none⟩ [.int .u64 (at_ (words b) t6)]).1 w24 := (CF.box (m := 1) (S25.box_at (j := 1) rfl) (cs := (encInts .u64 (words b))) (encInts_at (okWords b) (by first|omega|(simp;omega)|assumption) (by first|omega|(simp;omega)|assumption)))
  refine d_s rfl rfl (x_store rfl rfl r24) (.inr (keep_w (by decide +kernel) (keep_w (by decide +kernel) trivial))) ?_
  refine ra_done (by decide +kernel) ?_
  intro wd27 gd27
  have S28 := S25.keep gd27
  refine run_inBlock ?_
  refine run_reg (l := [0, 1]) rfl ?_
  refine p_v (v := .int .i64 (t6 + 1)) rfl rfl rfl (x_add r9_6 rfl (in_i64 (by first|omega|(simp;omega)|assumption) (by first|omega|(simp;omega)|assumption))) ?_
  refine p_v (v := .int .i64 (t6 + 1)) rfl rfl rfl (x_move rfl) ?_
  refine run_region_end ?_
  refine ih9 (a2.set t6.toNat (ior (at_ a2 t6) (at_ (words b) t6)), t6 + 1) _ _ (by dsimp only; omega) ⟨h9, le9, S28.sub [0, 1, 2] (by decide) rfl _ rfl, r9_2, r9_3, r9_4, rfl, ok24, (in_i64 (by first|omega|(simp;omega)|assumption) (by first|omega|(simp;omega)|assumption)), (by exact ⟨by omega, by omega, by rw [hI9.2.2]; exact zipTo_step _ (words a) (words b) rfl hI9.1 (by show _ < ((4 : Nat) : Int); omega)⟩)⟩
 ·skip
  refine run_exit rfl ?_
  refine run_seq ?_
  refine run_reg (l := [0, 1]) rfl ?_
  refine p_v (v := .agg (encSet (ofWords a2)).toArray) rfl rfl rfl (x_load (seg := (encSet (ofWords a2))) ty74 rfl (by simp) r9_2 (CF.box (m := 4) (S9.box_at (j := 0) rfl) (by rw [← encSet_of f9_0]; exact encInts_full f9_0))) ?_
  obtain ⟨w29, r29, g29, T29⟩ := e_store (P := Tryd.prog) (off := 0) (v := .agg (encSet (ofWords a2)).toArray) (vs := (encSet (ofWords a2))) S9 ty74 rfl rfl (j := 2) rfl (by first | decide | exact Nat.le_of_ble_eq_true rfl) (encSet_one _)
  have S30 := T29.fx 2 (box b5 74 (encSet (ofWords a2))) rfl
  dsimp only [lAa, lAn, lA0, lAs] at S30
  refine p_s rfl rfl (x_store r9_4 rfl r29) ?_
  refine run_region_end ?_
  refine run_ret Tryd.func162 (res1 rfl (res_cell S30 ty74 r9_4 (j := 2) rfl rfl (by simp) rfl)) ?_
  have q0 : (a ||| b : BSet) = (ofWords a2) := by
   rw [hI9.2.2, show t6 = 4 by omega]; exact (or_words a b).symm
  refine ⟨_, rfl, h9, ?_, ?_⟩
  · exact S30.sub [] (by decide) rfl _ rfl
  · first | rfl | (simp only [q0]; rfl) | (simp only [q0])
theorem of_calls (w : World) (bs : List Int) (A0 : Option Addr) (c0 : Nat) (b0 : bs.length ≤ c0 ∧ c0 ≤ maxLen) (l0 : Leads (Kd.int .u8) (hp w) A0 bs) :
    Calls Tryd.prog 64 #[.slice A0 bs.length c0] w fun e w' => ∃ v, e = .returned v ∧ ∃ (hn : Ghost), St w.heap.size w hn w' [] ∧ v = .agg (encSet (setOf bs)).toArray := by
 refine calls_of_run Tryd.func64 rfl Tryd.ntmps64 rfl ?_
 have S0 := St.init w
 have bb0 := b0.1; have bc0 := b0.2; simp only [maxLen] at bc0
 refine run_seq ?_
 refine run_reg (l := [0]) rfl ?_
 obtain ⟨b1, w1, r1, g1, T1⟩ := e_box (P := Tryd.prog) S0 74 (v := (.agg #[.int .u64 0, .int .u64 0, .int .u64 0, .int .u64 0])) (encSet (0 : BSet)) rfl
 have S2 := T1
 dsimp only [lAa, lAn, lA0, lAs] at S2
 refine p_v (v := .pointer (some ⟨b1, 0, none⟩)) rfl rfl rfl (x_alloc ty74 r1) ?_
 refine run_region_end ?_
 refine run_seq ?_
 refine run_reg (l := [0]) rfl ?_
 obtain ⟨b3, w3, r3, g3, T3⟩ := e_box (P := Tryd.prog) S2 74 (v := (.agg #[.int .u64 0, .int .u64 0, .int .u64 0, .int .u64 0])) (encSet (0 : BSet)) rfl
 have S4 := T3
 dsimp only [lAa, lAn, lA0, lAs] at S4
 refine p_v (v := .pointer (some ⟨b3, 0, none⟩)) rfl rfl rfl (x_alloc ty74 r3) ?_
 refine run_region_end ?_
 refine run_seq ?_
 refine run_seq ?_
 refine run_reg (l := [0, 1, 2]) rfl ?_
 refine p_v (v := .slice A0 bs.length c0) rfl rfl rfl (x_move rfl) ?_
 refine p_v (v := .int .i64 (bs.length : Int)) rfl rfl rfl (x_len_slice u39 rfl) ?_
 refine p_v (v := .int .i64 0) rfl rfl rfl (x_move rfl) ?_
 refine run_region_end ?_
 refine run_block ?_
 have S5 : St w.heap.size w (fun _ => none) w3 [box b1 74 (encSet (0 : BSet)), box b3 74 (encInts .u64 (words (0 : BSet)))] := S4
 refine run_loop (S := (List Int) × Int) (fun (q_ : (List Int) × Int) ρ w' => match q_ with | (s, t10) => ∃ (h : Ghost), Le (fun _ => none) h ∧ St w.heap.size w h w' [box b1 74 (encSet (0 : BSet)), box b3 74 (encInts .u64 s)] ∧ ρ 2 = .pointer (some ⟨b1, 0, none⟩) ∧ ρ 3 = .pointer (some ⟨b3, 0, none⟩) ∧ ρ 8 = .slice A0 bs.length c0 ∧ ρ 9 = .int .i64 (bs.length : Int) ∧ ρ 10 = .int .i64 t10 ∧ okInts .u64 4 s ∧ inK .i64 t10 ∧ (0 ≤ t10 ∧ t10 ≤ (bs.length : Int) ∧ s = words (setOf (bs.take t10.toNat)))) (fun q_ => match q_ with | (s, t10) => (bs.length - t10).toNat) ((words (0 : BSet)), 0) ⟨(fun _ => none), Le.refl _, S5.sub [0, 1] (by decide) rfl _ rfl, rfl, rfl, rfl, rfl, rfl, (okWords (0 : BSet)), (in_i64 (by first|omega|(simp;omega)|assumption) (by first|omega|(simp;omega)|assumption)), (by exact ⟨by omega, by omega, by simp [set_nil]⟩)⟩ ?_
 rintro ⟨s, t10⟩ ih6 ρ6 w6 ⟨h6, le6, S6, r6_2, r6_3, r6_8, r6_9, r6_10, f6_0, f6_1, hI6⟩
 have lf6_1 := i64_lo f6_1; have hf6_1 := i64_hi f6_1
 refine run_seq ?_
 refine run_reg (l := [0]) rfl ?_
 refine p_v (v := .bool (decide (t10 < (bs.length : Int)))) rfl rfl rfl (x_lss r6_10 r6_9) ?_
 refine run_region_end ?_
 refine run_seq ?_
 refine run_cond_prop (p := t10 < (bs.length : Int)) rfl (fun hc7 => ?_) (fun hc7 => ?_)
 ·skip
  refine run_skip ?_
  refine run_seq ?_
  refine run_block ?_
  refine run_seq ?_
  refine run_reg (l := [0, 1, 2]) rfl ?_
  obtain ⟨ad8, seg8, a8, rp8, ce8⟩ := e_index_ro (q := t10) (m := 1) l0 rfl (by first|omega|(simp;omega)|assumption) (by first|omega|(simp;omega)|assumption)
  refine p_v (v := .pointer (some ad8)) rfl rfl rfl (x_index_ro u39 ty5 r6_8 r6_10 a8 (by first|omega|(simp;omega)|assumption) (by first|omega|(simp;omega)|assumption)) ?_
  obtain ⟨rfl, in8⟩ := rp8
  have lo8 := u8_lo in8; have hi8 := u8_hi in8
  refine p_v (v := .int .u8 (at_ bs t10)) rfl rfl rfl (x_load (seg := [.int .u8 (at_ bs t10)]) ty5 rfl (by simp) rfl (CF.ghost ce8 (St.le0 S6))) ?_
  refine p_v (v := .int .u8 (at_ bs t10)) rfl rfl rfl (x_assign rfl) ?_
  refine run_region_end ?_
  refine run_seq ?_
  refine run_reg (l := [0, 1, 2, 3, 4, 5, 6]) rfl ?_
  refine p_v (v := .int .u8 (at_ bs t10)) rfl rfl rfl (x_move rfl) ?_
  refine p_c rfl rfl rfl (y_call (args := [.int .u8 (at_ bs t10)]) ca127 rfl rfl) (bit_calls w6 (at_ bs t10) (in_u8 (by first|omega|(simp;omega)|assumption) (by first|omega|(simp;omega)|assumption))) ?_
  rintro _ w9 ⟨h9, T9, rfl, in9_0, in9_1⟩
  have S10 := S6.keep (Chg.of_below T9.below)
  have lo_in9_0 := i64_lo in9_0; have hi_in9_0 := i64_hi in9_0
  have lo_in9_1 := u64_lo in9_1; have hi_in9_1 := u64_hi in9_1
  refine p_v (v := .tuple #[.int .i64 ((at_ bs t10) / 64), .int .u64 (2 ^ ((at_ bs t10) % 64).toNat)]) rfl rfl rfl (x_move rfl) ?_
  refine p_v (v := .int .i64 ((at_ bs t10) / 64)) rfl rfl rfl (x_extract (vs := [.int .i64 ((at_ bs t10) / 64), .int .u64 (2 ^ ((at_ bs t10) % 64).toNat)]) rfl rfl) ?_
  refine p_v (v := .int .u64 (2 ^ ((at_ bs t10) % 64).toNat)) rfl rfl rfl (x_extract (vs := [.int .i64 ((at_ bs t10) / 64), .int .u64 (2 ^ ((at_ bs t10) % 64).toNat)]) rfl rfl) ?_
  refine p_v (v := .int .i64 ((at_ bs t10) / 64)) rfl rfl rfl (x_assign rfl) ?_
  refine p_v (v := .int .u64 (2 ^ ((at_ bs t10) % 64).toNat)) rfl rfl rfl (x_assign rfl) ?_
  refine run_region_end ?_
  refine run_reg (l := [0, 1, 2, 3, 4, 5, 6]) rfl ?_
  refine p_v (v := .int .i64 ((at_ bs t10) / 64)) rfl rfl rfl (x_move rfl) ?_
  refine p_v (v := .pointer (some ⟨b3, 0 + ((at_ bs t10) / 64).toNat * 1, none⟩)) rfl rfl rfl (x_indexAddr_arr u74 ty56 r6_3 rfl (by first|omega|(simp;omega)|assumption) (by first|omega|(simp;omega)|assumption)) ?_
  have in11 := okInts_at f6_0 (i := (at_ bs t10) / 64) (by first|omega|(simp;omega)|assumption) (by first|omega|(simp;omega)|assumption)
  have lo11 := u64_lo in11; have hi11 := u64_hi in11
  refine p_v (v := .int .u64 (at_ s ((at_ bs t10) / 64))) rfl rfl rfl (x_load (seg := [.int .u64 (at_ s ((at_ bs t10) / 64))]) ty56 rfl (by simp) rfl (CF.box (m := 1) (S10.box_at (j := 1) rfl) (cs := (encInts .u64 s)) (encInts_at f6_0 (by first|omega|(simp;omega)|assumption) (by first|omega|(simp;omega)|assumption)))) ?_
  refine p_v (v := .int .u64 (2 ^ ((at_ bs t10) % 64).toNat)) rfl rfl rfl (x_move rfl) ?_
  have in12 : inK .u64 (ior (at_ s ((at_ bs t10) / 64)) (2 ^ ((at_ bs t10) % 64).toNat)) := ior_in (in_u64 (by first|omega|(simp;omega)|assumption) (by first|omega|(simp;omega)|assumption)) in9_1
  have lo12 := u64_lo in12; have hi12 := u64_hi in12
  refine p_v (v := .int .u64 (ior (at_ s ((at_ bs t10) / 64)) (2 ^ ((at_ bs t10) % 64).toNat))) rfl rfl rfl (x_or_u64 rfl rfl (in_u64 (by first|omega|(simp;omega)|assumption) (by first|omega|(simp;omega)|assumption)) in9_1) ?_
  refine p_v (v := .pointer (some ⟨b3, 0 + ((at_ bs t10) / 64).toNat * 1, none⟩)) rfl rfl rfl (x_indexAddr_arr u74 ty56 r6_3 rfl (by first|omega|(simp;omega)|assumption) (by first|omega|(simp;omega)|assumption)) ?_
  obtain ⟨w13, r13, g13, T13⟩ := e_store (P := Tryd.prog) (off := 0 + ((at_ bs t10) / 64).toNat * 1) (v := .int .u64 (ior (at_ s ((at_ bs t10) / 64)) (2 ^ ((at_ bs t10) % 64).toNat))) (vs := [.int .u64 (ior (at_ s ((at_ bs t10) / 64)) (2 ^ ((at_ bs t10) % 64).toNat))]) S10 ty56 rfl rfl (j := 1) rfl (by rw [encInts_len f6_0]; first|omega|(simp;omega)|assumption) (by simp [Value.oneCell'])
  rw [encInts_put] at T13
  have ok13 : okInts .u64 4 (s.set ((at_ bs t10) / 64).toNat (ior (at_ s ((at_ bs t10) / 64)) (2 ^ ((at_ bs t10) % 64).toNat))) := okInts_set f6_0 _ in12
  have S14 := T13.fx 1 (box b3 74 (encInts .u64 (s.set ((at_ bs t10) / 64).toNat (ior (at_ s ((at_ bs t10) / 64)) (2 ^ ((at_ bs t10) % 64).toNat))))) rfl
  dsimp only [lAa, lAn, lA0, lAs] at S14
  refine p_s rfl rfl (x_store rfl rfl r13) ?_
  refine run_region_end ?_
  refine run_inBlock ?_
  refine run_reg (l := [0, 1]) rfl ?_
  refine p_v (v := .int .i64 (t10 + 1)) rfl rfl rfl (x_add r6_10 rfl (in_i64 (by first|omega|(simp;omega)|assumption) (by first|omega|(simp;omega)|assumption))) ?_
  refine p_v (v := .int .i64 (t10 + 1)) rfl rfl rfl (x_move rfl) ?_
  refine run_region_end ?_
  refine ih6 (s.set ((at_ bs t10) / 64).toNat (ior (at_ s ((at_ bs t10) / 64)) (2 ^ ((at_ bs t10) % 64).toNat)), t10 + 1) _ _ (by dsimp only; omega) ⟨h6, le6, S14.sub [0, 1] (by decide) rfl _ rfl, r6_2, r6_3, r6_8, r6_9, rfl, ok13, (in_i64 (by first|omega|(simp;omega)|assumption) (by first|omega|(simp;omega)|assumption)), (by exact ⟨by omega, by omega, by rw [hI6.2.2]; exact setOf_step bs hI6.1 (by omega) (by omega) (by omega)⟩)⟩
 ·skip
  refine run_exit rfl ?_
  refine run_seq ?_
  refine run_reg (l := [0, 1]) rfl ?_
  refine p_v (v := .agg (encSet (ofWords s)).toArray) rfl rfl rfl (x_load (seg := (encSet (ofWords s))) ty74 rfl (by simp) r6_3 (CF.box (m := 4) (S6.box_at (j := 1) rfl) (by rw [← encSet_of f6_0]; exact encInts_full f6_0))) ?_
  obtain ⟨w15, r15, g15, T15⟩ := e_store (P := Tryd.prog) (off := 0) (v := .agg (encSet (ofWords s)).toArray) (vs := (encSet (ofWords s))) S6 ty74 rfl rfl (j := 0) rfl (by first | decide | exact Nat.le_of_ble_eq_true rfl) (encSet_one _)
  have S16 := T15.fx 0 (box b1 74 (encSet (ofWords s))) rfl
  dsimp only [lAa, lAn, lA0, lAs] at S16
  refine p_s rfl rfl (x_store r6_2 rfl r15) ?_
  refine run_region_end ?_
  refine run_ret Tryd.func64 (res1 rfl (res_cell S16 ty74 r6_2 (j := 0) rfl rfl (by simp) rfl)) ?_
  have q0 : (setOf bs : BSet) = (ofWords s) := by
   rw [hI6.2.2, of_words, List.take_of_length_le (by omega)]
  refine ⟨_, rfl, h6, ?_, ?_⟩
  · exact S16.sub [] (by decide) rfl _ rfl
  · first | rfl | (simp only [q0]; rfl) | (simp only [q0])
theorem first_calls (w : World) (s : BSet) (tb : Block 0 tzTab w) :
    Calls Tryd.prog 158 #[.agg (encSet s).toArray] w fun e w' => ∃ v, e = .returned v ∧ ∃ (hn : Ghost), St w.heap.size w hn w' [] ∧ v = .tuple #[.int .u8 (first s), .bool (someIn s)] ∧ inK .u8 (first s) := by
 refine calls_of_run Tryd.func158 rfl Tryd.ntmps158 rfl ?_
 have S0 := St.init w
 refine run_seq ?_
 refine run_reg (l := [0, 1, 2]) rfl ?_
 obtain ⟨b1, w1, r1, g1, T1⟩ := e_box (P := Tryd.prog) S0 74 (v := .agg (encSet s).toArray) (encSet s) rfl
 have S2 := T1
 dsimp only [lAa, lAn, lA0, lAs] at S2
 refine p_v (v := .pointer (some ⟨b1, 0, none⟩)) rfl rfl rfl (x_box rfl r1) ?_
 refine p_v (v := .int .u8 0) rfl rfl rfl (x_assign rfl) ?_
 refine p_v (v := .bool false) rfl rfl rfl (x_assign rfl) ?_
 refine run_region_end ?_
 refine run_seq ?_
 refine run_seq ?_
 refine run_reg (l := [0, 1]) rfl ?_
 refine p_v (v := .agg (encSet s).toArray) rfl rfl rfl (x_load (seg := (encSet s)) ty74 rfl (by simp) rfl (CF.box (m := 4) (S2.box_at (j := 0) rfl) rfl)) ?_
 refine p_v (v := .int .i64 0) rfl rfl rfl (x_move rfl) ?_
 refine run_region_end ?_
 refine run_block ?_
 refine run_loop (S := Int) (fun (q_ : Int) ρ w' => match q_ with | t7 => ∃ (h : Ghost), Le (fun _ => none) h ∧ St w.heap.size w h w' [] ∧ ρ 6 = .agg (encSet s).toArray ∧ ρ 7 = .int .i64 t7 ∧ inK .i64 t7 ∧ (0 ≤ t7 ∧ t7 ≤ 4 ∧ rowTo s t7 = [])) (fun q_ => match q_ with | t7 => (4 - t7).toNat) (0) ⟨(fun _ => none), Le.refl _, S2.sub [] (by decide) rfl _ rfl, rfl, rfl, (in_i64 (by first|omega|(simp;omega)|assumption) (by first|omega|(simp;omega)|assumption)), (by exact ⟨by omega, by omega, rowTo_0 s⟩)⟩ ?_
 rintro t7 ih3 ρ3 w3 ⟨h3, le3, S3, r3_6, r3_7, f3_0, hI3⟩
 have lf3_0 := i64_lo f3_0; have hf3_0 := i64_hi f3_0
 refine run_seq ?_
 refine run_reg (l := [0]) rfl ?_
 refine p_v (v := .bool (decide (t7 < 4))) rfl rfl rfl (x_lss r3_7 rfl) ?_
 refine run_region_end ?_
 refine run_seq ?_
 refine run_cond_prop (p := t7 < 4) rfl (fun hc4 => ?_) (fun hc4 => ?_)
 ·skip
  refine run_skip ?_
  refine run_seq ?_
  refine run_block ?_
  refine run_seq ?_
  refine run_reg (l := [0, 1, 2, 3]) rfl ?_
  refine p_v (v := .int .i64 t7) rfl rfl rfl (x_move r3_7) ?_
  have in5 := okInts_at (okWords s) (i := t7) (by first|omega|(simp;omega)|assumption) (by first|omega|(simp;omega)|assumption)
  have lo5 := u64_lo in5; have hi5 := u64_hi in5
  refine p_v (v := .int .u64 (at_ (words s) t7)) rfl rfl rfl (x_index_arr (cs := (encInts .u64 (words s))) u74 ty56 r3_6 r3_7 (by first|omega|(simp;omega)|assumption) (by first|omega|(simp;omega)|assumption) (encInts_get (okWords s) (by first|omega|(simp;omega)|assumption) (by first|omega|(simp;omega)|assumption))) ?_
  refine p_v (v := .int .i64 t7) rfl rfl rfl (x_assign rfl) ?_
  refine p_v (v := .int .u64 (at_ (words s) t7)) rfl rfl rfl (x_assign rfl) ?_
  refine run_region_end ?_
  refine run_seq ?_
  refine run_reg (l := [0, 1]) rfl ?_
  refine p_v (v := .int .u64 (at_ (words s) t7)) rfl rfl rfl (x_move rfl) ?_
  refine p_v (v := .bool (decide ((at_ (words s) t7) ≠ 0))) rfl rfl rfl (x_neq rfl rfl) ?_
  refine run_region_end ?_
  refine run_cond_prop (p := (at_ (words s) t7) ≠ 0) rfl (fun hc6 => ?_) (fun hc6 => ?_)
  ·skip
   refine run_seq ?_
   refine run_reg (l := [0, 1, 2, 3, 4, 5, 6, 7]) rfl ?_
   refine p_v (v := .int .i64 t7) rfl rfl rfl (x_move rfl) ?_
   refine p_v (v := .int .i64 (t7 * 64)) rfl rfl rfl (x_mul rfl rfl (in_i64 (by first|omega|(simp;omega)|assumption) (by first|omega|(simp;omega)|assumption))) ?_
   refine p_v (v := .int .u64 (at_ (words s) t7)) rfl rfl rfl (x_move rfl) ?_
   refine p_c rfl rfl rfl (y_call (args := [.int .u64 (at_ (words s) t7)]) ca128 rfl rfl) (tz_calls w3 (at_ (words s) t7) (in_u64 (by first|omega|(simp;omega)|assumption) (by first|omega|(simp;omega)|assumption)) (Block.st S3 tb)) ?_
   rintro _ w7 ⟨h7, T7, rfl, in7_0⟩
   have S8 := S3.keep (Chg.of_below T7.below)
   have lo_in7_0 := i64_lo in7_0; have hi_in7_0 := i64_hi in7_0
   have cz7 : at_ (words s) t7 ≠ 0 → Lib.ctz 64 (at_ (words s) t7).toNat < 64 := fun h => ctz_lt h (by omega) (by omega)
   refine p_v (v := .int .i64 ((t7 * 64) + ((Lib.ctz 64 (at_ (words s) t7).toNat : Nat) : Int))) rfl rfl rfl (x_add rfl rfl (in_i64 (by first|omega|(simp;omega)|assumption) (by first|omega|(simp;omega)|assumption))) ?_
   refine p_v (v := .int .u8 ((t7 * 64) + ((Lib.ctz 64 (at_ (words s) t7).toNat : Nat) : Int))) rfl rfl rfl (x_conv u3 u5 rfl (in_u8 (by first|omega|(simp;omega)|assumption) (by first|omega|(simp;omega)|assumption))) ?_
   refine p_v (v := .int .u8 ((t7 * 64) + ((Lib.ctz 64 (at_ (words s) t7).toNat : Nat) : Int))) rfl rfl rfl (x_assign rfl) ?_
   refine p_v (v := .bool true) rfl rfl rfl (x_assign rfl) ?_
   refine run_region_end ?_
   refine run_ret Tryd.func158 (res2 rfl (res_tmp (v := .int .u8 ((t7 * 64) + ((Lib.ctz 64 (at_ (words s) t7).toNat : Nat) : Int))) rfl) (res_tmp (v := .bool true) rfl)) ?_
   have q0 : (first s : Int) = (t7 * 64) + ((Lib.ctz 64 (at_ (words s) t7).toNat : Nat) : Int) := by
    exact (first_at s hI3.1 (by omega) hI3.2.2 (by assumption)).1
   have q1 : (someIn s : Bool) = true := by
    exact (first_at s hI3.1 (by omega) hI3.2.2 (by assumption)).2
   refine ⟨_, rfl, h3, ?_, ?_, ?_⟩
   · exact S8.sub [] (by decide) rfl _ rfl
   · first | rfl | (simp only [q0, q1]; rfl) | (simp only [q0, q1])
   · rw [q0]; exact (in_u8 (by first|omega|(simp;omega)|assumption) (by first|omega|(simp;omega)|assumption))
  ·skip
   refine run_skip ?_
   refine run_inBlock ?_
   refine run_reg (l := [0, 1]) rfl ?_
   refine p_v (v := .int .i64 (t7 + 1)) rfl rfl rfl (x_add r3_7 rfl (in_i64 (by first|omega|(simp;omega)|assumption) (by first|omega|(simp;omega)|assumption))) ?_
   refine p_v (v := .int .i64 (t7 + 1)) rfl rfl rfl (x_move rfl) ?_
   refine run_region_end ?_
   refine ih3 (t7 + 1) _ _ (by dsimp only; omega) ⟨h3, le3, S3.sub [] (by decide) rfl _ rfl, r3_6, rfl, (in_i64 (by first|omega|(simp;omega)|assumption) (by first|omega|(simp;omega)|assumption)), (by exact ⟨by omega, by omega, none_step s hI3.1 (by omega) hI3.2.2 (by omega)⟩)⟩
 ·skip
  refine run_exit rfl ?_
  refine run_seq ?_
  refine run_reg (l := [0, 1]) rfl ?_
  refine p_v (v := .int .u8 0) rfl rfl rfl (x_assign rfl) ?_
  refine p_v (v := .bool false) rfl rfl rfl (x_assign rfl) ?_
  refine run_region_end ?_
  refine run_ret Tryd.func158 (res2 rfl (res_tmp (v := .int .u8 0) rfl) (res_tmp (v := .bool false) rfl)) ?_
  have q0 : (first s : Int) = 0 := by
   rw [show t7 = 4 by omega] at hI3; exact (first_none s hI3.2.2).1
  have q1 : (someIn s : Bool) = false := by
   rw [show t7 = 4 by omega] at hI3; exact (first_none s hI3.2.2).2
  refine ⟨_, rfl, h3, ?_, ?_, ?_⟩
  · exact S3.sub [] (by decide) rfl _ rfl
  · first | rfl | (simp only [q0, q1]; rfl) | (simp only [q0, q1])
  · rw [q0]; exact (in_u8 (by first|omega|(simp;omega)|assumption) (by first|omega|(simp;omega)|assumption))
theorem list_calls (w : World) (s : BSet) (tb : Block 0 tzTab w) :
    Calls Tryd.prog 130 #[.agg (encSet s).toArray] w fun e w' => ∃ v, e = .returned v ∧ ∃ (hn : Ghost) (r0 : Value), St w.heap.size w hn w' [row 5 (Kd.int .u8) r0 (listOf s)] ∧ v = r0 := by
 refine calls_of_run Tryd.func130 rfl Tryd.ntmps130 rfl ?_
 have S0 := St.init w
 refine run_seq ?_
 refine run_reg (l := [0, 1]) rfl ?_
 obtain ⟨b1, w1, r1, g1, T1⟩ := e_box (P := Tryd.prog) S0 74 (v := .agg (encSet s).toArray) (encSet s) rfl
 have S2 := T1
 dsimp only [lAa, lAn, lA0, lAs] at S2
 refine p_v (v := .pointer (some ⟨b1, 0, none⟩)) rfl rfl rfl (x_box rfl r1) ?_
 refine p_v (v := .slice none 0 0) rfl rfl rfl (x_assign rfl) ?_
 refine run_region_end ?_
 refine run_seq ?_
 refine run_reg (l := [0]) rfl ?_
 refine p_v (v := .slice none 0 0) rfl rfl rfl (x_assign rfl) ?_
 refine run_region_end ?_
 refine run_seq ?_
 refine run_seq ?_
 refine run_reg (l := [0, 1]) rfl ?_
 refine p_v (v := .agg (encSet s).toArray) rfl rfl rfl (x_load (seg := (encSet s)) ty74 rfl (by simp) rfl (CF.box (m := 4) (S2.box_at (j := 0) rfl) rfl)) ?_
 refine p_v (v := .int .i64 0) rfl rfl rfl (x_move rfl) ?_
 refine run_region_end ?_
 refine run_block ?_
 have T3 := S2.row_nil 5 (Kd.int .u8)
 obtain ⟨vn3, ev3, T3⟩ : ∃ v, v = (.slice none 0 0 : Value) ∧ St w.heap.size w (fun _ => none) w1 ([box b1 74 (encSet s)] ++ [row 5 (Kd.int .u8) v []]) := ⟨_, rfl, T3⟩
 have S4 := T3
 dsimp only [lAa, lAn, lA0, lAs] at S4
 refine run_loop (S := (List Int) × Int) (fun (q_ : (List Int) × Int) ρ w' => match q_ with | (out, t7) => ∃ (h : Ghost) (v_out : Value), Le (fun _ => none) h ∧ St w.heap.size w h w' [row 5 (Kd.int .u8) v_out out] ∧ ρ 3 = v_out ∧ ρ 6 = .agg (encSet s).toArray ∧ ρ 7 = .int .i64 t7 ∧ inK .i64 t7 ∧ (0 ≤ t7 ∧ t7 ≤ 4 ∧ out = rowTo s t7)) (fun q_ => match q_ with | (out, t7) => (4 - t7).toNat) (([] : List Int), 0) ⟨(fun _ => none), vn3, Le.refl _, S4.sub [1] (by decide) rfl _ rfl, (ev3.symm), rfl, rfl, (in_i64 (by first|omega|(simp;omega)|assumption) (by first|omega|(simp;omega)|assumption)), (by exact ⟨by omega, by omega, (rowTo_0 s).symm⟩)⟩ ?_
 rintro ⟨out, t7⟩ ih5 ρ5 w5 ⟨h5, v_out, le5, S5, r5_3, r5_6, r5_7, f5_0, hI5⟩
 have lf5_0 := i64_lo f5_0; have hf5_0 := i64_hi f5_0
 have rl5_0 := S5.row_le (j := 0) rfl; simp only [maxLen] at rl5_0
 refine run_seq ?_
 refine run_reg (l := [0]) rfl ?_
 refine p_v (v := .bool (decide (t7 < 4))) rfl rfl rfl (x_lss r5_7 rfl) ?_
 refine run_region_end ?_
 refine run_seq ?_
 refine run_cond_prop (p := t7 < 4) rfl (fun hc6 => ?_) (fun hc6 => ?_)
 ·skip
  refine run_skip ?_
  refine run_seq ?_
  refine run_block ?_
  refine run_seq ?_
  refine run_reg (l := [0, 1, 2, 3]) rfl ?_
  refine p_v (v := .int .i64 t7) rfl rfl rfl (x_move r5_7) ?_
  have in7 := okInts_at (okWords s) (i := t7) (by first|omega|(simp;omega)|assumption) (by first|omega|(simp;omega)|assumption)
  have lo7 := u64_lo in7; have hi7 := u64_hi in7
  refine p_v (v := .int .u64 (at_ (words s) t7)) rfl rfl rfl (x_index_arr (cs := (encInts .u64 (words s))) u74 ty56 r5_6 r5_7 (by first|omega|(simp;omega)|assumption) (by first|omega|(simp;omega)|assumption) (encInts_get (okWords s) (by first|omega|(simp;omega)|assumption) (by first|omega|(simp;omega)|assumption))) ?_
  refine p_v (v := .int .i64 t7) rfl rfl rfl (x_assign rfl) ?_
  refine p_v (v := .int .u64 (at_ (words s) t7)) rfl rfl rfl (x_assign rfl) ?_
  refine run_region_end ?_
  refine run_block ?_
  refine run_loop (S := (List Int) × Int) (fun (q_ : (List Int) × Int) ρ w' => match q_ with | (out2, x) => ∃ (h : Ghost) (v_out2 : Value), Le h5 h ∧ St w.heap.size w h w' [row 5 (Kd.int .u8) v_out2 out2] ∧ ρ 3 = v_out2 ∧ ρ 4 = .int .i64 t7 ∧ ρ 5 = .int .u64 x ∧ ρ 6 = .agg (encSet s).toArray ∧ ρ 7 = .int .i64 t7 ∧ inK .u64 x ∧ (0 ≤ x ∧ x ≤ 18446744073709551615 ∧ out2 ++ wrow t7 x = out ++ wrow t7 (at_ (words s) t7))) (fun q_ => match q_ with | (out2, x) => x.toNat) (out, at_ (words s) t7) ⟨h5, v_out, Le.refl _, S5.sub [0] (by decide) rfl _ rfl, r5_3, rfl, rfl, r5_6, r5_7, (in_u64 (by first|omega|(simp;omega)|assumption) (by first|omega|(simp;omega)|assumption)), (by exact ⟨by omega, by omega, rfl⟩)⟩ ?_
  rintro ⟨out2, x⟩ ih8 ρ8 w8 ⟨h8, v_out2, le8, S8, r8_3, r8_4, r8_5, r8_6, r8_7, f8_0, hI8⟩
  have lf8_0 := u64_lo f8_0; have hf8_0 := u64_hi f8_0
  have rl8_0 := S8.row_le (j := 0) rfl; simp only [maxLen] at rl8_0
  have hb := list_bound s hI5.1 (by omega) hI5.2.2 hI8.2.2
  refine run_seq ?_
  refine run_seq ?_
  refine run_reg (l := [0, 1]) rfl ?_
  refine p_v (v := .int .u64 x) rfl rfl rfl (x_move r8_5) ?_
  refine p_v (v := .bool (decide (x ≠ 0))) rfl rfl rfl (x_neq rfl rfl) ?_
  refine run_region_end ?_
  refine run_cond_prop (p := x ≠ 0) rfl (fun hc9 => ?_) (fun hc9 => ?_)
  ·skip
   refine run_skip ?_
   refine run_seq ?_
   refine run_block ?_
   refine run_reg (l := [0, 1, 2, 3, 4, 5, 6, 7, 8, 9]) rfl ?_
   refine p_v (v := v_out2) rfl rfl rfl (x_move r8_3) ?_
   refine p_v (v := .int .i64 t7) rfl rfl rfl (x_move r8_4) ?_
   refine p_v (v := .int .i64 (t7 * 64)) rfl rfl rfl (x_mul rfl rfl (in_i64 (by first|omega|(simp;omega)|assumption) (by first|omega|(simp;omega)|assumption))) ?_
   refine p_v (v := .int .u64 x) rfl rfl rfl (x_move r8_5) ?_
   refine p_c rfl rfl rfl (y_call (args := [.int .u64 x]) ca128 rfl rfl) (tz_calls w8 x f8_0 (Block.st S8 tb)) ?_
   rintro _ w10 ⟨h10, T10, rfl, in10_0⟩
   have S11 := S8.keep (Chg.of_below T10.below)
   have lo_in10_0 := i64_lo in10_0; have hi_in10_0 := i64_hi in10_0
   have cz10 : x ≠ 0 → Lib.ctz 64 x.toNat < 64 := fun h => ctz_lt h (by omega) (by omega)
   refine p_v (v := .int .i64 ((t7 * 64) + ((Lib.ctz 64 x.toNat : Nat) : Int))) rfl rfl rfl (x_add rfl rfl (in_i64 (by first|omega|(simp;omega)|assumption) (by first|omega|(simp;omega)|assumption))) ?_
   refine p_v (v := .int .u8 ((t7 * 64) + ((Lib.ctz 64 x.toNat : Nat) : Int))) rfl rfl rfl (x_conv u3 u5 rfl (in_u8 (by first|omega|(simp;omega)|assumption) (by first|omega|(simp;omega)|assumption))) ?_
   obtain ⟨v12, w12, r12, g12, T12⟩ := e_build_ones (kd := (Kd.int .u8)) (xs := ([(t7 * 64) + ((Lib.ctz 64 x.toNat : Nat) : Int)] : List Int)) (len := 1) [.int .u8 ((t7 * 64) + ((Lib.ctz 64 x.toNat : Nat) : Int))] S11 u39 ty5 rfl rfl rfl rfl rfl (ones_cons rfl ones_nil) [.int .u8 ((t7 * 64) + ((Lib.ctz 64 x.toNat : Nat) : Int))] (Elems.single (k := (Kd.int .u8)) (h := h8) (x := (t7 * 64) + ((Lib.ctz 64 x.toNat : Nat) : Int)) (cs := [.int .u8 ((t7 * 64) + ((Lib.ctz 64 x.toNat : Nat) : Int))]) ⟨rfl, (in_u8 (by first|omega|(simp;omega)|assumption) (by first|omega|(simp;omega)|assumption))⟩) rfl
   have S13 := T12
   dsimp only [lAa, lAn, lA0, lAs] at S13
   refine p_v (v := v12) rfl rfl rfl (y_build_slice (pv := [(0, .int .u8 ((t7 * 64) + ((Lib.ctz 64 x.toNat : Nat) : Int)))]) rfl r12) ?_
   obtain ⟨A15, c15, ev15, lc15, cm15⟩ := S13.row_val (j := 1) rfl
   obtain ⟨v16, w16, r16, g16, T16⟩ := e_append (kd := (Kd.int .u8)) (A := A15) (c := c15) (ys := ([(t7 * 64) + ((Lib.ctz 64 x.toNat : Nat) : Int)] : List Int)) (len := ([(t7 * 64) + ((Lib.ctz 64 x.toNat : Nat) : Int)] : List Int).length) 39 S13 u39 ty5 rfl rfl (j := 0) rfl rfl (news_own S13 (j := 1) rfl ev15) (by first|omega|(simp;omega)|assumption) (by first|omega|(simp;omega)|assumption)
   have S17 := T16.fx 0 (row 5 (Kd.int .u8) v16 (out2 ++ ([(t7 * 64) + ((Lib.ctz 64 x.toNat : Nat) : Int)] : List Int))) rfl
   dsimp only [lAa, lAn, lA0, lAs] at S17
   refine p_v (v := v16) rfl rfl rfl (x_append rfl ev15 r16) ?_
   refine p_v (v := v16) rfl rfl rfl (x_assign rfl) ?_
   refine run_region_end ?_
   refine run_inBlock ?_
   refine run_reg (l := [0, 1, 2, 3, 4]) rfl ?_
   refine p_v (v := .int .u64 x) rfl rfl rfl (x_move r8_5) ?_
   refine p_v (v := .int .u64 x) rfl rfl rfl (x_move r8_5) ?_
   refine p_v (v := .int .u64 (x - 1)) rfl rfl rfl (x_sub rfl rfl (in_u64 (by first|omega|(simp;omega)|assumption) (by first|omega|(simp;omega)|assumption))) ?_
   have in18 : inK .u64 (iand x (x - 1)) := iand_in (x - 1) f8_0
   have lo18 := u64_lo in18; have hi18 := u64_hi in18
   refine p_v (v := .int .u64 (iand x (x - 1))) rfl rfl rfl (x_and_u64 rfl rfl f8_0 (in_u64 (by first|omega|(simp;omega)|assumption) (by first|omega|(simp;omega)|assumption))) ?_
   refine p_v (v := .int .u64 (iand x (x - 1))) rfl rfl rfl (x_assign rfl) ?_
   refine run_region_end ?_
   refine ih8 (out2 ++ ([(t7 * 64) + ((Lib.ctz 64 x.toNat : Nat) : Int)] : List Int), iand x (x - 1)) _ _ (by exact iand_pred_lt (by omega)) ⟨h8, v16, le8, S17.sub [0] (by decide) rfl _ rfl, rfl, r8_4, rfl, r8_6, r8_7, in18, (by exact ⟨by omega, by omega, by rw [← hI8.2.2, wrow_step t7 (x := x) (by omega) (by omega)]; simp⟩)⟩
  ·skip
   refine run_exit rfl ?_
   refine run_inBlock ?_
   refine run_reg (l := [0, 1]) rfl ?_
   refine p_v (v := .int .i64 (t7 + 1)) rfl rfl rfl (x_add r8_7 rfl (in_i64 (by first|omega|(simp;omega)|assumption) (by first|omega|(simp;omega)|assumption))) ?_
   refine p_v (v := .int .i64 (t7 + 1)) rfl rfl rfl (x_move rfl) ?_
   refine run_region_end ?_
   refine ih5 (out2, t7 + 1) _ _ (by dsimp only; omega) ⟨h8, v_out2, ((le5).trans le8), S8.sub [0] (by decide) rfl _ rfl, r8_3, r8_6, rfl, (in_i64 (by first|omega|(simp;omega)|assumption) (by first|omega|(simp;omega)|assumption)), (by exact ⟨by omega, by omega, by rw [← rowTo_step s hI5.1 (by omega), ← hI5.2.2, ← hI8.2.2, show x = 0 by omega, wrow_nil, List.append_nil]⟩)⟩
 ·skip
  refine run_exit rfl ?_
  refine run_seq ?_
  refine run_reg (l := [0, 1]) rfl ?_
  refine p_v (v := v_out) rfl rfl rfl (x_move r5_3) ?_
  refine p_v (v := v_out) rfl rfl rfl (x_assign rfl) ?_
  refine run_region_end ?_
  refine run_ret Tryd.func130 (res1 rfl (res_tmp (v := v_out) rfl)) ?_
  have q0 : (listOf s : List Int) = out := by
   rw [hI5.2.2, show t7 = 4 by omega]; exact (rowTo_4 s).symm
  refine ⟨_, rfl, h5, v_out, ?_, ?_⟩
  · rw [q0]; exact S5.sub [0] (by decide) rfl _ rfl
  · first | rfl | (simp only [q0]; rfl) | (simp only [q0])
end Go.Proofs.YtfoemogojbnfhaaDoor
namespace Gx
open Go Go.RowKit
set_option linter.unusedSimpArgs false
set_option linter.unusedSectionVars false
set_option linter.unusedVariables false
section
variable {κ : Type} [DecidableEq κ]
def isRep (key : Nat → κ) (c : Nat) : Bool := (List.range c).all fun j => decide (key j ≠ key c)
def reps (key : Nat → κ) (t : Nat) : List Nat := (List.range t).filter (isRep key)
def fo (key : Nat → κ) (t c : Nat) : Option Nat := (List.range t).find? fun j => decide (key j = key c)
def idx (key : Nat → κ) (c : Nat) : Nat := (reps key ((fo key c c).getD c)).length
def partOf (key : Nat → κ) : PartM := ⟨(List.range 256).map fun c => ((idx key c : Nat) : Int), ((reps key 256).length : Nat)⟩
theorem reps_succ (key : Nat → κ) (t : Nat) : reps key (t + 1) = reps key t ++ (if isRep key t then [t] else []) := by
  unfold reps
  rw [List.range_succ, List.filter_append]
  congr 1
  simp [List.filter_cons]
theorem reps_le (key : Nat → κ) (t : Nat) : (reps key t).length ≤ t := by
  have := List.length_filter_le (isRep key) (List.range t)
  simpa [reps] using this
theorem fo_some {key : Nat → κ} {t c j : Nat} (h : fo key t c = some j) : j < t ∧ key j = key c := by
  unfold fo at h
  have h1 := List.mem_of_find?_eq_some h
  have h2 := List.find?_some h
  exact ⟨by simpa using h1, by simpa using h2⟩
theorem fo_none {key : Nat → κ} {t c : Nat} (h : fo key t c = none) : ∀ j, j < t → key j ≠ key c := by
  unfold fo at h
  intro j hj
  have := List.find?_eq_none.1 h j (by simpa using hj)
  simpa using this
theorem fo_succ (key : Nat → κ) (t c : Nat) : fo key (t + 1) c = (fo key t c).or (if key t = key c then some t else none) := by
  unfold fo
  rw [List.range_succ, List.find?_append]
  congr 1
  by_cases h : key t = key c <;> simp [h]
theorem isRep_iff (key : Nat → κ) (c : Nat) : isRep key c = (fo key c c).isNone := by
  rw [Bool.eq_iff_iff]
  unfold isRep
  rw [List.all_eq_true]
  constructor
  · intro h
    cases hf : fo key c c with
    | none => rfl
    | some j =>
      obtain ⟨h1, h2⟩ := fo_some hf
      have := h j (by simpa using h1)
      simp [h2] at this
  · intro h j hj
    have := fo_none (Option.isNone_iff_eq_none.1 h) j (by simpa using hj)
    simpa using this
theorem idx_le (key : Nat → κ) (c : Nat) : idx key c ≤ c := by
  unfold idx
  have h := reps_le key ((fo key c c).getD c)
  cases hf : fo key c c with
  | none => rw [hf] at h; simpa using h
  | some j =>
    have := (fo_some hf).1
    rw [hf] at h
    simp at h ⊢
    omega
def kvTo (key : Nat → κ) (t : Nat) : List (κ × Int) := (reps key t).map fun r => (key r, ((reps key r).length : Int))
theorem lookAt_app {β : Type} (k : κ) (b : List (κ × β)) : ∀ (a : List (κ × β)) (i : Nat), lookAt k (a ++ b) i = (lookAt k a i).or (lookAt k b (i + a.length))
  | [], i => by simp [lookAt]
  | p :: a, i => by
    simp only [List.cons_append, lookAt]
    by_cases h : k = p.1
    · simp [h]
    · rw [if_neg h, if_neg h, lookAt_app k b a (i + 1)]
      congr 2
      simp; omega
theorem valAt_app {β : Type} (k : κ) (a b : List (κ × β)) : valAt k (a ++ b) = (valAt k a).or (valAt k b) := by
  have sh : ∀ (l : List (κ × β)) (i j : Nat), (lookAt k l i).map (·.2) = (lookAt k l j).map (·.2) := by
    intro l
    induction l with
    | nil => intro i j; rfl
    | cons p r ih =>
      intro i j
      simp only [lookAt]
      by_cases h : k = p.1
      · simp [h]
      · rw [if_neg h, if_neg h]; exact ih _ _
  unfold valAt
  rw [lookAt_app]
  cases hl : lookAt k a 0 with
  | none => simp; exact sh b _ _
  | some p => simp
theorem val_kvTo (key : Nat → κ) (c : Nat) : ∀ t, valAt (key c) (kvTo key t) = (fo key t c).map fun j => ((reps key j).length : Int)
  | 0 => rfl
  | t + 1 => by
    unfold kvTo
    rw [reps_succ, List.map_append, valAt_app, fo_succ]
    show (valAt (key c) (kvTo key t)).or _ = _
    rw [val_kvTo key c t]
    cases hf : fo key t c with
    | some j => simp
    | none =>
      simp only [Option.map_none, Option.none_or]
      by_cases hk : key t = key c
      · have hr : isRep key t = true := by
          rw [isRep_iff]
          cases ht : fo key t t with
          | none => rfl
          | some j => exact absurd ((fo_some ht).2.trans hk) (fo_none hf j (fo_some ht).1)
        rw [hr, if_pos hk]
        simp [valAt, lookAt, hk]
      · rw [if_neg hk]
        cases isRep key t with
        | false => simp [valAt, lookAt]
        | true => simp [valAt, lookAt]; exact fun e => hk e.symm
theorem kvTo_old {key : Nat → κ} {c : Nat} {v : Int} (h : valAt (key c) (kvTo key c) = some v) : v = (idx key c : Nat) ∧ kvTo key (c + 1) = kvTo key c ∧ (reps key (c + 1)).length = (reps key c).length := by
  rw [val_kvTo] at h
  cases hf : fo key c c with
  | none => rw [hf] at h; cases h
  | some j =>
    rw [hf] at h
    simp at h
    have hr : isRep key c = false := by rw [isRep_iff, hf]; rfl
    have e : reps key (c + 1) = reps key c := by rw [reps_succ, hr]; simp
    refine ⟨?_, by unfold kvTo; rw [e], by rw [e]⟩
    unfold idx
    rw [hf]; simp; omega
theorem kvTo_new {key : Nat → κ} {c : Nat} (h : valAt (key c) (kvTo key c) = none) : ((reps key c).length : Int) = (idx key c : Nat) ∧ kvTo key (c + 1) = putAt (key c) ((reps key c).length : Int) (kvTo key c) ∧ (reps key (c + 1)).length = (reps key c).length + 1 := by
  have hl : lookAt (key c) (kvTo key c) 0 = none := by
    unfold valAt at h
    exact Option.map_eq_none_iff.1 h
  rw [val_kvTo, Option.map_eq_none_iff] at h
  have hr : isRep key c = true := by rw [isRep_iff, h]; rfl
  have e : reps key (c + 1) = reps key c ++ [c] := by rw [reps_succ, hr]; simp
  refine ⟨?_, ?_, by rw [e]; simp⟩
  · unfold idx; rw [h]; rfl
  · unfold putAt; rw [hl]
    unfold kvTo; rw [e]; simp
theorem fo_min {key : Nat → κ} {c j : Nat} : ∀ {t : Nat}, fo key t c = some j → ∀ i, i < j → key i ≠ key c
  | 0, h, _, _ => by simp [fo] at h
  | t + 1, h, i, hi => by
    rw [fo_succ] at h
    cases hf : fo key t c with
    | some q =>
      rw [hf] at h; simp at h; subst h
      exact fo_min hf i hi
    | none =>
      rw [hf] at h
      by_cases hk : key t = key c
      · rw [if_pos hk] at h; simp at h; subst h
        exact fo_none hf i hi
      · rw [if_neg hk] at h; simp at h
def fst_ (key : Nat → κ) (c : Nat) : Nat := (fo key c c).getD c
theorem fst_key (key : Nat → κ) (c : Nat) : key (fst_ key c) = key c := by
  unfold fst_
  cases h : fo key c c with
  | none => rfl
  | some j => exact (fo_some h).2
theorem fst_min (key : Nat → κ) (c : Nat) : ∀ i, i < fst_ key c → key i ≠ key c := by
  unfold fst_
  cases h : fo key c c with
  | none => exact fo_none h
  | some j => exact fo_min h
theorem fst_eq {key : Nat → κ} {c d : Nat} (h : key c = key d) : fst_ key c = fst_ key d := by
  rcases Nat.lt_trichotomy (fst_ key c) (fst_ key d) with hl | he | hl
  · exact absurd ((fst_key key c).trans h) (fst_min key d _ hl)
  · exact he
  · exact absurd ((fst_key key d).trans h.symm) (fst_min key c _ hl)
theorem fst_rep (key : Nat → κ) (c : Nat) : isRep key (fst_ key c) = true := by
  unfold isRep
  rw [List.all_eq_true]
  intro j hj
  have hj' : j < fst_ key c := by simpa using hj
  have := fst_min key c j hj'
  rw [fst_key key c]
  simpa using this
theorem reps_mono (key : Nat → κ) (a : Nat) : ∀ b, a ≤ b → (reps key a).length ≤ (reps key b).length
  | 0, h => by have : a = 0 := by omega
               subst this; exact Nat.le_refl _
  | b + 1, h => by
    rcases Nat.lt_or_ge a (b + 1) with h1 | h1
    · have := reps_mono key a b (by omega)
      rw [reps_succ, List.length_append]; omega
    · have : a = b + 1 := by omega
      rw [this]; exact Nat.le_refl _
theorem reps_lt {key : Nat → κ} {a b : Nat} (hr : isRep key a = true) (h : a < b) : (reps key a).length < (reps key b).length := by
  have h1 := reps_mono key (a + 1) b h
  rw [reps_succ, hr] at h1
  simp at h1; omega
theorem idx_inj {key : Nat → κ} {c d : Nat} : idx key c = idx key d ↔ key c = key d := by
  constructor
  · intro h
    have h1 : (reps key (fst_ key c)).length = (reps key (fst_ key d)).length := h
    have e : fst_ key c = fst_ key d := by
      rcases Nat.lt_trichotomy (fst_ key c) (fst_ key d) with hl | he | hl
      · have := reps_lt (fst_rep key c) hl; omega
      · exact he
      · have := reps_lt (fst_rep key d) hl; omega
    rw [← fst_key key c, ← fst_key key d, e]
  · intro h
    show (reps key (fst_ key c)).length = (reps key (fst_ key d)).length
    rw [fst_eq h]
def ofTo (key : Nat → κ) (t : Int) : List Int := (List.range 256).map fun (c : Nat) => if ((c : Nat) : Int) < t then ((idx key c : Nat) : Int) else 0
theorem ofTo_0 (key : Nat → κ) : List.replicate 256 (0 : Int) = ofTo key 0 := by
  unfold ofTo
  refine (List.eq_replicate_iff.2 ⟨by simp, ?_⟩).symm
  intro b hb
  obtain ⟨i, _, rfl⟩ := List.mem_map.1 hb
  rw [if_neg (by omega)]
theorem ofTo_step {key : Nat → κ} {t v : Int} {l : List Int} (hl : l = ofTo key t) (h0 : 0 ≤ t) (h1 : t < 256) (hv : v = (idx key t.toNat : Nat)) : l.set t.toNat v = ofTo key (t + 1) := by
  subst hl
  have hl : ∀ t, (ofTo key t).length = 256 := fun t => by simp [ofTo]
  refine list_ext (n := 256) (by rw [List.length_set]; exact hl t) (hl _) fun k hk hk1 => ?_
  rw [at_set h0 (by rw [hl]; omega) hk]
  unfold ofTo
  rw [at_map_range _ _ hk hk1, at_map_range _ _ hk hk1, show ((k.toNat : Nat) : Int) = k by omega]
  by_cases h : k = t
  · rw [if_pos h, hv, h, if_pos (by omega)]
  · rw [if_neg h]
    by_cases h2 : k < t
    · rw [if_pos h2, if_pos (by omega)]
    · rw [if_neg h2, if_neg (by omega)]
theorem ofTo_end (key : Nat → κ) {t : Int} (ht : t = 256) : ofTo key t = (partOf key).of := by
  unfold ofTo partOf
  show List.map _ _ = List.map _ _
  apply List.map_congr_left
  intro c hc
  have : c < 256 := by simpa using hc
  rw [if_pos (by omega)]
theorem part_at (key : Nat → κ) {c : Int} (h0 : 0 ≤ c) (h1 : c < 256) : at_ (partOf key).of c = (idx key c.toNat : Nat) := by
  unfold partOf
  exact at_map_range _ _ h0 h1
theorem okPart_of (key : Nat → κ) : okPart (partOf key) := by
  refine ⟨⟨by simp [partOf], fun x hx => ?_⟩, ?_⟩
  · unfold partOf at hx
    obtain ⟨c, hc, rfl⟩ := List.mem_map.1 hx
    have := idx_le key c
    have : c < 256 := by simpa using hc
    exact in_u8 (by omega) (by omega)
  · have := reps_le key 256
    exact in_i64 (by show _ ≤ (((reps key 256).length : Nat) : Int); omega) (by show (((reps key 256).length : Nat) : Int) ≤ _; omega)
end
section
variable {κ μ : Type} [DecidableEq κ] [DecidableEq μ]
theorem reps_congr {key : Nat → κ} {key' : Nat → μ} {n : Nat} (h : ∀ i j, i < n → j < n → (key i = key j ↔ key' i = key' j)) : ∀ t, t ≤ n → reps key t = reps key' t := by
  intro t ht
  unfold reps
  apply List.filter_congr
  intro c hc
  have hc' : c < t := by simpa using hc
  unfold isRep
  rw [Bool.eq_iff_iff, List.all_eq_true, List.all_eq_true]
  constructor
  · intro hh j hj
    have hjc : j < c := by simpa using hj
    have := hh j hj
    simp only [decide_eq_true_eq, ne_eq] at this ⊢
    rwa [← h j c (by omega) (by omega)]
  · intro hh j hj
    have hjc : j < c := by simpa using hj
    have := hh j hj
    simp only [decide_eq_true_eq, ne_eq] at this ⊢
    rwa [h j c (by omega) (by omega)]
theorem fo_congr {key : Nat → κ} {key' : Nat → μ} {n : Nat} (h : ∀ i j, i < n → j < n → (key i = key j ↔ key' i = key' j)) {t c : Nat} (ht : t ≤ n) (hc : c < n) : fo key t c = fo key' t c := by
  unfold fo
  have : ∀ l : List Nat, (∀ j ∈ l, j < n) → l.find? (fun j => decide (key j = key c)) = l.find? (fun j => decide (key' j = key' c)) := by
    intro l
    induction l with
    | nil => intro _; rfl
    | cons j l ih =>
      intro hl
      have e : decide (key j = key c) = decide (key' j = key' c) := decide_eq_decide.2 (h j c (hl j (by simp)) hc)
      simp only [List.find?_cons, e]
      rw [ih fun i hi => hl i (by simp [hi])]
  exact this _ fun j hj => by have : j < t := by simpa using hj
                              omega
theorem idx_congr {key : Nat → κ} {key' : Nat → μ} {n : Nat} (h : ∀ i j, i < n → j < n → (key i = key j ↔ key' i = key' j)) {c : Nat} (hc : c < n) : idx key c = idx key' c := by
  unfold idx
  rw [fo_congr h (Nat.le_of_lt hc) hc, reps_congr h]
  cases hf : fo key' c c with
  | none => simp; omega
  | some j => have := (fo_some hf).1; simp; omega
theorem partOf_congr {key : Nat → κ} {key' : Nat → μ} (h : ∀ i j, i < 256 → j < 256 → (key i = key j ↔ key' i = key' j)) : partOf key = partOf key' := by
  unfold partOf
  rw [reps_congr h 256 (Nat.le_refl _)]
  congr 1
  apply List.map_congr_left
  intro c hc
  rw [idx_congr h (by simpa using hc)]
end
def encSide (k : Int × Bool) : List Value := [.int .u8 k.1, .bool k.2]
theorem encSide_one (k : Int × Bool) : ∀ u ∈ encSide k, u.oneCell' = true := by simp [encSide, Value.oneCell']
def sideOf (p : PartM) (s : BSet) (c : Nat) : Int × Bool := (at_ p.of ((c : Nat) : Int), has s ((c : Nat) : Int))
def splitP (p : PartM) (s : BSet) : PartM := partOf (sideOf p s)
theorem side_at (p : PartM) (s : BSet) {t : Int} (h0 : 0 ≤ t) : sideOf p s t.toNat = (at_ p.of t, has s t) := by
  unfold sideOf
  rw [show ((t.toNat : Nat) : Int) = t by omega]
theorem split_end (p : PartM) (s : BSet) {t : Int} {o : PartM} (ht : t = 256) (h1 : o.of = ofTo (sideOf p s) t) (h2 : o.n = ((reps (sideOf p s) t.toNat).length : Int)) : splitP p s = o := by
  unfold splitP
  have e1 := ofTo_end (sideOf p s) ht
  obtain ⟨oof, on⟩ := o
  simp only at h1 h2
  rw [h1, e1, h2, ht]; rfl
def refKey (l : List BSet) (c : Nat) : List Bool := l.map fun s => s.getLsbD c
def refineP (l : List BSet) : PartM := partOf (refKey l)
theorem refine_0 (l : List BSet) : (⟨List.replicate 256 0, 1⟩ : PartM) = refineP (l.take 0) := by
  unfold refineP
  rw [partOf_congr (key' := fun _ => ()) (fun i j _ _ => by simp [refKey])]
  decide +kernel
theorem refine_step (l : List BSet) {t : Int} (h0 : 0 ≤ t) (h1 : t < (l.length : Int)) {p : PartM} (hp : p = refineP (l.take t.toNat)) : splitP p (at_ l t) = refineP (l.take (t + 1).toNat) := by
  subst hp
  unfold splitP
  rw [take_next l h0 h1]
  unfold refineP
  refine partOf_congr fun i j hi hj => ?_
  unfold sideOf
  rw [part_at _ (by omega) (by omega), part_at _ (by omega) (by omega)]
  simp only [Int.toNat_natCast, Prod.mk.injEq, has]
  constructor
  · rintro ⟨h1, h2⟩
    have h3 : idx (refKey (l.take t.toNat)) i = idx (refKey (l.take t.toNat)) j := by omega
    rw [idx_inj] at h3
    unfold refKey at h3 ⊢
    simp only [List.map_append, List.map_cons, List.map_nil, h3, h2]
  · intro h
    unfold refKey at h
    simp only [List.map_append, List.map_cons, List.map_nil] at h
    have hh := List.append_inj' h rfl
    refine ⟨?_, by simpa using hh.2⟩
    have : idx (refKey (l.take t.toNat)) i = idx (refKey (l.take t.toNat)) j := idx_inj.2 hh.1
    omega
theorem refine_end (l : List BSet) {t : Int} (h : (l.length : Int) ≤ t) {p : PartM} (hp : p = refineP (l.take t.toNat)) : refineP l = p := by
  rw [hp, List.take_of_length_le (by omega)]
def nextOf (l : List Int) : Option Int := l.foldl (fun o n => match o with
  | none => none
  | some x => if n > x then none else if n = x then some (x + 1) else some x) (some 0)
def rightP (p : PartM) : Bool := match nextOf p.of with
  | none => false
  | some x => decide (x = p.n)
theorem next_app (l : List Int) (n : Int) : nextOf (l ++ [n]) = match nextOf l with
  | none => none
  | some x => if n > x then none else if n = x then some (x + 1) else some x := by
  unfold nextOf; rw [List.foldl_append]; rfl
theorem next_none (l r : List Int) (h : nextOf l = none) : nextOf (l ++ r) = none := by
  unfold nextOf at *
  rw [List.foldl_append, h]
  induction r with
  | nil => rfl
  | cons a r ih => exact ih
theorem right_no (p : PartM) {t x : Int} (h0 : 0 ≤ t) (h1 : t < (p.of.length : Int)) (h : nextOf (p.of.take t.toNat) = some x) (hx : x < at_ p.of t) : rightP p = false := by
  unfold rightP
  have e : nextOf (p.of.take (t + 1).toNat) = none := by
    rw [take_next p.of h0 h1, next_app, h]
    simp only []
    rw [if_pos (by omega)]
  have : nextOf p.of = none := by
    have := next_none _ (p.of.drop (t + 1).toNat) e
    rwa [List.take_append_drop] at this
  rw [this]
theorem right_yes (p : PartM) {t x : Int} (h1 : (p.of.length : Int) ≤ t) (h : nextOf (p.of.take t.toNat) = some x) : rightP p = decide (x = p.n) := by
  rw [List.take_of_length_le (by omega)] at h
  unfold rightP
  rw [h]
def many (p : PartM) : Nat := (min (max p.n 0) 256).toNat
def setsTo (p : PartM) (t : Int) : List BSet := (List.range (many p)).map fun (k : Nat) => ofPred fun c => decide (((c : Nat) : Int) < t ∧ at_ p.of ((c : Nat) : Int) = ((k : Nat) : Int))
def setsP (p : PartM) : List BSet := (List.range (many p)).map fun (k : Nat) => ofPred fun c => decide (at_ p.of ((c : Nat) : Int) = ((k : Nat) : Int))
theorem setsTo_len (p : PartM) (t : Int) : ((setsTo p t).length : Int) = min (max p.n 0) 256 := by
  unfold setsTo many
  simp; omega
theorem setsTo_0 (p : PartM) : List.replicate (min (max p.n 0) 256).toNat (0 : BSet) = setsTo p 0 := by
  unfold setsTo
  refine (List.eq_replicate_iff.2 ⟨by simp [many], ?_⟩).symm
  intro b hb
  obtain ⟨k, _, rfl⟩ := List.mem_map.1 hb
  refine set_ext fun i hi => ?_
  rw [pred_bit _ hi, decide_eq_false (by omega)]; simp
theorem setsTo_end (p : PartM) : setsP p = setsTo p 256 := by
  unfold setsTo setsP
  apply List.map_congr_left
  intro k hk
  refine ofPred_congr fun c hc => ?_
  exact decide_eq_decide.2 ⟨fun h => ⟨by omega, h⟩, fun h => h.2⟩
theorem setsTo_in (p : PartM) {t : Int} (h0 : 0 ≤ t) (h1 : t < 256) (hv0 : 0 ≤ at_ p.of t) (hv : at_ p.of t < min (max p.n 0) 256) : (setsTo p t).set (at_ p.of t).toNat (at_ (setsTo p t) (at_ p.of t) ||| setOf [t]) = setsTo p (t + 1) := by
  have hl := setsTo_len p
  refine list_ext (n := many p) (by rw [List.length_set]; simp [setsTo]) (by simp [setsTo]) fun k hk hk1 => ?_
  have hm : ((many p : Nat) : Int) = min (max p.n 0) 256 := by unfold many; omega
  rw [at_set hv0 (by rw [hl]; exact hv) hk]
  unfold setsTo
  rw [at_map_range _ _ hv0 (by omega), at_map_range _ _ hk hk1, at_map_range _ _ hk hk1]
  by_cases h : k = at_ p.of t
  · rw [if_pos h, ← h]
    refine set_ext fun i hi => ?_
    unfold setOf
    rw [BitVec.getLsbD_or, pred_bit _ hi, pred_bit _ hi, pred_bit _ hi, Bool.eq_iff_iff]
    simp only [Bool.or_eq_true, decide_eq_true_eq, List.mem_singleton]
    constructor
    · rintro (⟨h2, h3⟩ | h2)
      · exact ⟨by omega, h3⟩
      · rw [h2]; exact ⟨by omega, by omega⟩
    · rintro ⟨h2, h3⟩
      by_cases h4 : ((i : Nat) : Int) = t
      · exact .inr h4
      · exact .inl ⟨by omega, h3⟩
  · rw [if_neg h]
    refine ofPred_congr fun c hc => decide_eq_decide.2 ?_
    constructor
    · rintro ⟨h2, h3⟩; exact ⟨by omega, h3⟩
    · rintro ⟨h2, h3⟩
      refine ⟨?_, h3⟩
      by_cases h4 : ((c : Nat) : Int) = t
      · rw [h4] at h3; omega
      · omega
theorem setsTo_out (p : PartM) {t : Int} (h0 : 0 ≤ t) (h1 : t < 256) (hv : ¬ at_ p.of t < min (max p.n 0) 256) : setsTo p t = setsTo p (t + 1) := by
  unfold setsTo
  apply List.map_congr_left
  intro k hk
  have hk1 : k < many p := by simpa using hk
  have hm : ((many p : Nat) : Int) = min (max p.n 0) 256 := by unfold many; omega
  refine ofPred_congr fun c hc => decide_eq_decide.2 ?_
  constructor
  · rintro ⟨h2, h3⟩; exact ⟨by omega, h3⟩
  · rintro ⟨h2, h3⟩
    refine ⟨?_, h3⟩
    by_cases h4 : ((c : Nat) : Int) = t
    · rw [h4] at h3; omega
    · omega
def leastOf (k : Int) (s : BSet) : List Int := (listOf s).take (min (max k 0) ((listOf s).length : Int)).toNat
def leastP (p : PartM) (k : Int) : List (List Int) := (setsP p).map (leastOf k)
def leastTo (p : PartM) (k t : Int) : List (List Int) := ((setsP p).take t.toNat).map (leastOf k)
theorem setsP_len (p : PartM) : ((setsP p).length : Int) = min (max p.n 0) 256 := by
  unfold setsP many
  simp; omega
theorem leastTo_len (p : PartM) (k t : Int) : ((leastTo p k t).length : Int) ≤ 256 := by
  unfold leastTo
  have := setsP_len p
  simp; omega
theorem leastTo_step (p : PartM) (k : Int) {t : Int} (h0 : 0 ≤ t) (h1 : t < ((setsP p).length : Int)) : leastTo p k t ++ [(listOf (at_ (setsP p) t)).take (min (max k 0) ((listOf (at_ (setsP p) t)).length : Int)).toNat] = leastTo p k (t + 1) := by
  unfold leastTo
  rw [take_next _ h0 h1, List.map_append]; rfl
theorem leastTo_end (p : PartM) (k : Int) {t : Int} (h : ((setsP p).length : Int) ≤ t) : leastP p k = leastTo p k t := by
  unfold leastTo leastP
  rw [List.take_of_length_le (by omega)]
theorem least_small (s : BSet) (n : Nat) : ((listOf s).take n).length ≤ 1000000 := by
  have := list_len s
  have := count_le s
  rw [List.length_take]; omega
def cuts (x s : BSet) : Bool := decide (x &&& s ≠ x) && decide (x &&& s ≠ 0)
def placeFrom (f : BSet → Bool) : List BSet → Int → Int
  | [], _ => -1
  | x :: r, i => if f x then i else placeFrom f r (i + 1)
def place (f : BSet → Bool) (l : List BSet) : Int := placeFrom f l 0
def splitsP (p : PartM) (s : BSet) : Bool := (setsP p).any fun x => cuts x s
theorem placeFrom_any (f : BSet → Bool) : ∀ (l : List BSet) (i : Int), 0 ≤ i → decide (0 ≤ placeFrom f l i) = l.any f ∧ (placeFrom f l i = -1 ∨ (i ≤ placeFrom f l i ∧ placeFrom f l i < i + l.length))
  | [], i, _ => ⟨rfl, .inl rfl⟩
  | x :: r, i, h => by
    unfold placeFrom
    cases hx : f x with
    | true => simp [hx]; omega
    | false =>
      obtain ⟨h1, h2⟩ := placeFrom_any f r (i + 1) (by omega)
      simp only [Bool.false_eq_true, if_false, List.any_cons, hx, Bool.false_or, h1, true_and, List.length_cons]
      omega
theorem place_any (f : BSet → Bool) (l : List BSet) : decide (0 ≤ place f l) = l.any f := (placeFrom_any f l 0 (by omega)).1
theorem placeFrom_drop (f : BSet → Bool) (l : List BSet) {t : Int} (h0 : 0 ≤ t) (h1 : t < (l.length : Int)) : placeFrom f (l.drop t.toNat) t = if f (at_ l t) then t else placeFrom f (l.drop (t + 1).toNat) (t + 1) := by
  have e : l.drop t.toNat = at_ l t :: l.drop (t + 1).toNat := by
    rw [show (t + 1).toNat = t.toNat + 1 by omega]
    have h2 := at_some h0 h1
    obtain ⟨hl, e⟩ := List.getElem?_eq_some_iff.1 h2
    rw [List.drop_eq_getElem_cons hl, e]
  rw [e]; rfl
section
variable {κ : Type} [DecidableEq κ]
theorem reps_at (key : Nat → κ) (c : Nat) {k : Nat} (hk : k < (reps key c).length) : at_ (reps key c) ((k : Nat) : Int) < c ∧ isRep key (at_ (reps key c) ((k : Nat) : Int)) = true ∧ (reps key (at_ (reps key c) ((k : Nat) : Int))).length = k := by
  induction c with
  | zero => simp [reps] at hk
  | succ c ih =>
    have e := reps_succ key c
    cases hr : isRep key c with
    | false =>
      rw [hr] at e
      simp at e
      rw [e] at hk ⊢
      obtain ⟨h1, h2, h3⟩ := ih hk
      exact ⟨by omega, h2, h3⟩
    | true =>
      rw [hr] at e
      simp at e
      rw [e] at hk ⊢
      rw [List.length_append] at hk
      simp at hk
      by_cases hlt : k < (reps key c).length
      · have ea : at_ (reps key c ++ [c]) ((k : Nat) : Int) = at_ (reps key c) ((k : Nat) : Int) := by
          unfold at_
          rw [Int.toNat_natCast, List.getD_eq_getElem?_getD, List.getD_eq_getElem?_getD, List.getElem?_append_left hlt]
        rw [ea]
        obtain ⟨h1, h2, h3⟩ := ih hlt
        exact ⟨by omega, h2, h3⟩
      · have ek : k = (reps key c).length := by omega
        have ea : at_ (reps key c ++ [c]) ((k : Nat) : Int) = c := by
          unfold at_
          rw [Int.toNat_natCast, List.getD_eq_getElem?_getD, List.getElem?_append_right (by omega), ek, Nat.sub_self]; rfl
        rw [ea]
        exact ⟨by omega, hr, ek.symm⟩
end
section
variable {κ : Type} [DecidableEq κ]
end
theorem next_of {κ : Type} [DecidableEq κ] (key : Nat → κ) : ∀ t, nextOf ((List.range t).map fun c => ((idx key c : Nat) : Int)) = some ((reps key t).length : Int)
  | 0 => rfl
  | t + 1 => by
    rw [List.range_succ, List.map_append, List.map_cons, List.map_nil, next_app, next_of key t]
    simp only []
    rw [reps_succ]
    cases hf : fo key t t with
    | none =>
      have hr : isRep key t = true := by rw [isRep_iff, hf]; rfl
      have e : idx key t = (reps key t).length := by unfold idx; rw [hf]; rfl
      rw [e, hr, if_neg (by omega), if_pos rfl]; simp
    | some j =>
      have hj := fo_some hf
      have hr : isRep key t = false := by rw [isRep_iff, hf]; rfl
      have hrj : isRep key j = true := by
        have := fst_rep key t
        unfold fst_ at this
        rw [hf] at this; exact this
      have e : idx key t = (reps key j).length := by unfold idx; rw [hf]; rfl
      have := reps_lt hrj hj.1
      rw [e, hr, if_neg (by omega), if_neg (by omega)]; simp
theorem right_of {κ : Type} [DecidableEq κ] (key : Nat → κ) : rightP (partOf key) = true := by
  unfold rightP
  have : nextOf (partOf key).of = some ((reps key 256).length : Int) := next_of key 256
  rw [this]
  simp only [partOf]; simp
end Gx
namespace Gx
open Go Go.RowKit
set_option linter.unusedSimpArgs false
set_option linter.unusedSectionVars false
set_option linter.unusedVariables false
theorem at_map {α β : Type} [Inhabited α] [Inhabited β] (f : α → β) (l : List α) {i : Int} (h0 : 0 ≤ i) (h1 : i < (l.length : Int)) : at_ (l.map f) i = f (at_ l i) := by
  have h2 := at_some h0 h1
  have h3 : (l.map f)[i.toNat]? = some (at_ (l.map f) i) := at_some h0 (by simpa using h1)
  rw [List.getElem?_map, h2] at h3
  simpa using h3.symm
def anyTo (p : Nat → Bool) (c : Int) : Bool := (List.range c.toNat).any p
theorem anyTo_step (p : Nat → Bool) {c : Int} (h : 0 ≤ c) : anyTo p (c + 1) = (anyTo p c || p c.toNat) := by
  unfold anyTo
  rw [show (c + 1).toNat = c.toNat + 1 by omega, List.range_succ, List.any_append]; simp
theorem anyTo_iff (p : Nat → Bool) (c : Int) : anyTo p c = true ↔ ∃ d : Nat, ((d : Nat) : Int) < c ∧ p d = true := by
  unfold anyTo
  rw [List.any_eq_true]
  constructor
  · rintro ⟨d, h1, h2⟩; exact ⟨d, by have := List.mem_range.1 h1; omega, h2⟩
  · rintro ⟨d, h1, h2⟩; exact ⟨d, List.mem_range.2 (by omega), h2⟩
section
variable {κ : Type} [DecidableEq κ] (key : Nat → κ)
theorem part_n : (partOf key).n = ((reps key 256).length : Nat) := rfl
theorem many_of : many (partOf key) = (reps key 256).length := by
  have := reps_le key 256
  unfold many; rw [part_n]; omega
theorem sets_len : ((setsP (partOf key)).length : Int) = (partOf key).n := by
  have := reps_le key 256
  rw [setsP_len, part_n]; omega
theorem at_sets {k : Int} (h0 : 0 ≤ k) (h1 : k < (partOf key).n) : at_ (setsP (partOf key)) k = ofPred fun c => decide (((idx key c : Nat) : Int) = k) := by
  unfold setsP
  rw [at_map_range _ _ h0 (by rw [many_of]; exact h1)]
  refine ofPred_congr fun c hc => ?_
  rw [part_at key (by omega) (by omega), Int.toNat_of_nonneg h0]; simp
theorem bit_sets {k : Int} (h0 : 0 ≤ k) (h1 : k < (partOf key).n) {c : Nat} (hc : c < 256) : (at_ (setsP (partOf key)) k).getLsbD c = decide (((idx key c : Nat) : Int) = k) := by
  rw [at_sets key h0 h1, pred_bit _ hc]
theorem idx_rep {c : Nat} (h : isRep key c = true) : idx key c = (reps key c).length := by
  rw [isRep_iff, Option.isNone_iff_eq_none] at h
  unfold idx; rw [h]; rfl
theorem cls_rep {k : Nat} (hk : k < (reps key 256).length) : ∃ r, r < 256 ∧ isRep key r = true ∧ idx key r = k := by
  obtain ⟨h1, h2, h3⟩ := reps_at key 256 hk
  exact ⟨_, h1, h2, by rw [idx_rep key h2, h3]⟩
end
section
variable {κ : Type} [DecidableEq κ] (key : Nat → κ)
theorem cuts_iff (x s : BSet) : cuts x s = false ↔ (∀ i, i < 256 → x.getLsbD i = true → s.getLsbD i = true) ∨ (∀ i, i < 256 → x.getLsbD i = true → s.getLsbD i = false) := by
  unfold cuts
  rw [Bool.and_eq_false_iff, decide_eq_false_iff_not, decide_eq_false_iff_not, Decidable.not_not, Decidable.not_not]
  constructor
  · rintro (h | h)
    · left; intro i hi hx
      have := congrArg (fun z : BSet => z.getLsbD i) h
      simp [hx] at this; exact this
    · right; intro i hi hx
      have := congrArg (fun z : BSet => z.getLsbD i) h
      simpa [hx] using this
  · rintro (h | h)
    · left; refine set_ext fun i hi => ?_
      have := h i hi
      rw [BitVec.getLsbD_and]
      cases hx : x.getLsbD i <;> simp_all
    · right; refine set_ext fun i hi => ?_
      have := h i hi
      rw [BitVec.getLsbD_and]
      cases hx : x.getLsbD i <;> simp_all
theorem splits_no (s : BSet) (h : ∀ i j, i < 256 → j < 256 → key i = key j → s.getLsbD i = s.getLsbD j) : splitsP (partOf key) s = false := by
  unfold splitsP
  rw [List.any_eq_false]
  intro x hx
  obtain ⟨k, hk, rfl⟩ := List.getElem_of_mem hx
  have hk' : ((k : Nat) : Int) < (partOf key).n := by rw [← sets_len]; omega
  have e : (setsP (partOf key))[k] = at_ (setsP (partOf key)) ((k : Nat) : Int) := by simp [at_, List.getD_eq_getElem?_getD, List.getElem?_eq_getElem hk]
  rw [e, Bool.not_eq_true, cuts_iff]
  obtain ⟨r, hr, hrep, hidx⟩ := cls_rep key (k := k) (by rw [part_n] at hk'; omega)
  have key' : ∀ i, i < 256 → (at_ (setsP (partOf key)) ((k : Nat) : Int)).getLsbD i = true → s.getLsbD i = s.getLsbD r := fun i hi hb => by
    rw [bit_sets key (by omega) hk' hi] at hb
    have : idx key i = k := by have := of_decide_eq_true hb; omega
    exact h i r hi hr (idx_inj.1 (by omega))
  cases hs : s.getLsbD r with
  | true => left; intro i hi hb; rw [key' i hi hb, hs]
  | false => right; intro i hi hb; rw [key' i hi hb, hs]
end
theorem ref_bit {l : List BSet} {s : BSet} (hs : s ∈ l) {i j : Nat} (h : refKey l i = refKey l j) : s.getLsbD i = s.getLsbD j := by
  unfold refKey at h
  exact List.map_inj_left.1 h s hs
theorem splits_own {l : List BSet} {s : BSet} (hs : s ∈ l) : splitsP (refineP l) s = false := splits_no _ s fun _ _ _ _ h => ref_bit hs h
theorem at_mem {α : Type} [Inhabited α] {l : List α} {i : Int} (h0 : 0 ≤ i) (h1 : i < (l.length : Int)) : at_ l i ∈ l := List.mem_of_getElem? (at_some h0 h1)
end Gx
namespace Go.Proofs.YtfoemogojbnfhaaDoor
open Go Go.RowKit Gx
set_option linter.unusedSimpArgs false
theorem side_fields : (Tryd.prog.fieldsOf 213).toList = [⟨"class", 5, 0, false, "", "shibboleth/classes", 0⟩, ⟨"in", 4, 1, false, "", "shibboleth/classes", 1⟩] := by kernel_rfl
theorem side_under : Tryd.prog.underlying 213 = some (.struct #[⟨"class", 5, 0, false, "", "shibboleth/classes", 0⟩, ⟨"in", 4, 1, false, "", "shibboleth/classes", 1⟩]) := by kernel_rfl
theorem side_under2 : Tryd.prog.underlying 213 = some (.struct (Tryd.prog.fieldsOf 213)) := by kernel_rfl
theorem key213 : KeyK Tryd.prog 213 (fun x : (Int × Bool) => Value.agg (encSide x).toArray) where
  eq := fun a b w => by
    have h5 : Tryd.prog.underlying 5 = some (.int .u8) := by kernel_rfl
    have h4 : Tryd.prog.underlying 4 = some .bool := by kernel_rfl
    have hp : Tryd.prog.stoodInHeld 213 = false := by kernel_rfl
    have i5 : tyInfo Tryd.prog 5 = some (1, 1, false, some (.int .u8 0)) := by kernel_rfl
    have i4 : tyInfo Tryd.prog 4 = some (1, 1, false, some (.bool false)) := by kernel_rfl
    obtain ⟨ii5, d5, hi5, hd5, hs5, _, hg5, _⟩ := tyInfo_parts i5
    obtain ⟨ii4, d4, hi4, hd4, hs4, _, hg4, _⟩ := tyInfo_parts i4
    have p5 : ∀ (x : Int × Bool) (w : World), (part 5 (encSide x).toArray 0).run Tryd.prog w = .ok (.int .u8 x.1) w := fun x w => by
      simp only [part, Sem.run_bind, run_isAgg hd5, hg5, Result.andThen_ok, Bool.false_eq_true, if_false]; rfl
    have p4 : ∀ (x : Int × Bool) (w : World), (part 4 (encSide x).toArray 1).run Tryd.prog w = .ok (.bool x.2) w := fun x w => by
      simp only [part, Sem.run_bind, run_isAgg hd4, hg4, Result.andThen_ok, Bool.false_eq_true, if_false]; rfl
    show (Op.equalIn 10000 213 _ _).run _ _ = _
    rw [run_equalIn_agg w 9999 213 _ _ side_under2 hp, side_fields]
    obtain ⟨a1, a2⟩ := a
    obtain ⟨b1, b2⟩ := b
    have e5 := fun (w : World) (x y : Int) => run_equalIn_int w 9998 5 .u8 .u8 x y h5
    have e4 := fun (w : World) (x y : Bool) => run_equalIn_bool' w 9998 4 x y h4
    by_cases h : a1 = b1 <;> by_cases h2 : a2 = b2 <;> simp [Op.eqFields, h, h2, Sem.run_pure, Sem.run_bind, p5, p4, e5, e4]
  chk := fun a e w => by
    have h5 : Tryd.prog.underlying 5 = some (.int .u8) := by kernel_rfl
    have h4 : Tryd.prog.underlying 4 = some .bool := by kernel_rfl
    have i5 : tyInfo Tryd.prog 5 = some (1, 1, false, some (.int .u8 0)) := by kernel_rfl
    have i4 : tyInfo Tryd.prog 4 = some (1, 1, false, some (.bool false)) := by kernel_rfl
    obtain ⟨ii5, d5, hi5, hd5, hs5, _, hg5, _⟩ := tyInfo_parts i5
    obtain ⟨ii4, d4, hi4, hd4, hs4, _, hg4, _⟩ := tyInfo_parts i4
    have p5 : ∀ (w : World), (part 5 (encSide a).toArray 0).run Tryd.prog w = .ok (.int .u8 a.1) w := fun w => by
      simp only [part, Sem.run_bind, run_isAgg hd5, hg5, Result.andThen_ok, Bool.false_eq_true, if_false]; rfl
    have p4 : ∀ (w : World), (part 4 (encSide a).toArray 1).run Tryd.prog w = .ok (.bool a.2) w := fun w => by
      simp only [part, Sem.run_bind, run_isAgg hd4, hg4, Result.andThen_ok, Bool.false_eq_true, if_false]; rfl
    have c5 : ∀ (n : Nat) (w : World), (Instr.checkKey e (n + 1) 5 (.int .u8 a.1)).run Tryd.prog w = .ok () w := fun n w => by
      rw [Instr.checkKey]
      simp only [Sem.run_bind, run_underlying h5, Result.andThen_ok]; rfl
    have c4 : ∀ (n : Nat) (w : World), (Instr.checkKey e (n + 1) 4 (.bool a.2)).run Tryd.prog w = .ok () w := fun n w => by
      rw [Instr.checkKey]
      simp only [Sem.run_bind, run_underlying h4, Result.andThen_ok]; rfl
    have main : ∀ n, (Instr.checkKey e (n + 1 + 1) 213 (.agg (encSide a).toArray)).run Tryd.prog w = .ok () w := fun n => by
      rw [Instr.checkKey]
      simp only [Sem.run_bind, run_underlying side_under, Result.andThen_ok]
      simp [Sem.run_bind, Result.andThen_ok, p5, p4, c5, c4, Sem.run_pure]
    exact main 9998
  now := ⟨_, side_under, .inl fun a b => rfl⟩
  same := fun a => by simp [encSide, Instr.sameBits]
end Go.Proofs.YtfoemogojbnfhaaDoor
namespace Go.Proofs.YtfoemogojbnfhaaDoor
open Go Go.RowKit Gx
set_option maxHeartbeats 1000000
set_option linter.unusedVariables false
set_option linter.unusedSimpArgs false
set_option maxRecDepth 8000
attribute [local irreducible] listOf count first someIn has setOf wbits Lib.ctz partOf refineP setsP leastP rightP splitsP splitP
theorem split_calls (w : World) (p : PartM) (o0 : okPart p) (s : BSet) :
    Calls Tryd.prog 115 #[.agg (encPart p).toArray, .agg (encSet s).toArray] w fun e w' => ∃ v, e = .returned v ∧ ∃ (hn : Ghost), St w.heap.size w hn w' [] ∧ v = .agg (encPart (splitP p s)).toArray ∧ okPart (splitP p s) := by
 refine calls_of_run Tryd.func115 rfl Tryd.ntmps115 rfl ?_
 have S0 := St.init w
 have ploo0 := i64_lo o0.2; have phio0 := i64_hi o0.2
 refine run_seq ?_
 refine run_reg (l := [0, 1, 2]) rfl ?_
 obtain ⟨b1, w1, r1, g1, T1⟩ := e_box (P := Tryd.prog) S0 32 (v := .agg (encPart p).toArray) (encPart p) rfl
 have S2 := T1
 dsimp only [lAa, lAn, lA0, lAs] at S2
 refine p_v (v := .pointer (some ⟨b1, 0, none⟩)) rfl rfl rfl (x_box rfl r1) ?_
 obtain ⟨b3, w3, r3, g3, T3⟩ := e_box (P := Tryd.prog) S2 74 (v := .agg (encSet s).toArray) (encSet s) rfl
 have S4 := T3
 dsimp only [lAa, lAn, lA0, lAs] at S4
 refine p_v (v := .pointer (some ⟨b3, 0, none⟩)) rfl rfl rfl (x_box rfl r3) ?_
 obtain ⟨b5, w5, r5, g5, T5⟩ := e_box (P := Tryd.prog) S4 32 (v := zv32) (encPart zPart) (by kernel_rfl)
 have S6 := T5
 dsimp only [lAa, lAn, lA0, lAs] at S6
 refine p_v (v := .pointer (some ⟨b5, 0, none⟩)) rfl rfl rfl (x_alloc ty32 r5) ?_
 refine run_region_end ?_
 refine run_seq ?_
 refine run_reg (l := [0]) rfl ?_
 obtain ⟨b7, w7, r7, g7, T7⟩ := e_box (P := Tryd.prog) S6 32 (v := zv32) (encPart zPart) (by kernel_rfl)
 have S8 := T7
 dsimp only [lAa, lAn, lA0, lAs] at S8
 refine p_v (v := .pointer (some ⟨b7, 0, none⟩)) rfl rfl rfl (x_alloc ty32 r7) ?_
 refine run_region_end ?_
 refine run_seq ?_
 refine run_reg (l := [0, 1]) rfl ?_
 obtain ⟨b9, w9, r9, g9, T9⟩ := e_makeMap (P := Tryd.prog) S8 211 (fun x : (Int × Bool) => Value.agg (encSide x).toArray) (fun x : Int => Value.int .u8 x)
 have S10 := T9
 dsimp only [lAa, lAn, lA0, lAs] at S10
 refine p_v (v := .map (some b9)) rfl rfl rfl (x_makeMap r9) ?_
 refine p_v (v := .map (some b9)) rfl rfl rfl (x_assign rfl) ?_
 refine run_region_end ?_
 refine run_seq ?_
 refine run_seq ?_
 refine run_reg (l := [0]) rfl ?_
 refine p_v (v := .int .i64 0) rfl rfl rfl (x_move rfl) ?_
 refine run_region_end ?_
 refine run_block ?_
 refine run_loop (S := PartM × (List ((Int × Bool) × Int)) × Int) (fun (q_ : PartM × (List ((Int × Bool) × Int)) × Int) ρ w' => match q_ with | (out, of, t12) => ∃ (h : Ghost), Le (fun _ => none) h ∧ St w.heap.size w h w' [box b1 32 (encPart p), box b3 74 (encSet s), box b5 32 (encPart zPart), box b7 32 (encPart out), amap (fun x : (Int × Bool) => Value.agg (encSide x).toArray) (fun x : Int => Value.int .u8 x) b9 of] ∧ ρ 2 = .pointer (some ⟨b1, 0, none⟩) ∧ ρ 3 = .pointer (some ⟨b3, 0, none⟩) ∧ ρ 4 = .pointer (some ⟨b5, 0, none⟩) ∧ ρ 5 = .pointer (some ⟨b7, 0, none⟩) ∧ ρ 6 = .map (some b9) ∧ ρ 12 = .int .i64 t12 ∧ okPart out ∧ inK .i64 t12 ∧ (0 ≤ t12 ∧ t12 ≤ 256 ∧ of = kvTo (sideOf p s) t12.toNat ∧ out.of = ofTo (sideOf p s) t12 ∧ out.n = ((reps (sideOf p s) t12.toNat).length : Int))) (fun q_ => match q_ with | (out, of, t12) => (256 - t12).toNat) (zPart, ([] : List ((Int × Bool) × Int)), 0) ⟨(fun _ => none), Le.refl _, S10.sub [0, 1, 2, 3, 4] (by decide) rfl _ rfl, rfl, rfl, rfl, rfl, rfl, rfl, (okPart_zero), (in_i64 (by first|omega|(simp;omega)|assumption) (by first|omega|(simp;omega)|assumption)), (by exact ⟨by omega, by omega, rfl, ofTo_0 _, rfl⟩)⟩ ?_
 rintro ⟨out, of, t12⟩ ih11 ρ11 w11 ⟨h11, le11, S11, r11_2, r11_3, r11_4, r11_5, r11_6, r11_12, f11_0, f11_1, hI11⟩
 have lf11_1 := i64_lo f11_1; have hf11_1 := i64_hi f11_1
 have hb_ := reps_le (sideOf p s) t12.toNat; have hN_ := hI11.2.2.2.2
 refine run_seq ?_
 refine run_reg (l := [0]) rfl ?_
 refine p_v (v := .bool (decide (t12 < 256))) rfl rfl rfl (x_lss r11_12 rfl) ?_
 refine run_region_end ?_
 refine run_seq ?_
 refine run_cond_prop (p := t12 < 256) rfl (fun hc12 => ?_) (fun hc12 => ?_)
 ·skip
  refine run_skip ?_
  refine run_seq ?_
  refine run_block ?_
  refine run_seq ?_
  refine run_reg (l := [0, 1]) rfl ?_
  refine p_v (v := .int .i64 t12) rfl rfl rfl (x_move r11_12) ?_
  refine p_v (v := .int .i64 t12) rfl rfl rfl (x_assign rfl) ?_
  refine run_region_end ?_
  refine run_seq ?_
  have in13 := okInts_at (o0).1 (i := t12) (by first|omega|(simp;omega)|assumption) (by first|omega|(simp;omega)|assumption)
  have lo13 := u8_lo in13; have hi13 := u8_hi in13
  have hf15 : (CFs ⟨b1, 0 + t12.toNat * 1, none⟩ [.int .u8 (at_ p.of t12)]).1 w11 := (CF.box (m := 1) (S11.box_at (j := 0) rfl) (cs := (encPart p)) (encPart_at o0 (by first|omega|(simp;omega)|assumption) (by first|omega|(simp;omega)|assumption)))
  have hf16 : (CFs ⟨b3, 0, none⟩ (encSet s)).1 w11 := (CF.box (m := 4) (S11.box_at (j := 1) rfl) rfl)
  refine daS (hkC 3 hf15 (hkC 4 hf16 (hkN (w := w11)))) 11 rfl mixed ?_
  intro wd17 gd17 hd17
  have S18 := S11.keep gd17
  have hf19 := spUp gd17 hf15
  have hf20 := spUp gd17 hf16
  refine qd0 (i := 0) (v := .int .i64 t12) rfl (by decide +kernel) rfl rfl (x_move rfl) (of_no rfl) ?_
  refine qd0 (i := 1) (v := .pointer (some ⟨b1, 0, none⟩)) rfl (by decide +kernel) rfl rfl (x_fieldAt fd32_0 ty30 rfl r11_2) (of_no rfl) ?_
  refine qd0 (i := 2) (v := .pointer (some ⟨b1, 0 + t12.toNat * 1, none⟩)) rfl (by decide +kernel) rfl rfl (x_indexAddr_arr u30 ty5 rfl rfl (by first|omega|(simp;omega)|assumption) (by first|omega|(simp;omega)|assumption)) (of_no rfl) ?_
  refine qd1 0 (i := 3) (v := .int .u8 (at_ p.of t12)) rfl rfl (by decide +kernel) rfl rfl (fun wq hq => (x_load (seg := [.int .u8 (at_ p.of t12)]) ty5 rfl (by simp) rfl hq)) (of_eq hf19 (of_no rfl)) ?_
  refine qd1 1 (i := 4) (v := .agg (encSet s).toArray) rfl rfl (by decide +kernel) rfl rfl (fun wq hq => (x_load (seg := (encSet s)) ty74 rfl (by simp) r11_3 hq)) (of_ne rfl (of_eq hf20 (of_no rfl))) ?_
  refine qd0 (i := 5) (v := .int .i64 t12) rfl (by decide +kernel) rfl rfl (x_move rfl) (of_no rfl) ?_
  refine qd0 (i := 6) (v := .int .u8 t12) rfl (by decide +kernel) rfl rfl (x_conv u3 u5 rfl (in_u8 (by first|omega|(simp;omega)|assumption) (by first|omega|(simp;omega)|assumption))) (of_no rfl) ?_
  refine d_m (i := 7) (v := .bool (has s t12)) (fun _ => True) (fun _ ho => trivial) rfl (by decide +kernel) (by decide +kernel) (by decide +kernel) rfl rfl (fun wq => (y_call (args := [.agg (encSet s).toArray, .int .u8 t12]) ca80 rfl rfl)) (fun wq hq => (has_calls wq s t12 (in_u8 (by first|omega|(simp;omega)|assumption) (by first|omega|(simp;omega)|assumption))).mono fun e w2 he => by obtain ⟨_, rfl, _, T, rfl⟩ := he; exact ⟨rfl, Chg.of_below T.below⟩) (of_no rfl) ?_
  refine qd0 (i := 8) (v := .agg (encSide ((at_ p.of t12, has s t12) : Int × Bool)).toArray) rfl (by decide +kernel) rfl rfl (y_build (pv := [(0, .int .u8 (at_ p.of t12)), (1, .bool (has s t12))]) rfl (run_build_struct pl213 ty213 rfl (cs := (encSide ((at_ p.of t12, has s t12) : Int × Bool))) rfl)) (of_no rfl) ?_
  refine ra_one (i := 9) (by decide +kernel) ?_
  intro wd21 gd21
  have S22 := S18.keep gd21
  have hf23 := spUp gd21 hf19
  have hf24 := spUp gd21 hf20
  obtain ⟨b25, w25, r25, g25, T25⟩ := e_box (P := Tryd.prog) S22 213 (v := (.agg #[.int .u8 0, .bool false])) (encSide ((0, false) : Int × Bool)) rfl
  have S26 := T25
  dsimp only [lAa, lAn, lA0, lAs] at S26
  have hf27 := spUp g25 hf23
  have hf28 := spUp g25 hf24
  refine d_v (v := .pointer (some ⟨b25, 0, none⟩)) rfl rfl rfl (x_alloc ty213 r25) (.inl g25) ?_
  refine ra_one (i := 10) (by decide +kernel) ?_
  intro wd29 gd29
  have S30 := S26.keep gd29
  have hf31 := spUp gd29 hf27
  have hf32 := spUp gd29 hf28
  obtain ⟨w33, r33, g33, T33⟩ := e_store (P := Tryd.prog) (off := 0) (v := .agg (encSide ((at_ p.of t12, has s t12) : Int × Bool)).toArray) (vs := (encSide ((at_ p.of t12, has s t12) : Int × Bool))) S30 ty213 rfl rfl (j := 5) rfl (by first | decide | exact Nat.le_of_ble_eq_true rfl) (encSide_one _)
  have S34 := T33.fx 5 (box b25 213 (encSide ((at_ p.of t12, has s t12) : Int × Bool))) rfl
  dsimp only [lAa, lAn, lA0, lAs] at S34
  have hf35 : (CFs ⟨b1, 0 + t12.toNat * 1, none⟩ [.int .u8 (at_ p.of t12)]).1 w33 := (CF.box (m := 1) (S34.box_at (j := 0) rfl) (cs := (encPart p)) (encPart_at o0 (by first|omega|(simp;omega)|assumption) (by first|omega|(simp;omega)|assumption)))
  have hf36 : (CFs ⟨b3, 0, none⟩ (encSet s)).1 w33 := (CF.box (m := 4) (S34.box_at (j := 1) rfl) rfl)
  refine d_s rfl rfl (x_store rfl rfl r33) (.inr (keep_w (by decide +kernel) (keep_w (by decide +kernel) trivial))) ?_
  refine ra_done (by decide +kernel) ?_
  intro wd37 gd37
  have S38 := S34.keep gd37
  refine run_seq ?_
  refine run_reg (l := [0, 1, 2, 3, 4, 5, 6, 7]) rfl ?_
  refine p_v (v := .map (some b9)) rfl rfl rfl (x_move r11_6) ?_
  refine p_v (v := .agg (encSide ((at_ p.of t12, has s t12) : Int × Bool)).toArray) rfl rfl rfl (x_load (seg := (encSide ((at_ p.of t12, has s t12) : Int × Bool))) ty213 rfl (by simp) rfl (CF.box (m := 2) (S38.box_at (j := 5) rfl) rfl)) ?_
  refine p_v (v := .tuple #[.int .u8 ((valAt ((at_ p.of t12, has s t12) : Int × Bool) of).getD 0), .bool ((valAt ((at_ p.of t12, has s t12) : Int × Bool) of).isSome)]) rfl rfl rfl (x_lookup rfl rfl (e_lookup_d key213 S38 (j := 4) rfl u211 (zero_cells ty5) 0 ((at_ p.of t12, has s t12) : Int × Bool))) ?_
  refine p_v (v := .tuple #[.int .u8 ((valAt ((at_ p.of t12, has s t12) : Int × Bool) of).getD 0), .bool ((valAt ((at_ p.of t12, has s t12) : Int × Bool) of).isSome)]) rfl rfl rfl (x_move rfl) ?_
  refine p_v (v := .int .u8 ((valAt ((at_ p.of t12, has s t12) : Int × Bool) of).getD 0)) rfl rfl rfl (x_extract (vs := [.int .u8 ((valAt ((at_ p.of t12, has s t12) : Int × Bool) of).getD 0), .bool ((valAt ((at_ p.of t12, has s t12) : Int × Bool) of).isSome)]) rfl rfl) ?_
  refine p_v (v := .bool ((valAt ((at_ p.of t12, has s t12) : Int × Bool) of).isSome)) rfl rfl rfl (x_extract (vs := [.int .u8 ((valAt ((at_ p.of t12, has s t12) : Int × Bool) of).getD 0), .bool ((valAt ((at_ p.of t12, has s t12) : Int × Bool) of).isSome)]) rfl rfl) ?_
  refine p_v (v := .int .u8 ((valAt ((at_ p.of t12, has s t12) : Int × Bool) of).getD 0)) rfl rfl rfl (x_assign rfl) ?_
  refine p_v (v := .bool ((valAt ((at_ p.of t12, has s t12) : Int × Bool) of).isSome)) rfl rfl rfl (x_assign rfl) ?_
  refine run_region_end ?_
  refine run_seq ?_
  refine run_seq ?_
  refine run_reg (l := [0, 1]) rfl ?_
  refine p_v (v := .bool ((valAt ((at_ p.of t12, has s t12) : Int × Bool) of).isSome)) rfl rfl rfl (x_move rfl) ?_
  refine p_v (v := .bool (!((valAt ((at_ p.of t12, has s t12) : Int × Bool) of).isSome))) rfl rfl rfl (x_not rfl) ?_
  refine run_region_end ?_
  refine run_cond_nsplit (b := (valAt ((at_ p.of t12, has s t12) : Int × Bool) of).isSome) rfl (fun hc39 => ?_) (fun hc39 => ?_)
  ·skip
   have hv_ := Option.isSome_eq_false_iff.1 hc39
   rw [Option.isNone_iff_eq_none, hI11.2.2.1, ← side_at p s hI11.1] at hv_
   have hw_ := kvTo_new hv_
   refine run_seq ?_
   refine run_reg (l := [0, 1, 2, 3]) rfl ?_
   refine p_v (v := .pointer (some ⟨b7, 256, none⟩)) rfl rfl rfl (x_fieldAt fd32_1 ty3 rfl r11_5) ?_
   have in40 := (f11_0).2
   have lo40 := i64_lo in40; have hi40 := i64_hi in40
   refine p_v (v := .int .i64 out.n) rfl rfl rfl (x_load (seg := [.int .i64 out.n]) ty3 rfl (by simp) rfl (CF.box (m := 1) (S38.box_at (j := 3) rfl) (encPart_n f11_0))) ?_
   refine p_v (v := .int .u8 out.n) rfl rfl rfl (x_conv u3 u5 rfl (in_u8 (by first|omega|(simp;omega)|assumption) (by first|omega|(simp;omega)|assumption))) ?_
   refine p_v (v := .int .u8 out.n) rfl rfl rfl (x_assign rfl) ?_
   refine run_region_end ?_
   refine run_seq ?_
   refine run_reg (l := [0, 1, 2, 3]) rfl ?_
   refine p_v (v := .map (some b9)) rfl rfl rfl (x_move r11_6) ?_
   refine p_v (v := .agg (encSide ((at_ p.of t12, has s t12) : Int × Bool)).toArray) rfl rfl rfl (x_load (seg := (encSide ((at_ p.of t12, has s t12) : Int × Bool))) ty213 rfl (by simp) rfl (CF.box (m := 2) (S38.box_at (j := 5) rfl) rfl)) ?_
   refine p_v (v := .int .u8 out.n) rfl rfl rfl (x_move rfl) ?_
   obtain ⟨w41, r41, g41, T41⟩ := e_mapUpdate key213 S38 (j := 4) rfl u211 ((at_ p.of t12, has s t12) : Int × Bool) out.n
   have S42 := T41.fx 4 (amap (fun x : (Int × Bool) => Value.agg (encSide x).toArray) (fun x : Int => Value.int .u8 x) b9 (putAt ((at_ p.of t12, has s t12) : Int × Bool) out.n of)) rfl
   dsimp only [lAa, lAn, lA0, lAs] at S42
   refine p_s rfl rfl (x_mapUpdate rfl rfl rfl r41) ?_
   refine run_region_end ?_
   refine run_reg (l := [0, 1, 2, 3, 4]) rfl ?_
   refine p_v (v := .pointer (some ⟨b7, 256, none⟩)) rfl rfl rfl (x_fieldAt fd32_1 ty3 rfl r11_5) ?_
   have in43 := (f11_0).2
   have lo43 := i64_lo in43; have hi43 := i64_hi in43
   refine p_v (v := .int .i64 out.n) rfl rfl rfl (x_load (seg := [.int .i64 out.n]) ty3 rfl (by simp) rfl (CF.box (m := 1) (S42.box_at (j := 3) rfl) (encPart_n f11_0))) ?_
   refine p_v (v := .int .i64 (out.n + 1)) rfl rfl rfl (x_add rfl rfl (in_i64 (by first|omega|(simp;omega)|assumption) (by first|omega|(simp;omega)|assumption))) ?_
   refine p_v (v := .pointer (some ⟨b7, 256, none⟩)) rfl rfl rfl (x_fieldAt fd32_1 ty3 rfl r11_5) ?_
   obtain ⟨w44, r44, g44, T44⟩ := e_store (P := Tryd.prog) (off := 256) (v := .int .i64 (out.n + 1)) (vs := [.int .i64 (out.n + 1)]) S42 ty3 rfl rfl (j := 3) rfl (by rw [encPart_len f11_0]; decide) (by simp [Value.oneCell'])
   rw [encPart_putN f11_0] at T44
   have ok44 : okPart (⟨out.of, out.n + 1⟩ : PartM) := okPart_putN f11_0 (in_i64 (by first|omega|(simp;omega)|assumption) (by first|omega|(simp;omega)|assumption))
   have S45 := T44.fx 3 (box b7 32 (encPart (⟨out.of, out.n + 1⟩ : PartM))) rfl
   dsimp only [lAa, lAn, lA0, lAs] at S45
   refine p_s rfl rfl (x_store rfl rfl r44) ?_
   refine run_region_end ?_
   refine run_reg (l := [0, 1, 2, 3, 4]) rfl ?_
   refine p_v (v := .int .i64 t12) rfl rfl rfl (x_move rfl) ?_
   refine p_v (v := .int .u8 out.n) rfl rfl rfl (x_move rfl) ?_
   refine p_v (v := .pointer (some ⟨b7, 0, none⟩)) rfl rfl rfl (x_fieldAt fd32_0 ty30 rfl r11_5) ?_
   refine p_v (v := .pointer (some ⟨b7, 0 + t12.toNat * 1, none⟩)) rfl rfl rfl (x_indexAddr_arr u30 ty5 rfl rfl (by first|omega|(simp;omega)|assumption) (by first|omega|(simp;omega)|assumption)) ?_
   obtain ⟨w46, r46, g46, T46⟩ := e_store (P := Tryd.prog) (off := 0 + t12.toNat * 1) (v := .int .u8 out.n) (vs := [.int .u8 out.n]) S45 ty5 rfl rfl (j := 3) rfl (by rw [encPart_len ok44]; first|omega|(simp;omega)|assumption) (by simp [Value.oneCell'])
   rw [encPart_put ok44 (by first|omega|(simp;omega)|assumption) (by first|omega|(simp;omega)|assumption)] at T46
   have ok46 : okPart (⟨(⟨out.of, out.n + 1⟩ : PartM).of.set t12.toNat out.n, (⟨out.of, out.n + 1⟩ : PartM).n⟩ : PartM) := okPart_put ok44 _ (in_u8 (by first|omega|(simp;omega)|assumption) (by first|omega|(simp;omega)|assumption))
   have S47 := T46.fx 3 (box b7 32 (encPart (⟨(⟨out.of, out.n + 1⟩ : PartM).of.set t12.toNat out.n, (⟨out.of, out.n + 1⟩ : PartM).n⟩ : PartM))) rfl
   dsimp only [lAa, lAn, lA0, lAs] at S47
   refine p_s rfl rfl (x_store rfl rfl r46) ?_
   refine run_region_end ?_
   refine run_inBlock ?_
   refine run_reg (l := [0, 1]) rfl ?_
   refine p_v (v := .int .i64 (t12 + 1)) rfl rfl rfl (x_add r11_12 rfl (in_i64 (by first|omega|(simp;omega)|assumption) (by first|omega|(simp;omega)|assumption))) ?_
   refine p_v (v := .int .i64 (t12 + 1)) rfl rfl rfl (x_move rfl) ?_
   refine run_region_end ?_
   refine ih11 ((⟨(⟨out.of, out.n + 1⟩ : PartM).of.set t12.toNat out.n, (⟨out.of, out.n + 1⟩ : PartM).n⟩ : PartM), putAt ((at_ p.of t12, has s t12) : Int × Bool) out.n of, t12 + 1) _ _ (by dsimp only; omega) ⟨h11, le11, S47.sub [0, 1, 2, 3, 4] (by decide) rfl _ rfl, r11_2, r11_3, r11_4, r11_5, r11_6, rfl, ok46, (in_i64 (by first|omega|(simp;omega)|assumption) (by first|omega|(simp;omega)|assumption)), (by first | exact ⟨by omega, by omega, by rw [hI11.2.2.1, show (t12 + 1).toNat = t12.toNat + 1 by omega, ho_.2.1], ofTo_step hI11.2.2.2.1 hI11.1 (by omega) hn_, by rw [show (t12 + 1).toNat = t12.toNat + 1 by omega, ho_.2.2]; exact hI11.2.2.2.2⟩ | exact ⟨by omega, by omega, by rw [show (t12 + 1).toNat = t12.toNat + 1 by omega, hw_.2.1, ← hI11.2.2.1, side_at p s hI11.1, ← hI11.2.2.2.2], ofTo_step hI11.2.2.2.1 hI11.1 (by omega) (by show out.n = _; rw [hI11.2.2.2.2]; exact hw_.1), by show out.n + 1 = _; rw [hI11.2.2.2.2, show (t12 + 1).toNat = t12.toNat + 1 by omega, hw_.2.2]; omega⟩)⟩
  ·skip
   obtain ⟨v_, hv_⟩ := Option.isSome_iff_exists.1 hc39
   have hn_ : (valAt (at_ p.of t12, has s t12) of).getD 0 = v_ := by rw [hv_]; rfl
   rw [hI11.2.2.1, ← side_at p s hI11.1] at hv_
   have ho_ := kvTo_old hv_
   rw [ho_.1] at hn_
   have hi_ := idx_le (sideOf p s) t12.toNat
   have hk_ : inK .u8 ((valAt (at_ p.of t12, has s t12) of).getD 0) := by rw [hn_]; exact in_u8 (by omega) (by omega)
   have hl_ := u8_lo hk_; have hh_ := u8_hi hk_
   refine run_skip ?_
   refine run_reg (l := [0, 1, 2, 3, 4]) rfl ?_
   refine p_v (v := .int .i64 t12) rfl rfl rfl (x_move rfl) ?_
   refine p_v (v := .int .u8 ((valAt ((at_ p.of t12, has s t12) : Int × Bool) of).getD 0)) rfl rfl rfl (x_move rfl) ?_
   refine p_v (v := .pointer (some ⟨b7, 0, none⟩)) rfl rfl rfl (x_fieldAt fd32_0 ty30 rfl r11_5) ?_
   refine p_v (v := .pointer (some ⟨b7, 0 + t12.toNat * 1, none⟩)) rfl rfl rfl (x_indexAddr_arr u30 ty5 rfl rfl (by first|omega|(simp;omega)|assumption) (by first|omega|(simp;omega)|assumption)) ?_
   obtain ⟨w48, r48, g48, T48⟩ := e_store (P := Tryd.prog) (off := 0 + t12.toNat * 1) (v := .int .u8 ((valAt ((at_ p.of t12, has s t12) : Int × Bool) of).getD 0)) (vs := [.int .u8 ((valAt ((at_ p.of t12, has s t12) : Int × Bool) of).getD 0)]) S38 ty5 rfl rfl (j := 3) rfl (by rw [encPart_len f11_0]; first|omega|(simp;omega)|assumption) (by simp [Value.oneCell'])
   rw [encPart_put f11_0 (by first|omega|(simp;omega)|assumption) (by first|omega|(simp;omega)|assumption)] at T48
   have ok48 : okPart (⟨out.of.set t12.toNat ((valAt ((at_ p.of t12, has s t12) : Int × Bool) of).getD 0), out.n⟩ : PartM) := okPart_put f11_0 _ (in_u8 (by first|omega|(simp;omega)|assumption) (by first|omega|(simp;omega)|assumption))
   have S49 := T48.fx 3 (box b7 32 (encPart (⟨out.of.set t12.toNat ((valAt ((at_ p.of t12, has s t12) : Int × Bool) of).getD 0), out.n⟩ : PartM))) rfl
   dsimp only [lAa, lAn, lA0, lAs] at S49
   refine p_s rfl rfl (x_store rfl rfl r48) ?_
   refine run_region_end ?_
   refine run_inBlock ?_
   refine run_reg (l := [0, 1]) rfl ?_
   refine p_v (v := .int .i64 (t12 + 1)) rfl rfl rfl (x_add r11_12 rfl (in_i64 (by first|omega|(simp;omega)|assumption) (by first|omega|(simp;omega)|assumption))) ?_
   refine p_v (v := .int .i64 (t12 + 1)) rfl rfl rfl (x_move rfl) ?_
   refine run_region_end ?_
   refine ih11 ((⟨out.of.set t12.toNat ((valAt ((at_ p.of t12, has s t12) : Int × Bool) of).getD 0), out.n⟩ : PartM), of, t12 + 1) _ _ (by dsimp only; omega) ⟨h11, le11, S49.sub [0, 1, 2, 3, 4] (by decide) rfl _ rfl, r11_2, r11_3, r11_4, r11_5, r11_6, rfl, ok48, (in_i64 (by first|omega|(simp;omega)|assumption) (by first|omega|(simp;omega)|assumption)), (by first | exact ⟨by omega, by omega, by rw [hI11.2.2.1, show (t12 + 1).toNat = t12.toNat + 1 by omega, ho_.2.1], ofTo_step hI11.2.2.2.1 hI11.1 (by omega) hn_, by rw [show (t12 + 1).toNat = t12.toNat + 1 by omega, ho_.2.2]; exact hI11.2.2.2.2⟩ | exact ⟨by omega, by omega, by rw [show (t12 + 1).toNat = t12.toNat + 1 by omega, hw_.2.1, ← hI11.2.2.1, side_at p s hI11.1, ← hI11.2.2.2.2], ofTo_step hI11.2.2.2.1 hI11.1 (by omega) (by show out.n = _; rw [hI11.2.2.2.2]; exact hw_.1), by show out.n + 1 = _; rw [hI11.2.2.2.2, show (t12 + 1).toNat = t12.toNat + 1 by omega, hw_.2.2]; omega⟩)⟩
 ·skip
  refine run_exit rfl ?_
  refine run_seq ?_
  refine run_reg (l := [0, 1]) rfl ?_
  refine p_v (v := .agg (encPart out).toArray) rfl rfl rfl (x_load (seg := (encPart out)) ty32 (encPart_len f11_0) (by simp) r11_5 (CF.box (m := 257) (S11.box_at (j := 3) rfl) (by rw [List.drop_zero, List.take_of_length_le (by rw [encPart_len f11_0]; exact Nat.le_refl _)]))) ?_
  obtain ⟨w50, r50, g50, T50⟩ := e_store (P := Tryd.prog) (off := 0) (v := .agg (encPart out).toArray) (vs := (encPart out)) S11 ty32 rfl (encPart_len f11_0) (j := 2) rfl (by rw [encPart_len (okPart_zero)]; decide) (encPart_one _)
  rw [lput_all (by rw [encPart_len f11_0, encPart_len (okPart_zero)])] at T50
  have S51 := T50.fx 2 (box b5 32 (encPart out)) rfl
  dsimp only [lAa, lAn, lA0, lAs] at S51
  refine p_s rfl rfl (x_store r11_4 rfl r50) ?_
  refine run_region_end ?_
  refine run_ret Tryd.func115 (res1 rfl (res_cell S51 ty32 r11_4 (j := 2) rfl (encPart_len f11_0) (by simp) rfl)) ?_
  have q0 : (splitP p s : PartM) = out := by
   exact split_end p s (by omega) hI11.2.2.2.1 hI11.2.2.2.2
  refine ⟨_, rfl, h11, ?_, ?_, ?_⟩
  · exact S51.sub [] (by decide) rfl _ rfl
  · first | rfl | (simp only [q0]; rfl) | (simp only [q0])
  · rw [q0]; first | assumption | exact okPart_zero
theorem right_calls (w : World) (p : PartM) (o0 : okPart p) :
    Calls Tryd.prog 26 #[.agg (encPart p).toArray] w fun e w' => ∃ v, e = .returned v ∧ ∃ (hn : Ghost), St w.heap.size w hn w' [] ∧ v = .bool (rightP p) := by
 refine calls_of_run Tryd.func26 rfl Tryd.ntmps26 rfl ?_
 have S0 := St.init w
 have ploo0 := i64_lo o0.2; have phio0 := i64_hi o0.2
 refine run_seq ?_
 refine run_reg (l := [0, 1]) rfl ?_
 obtain ⟨b1, w1, r1, g1, T1⟩ := e_box (P := Tryd.prog) S0 32 (v := .agg (encPart p).toArray) (encPart p) rfl
 have S2 := T1
 dsimp only [lAa, lAn, lA0, lAs] at S2
 refine p_v (v := .pointer (some ⟨b1, 0, none⟩)) rfl rfl rfl (x_box rfl r1) ?_
 refine p_v (v := .bool false) rfl rfl rfl (x_assign rfl) ?_
 refine run_region_end ?_
 refine run_seq ?_
 refine run_reg (l := [0]) rfl ?_
 refine p_v (v := .int .i64 0) rfl rfl rfl (x_assign rfl) ?_
 refine run_region_end ?_
 refine run_seq ?_
 refine run_seq ?_
 refine run_reg (l := [0, 1, 2]) rfl ?_
 refine p_v (v := .pointer (some ⟨b1, 0, none⟩)) rfl rfl rfl (x_fieldAt fd32_0 ty30 rfl rfl) ?_
 refine p_v (v := .agg (encInts .u8 p.of).toArray) rfl rfl rfl (x_load (seg := (encInts .u8 p.of)) ty30 (encInts_len (o0).1) (by simp) rfl (CF.box (m := 256) (S2.box_at (j := 0) rfl) (encPart_of o0))) ?_
 refine p_v (v := .int .i64 0) rfl rfl rfl (x_move rfl) ?_
 refine run_region_end ?_
 refine run_block ?_
 refine run_loop (S := Int × Int) (fun (q_ : Int × Int) ρ w' => match q_ with | (next, t8) => ∃ (h : Ghost), Le (fun _ => none) h ∧ St w.heap.size w h w' [box b1 32 (encPart p)] ∧ ρ 1 = .pointer (some ⟨b1, 0, none⟩) ∧ ρ 3 = .int .i64 next ∧ ρ 7 = .agg (encInts .u8 p.of).toArray ∧ ρ 8 = .int .i64 t8 ∧ inK .i64 next ∧ inK .i64 t8 ∧ (0 ≤ t8 ∧ t8 ≤ 256 ∧ 0 ≤ next ∧ next ≤ t8 ∧ nextOf (p.of.take t8.toNat) = some next)) (fun q_ => match q_ with | (next, t8) => (256 - t8).toNat) (0, 0) ⟨(fun _ => none), Le.refl _, S2.sub [0] (by decide) rfl _ rfl, rfl, rfl, rfl, rfl, (in_i64 (by first|omega|(simp;omega)|assumption) (by first|omega|(simp;omega)|assumption)), (in_i64 (by first|omega|(simp;omega)|assumption) (by first|omega|(simp;omega)|assumption)), (by exact ⟨by omega, by omega, by omega, by omega, rfl⟩)⟩ ?_
 rintro ⟨next, t8⟩ ih3 ρ3 w3 ⟨h3, le3, S3, r3_1, r3_3, r3_7, r3_8, f3_0, f3_1, hI3⟩
 have lf3_0 := i64_lo f3_0; have hf3_0 := i64_hi f3_0
 have lf3_1 := i64_lo f3_1; have hf3_1 := i64_hi f3_1
 have hlen_ := o0.1.1
 refine run_seq ?_
 refine run_reg (l := [0]) rfl ?_
 refine p_v (v := .bool (decide (t8 < 256))) rfl rfl rfl (x_lss r3_8 rfl) ?_
 refine run_region_end ?_
 refine run_seq ?_
 refine run_cond_prop (p := t8 < 256) rfl (fun hc4 => ?_) (fun hc4 => ?_)
 ·skip
  refine run_skip ?_
  refine run_seq ?_
  refine run_block ?_
  refine run_seq ?_
  refine run_reg (l := [0, 1]) rfl ?_
  have in5 := okInts_at (o0).1 (i := t8) (by first|omega|(simp;omega)|assumption) (by first|omega|(simp;omega)|assumption)
  have lo5 := u8_lo in5; have hi5 := u8_hi in5
  refine p_v (v := .int .u8 (at_ p.of t8)) rfl rfl rfl (x_index_arr (cs := (encInts .u8 p.of)) u30 ty5 r3_7 r3_8 (by first|omega|(simp;omega)|assumption) (by first|omega|(simp;omega)|assumption) (encInts_get (o0).1 (by first|omega|(simp;omega)|assumption) (by first|omega|(simp;omega)|assumption))) ?_
  refine p_v (v := .int .u8 (at_ p.of t8)) rfl rfl rfl (x_assign rfl) ?_
  refine run_region_end ?_
  refine run_seq ?_
  refine run_seq ?_
  refine run_reg (l := [0, 1, 2, 3]) rfl ?_
  refine p_v (v := .int .u8 (at_ p.of t8)) rfl rfl rfl (x_move rfl) ?_
  refine p_v (v := .int .i64 (at_ p.of t8)) rfl rfl rfl (x_conv u5 u3 rfl (in_i64 (by first|omega|(simp;omega)|assumption) (by first|omega|(simp;omega)|assumption))) ?_
  refine p_v (v := .int .i64 next) rfl rfl rfl (x_move r3_3) ?_
  refine p_v (v := .bool (decide (next < (at_ p.of t8)))) rfl rfl rfl (x_gtr rfl rfl) ?_
  refine run_region_end ?_
  refine run_cond_prop (p := next < (at_ p.of t8)) rfl (fun hc6 => ?_) (fun hc6 => ?_)
  ·skip
   refine run_seq ?_
   refine run_reg (l := [0]) rfl ?_
   refine p_v (v := .bool false) rfl rfl rfl (x_assign rfl) ?_
   refine run_region_end ?_
   refine run_ret Tryd.func26 (res1 rfl (res_tmp (v := .bool false) rfl)) ?_
   have q0 : (rightP p : Bool) = false := by
    exact right_no p hI3.1 (by omega) hI3.2.2.2.2 (by omega)
   refine ⟨_, rfl, h3, ?_, ?_⟩
   · exact S3.sub [] (by decide) rfl _ rfl
   · first | rfl | (simp only [q0]; rfl) | (simp only [q0])
  ·skip
   refine run_skip ?_
   refine run_seq ?_
   refine run_reg (l := [0, 1, 2, 3]) rfl ?_
   refine p_v (v := .int .u8 (at_ p.of t8)) rfl rfl rfl (x_move rfl) ?_
   refine p_v (v := .int .i64 (at_ p.of t8)) rfl rfl rfl (x_conv u5 u3 rfl (in_i64 (by first|omega|(simp;omega)|assumption) (by first|omega|(simp;omega)|assumption))) ?_
   refine p_v (v := .int .i64 next) rfl rfl rfl (x_move r3_3) ?_
   refine p_v (v := .bool (decide ((at_ p.of t8) = next))) rfl rfl rfl (x_eql rfl rfl) ?_
   refine run_region_end ?_
   refine run_cond_prop (p := (at_ p.of t8) = next) rfl (fun hc7 => ?_) (fun hc7 => ?_)
   ·skip
    refine run_reg (l := [0, 1, 2]) rfl ?_
    refine p_v (v := .int .i64 next) rfl rfl rfl (x_move r3_3) ?_
    refine p_v (v := .int .i64 (next + 1)) rfl rfl rfl (x_add rfl rfl (in_i64 (by first|omega|(simp;omega)|assumption) (by first|omega|(simp;omega)|assumption))) ?_
    refine p_v (v := .int .i64 (next + 1)) rfl rfl rfl (x_assign rfl) ?_
    refine run_region_end ?_
    refine run_inBlock ?_
    refine run_reg (l := [0, 1]) rfl ?_
    refine p_v (v := .int .i64 (t8 + 1)) rfl rfl rfl (x_add r3_8 rfl (in_i64 (by first|omega|(simp;omega)|assumption) (by first|omega|(simp;omega)|assumption))) ?_
    refine p_v (v := .int .i64 (t8 + 1)) rfl rfl rfl (x_move rfl) ?_
    refine run_region_end ?_
    refine ih3 (next + 1, t8 + 1) _ _ (by dsimp only; omega) ⟨h3, le3, S3.sub [0] (by decide) rfl _ rfl, r3_1, rfl, r3_7, rfl, (in_i64 (by first|omega|(simp;omega)|assumption) (by first|omega|(simp;omega)|assumption)), (in_i64 (by first|omega|(simp;omega)|assumption) (by first|omega|(simp;omega)|assumption)), (by exact ⟨by omega, by omega, by omega, by omega, by rw [take_next p.of hI3.1 (by omega), next_app, hI3.2.2.2.2]; first | (simp only []; rw [if_neg (by omega), if_pos (by omega)]) | (simp only []; rw [if_neg (by omega), if_neg (by omega)])⟩)⟩
   ·skip
    refine run_skip ?_
    refine run_inBlock ?_
    refine run_reg (l := [0, 1]) rfl ?_
    refine p_v (v := .int .i64 (t8 + 1)) rfl rfl rfl (x_add r3_8 rfl (in_i64 (by first|omega|(simp;omega)|assumption) (by first|omega|(simp;omega)|assumption))) ?_
    refine p_v (v := .int .i64 (t8 + 1)) rfl rfl rfl (x_move rfl) ?_
    refine run_region_end ?_
    refine ih3 (next, t8 + 1) _ _ (by dsimp only; omega) ⟨h3, le3, S3.sub [0] (by decide) rfl _ rfl, r3_1, r3_3, r3_7, rfl, f3_0, (in_i64 (by first|omega|(simp;omega)|assumption) (by first|omega|(simp;omega)|assumption)), (by exact ⟨by omega, by omega, by omega, by omega, by rw [take_next p.of hI3.1 (by omega), next_app, hI3.2.2.2.2]; first | (simp only []; rw [if_neg (by omega), if_pos (by omega)]) | (simp only []; rw [if_neg (by omega), if_neg (by omega)])⟩)⟩
 ·skip
  refine run_exit rfl ?_
  refine run_seq ?_
  refine run_reg (l := [0, 1, 2, 3, 4]) rfl ?_
  refine p_v (v := .int .i64 next) rfl rfl rfl (x_move r3_3) ?_
  refine p_v (v := .pointer (some ⟨b1, 256, none⟩)) rfl rfl rfl (x_fieldAt fd32_1 ty3 rfl r3_1) ?_
  have in8 := (o0).2
  have lo8 := i64_lo in8; have hi8 := i64_hi in8
  refine p_v (v := .int .i64 p.n) rfl rfl rfl (x_load (seg := [.int .i64 p.n]) ty3 rfl (by simp) rfl (CF.box (m := 1) (S3.box_at (j := 0) rfl) (encPart_n o0))) ?_
  refine p_v (v := .bool (decide (next = p.n))) rfl rfl rfl (x_eql rfl rfl) ?_
  refine p_v (v := .bool (decide (next = p.n))) rfl rfl rfl (x_assign rfl) ?_
  refine run_region_end ?_
  refine run_ret Tryd.func26 (res1 rfl (res_tmp (v := .bool (decide (next = p.n))) rfl)) ?_
  have q0 : (rightP p : Bool) = decide (next = p.n) := by
   exact right_yes p (by omega) hI3.2.2.2.2
  refine ⟨_, rfl, h3, ?_, ?_⟩
  · exact S3.sub [] (by decide) rfl _ rfl
  · first | rfl | (simp only [q0]; rfl) | (simp only [q0])
theorem refine_calls (w : World) (sets : List BSet) (A0 : Option Addr) (c0 : Nat) (b0 : sets.length ≤ c0 ∧ c0 ≤ maxLen) (l0 : Leads kSet (hp w) A0 sets) :
    Calls Tryd.prog 49 #[.slice A0 sets.length c0] w fun e w' => ∃ v, e = .returned v ∧ ∃ (hn : Ghost), St w.heap.size w hn w' [] ∧ v = .agg (encPart (refineP sets)).toArray ∧ okPart (refineP sets) := by
 refine calls_of_run Tryd.func49 rfl Tryd.ntmps49 rfl ?_
 have S0 := St.init w
 have bb0 := b0.1; have bc0 := b0.2; simp only [maxLen] at bc0
 refine run_seq ?_
 refine run_reg (l := [0]) rfl ?_
 obtain ⟨b1, w1, r1, g1, T1⟩ := e_box (P := Tryd.prog) S0 32 (v := zv32) (encPart zPart) (by kernel_rfl)
 have S2 := T1
 dsimp only [lAa, lAn, lA0, lAs] at S2
 refine p_v (v := .pointer (some ⟨b1, 0, none⟩)) rfl rfl rfl (x_alloc ty32 r1) ?_
 refine run_region_end ?_
 refine run_seq ?_
 refine run_reg (l := [0, 1, 2]) rfl ?_
 refine p_v (v := .agg (encPart (⟨(List.replicate 256 (0 : Int)), 1⟩ : PartM)).toArray) rfl rfl rfl (y_build (pv := [(1, .int .i64 1)]) rfl (run_build_struct pl32 ty32 rfl (cs := (encPart (⟨(List.replicate 256 (0 : Int)), 1⟩ : PartM))) (by kernel_rfl))) ?_
 obtain ⟨b3, w3, r3, g3, T3⟩ := e_box (P := Tryd.prog) S2 32 (v := zv32) (encPart zPart) (by kernel_rfl)
 have S4 := T3
 dsimp only [lAa, lAn, lA0, lAs] at S4
 refine p_v (v := .pointer (some ⟨b3, 0, none⟩)) rfl rfl rfl (x_alloc ty32 r3) ?_
 obtain ⟨w5, r5, g5, T5⟩ := e_store (P := Tryd.prog) (off := 0) (v := .agg (encPart (⟨(List.replicate 256 (0 : Int)), 1⟩ : PartM)).toArray) (vs := (encPart (⟨(List.replicate 256 (0 : Int)), 1⟩ : PartM))) S4 ty32 rfl (encPart_len okPart_one) (j := 1) rfl (by rw [encPart_len (okPart_zero)]; decide) (encPart_one _)
 rw [lput_all (by rw [encPart_len okPart_one, encPart_len (okPart_zero)])] at T5
 have S6 := T5.fx 1 (box b3 32 (encPart (⟨(List.replicate 256 (0 : Int)), 1⟩ : PartM))) rfl
 dsimp only [lAa, lAn, lA0, lAs] at S6
 refine p_s rfl rfl (x_store rfl rfl r5) ?_
 refine run_region_end ?_
 refine run_seq ?_
 refine run_seq ?_
 refine run_reg (l := [0, 1, 2]) rfl ?_
 refine p_v (v := .slice A0 sets.length c0) rfl rfl rfl (x_move rfl) ?_
 refine p_v (v := .int .i64 (sets.length : Int)) rfl rfl rfl (x_len_slice u62 rfl) ?_
 refine p_v (v := .int .i64 0) rfl rfl rfl (x_move rfl) ?_
 refine run_region_end ?_
 refine run_block ?_
 refine run_loop (S := PartM × Int) (fun (q_ : PartM × Int) ρ w' => match q_ with | (p, t9) => ∃ (h : Ghost), Le (fun _ => none) h ∧ St w.heap.size w h w' [box b1 32 (encPart zPart), box b3 32 (encPart p)] ∧ ρ 2 = .pointer (some ⟨b1, 0, none⟩) ∧ ρ 3 = .pointer (some ⟨b3, 0, none⟩) ∧ ρ 7 = .slice A0 sets.length c0 ∧ ρ 8 = .int .i64 (sets.length : Int) ∧ ρ 9 = .int .i64 t9 ∧ okPart p ∧ inK .i64 t9 ∧ (0 ≤ t9 ∧ t9 ≤ (sets.length : Int) ∧ p = refineP (sets.take t9.toNat))) (fun q_ => match q_ with | (p, t9) => (sets.length - t9).toNat) ((⟨(List.replicate 256 (0 : Int)), 1⟩ : PartM), 0) ⟨(fun _ => none), Le.refl _, S6.sub [0, 1] (by decide) rfl _ rfl, rfl, rfl, rfl, rfl, rfl, okPart_one, (in_i64 (by first|omega|(simp;omega)|assumption) (by first|omega|(simp;omega)|assumption)), (by exact ⟨by omega, by omega, refine_0 _⟩)⟩ ?_
 rintro ⟨p, t9⟩ ih7 ρ7 w7 ⟨h7, le7, S7, r7_2, r7_3, r7_7, r7_8, r7_9, f7_0, f7_1, hI7⟩
 have lf7_1 := i64_lo f7_1; have hf7_1 := i64_hi f7_1
 refine run_seq ?_
 refine run_reg (l := [0]) rfl ?_
 refine p_v (v := .bool (decide (t9 < (sets.length : Int)))) rfl rfl rfl (x_lss r7_9 r7_8) ?_
 refine run_region_end ?_
 refine run_seq ?_
 refine run_cond_prop (p := t9 < (sets.length : Int)) rfl (fun hc8 => ?_) (fun hc8 => ?_)
 ·skip
  refine run_skip ?_
  refine run_seq ?_
  refine run_block ?_
  refine run_seq ?_
  refine run_reg (l := [0, 1, 2, 3]) rfl ?_
  obtain ⟨ad9, seg9, a9, rp9, ce9⟩ := e_index_ro (q := t9) (m := 4) l0 rfl (by first|omega|(simp;omega)|assumption) (by first|omega|(simp;omega)|assumption)
  refine p_v (v := .pointer (some ad9)) rfl rfl rfl (x_index_ro u62 ty74 r7_7 r7_9 a9 (by first|omega|(simp;omega)|assumption) (by first|omega|(simp;omega)|assumption)) ?_
  obtain ⟨rfl, ok9⟩ := rp9
  refine p_v (v := .agg (encSet (at_ sets t9)).toArray) rfl rfl rfl (x_load (seg := (encSet (at_ sets t9))) ty74 rfl (by simp) rfl (CF.ghost ce9 (St.le0 S7))) ?_
  obtain ⟨b10, w10, r10, g10, T10⟩ := e_box (P := Tryd.prog) S7 74 (v := (.agg #[.int .u64 0, .int .u64 0, .int .u64 0, .int .u64 0])) (encSet (0 : BSet)) rfl
  have S11 := T10
  dsimp only [lAa, lAn, lA0, lAs] at S11
  refine p_v (v := .pointer (some ⟨b10, 0, none⟩)) rfl rfl rfl (x_alloc ty74 r10) ?_
  obtain ⟨w12, r12, g12, T12⟩ := e_store (P := Tryd.prog) (off := 0) (v := .agg (encSet (at_ sets t9)).toArray) (vs := (encSet (at_ sets t9))) S11 ty74 rfl rfl (j := 2) rfl (by first | decide | exact Nat.le_of_ble_eq_true rfl) (encSet_one _)
  have S13 := T12.fx 2 (box b10 74 (encSet (at_ sets t9))) rfl
  dsimp only [lAa, lAn, lA0, lAs] at S13
  refine p_s rfl rfl (x_store rfl rfl r12) ?_
  refine run_region_end ?_
  refine run_reg (l := [0, 1, 2, 3]) rfl ?_
  refine p_v (v := .agg (encPart p).toArray) rfl rfl rfl (x_load (seg := (encPart p)) ty32 (encPart_len f7_0) (by simp) r7_3 (CF.box (m := 257) (S13.box_at (j := 1) rfl) (by rw [List.drop_zero, List.take_of_length_le (by rw [encPart_len f7_0]; exact Nat.le_refl _)]))) ?_
  refine p_v (v := .agg (encSet (at_ sets t9)).toArray) rfl rfl rfl (x_load (seg := (encSet (at_ sets t9))) ty74 rfl (by simp) rfl (CF.box (m := 4) (S13.box_at (j := 2) rfl) rfl)) ?_
  refine p_c rfl rfl rfl (y_call (args := [.agg (encPart p).toArray, .agg (encSet (at_ sets t9)).toArray]) ca115 rfl rfl) (split_calls w12 p f7_0 (at_ sets t9)) ?_
  rintro _ w14 ⟨h14, T14, rfl, ok14_0⟩
  have S15 := S13.keep (Chg.of_below T14.below)
  obtain ⟨w16, r16, g16, T16⟩ := e_store (P := Tryd.prog) (off := 0) (v := .agg (encPart (splitP p (at_ sets t9))).toArray) (vs := (encPart (splitP p (at_ sets t9)))) S15 ty32 rfl (encPart_len ok14_0) (j := 1) rfl (by rw [encPart_len f7_0]; decide) (encPart_one _)
  rw [lput_all (by rw [encPart_len ok14_0, encPart_len f7_0])] at T16
  have S17 := T16.fx 1 (box b3 32 (encPart (splitP p (at_ sets t9)))) rfl
  dsimp only [lAa, lAn, lA0, lAs] at S17
  refine p_s rfl rfl (x_store r7_3 rfl r16) ?_
  refine run_region_end ?_
  refine run_inBlock ?_
  refine run_reg (l := [0, 1]) rfl ?_
  refine p_v (v := .int .i64 (t9 + 1)) rfl rfl rfl (x_add r7_9 rfl (in_i64 (by first|omega|(simp;omega)|assumption) (by first|omega|(simp;omega)|assumption))) ?_
  refine p_v (v := .int .i64 (t9 + 1)) rfl rfl rfl (x_move rfl) ?_
  refine run_region_end ?_
  refine ih7 (splitP p (at_ sets t9), t9 + 1) _ _ (by dsimp only; omega) ⟨h7, le7, S17.sub [0, 1] (by decide) rfl _ rfl, r7_2, r7_3, r7_7, r7_8, rfl, ok14_0, (in_i64 (by first|omega|(simp;omega)|assumption) (by first|omega|(simp;omega)|assumption)), (by exact ⟨by omega, by omega, refine_step sets hI7.1 (by omega) hI7.2.2⟩)⟩
 ·skip
  refine run_exit rfl ?_
  refine run_seq ?_
  refine run_reg (l := [0, 1]) rfl ?_
  refine p_v (v := .agg (encPart p).toArray) rfl rfl rfl (x_load (seg := (encPart p)) ty32 (encPart_len f7_0) (by simp) r7_3 (CF.box (m := 257) (S7.box_at (j := 1) rfl) (by rw [List.drop_zero, List.take_of_length_le (by rw [encPart_len f7_0]; exact Nat.le_refl _)]))) ?_
  obtain ⟨w18, r18, g18, T18⟩ := e_store (P := Tryd.prog) (off := 0) (v := .agg (encPart p).toArray) (vs := (encPart p)) S7 ty32 rfl (encPart_len f7_0) (j := 0) rfl (by rw [encPart_len (okPart_zero)]; decide) (encPart_one _)
  rw [lput_all (by rw [encPart_len f7_0, encPart_len (okPart_zero)])] at T18
  have S19 := T18.fx 0 (box b1 32 (encPart p)) rfl
  dsimp only [lAa, lAn, lA0, lAs] at S19
  refine p_s rfl rfl (x_store r7_2 rfl r18) ?_
  refine run_region_end ?_
  refine run_ret Tryd.func49 (res1 rfl (res_cell S19 ty32 r7_2 (j := 0) rfl (encPart_len f7_0) (by simp) rfl)) ?_
  have q0 : (refineP sets : PartM) = p := by
   exact refine_end sets (by omega) hI7.2.2
  refine ⟨_, rfl, h7, ?_, ?_, ?_⟩
  · exact S19.sub [] (by decide) rfl _ rfl
  · first | rfl | (simp only [q0]; rfl) | (simp only [q0])
  · rw [q0]; first | assumption | exact okPart_zero
theorem sets_calls (w : World) (p : PartM) (o0 : okPart p) :
    Calls Tryd.prog 134 #[.agg (encPart p).toArray] w fun e w' => ∃ v, e = .returned v ∧ ∃ (hn : Ghost) (r0 : Value), St w.heap.size w hn w' [row 74 kSet r0 (setsP p)] ∧ v = r0 := by
 refine calls_of_run Tryd.func134 rfl Tryd.ntmps134 rfl ?_
 have S0 := St.init w
 have ploo0 := i64_lo o0.2; have phio0 := i64_hi o0.2
 refine run_seq ?_
 refine run_reg (l := [0, 1]) rfl ?_
 obtain ⟨b1, w1, r1, g1, T1⟩ := e_box (P := Tryd.prog) S0 32 (v := .agg (encPart p).toArray) (encPart p) rfl
 have S2 := T1
 dsimp only [lAa, lAn, lA0, lAs] at S2
 refine p_v (v := .pointer (some ⟨b1, 0, none⟩)) rfl rfl rfl (x_box rfl r1) ?_
 refine p_v (v := .slice none 0 0) rfl rfl rfl (x_assign rfl) ?_
 refine run_region_end ?_
 refine run_seq ?_
 refine run_reg (l := [0, 1, 2, 3, 4, 5]) rfl ?_
 refine p_v (v := .pointer (some ⟨b1, 256, none⟩)) rfl rfl rfl (x_fieldAt fd32_1 ty3 rfl rfl) ?_
 have in3 := (o0).2
 have lo3 := i64_lo in3; have hi3 := i64_hi in3
 refine p_v (v := .int .i64 p.n) rfl rfl rfl (x_load (seg := [.int .i64 p.n]) ty3 rfl (by simp) rfl (CF.box (m := 1) (S2.box_at (j := 0) rfl) (encPart_n o0))) ?_
 refine p_v (v := .int .i64 (max p.n 0)) rfl rfl rfl (x_max rfl rfl) ?_
 refine p_v (v := .int .i64 (min (max p.n 0) 256)) rfl rfl rfl (x_min rfl rfl) ?_
 obtain ⟨v4, w4, r4, g4, T4⟩ := e_make (kk := .i64) (kk' := .i64) (kd := kSet) (q := min (max p.n 0) 256) (z := (0 : BSet)) (zc := (encSet (0 : BSet))) S2 u62 ty74 rfl rfl ⟨rfl, trivial⟩ (by first|omega|(simp;omega)|assumption) (by first|omega|(simp;omega)|assumption) (by first|omega|(simp;omega)|assumption)
 have S5 := T4
 dsimp only [lAa, lAn, lA0, lAs] at S5
 refine p_v (v := v4) rfl rfl rfl (x_make rfl rfl r4) ?_
 refine p_v (v := v4) rfl rfl rfl (x_assign rfl) ?_
 refine run_region_end ?_
 refine run_seq ?_
 refine run_seq ?_
 refine run_reg (l := [0, 1, 2]) rfl ?_
 refine p_v (v := .pointer (some ⟨b1, 0, none⟩)) rfl rfl rfl (x_fieldAt fd32_0 ty30 rfl rfl) ?_
 refine p_v (v := .agg (encInts .u8 p.of).toArray) rfl rfl rfl (x_load (seg := (encInts .u8 p.of)) ty30 (encInts_len (o0).1) (by simp) rfl (CF.box (m := 256) (S5.box_at (j := 0) rfl) (encPart_of o0))) ?_
 refine p_v (v := .int .i64 0) rfl rfl rfl (x_move rfl) ?_
 refine run_region_end ?_
 refine run_block ?_
 refine run_loop (S := (List BSet) × Int) (fun (q_ : (List BSet) × Int) ρ w' => match q_ with | (out, t13) => ∃ (h : Ghost) (v_out : Value), Le (fun _ => none) h ∧ St w.heap.size w h w' [row 74 kSet v_out out] ∧ ρ 3 = v_out ∧ ρ 12 = .agg (encInts .u8 p.of).toArray ∧ ρ 13 = .int .i64 t13 ∧ inK .i64 t13 ∧ (0 ≤ t13 ∧ t13 ≤ 256 ∧ out = setsTo p t13)) (fun q_ => match q_ with | (out, t13) => (256 - t13).toNat) (List.replicate (min (max p.n 0) 256).toNat (0 : BSet), 0) ⟨(fun _ => none), v4, Le.refl _, S5.sub [1] (by decide) rfl _ rfl, rfl, rfl, rfl, (in_i64 (by first|omega|(simp;omega)|assumption) (by first|omega|(simp;omega)|assumption)), (by exact ⟨by omega, by omega, setsTo_0 p⟩)⟩ ?_
 rintro ⟨out, t13⟩ ih6 ρ6 w6 ⟨h6, v_out, le6, S6, r6_3, r6_12, r6_13, f6_0, hI6⟩
 have lf6_0 := i64_lo f6_0; have hf6_0 := i64_hi f6_0
 have rl6_0 := S6.row_le (j := 0) rfl; simp only [maxLen] at rl6_0
 have hlen_ : (out.length : Int) = min (max p.n 0) 256 := by rw [hI6.2.2]; exact setsTo_len p t13
 refine run_seq ?_
 refine run_reg (l := [0]) rfl ?_
 refine p_v (v := .bool (decide (t13 < 256))) rfl rfl rfl (x_lss r6_13 rfl) ?_
 refine run_region_end ?_
 refine run_seq ?_
 refine run_cond_prop (p := t13 < 256) rfl (fun hc7 => ?_) (fun hc7 => ?_)
 ·skip
  refine run_skip ?_
  refine run_seq ?_
  refine run_block ?_
  refine run_seq ?_
  refine run_reg (l := [0, 1, 2, 3]) rfl ?_
  refine p_v (v := .int .i64 t13) rfl rfl rfl (x_move r6_13) ?_
  have in8 := okInts_at (o0).1 (i := t13) (by first|omega|(simp;omega)|assumption) (by first|omega|(simp;omega)|assumption)
  have lo8 := u8_lo in8; have hi8 := u8_hi in8
  refine p_v (v := .int .u8 (at_ p.of t13)) rfl rfl rfl (x_index_arr (cs := (encInts .u8 p.of)) u30 ty5 r6_12 r6_13 (by first|omega|(simp;omega)|assumption) (by first|omega|(simp;omega)|assumption) (encInts_get (o0).1 (by first|omega|(simp;omega)|assumption) (by first|omega|(simp;omega)|assumption))) ?_
  refine p_v (v := .int .i64 t13) rfl rfl rfl (x_assign rfl) ?_
  refine p_v (v := .int .u8 (at_ p.of t13)) rfl rfl rfl (x_assign rfl) ?_
  refine run_region_end ?_
  refine run_seq ?_
  refine run_reg (l := [0, 1, 2, 3, 4]) rfl ?_
  refine p_v (v := .int .u8 (at_ p.of t13)) rfl rfl rfl (x_move rfl) ?_
  refine p_v (v := .int .i64 (at_ p.of t13)) rfl rfl rfl (x_conv u5 u3 rfl (in_i64 (by first|omega|(simp;omega)|assumption) (by first|omega|(simp;omega)|assumption))) ?_
  refine p_v (v := v_out) rfl rfl rfl (x_move r6_3) ?_
  have lb9 := S6.row_le (j := 0) rfl; simp only [maxLen] at lb9
  refine p_v (v := .int .i64 (out.length : Int)) rfl rfl rfl (x_len_own u62 rfl (e_len_own S6 (j := 0) rfl)) ?_
  refine p_v (v := .bool (decide ((at_ p.of t13) < (out.length : Int)))) rfl rfl rfl (x_lss rfl rfl) ?_
  refine run_region_end ?_
  refine run_cond_prop (p := (at_ p.of t13) < (out.length : Int)) rfl (fun hc10 => ?_) (fun hc10 => ?_)
  ·skip
   obtain ⟨ad11, a11, at11⟩ := e_index_own (q := at_ p.of t13) (m := 4) S6 (j := 0) rfl rfl (by first|omega|(simp;omega)|assumption) (by first|omega|(simp;omega)|assumption)
   obtain ⟨seg12, rp12, cf12⟩ := e_load_own (q := at_ p.of t13) S6 (j := 0) rfl rfl at11 (by first|omega|(simp;omega)|assumption) (by first|omega|(simp;omega)|assumption)
   obtain ⟨rfl, ok12⟩ := rp12
   have hf13 : (CFs ad11 (encSet (at_ out (at_ p.of t13)))).1 w6 := cf12
   refine daS (hkC 5 hf13 (hkN (w := w6))) 13 rfl mixed ?_
   intro wd14 gd14 hd14
   have S15 := S6.keep gd14
   have hf16 := spUp gd14 hf13
   refine qd0 (i := 0) (v := v_out) rfl (by decide +kernel) rfl rfl (x_move r6_3) (of_no rfl) ?_
   refine qd0 (i := 1) (v := .int .u8 (at_ p.of t13)) rfl (by decide +kernel) rfl rfl (x_move rfl) (of_no rfl) ?_
   refine qd0 (i := 2) (v := v_out) rfl (by decide +kernel) rfl rfl (x_move r6_3) (of_no rfl) ?_
   refine qd0 (i := 3) (v := .int .u8 (at_ p.of t13)) rfl (by decide +kernel) rfl rfl (x_move rfl) (of_no rfl) ?_
   refine qd0 (i := 4) (v := .pointer (some ad11)) rfl (by decide +kernel) rfl rfl (x_index_own u62 ty74 rfl rfl a11 (by first|omega|(simp;omega)|assumption) (by first|omega|(simp;omega)|assumption)) (of_no rfl) ?_
   refine qd1 0 (i := 5) (v := .agg (encSet (at_ out (at_ p.of t13))).toArray) rfl rfl (by decide +kernel) rfl rfl (fun wq hq => (x_load (seg := (encSet (at_ out (at_ p.of t13)))) ty74 rfl (by simp) rfl hq)) (of_eq hf16 (of_nil _ _)) ?_
   refine qd0 (i := 6) (v := .int .i64 t13) rfl (by decide +kernel) rfl rfl (x_move rfl) (of_no rfl) ?_
   refine qd0 (i := 7) (v := .int .u8 t13) rfl (by decide +kernel) rfl rfl (x_conv u3 u5 rfl (in_u8 (by first|omega|(simp;omega)|assumption) (by first|omega|(simp;omega)|assumption))) (of_no rfl) ?_
   refine ra_one (i := 8) (by decide +kernel) ?_
   intro wd17 gd17
   have S18 := S15.keep gd17
   have hf19 := spUp gd17 hf16
   obtain ⟨v20, w20, r20, g20, T20⟩ := e_build_ones (kd := (Kd.int .u8)) (xs := ([t13] : List Int)) (len := 1) [.int .u8 t13] S18 u39 ty5 rfl rfl rfl rfl rfl (ones_cons rfl ones_nil) [.int .u8 t13] (Elems.single (k := (Kd.int .u8)) (h := h6) (x := t13) (cs := [.int .u8 t13]) ⟨rfl, (in_u8 (by first|omega|(simp;omega)|assumption) (by first|omega|(simp;omega)|assumption))⟩) rfl
   have S21 := T20
   dsimp only [lAa, lAn, lA0, lAs] at S21
   have hf22 := spUp g20 hf19
   refine d_v (v := v20) rfl rfl rfl (y_build_slice (pv := [(0, .int .u8 t13)]) rfl r20) (.inl g20) ?_
   refine ra_one (i := 9) (by decide +kernel) ?_
   intro wd23 gd23
   have S24 := S21.keep gd23
   have hf25 := spUp gd23 hf22
   obtain ⟨A26, c26, ev26, lc26, cm26⟩ := S24.row_val (j := 1) rfl
   refine d_c rfl rfl rfl (y_call (args := [.slice A26 ([t13] : List Int).length c26]) ca64 rfl (cons_eq ev26 rfl)) (of_calls wd23 ([t13] : List Int) A26 c26 (And.intro lc26 cm26) (row_leads_eq S24 (j := 1) rfl ev26)) ?_
   rintro _ w27 ⟨h27, T27, rfl⟩
   have S28 := S24.keep (Chg.of_below T27.below)
   have hf29 := spUp (Chg.of_below T27.below) hf25
   refine ⟨.inl (Chg.of_below T27.below), ?_⟩
   obtain ⟨ad31, a31, at31⟩ := e_index_own (q := at_ p.of t13) (m := 4) S28 (j := 0) rfl rfl (by first|omega|(simp;omega)|assumption) (by first|omega|(simp;omega)|assumption)
   refine d_m (i := 10) (v := .agg (encSet ((at_ out (at_ p.of t13)) ||| (setOf ([t13] : List Int)))).toArray) (fun _ => True) (fun _ ho => trivial) rfl (by decide +kernel) (by decide +kernel) (by decide +kernel) rfl rfl (fun wq => (y_call (args := [.agg (encSet (at_ out (at_ p.of t13))).toArray, .agg (encSet (setOf ([t13] : List Int))).toArray]) ca162 rfl rfl)) (fun wq hq => (or_calls wq (at_ out (at_ p.of t13)) (setOf ([t13] : List Int))).mono fun e w2 he => by obtain ⟨_, rfl, _, T, rfl⟩ := he; exact ⟨rfl, Chg.of_below T.below⟩) (of_no rfl) ?_
   refine qd0 (i := 11) (v := .pointer (some ad31)) rfl (by decide +kernel) rfl rfl (x_index_own u62 ty74 rfl rfl a31 (by first|omega|(simp;omega)|assumption) (by first|omega|(simp;omega)|assumption)) (of_no rfl) ?_
   refine ra_one (i := 12) (by decide +kernel) ?_
   intro wd32 gd32
   have S33 := S28.keep gd32
   have hf34 := spUp gd32 hf29
   obtain ⟨w35, r35, g35, T35⟩ := e_store_own (u := .agg (encSet ((at_ out (at_ p.of t13)) ||| (setOf ([t13] : List Int)))).toArray) (q := at_ p.of t13) ((at_ out (at_ p.of t13)) ||| (setOf ([t13] : List Int))) (vs := (encSet ((at_ out (at_ p.of t13)) ||| (setOf ([t13] : List Int))))) S33 ty74 rfl (j := 0) rfl rfl ⟨rfl, trivial⟩ at31 (by first|omega|(simp;omega)|assumption) (by first|omega|(simp;omega)|assumption)
   have S36 := T35.fx 0 (row 74 kSet v_out (out.set (at_ p.of t13).toNat ((at_ out (at_ p.of t13)) ||| (setOf ([t13] : List Int))))) rfl
   dsimp only [lAa, lAn, lA0, lAs] at S36
   refine d_s rfl rfl (x_store rfl rfl r35) (.inr (keep_w (by decide +kernel) trivial)) ?_
   refine ra_done (by decide +kernel) ?_
   intro wd37 gd37
   have S38 := S36.keep gd37
   refine run_inBlock ?_
   refine run_reg (l := [0, 1]) rfl ?_
   refine p_v (v := .int .i64 (t13 + 1)) rfl rfl rfl (x_add r6_13 rfl (in_i64 (by first|omega|(simp;omega)|assumption) (by first|omega|(simp;omega)|assumption))) ?_
   refine p_v (v := .int .i64 (t13 + 1)) rfl rfl rfl (x_move rfl) ?_
   refine run_region_end ?_
   refine ih6 (out.set (at_ p.of t13).toNat ((at_ out (at_ p.of t13)) ||| (setOf ([t13] : List Int))), t13 + 1) _ _ (by dsimp only; omega) ⟨h6, v_out, le6, S38.sub [0] (by decide) rfl _ rfl, r6_3, r6_12, rfl, (in_i64 (by first|omega|(simp;omega)|assumption) (by first|omega|(simp;omega)|assumption)), (by first | exact ⟨by omega, by omega, by rw [hI6.2.2]; exact setsTo_in p hI6.1 (by omega) (by omega) (by omega)⟩ | exact ⟨by omega, by omega, by rw [hI6.2.2]; exact setsTo_out p hI6.1 (by omega) (by omega)⟩)⟩
  ·skip
   refine run_skip ?_
   refine run_inBlock ?_
   refine run_reg (l := [0, 1]) rfl ?_
   refine p_v (v := .int .i64 (t13 + 1)) rfl rfl rfl (x_add r6_13 rfl (in_i64 (by first|omega|(simp;omega)|assumption) (by first|omega|(simp;omega)|assumption))) ?_
   refine p_v (v := .int .i64 (t13 + 1)) rfl rfl rfl (x_move rfl) ?_
   refine run_region_end ?_
   refine ih6 (out, t13 + 1) _ _ (by dsimp only; omega) ⟨h6, v_out, le6, S6.sub [0] (by decide) rfl _ rfl, r6_3, r6_12, rfl, (in_i64 (by first|omega|(simp;omega)|assumption) (by first|omega|(simp;omega)|assumption)), (by first | exact ⟨by omega, by omega, by rw [hI6.2.2]; exact setsTo_in p hI6.1 (by omega) (by omega) (by omega)⟩ | exact ⟨by omega, by omega, by rw [hI6.2.2]; exact setsTo_out p hI6.1 (by omega) (by omega)⟩)⟩
 ·skip
  refine run_exit rfl ?_
  refine run_seq ?_
  refine run_reg (l := [0, 1]) rfl ?_
  refine p_v (v := v_out) rfl rfl rfl (x_move r6_3) ?_
  refine p_v (v := v_out) rfl rfl rfl (x_assign rfl) ?_
  refine run_region_end ?_
  refine run_ret Tryd.func134 (res1 rfl (res_tmp (v := v_out) rfl)) ?_
  have q0 : (setsP p : List BSet) = out := by
   rw [hI6.2.2, show t13 = 256 by omega]; exact setsTo_end p
  refine ⟨_, rfl, h6, v_out, ?_, ?_⟩
  · rw [q0]; exact S6.sub [0] (by decide) rfl _ rfl
  · first | rfl | (simp only [q0]; rfl) | (simp only [q0])
theorem clone_calls (w : World) (s : List Int) (A0 : Option Addr) (c0 : Nat) (b0 : s.length ≤ c0 ∧ c0 ≤ maxLen) (l0 : Leads (Kd.int .u8) (hp w) A0 s) (pre0 : s.length ≤ 1000000) :
    Calls Tryd.prog 135 #[.slice A0 s.length c0] w fun e w' => ∃ v, e = .returned v ∧ ∃ (hn : Ghost) (r0 : Value), St w.heap.size w hn w' [row 5 (Kd.int .u8) r0 s] ∧ v = r0 := by
 refine calls_of_run Tryd.func135 rfl Tryd.ntmps135 rfl ?_
 have S0 := St.init w
 have bb0 := b0.1; have bc0 := b0.2; simp only [maxLen] at bc0
 refine run_seq ?_
 refine run_reg (l := [0]) rfl ?_
 refine p_v (v := .slice none 0 0) rfl rfl rfl (x_assign rfl) ?_
 refine run_region_end ?_
 refine run_seq ?_
 refine run_seq ?_
 refine run_reg (l := [0, 1]) rfl ?_
 refine p_v (v := .slice A0 s.length c0) rfl rfl rfl (x_move rfl) ?_
 refine p_v (v := .bool A0.isNone) rfl rfl rfl (x_eql_nil u39 rfl rfl) ?_
 refine run_region_end ?_
 refine run_cond_split (b := A0.isNone) rfl (fun hc1 => ?_) (fun hc1 => ?_)
 ·skip
  have hnil := leads_isNone l0 hc1
  refine run_seq ?_
  refine run_reg (l := [0]) rfl ?_
  refine p_v (v := .slice none 0 0) rfl rfl rfl (x_assign rfl) ?_
  refine run_region_end ?_
  have T2 := S0.row_nil 5 (Kd.int .u8)
  have S3 := T2
  dsimp only [lAa, lAn, lA0, lAs] at S3
  refine run_ret Tryd.func135 (res1 rfl (res_tmp (v := .slice none 0 0) rfl)) ?_
  have q0 : (s : List Int) = ([] : List Int) := by
   exact hnil
  refine ⟨_, rfl, (fun _ => none), (.slice none 0 0), ?_, ?_⟩
  · rw [q0]; exact S3.sub [0] (by decide) rfl _ rfl
  · first | rfl | (simp only [q0]; rfl) | (simp only [q0])
 ·skip
  refine run_skip ?_
  refine run_seq ?_
  refine run_reg (l := [0, 1, 2, 3]) rfl ?_
  obtain ⟨v4, w4, r4, g4, T4⟩ := e_build_ones (kd := (Kd.int .u8)) (xs := ([] : List Int)) (len := 0) [] S0 u39 ty5 rfl rfl rfl rfl rfl ones_nil [] (Elems.nil _ _) rfl
  have S5 := T4
  dsimp only [lAa, lAn, lA0, lAs] at S5
  refine p_v (v := v4) rfl rfl rfl (y_build_slice (pv := []) rfl r4) ?_
  refine p_v (v := .slice A0 s.length c0) rfl rfl rfl (x_move rfl) ?_
  obtain ⟨v7, w7, r7, g7, T7⟩ := e_append (kd := (Kd.int .u8)) (A := A0) (c := c0) (ys := s) (len := s.length) 39 S5 u39 ty5 rfl rfl (j := 0) rfl rfl (news_flat (l0.mono (St.le0 S5)) (fun _ _ hr => hr)) (by first|omega|(simp;omega)|assumption) (by first|omega|(simp;omega)|assumption)
  have S8 := T7.fx 0 (row 5 (Kd.int .u8) v7 (([] : List Int) ++ s)) rfl
  dsimp only [lAa, lAn, lA0, lAs] at S8
  refine p_v (v := v7) rfl rfl rfl (x_append rfl rfl r7) ?_
  refine p_v (v := v7) rfl rfl rfl (x_assign rfl) ?_
  refine run_region_end ?_
  refine run_ret Tryd.func135 (res1 rfl (res_tmp (v := v7) rfl)) ?_
  have q0 : (s : List Int) = ([] : List Int) ++ s := by
   rfl
  refine ⟨_, rfl, (fun _ => none), v7, ?_, ?_⟩
  · rw [q0]; exact S8.sub [0] (by decide) rfl _ rfl
  · first | rfl | (simp only [q0]; rfl) | (simp only [q0])
theorem least_calls (w : World) (p : PartM) (o0 : okPart p) (k : Int) (i1 : inK .i64 k) (tb : Block 0 tzTab w) :
    Calls Tryd.prog 86 #[.agg (encPart p).toArray, .int .i64 k] w fun e w' => ∃ v, e = .returned v ∧ ∃ (hn : Ghost) (r0 : Value), St w.heap.size w hn w' [row 39 (Kd.int .u8).slice r0 (leastP p k)] ∧ v = r0 := by
 refine calls_of_run Tryd.func86 rfl Tryd.ntmps86 rfl ?_
 have S0 := St.init w
 have ploo0 := i64_lo o0.2; have phio0 := i64_hi o0.2
 have lo1 := i64_lo i1; have hi1 := i64_hi i1
 refine run_seq ?_
 refine run_reg (l := [0, 1]) rfl ?_
 obtain ⟨b1, w1, r1, g1, T1⟩ := e_box (P := Tryd.prog) S0 32 (v := .agg (encPart p).toArray) (encPart p) rfl
 have S2 := T1
 dsimp only [lAa, lAn, lA0, lAs] at S2
 refine p_v (v := .pointer (some ⟨b1, 0, none⟩)) rfl rfl rfl (x_box rfl r1) ?_
 refine p_v (v := .slice none 0 0) rfl rfl rfl (x_assign rfl) ?_
 refine run_region_end ?_
 refine run_seq ?_
 refine run_reg (l := [0]) rfl ?_
 refine p_v (v := .slice none 0 0) rfl rfl rfl (x_assign rfl) ?_
 refine run_region_end ?_
 refine run_seq ?_
 refine run_seq ?_
 refine run_reg (l := [0, 1, 2, 3]) rfl ?_
 refine p_v (v := .agg (encPart p).toArray) rfl rfl rfl (x_load (seg := (encPart p)) ty32 (encPart_len o0) (by simp) rfl (CF.box (m := 257) (S2.box_at (j := 0) rfl) (by rw [List.drop_zero, List.take_of_length_le (by rw [encPart_len o0]; exact Nat.le_refl _)]))) ?_
 refine p_c rfl rfl rfl (y_call (args := [.agg (encPart p).toArray]) ca134 rfl rfl) (sets_calls w1 p o0) ?_
 rintro v3_0 w3 ⟨h3, _, T3, rfl⟩
 obtain ⟨k3, lk3, ll3, U3⟩ := call_joins S2 T3
 have S4 := U3
 dsimp only [lAa, lAn, lA0, lAs] at S4
 obtain ⟨h5, le5, T5, rp5⟩ := S4.freeze (i := 1) rfl
 have lf5_0 := (lk3).trans le5
 have S6 := T5.fx 1 (emp) rfl
 dsimp only [lAa, lAn, lA0, lAs] at S6
 obtain ⟨A5, c5, e5, lc5, cm5, ld5⟩ := rp5
 injection e5 with e5 _; subst e5
 have cn5 := cm5; simp only [maxLen] at cn5
 refine p_v (v := .int .i64 ((setsP p).length : Int)) rfl rfl rfl (x_len_slice u62 rfl) ?_
 refine p_v (v := .int .i64 0) rfl rfl rfl (x_move rfl) ?_
 refine run_region_end ?_
 refine run_block ?_
 have T7 := S6.row_nil 39 (Kd.int .u8).slice
 obtain ⟨vn7, ev7, T7⟩ : ∃ v, v = (.slice none 0 0 : Value) ∧ St w.heap.size w h5 w3 ([box b1 32 (encPart p), emp] ++ [row 39 (Kd.int .u8).slice v []]) := ⟨_, rfl, T7⟩
 have S8 := T7
 dsimp only [lAa, lAn, lA0, lAs] at S8
 refine run_loop (S := (List (List Int)) × Int) (fun (q_ : (List (List Int)) × Int) ρ w' => match q_ with | (out, t12) => ∃ (h : Ghost) (v_out : Value), Le h5 h ∧ St w.heap.size w h w' [row 39 (Kd.int .u8).slice v_out out] ∧ ρ 1 = .int .i64 k ∧ ρ 5 = v_out ∧ ρ 10 = .slice A5 (setsP p).length c5 ∧ ρ 11 = .int .i64 ((setsP p).length : Int) ∧ ρ 12 = .int .i64 t12 ∧ inK .i64 t12 ∧ (0 ≤ t12 ∧ t12 ≤ ((setsP p).length : Int) ∧ out = leastTo p k t12)) (fun q_ => match q_ with | (out, t12) => ((setsP p).length - t12).toNat) (([] : List (List Int)), 0) ⟨h5, vn7, Le.refl _, S8.sub [2] (by decide) rfl _ rfl, rfl, (ev7.symm), rfl, rfl, rfl, (in_i64 (by first|omega|(simp;omega)|assumption) (by first|omega|(simp;omega)|assumption)), (by exact ⟨by omega, by omega, rfl⟩)⟩ ?_
 rintro ⟨out, t12⟩ ih9 ρ9 w9 ⟨h9, v_out, le9, S9, r9_1, r9_5, r9_10, r9_11, r9_12, f9_0, hI9⟩
 have lf9_0 := i64_lo f9_0; have hf9_0 := i64_hi f9_0
 have rl9_0 := S9.row_le (j := 0) rfl; simp only [maxLen] at rl9_0
 have hlen_ : (out.length : Int) ≤ 256 := by rw [hI9.2.2]; exact leastTo_len p k t12
 refine run_seq ?_
 refine run_reg (l := [0]) rfl ?_
 refine p_v (v := .bool (decide (t12 < ((setsP p).length : Int)))) rfl rfl rfl (x_lss r9_12 r9_11) ?_
 refine run_region_end ?_
 refine run_seq ?_
 refine run_cond_prop (p := t12 < ((setsP p).length : Int)) rfl (fun hc10 => ?_) (fun hc10 => ?_)
 ·skip
  refine run_skip ?_
  refine run_seq ?_
  refine run_block ?_
  refine run_seq ?_
  refine run_reg (l := [0, 1, 2, 3]) rfl ?_
  obtain ⟨ad11, seg11, a11, rp11, ce11⟩ := e_index_ro (q := t12) (m := 4) ld5 rfl (by first|omega|(simp;omega)|assumption) (by first|omega|(simp;omega)|assumption)
  refine p_v (v := .pointer (some ad11)) rfl rfl rfl (x_index_ro u62 ty74 r9_10 r9_12 a11 (by first|omega|(simp;omega)|assumption) (by first|omega|(simp;omega)|assumption)) ?_
  obtain ⟨rfl, ok11⟩ := rp11
  refine p_v (v := .agg (encSet (at_ (setsP p) t12)).toArray) rfl rfl rfl (x_load (seg := (encSet (at_ (setsP p) t12))) ty74 rfl (by simp) rfl (CF.ghost ce11 (le9.trans S9.ghost))) ?_
  obtain ⟨b12, w12, r12, g12, T12⟩ := e_box (P := Tryd.prog) S9 74 (v := (.agg #[.int .u64 0, .int .u64 0, .int .u64 0, .int .u64 0])) (encSet (0 : BSet)) rfl
  have S13 := T12
  dsimp only [lAa, lAn, lA0, lAs] at S13
  refine p_v (v := .pointer (some ⟨b12, 0, none⟩)) rfl rfl rfl (x_alloc ty74 r12) ?_
  obtain ⟨w14, r14, g14, T14⟩ := e_store (P := Tryd.prog) (off := 0) (v := .agg (encSet (at_ (setsP p) t12)).toArray) (vs := (encSet (at_ (setsP p) t12))) S13 ty74 rfl rfl (j := 1) rfl (by first | decide | exact Nat.le_of_ble_eq_true rfl) (encSet_one _)
  have S15 := T14.fx 1 (box b12 74 (encSet (at_ (setsP p) t12))) rfl
  dsimp only [lAa, lAn, lA0, lAs] at S15
  refine p_s rfl rfl (x_store rfl rfl r14) ?_
  refine run_region_end ?_
  refine run_seq ?_
  refine run_reg (l := [0, 1, 2]) rfl ?_
  refine p_v (v := .agg (encSet (at_ (setsP p) t12)).toArray) rfl rfl rfl (x_load (seg := (encSet (at_ (setsP p) t12))) ty74 rfl (by simp) rfl (CF.box (m := 4) (S15.box_at (j := 1) rfl) rfl)) ?_
  refine p_c rfl rfl rfl (y_call (args := [.agg (encSet (at_ (setsP p) t12)).toArray]) ca130 rfl rfl) (list_calls w14 (at_ (setsP p) t12) (Block.st S15 tb)) ?_
  rintro v16_0 w16 ⟨h16, _, T16, rfl⟩
  obtain ⟨k16, lk16, ll16, U16⟩ := call_joins S15 T16
  have lc16_0 := (((lf5_0).trans le9)).trans lk16
  have lc16_1 := (((le5).trans le9)).trans lk16
  have lc16_2 := (le9).trans lk16
  have S17 := U16
  dsimp only [lAa, lAn, lA0, lAs] at S17
  refine p_v (v := v16_0) rfl rfl rfl (x_assign rfl) ?_
  refine run_region_end ?_
  refine run_reg (l := [0, 1, 2, 3, 4, 5, 6, 7, 8, 9, 10, 11]) rfl ?_
  refine p_v (v := v_out) rfl rfl rfl (x_move r9_5) ?_
  refine p_v (v := v16_0) rfl rfl rfl (x_move rfl) ?_
  refine p_v (v := .int .i64 k) rfl rfl rfl (x_move r9_1) ?_
  refine p_v (v := .int .i64 (max k 0)) rfl rfl rfl (x_max rfl rfl) ?_
  refine p_v (v := v16_0) rfl rfl rfl (x_move rfl) ?_
  have lb18 := S17.row_le (j := 2) rfl; simp only [maxLen] at lb18
  refine p_v (v := .int .i64 ((listOf (at_ (setsP p) t12)).length : Int)) rfl rfl rfl (x_len_own u39 rfl (e_len_own S17 (j := 2) rfl)) ?_
  refine p_v (v := .int .i64 (min (max k 0) ((listOf (at_ (setsP p) t12)).length : Int))) rfl rfl rfl (x_min rfl rfl) ?_
  obtain ⟨v19, r19, T19⟩ := e_slice_hi (q := min (max k 0) ((listOf (at_ (setsP p) t12)).length : Int)) (kk := .i64) S17 u39 ty5 (j := 2) rfl (by first|omega|(simp;omega)|assumption) (by first|omega|(simp;omega)|assumption)
  have S20 := T19.fx 2 (row 5 (Kd.int .u8) v19 ((listOf (at_ (setsP p) t12)).take (min (max k 0) ((listOf (at_ (setsP p) t12)).length : Int)).toNat)) rfl
  dsimp only [lAa, lAn, lA0, lAs] at S20
  refine p_v (v := v19) rfl rfl rfl (x_slice (lv := none) (hv := some (.int .i64 (min (max k 0) ((listOf (at_ (setsP p) t12)).length : Int)))) rfl rfl rfl r19) ?_
  obtain ⟨A21, c21, ev21, lc21, cm21⟩ := S20.row_val (j := 2) rfl
  refine p_c rfl rfl rfl (y_call (args := [.slice A21 ((listOf (at_ (setsP p) t12)).take (min (max k 0) ((listOf (at_ (setsP p) t12)).length : Int)).toNat).length c21]) ca135 rfl (cons_eq ev21 rfl)) (clone_calls w16 ((listOf (at_ (setsP p) t12)).take (min (max k 0) ((listOf (at_ (setsP p) t12)).length : Int)).toNat) A21 c21 (And.intro lc21 cm21) (row_leads_eq S20 (j := 2) rfl ev21) (by first | omega | exact least_small _ _)) ?_
  rintro v22_0 w22 ⟨h22, _, T22, rfl⟩
  obtain ⟨k22, lk22, ll22, U22⟩ := call_joins S20 T22
  have lc22_0 := (lc16_0).trans lk22
  have lc22_1 := (lc16_1).trans lk22
  have lc22_2 := (lc16_2).trans lk22
  have lc22_3 := (lk16).trans lk22
  have S23 := U22
  dsimp only [lAa, lAn, lA0, lAs] at S23
  obtain ⟨h25, le25, T25, rp25⟩ := S23.freeze (i := 3) rfl
  have lf25_0 := (lc22_0).trans le25
  have lf25_1 := (lc22_1).trans le25
  have lf25_2 := (lc22_2).trans le25
  have lf25_3 := (lc22_3).trans le25
  have lf25_4 := (lk22).trans le25
  have S26 := T25.fx 3 (emp) rfl
  dsimp only [lAa, lAn, lA0, lAs] at S26
  obtain ⟨A25, c25, e25, lc25, cm25, ld25⟩ := rp25
  injection e25 with e25 _; subst e25
  have cn25 := cm25; simp only [maxLen] at cn25
  obtain ⟨v24, w24, r24, g24, T24⟩ := e_build_ones (kd := (Kd.int .u8).slice) (xs := ([((listOf (at_ (setsP p) t12)).take (min (max k 0) ((listOf (at_ (setsP p) t12)).length : Int)).toNat)] : List (List Int))) (len := 1) [.slice A25 ((listOf (at_ (setsP p) t12)).take (min (max k 0) ((listOf (at_ (setsP p) t12)).length : Int)).toNat).length c25] S26 u124 ty39 rfl rfl rfl rfl rfl (ones_cons rfl ones_nil) [.slice A25 ((listOf (at_ (setsP p) t12)).take (min (max k 0) ((listOf (at_ (setsP p) t12)).length : Int)).toNat).length c25] (Elems.single (k := (Kd.int .u8).slice) (h := h25) (x := ((listOf (at_ (setsP p) t12)).take (min (max k 0) ((listOf (at_ (setsP p) t12)).length : Int)).toNat)) (cs := [.slice A25 ((listOf (at_ (setsP p) t12)).take (min (max k 0) ((listOf (at_ (setsP p) t12)).length : Int)).toNat).length c25]) ⟨_, _, rfl, (And.intro lc25 cm25).1, (And.intro lc25 cm25).2, ld25.mono (Le.refl _)⟩) rfl
  have S27 := T24
  dsimp only [lAa, lAn, lA0, lAs] at S27
  refine p_v (v := v24) rfl rfl rfl (y_build_slice (pv := [(0, .slice A25 ((listOf (at_ (setsP p) t12)).take (min (max k 0) ((listOf (at_ (setsP p) t12)).length : Int)).toNat).length c25)]) rfl r24) ?_
  obtain ⟨A29, c29, ev29, lc29, cm29⟩ := S27.row_val (j := 4) rfl
  obtain ⟨v30, w30, r30, g30, T30⟩ := e_append (kd := (Kd.int .u8).slice) (A := A29) (c := c29) (ys := ([((listOf (at_ (setsP p) t12)).take (min (max k 0) ((listOf (at_ (setsP p) t12)).length : Int)).toNat)] : List (List Int))) (len := ([((listOf (at_ (setsP p) t12)).take (min (max k 0) ((listOf (at_ (setsP p) t12)).length : Int)).toNat)] : List (List Int)).length) 124 S27 u124 ty39 rfl rfl (j := 0) rfl rfl (news_own S27 (j := 4) rfl ev29) (by first|omega|(simp;omega)|assumption) (by first|omega|(simp;omega)|assumption)
  have S31 := T30.fx 0 (row 39 (Kd.int .u8).slice v30 (out ++ ([((listOf (at_ (setsP p) t12)).take (min (max k 0) ((listOf (at_ (setsP p) t12)).length : Int)).toNat)] : List (List Int)))) rfl
  dsimp only [lAa, lAn, lA0, lAs] at S31
  refine p_v (v := v30) rfl rfl rfl (x_append rfl ev29 r30) ?_
  refine p_v (v := v30) rfl rfl rfl (x_assign rfl) ?_
  refine run_region_end ?_
  refine run_inBlock ?_
  refine run_reg (l := [0, 1]) rfl ?_
  refine p_v (v := .int .i64 (t12 + 1)) rfl rfl rfl (x_add r9_12 rfl (in_i64 (by first|omega|(simp;omega)|assumption) (by first|omega|(simp;omega)|assumption))) ?_
  refine p_v (v := .int .i64 (t12 + 1)) rfl rfl rfl (x_move rfl) ?_
  refine run_region_end ?_
  refine ih9 (out ++ ([((listOf (at_ (setsP p) t12)).take (min (max k 0) ((listOf (at_ (setsP p) t12)).length : Int)).toNat)] : List (List Int)), t12 + 1) _ _ (by dsimp only; omega) ⟨h25, v30, lf25_2, S31.sub [0] (by decide) rfl _ rfl, r9_1, rfl, r9_10, r9_11, rfl, (in_i64 (by first|omega|(simp;omega)|assumption) (by first|omega|(simp;omega)|assumption)), (by exact ⟨by omega, by omega, by rw [hI9.2.2]; exact leastTo_step p k hI9.1 (by omega)⟩)⟩
 ·skip
  refine run_exit rfl ?_
  refine run_seq ?_
  refine run_reg (l := [0, 1]) rfl ?_
  refine p_v (v := v_out) rfl rfl rfl (x_move r9_5) ?_
  refine p_v (v := v_out) rfl rfl rfl (x_assign rfl) ?_
  refine run_region_end ?_
  refine run_ret Tryd.func86 (res1 rfl (res_tmp (v := v_out) rfl)) ?_
  have q0 : (leastP p k : List (List Int)) = out := by
   rw [hI9.2.2]; exact leastTo_end p k (by omega)
  refine ⟨_, rfl, h9, v_out, ?_, ?_⟩
  · rw [q0]; exact S9.sub [0] (by decide) rfl _ rfl
  · first | rfl | (simp only [q0]; rfl) | (simp only [q0])
end Go.Proofs.YtfoemogojbnfhaaDoor
namespace Go.Proofs.YtfoemogojbnfhaaDoor
open Go Go.RowKit Gx
set_option maxHeartbeats 1000000
set_option linter.unusedVariables false
set_option linter.unusedSimpArgs false
set_option maxRecDepth 8000
attribute [local irreducible] listOf count first someIn has setOf wbits Lib.ctz partOf refineP setsP leastP rightP splitsP splitP
theorem cut_calls (w : World) (x : BSet) (p1 : BSet) (a1 : Addr) (pc1 : ∀ j v, (encSet p1)[j]? = some v → gcell (hp w) (a1.add j) = some v) :
    Calls Tryd.prog 136 #[.agg (encSet x).toArray, .pointer (some a1)] w fun e w' => ∃ v, e = .returned v ∧ ∃ (hn : Ghost), St w.heap.size w hn w' [] ∧ v = .bool (cuts x p1) := by
 refine calls_of_run Tryd.func136 rfl Tryd.ntmps136 rfl ?_
 have S0 := St.init w
 refine run_seq ?_
 refine run_reg (l := [0, 1]) rfl ?_
 obtain ⟨b1, w1, r1, g1, T1⟩ := e_box (P := Tryd.prog) S0 74 (v := .agg (encSet x).toArray) (encSet x) rfl
 have S2 := T1
 dsimp only [lAa, lAn, lA0, lAs] at S2
 refine p_v (v := .pointer (some ⟨b1, 0, none⟩)) rfl rfl rfl (x_box rfl r1) ?_
 refine p_v (v := .bool false) rfl rfl rfl (x_assign rfl) ?_
 refine run_region_end ?_
 refine run_seq ?_
 refine run_reg (l := [0, 1, 2, 3, 4]) rfl ?_
 refine p_v (v := .agg (encSet x).toArray) rfl rfl rfl (x_load (seg := (encSet x)) ty74 rfl (by simp) rfl (CF.box (m := 4) (S2.box_at (j := 0) rfl) rfl)) ?_
 refine p_v (v := .agg (encSet p1).toArray) rfl rfl rfl (x_load (seg := (encSet p1)) ty74 rfl (by simp) rfl (CF.ghost pc1 (St.le0 S2))) ?_
 refine p_c rfl rfl rfl (y_call (args := [.agg (encSet x).toArray, .agg (encSet p1).toArray]) ca137 rfl rfl) (and_calls w1 x p1) ?_
 rintro _ w3 ⟨h3, T3, rfl⟩
 have S4 := S2.keep (Chg.of_below T3.below)
 obtain ⟨b5, w5, r5, g5, T5⟩ := e_box (P := Tryd.prog) S4 74 (v := (.agg #[.int .u64 0, .int .u64 0, .int .u64 0, .int .u64 0])) (encSet (0 : BSet)) rfl
 have S6 := T5
 dsimp only [lAa, lAn, lA0, lAs] at S6
 refine p_v (v := .pointer (some ⟨b5, 0, none⟩)) rfl rfl rfl (x_alloc ty74 r5) ?_
 obtain ⟨w7, r7, g7, T7⟩ := e_store (P := Tryd.prog) (off := 0) (v := .agg (encSet (x &&& p1)).toArray) (vs := (encSet (x &&& p1))) S6 ty74 rfl rfl (j := 1) rfl (by first | decide | exact Nat.le_of_ble_eq_true rfl) (encSet_one _)
 have S8 := T7.fx 1 (box b5 74 (encSet (x &&& p1))) rfl
 dsimp only [lAa, lAn, lA0, lAs] at S8
 refine p_s rfl rfl (x_store rfl rfl r7) ?_
 refine run_region_end ?_
 refine run_seq ?_
 refine run_reg (l := [0, 1, 2, 3, 4, 5, 6, 7, 8]) rfl ?_
 refine p_v (v := .agg (encSet (x &&& p1)).toArray) rfl rfl rfl (x_load (seg := (encSet (x &&& p1))) ty74 rfl (by simp) rfl (CF.box (m := 4) (S8.box_at (j := 1) rfl) rfl)) ?_
 refine p_v (v := .agg (encSet x).toArray) rfl rfl rfl (x_load (seg := (encSet x)) ty74 rfl (by simp) rfl (CF.box (m := 4) (S8.box_at (j := 0) rfl) rfl)) ?_
 refine p_v (v := .bool (decide ((x &&& p1) ≠ x))) rfl rfl rfl (x_neq_set u74 u56 ty56 q74 rfl rfl) ?_
 refine p_v (v := .bool (decide ((x &&& p1) ≠ x))) rfl rfl rfl (x_move rfl) ?_
 by_cases hc9 : (x &&& p1) ≠ x
 ·skip
  refine p_v (v := .agg (encSet (x &&& p1)).toArray) rfl (wanted_of (j := 3) (want := true) (d := 11) (b := true) rfl rfl (congrArg Value.bool (decide_eq_true hc9)) rfl) rfl (x_load (seg := (encSet (x &&& p1))) ty74 rfl (by simp) rfl (CF.box (m := 4) (S8.box_at (j := 1) rfl) rfl)) ?_
  refine p_v (v := .agg (encSet (0 : BSet)).toArray) rfl (wanted_of (j := 3) (want := true) (d := 11) (b := true) rfl rfl (congrArg Value.bool (decide_eq_true hc9)) rfl) rfl (y_build (pv := []) rfl (run_build_array u74 ty56 ty74 (cs := (encSet (0 : BSet))) (by rfl))) ?_
  refine p_v (v := .bool (decide ((x &&& p1) ≠ (0 : BSet)))) rfl (wanted_of (j := 3) (want := true) (d := 11) (b := true) rfl rfl (congrArg Value.bool (decide_eq_true hc9)) rfl) rfl (x_neq_set u74 u56 ty56 q74 rfl rfl) ?_
  refine p_v (v := .bool (decide ((x &&& p1) ≠ (0 : BSet)))) rfl rfl rfl (x_pick_t (congrArg Value.bool (decide_eq_true hc9)) rfl) ?_
  refine p_v (v := .bool (decide ((x &&& p1) ≠ (0 : BSet)))) rfl rfl rfl (x_assign rfl) ?_
  refine run_region_end ?_
  refine run_ret Tryd.func136 (res1 rfl (res_tmp (v := .bool (decide ((x &&& p1) ≠ (0 : BSet)))) rfl)) ?_
  have q0 : (cuts x p1 : Bool) = decide ((x &&& p1) ≠ (0 : BSet)) := by
   unfold cuts; simp [*]
  refine ⟨_, rfl, (fun _ => none), ?_, ?_⟩
  · exact S8.sub [] (by decide) rfl _ rfl
  · first | rfl | (simp only [q0]; rfl) | (simp only [q0])
 ·skip
  refine p_off rfl (wanted_of (j := 3) (want := true) (d := 11) (b := false) rfl rfl (congrArg Value.bool (decide_eq_false hc9)) rfl) rfl ?_
  refine p_off rfl (wanted_of (j := 3) (want := true) (d := 11) (b := false) rfl rfl (congrArg Value.bool (decide_eq_false hc9)) rfl) rfl ?_
  refine p_off rfl (wanted_of (j := 3) (want := true) (d := 11) (b := false) rfl rfl (congrArg Value.bool (decide_eq_false hc9)) rfl) rfl ?_
  refine p_v (v := .bool false) rfl rfl rfl (x_pick_f (congrArg Value.bool (decide_eq_false hc9)) rfl) ?_
  refine p_v (v := .bool false) rfl rfl rfl (x_assign rfl) ?_
  refine run_region_end ?_
  refine run_ret Tryd.func136 (res1 rfl (res_tmp (v := .bool false) rfl)) ?_
  have q0 : (cuts x p1 : Bool) = false := by
   unfold cuts; simp [*]
  refine ⟨_, rfl, (fun _ => none), ?_, ?_⟩
  · exact S8.sub [] (by decide) rfl _ rfl
  · first | rfl | (simp only [q0]; rfl) | (simp only [q0])
theorem index_calls (w : World) (s : List BSet) (A0 : Option Addr) (c0 : Nat) (b0 : s.length ≤ c0 ∧ c0 ≤ maxLen) (l0 : Leads kSet (hp w) A0 s) (f : BSet) (a1 : Addr) (pc1 : ∀ j v, (encSet f)[j]? = some v → gcell (hp w) (a1.add j) = some v) :
    Calls Tryd.prog 160 #[.slice A0 s.length c0, .func (.func 136) #[] #[.pointer (some a1)]] w fun e w' => ∃ v, e = .returned v ∧ ∃ (hn : Ghost), St w.heap.size w hn w' [] ∧ v = .int .i64 (place (fun x => cuts x f) s) ∧ inK .i64 (place (fun x => cuts x f) s) := by
 refine calls_of_run Tryd.func160 rfl Tryd.ntmps160 rfl ?_
 have S0 := St.init w
 have bb0 := b0.1; have bc0 := b0.2; simp only [maxLen] at bc0
 refine run_seq ?_
 refine run_reg (l := [0]) rfl ?_
 refine p_v (v := .int .i64 0) rfl rfl rfl (x_assign rfl) ?_
 refine run_region_end ?_
 refine run_seq ?_
 refine run_seq ?_
 refine run_reg (l := [0, 1, 2]) rfl ?_
 refine p_v (v := .slice A0 s.length c0) rfl rfl rfl (x_move rfl) ?_
 refine p_v (v := .int .i64 (s.length : Int)) rfl rfl rfl (x_len_slice u62 rfl) ?_
 refine p_v (v := .int .i64 0) rfl rfl rfl (x_move rfl) ?_
 refine run_region_end ?_
 refine run_block ?_
 refine run_loop (S := Int) (fun (q_ : Int) ρ w' => match q_ with | t8 => ∃ (h : Ghost), Le (fun _ => none) h ∧ St w.heap.size w h w' [] ∧ ρ 0 = .slice A0 s.length c0 ∧ ρ 1 = .func (.func 136) #[] #[.pointer (some a1)] ∧ ρ 7 = .int .i64 (s.length : Int) ∧ ρ 8 = .int .i64 t8 ∧ inK .i64 t8 ∧ (0 ≤ t8 ∧ t8 ≤ (s.length : Int) ∧ place (fun x => cuts x f) s = placeFrom (fun x => cuts x f) (s.drop t8.toNat) t8)) (fun q_ => match q_ with | t8 => (s.length - t8).toNat) (0) ⟨(fun _ => none), Le.refl _, S0.sub [] (by decide) rfl _ rfl, rfl, rfl, rfl, rfl, (in_i64 (by first|omega|(simp;omega)|assumption) (by first|omega|(simp;omega)|assumption)), (by exact ⟨by omega, by omega, rfl⟩)⟩ ?_
 rintro t8 ih1 ρ1 w1 ⟨h1, le1, S1, r1_0, r1_1, r1_7, r1_8, f1_0, hI1⟩
 have lf1_0 := i64_lo f1_0; have hf1_0 := i64_hi f1_0
 refine run_seq ?_
 refine run_reg (l := [0]) rfl ?_
 refine p_v (v := .bool (decide (t8 < (s.length : Int)))) rfl rfl rfl (x_lss r1_8 r1_7) ?_
 refine run_region_end ?_
 refine run_seq ?_
 refine run_cond_prop (p := t8 < (s.length : Int)) rfl (fun hc2 => ?_) (fun hc2 => ?_)
 ·skip
  refine run_skip ?_
  refine run_seq ?_
  refine run_block ?_
  refine run_seq ?_
  refine run_reg (l := [0, 1]) rfl ?_
  refine p_v (v := .int .i64 t8) rfl rfl rfl (x_move r1_8) ?_
  refine p_v (v := .int .i64 t8) rfl rfl rfl (x_assign rfl) ?_
  refine run_region_end ?_
  refine run_seq ?_
  refine run_reg (l := [0, 1, 2, 3, 4, 5]) rfl ?_
  refine p_v (v := .func (.func 136) #[] #[.pointer (some a1)]) rfl rfl rfl (x_move r1_1) ?_
  refine p_v (v := .slice A0 s.length c0) rfl rfl rfl (x_move r1_0) ?_
  refine p_v (v := .int .i64 t8) rfl rfl rfl (x_move rfl) ?_
  obtain ⟨ad3, seg3, a3, rp3, ce3⟩ := e_index_ro (q := t8) (m := 4) l0 rfl (by first|omega|(simp;omega)|assumption) (by first|omega|(simp;omega)|assumption)
  refine p_v (v := .pointer (some ad3)) rfl rfl rfl (x_index_ro u62 ty74 rfl rfl a3 (by first|omega|(simp;omega)|assumption) (by first|omega|(simp;omega)|assumption)) ?_
  obtain ⟨rfl, ok3⟩ := rp3
  refine p_v (v := .agg (encSet (at_ s t8)).toArray) rfl rfl rfl (x_load (seg := (encSet (at_ s t8))) ty74 rfl (by simp) rfl (CF.ghost ce3 (St.le0 S1))) ?_
  refine p_c rfl rfl rfl (y_call (args := [.agg (encSet (at_ s t8)).toArray, .pointer (some a1)]) ca136 rfl rfl) (cut_calls w1 (at_ s t8) f a1 (fun j v h => gcell_mono (St.le0 S1) (pc1 j v h))) ?_
  rintro _ w4 ⟨h4, T4, rfl⟩
  have S5 := S1.keep (Chg.of_below T4.below)
  refine run_region_end ?_
  refine run_cond_split (b := cuts (at_ s t8) f) rfl (fun hc6 => ?_) (fun hc6 => ?_)
  ·skip
   refine run_seq ?_
   refine run_reg (l := [0, 1]) rfl ?_
   refine p_v (v := .int .i64 t8) rfl rfl rfl (x_move rfl) ?_
   refine p_v (v := .int .i64 t8) rfl rfl rfl (x_assign rfl) ?_
   refine run_region_end ?_
   refine run_ret Tryd.func160 (res1 rfl (res_tmp (v := .int .i64 t8) rfl)) ?_
   have q0 : (place (fun x => cuts x f) s : Int) = t8 := by
    rw [hI1.2.2, placeFrom_drop _ _ hI1.1 (by omega), if_pos (by assumption)]
   refine ⟨_, rfl, h1, ?_, ?_, ?_⟩
   · exact S5.sub [] (by decide) rfl _ rfl
   · first | rfl | (simp only [q0]; rfl) | (simp only [q0])
   · rw [q0]; exact f1_0
  ·skip
   refine run_skip ?_
   refine run_inBlock ?_
   refine run_reg (l := [0, 1]) rfl ?_
   refine p_v (v := .int .i64 (t8 + 1)) rfl rfl rfl (x_add r1_8 rfl (in_i64 (by first|omega|(simp;omega)|assumption) (by first|omega|(simp;omega)|assumption))) ?_
   refine p_v (v := .int .i64 (t8 + 1)) rfl rfl rfl (x_move rfl) ?_
   refine run_region_end ?_
   refine ih1 (t8 + 1) _ _ (by dsimp only; omega) ⟨h1, le1, S5.sub [] (by decide) rfl _ rfl, r1_0, r1_1, r1_7, rfl, (in_i64 (by first|omega|(simp;omega)|assumption) (by first|omega|(simp;omega)|assumption)), (by exact ⟨by omega, by omega, by rw [hI1.2.2, placeFrom_drop _ _ hI1.1 (by omega), if_neg (by simp [*])]⟩)⟩
 ·skip
  refine run_exit rfl ?_
  refine run_seq ?_
  refine run_reg (l := [0]) rfl ?_
  refine p_v (v := .int .i64 (-1)) rfl rfl rfl (x_assign rfl) ?_
  refine run_region_end ?_
  refine run_ret Tryd.func160 (res1 rfl (res_tmp (v := .int .i64 (-1)) rfl)) ?_
  have q0 : (place (fun x => cuts x f) s : Int) = (-1) := by
   rw [hI1.2.2, List.drop_of_length_le (by omega)]; rfl
  refine ⟨_, rfl, h1, ?_, ?_, ?_⟩
  · exact S1.sub [] (by decide) rfl _ rfl
  · first | rfl | (simp only [q0]; rfl) | (simp only [q0])
  · rw [q0]; exact (in_i64 (by first|omega|(simp;omega)|assumption) (by first|omega|(simp;omega)|assumption))
theorem contains_calls (w : World) (s : List BSet) (A0 : Option Addr) (c0 : Nat) (b0 : s.length ≤ c0 ∧ c0 ≤ maxLen) (l0 : Leads kSet (hp w) A0 s) (f : BSet) (a1 : Addr) (pc1 : ∀ j v, (encSet f)[j]? = some v → gcell (hp w) (a1.add j) = some v) :
    Calls Tryd.prog 131 #[.slice A0 s.length c0, .func (.func 136) #[] #[.pointer (some a1)]] w fun e w' => ∃ v, e = .returned v ∧ ∃ (hn : Ghost), St w.heap.size w hn w' [] ∧ v = .bool (s.any fun x => cuts x f) := by
 refine calls_of_run Tryd.func131 rfl Tryd.ntmps131 rfl ?_
 have S0 := St.init w
 have bb0 := b0.1; have bc0 := b0.2; simp only [maxLen] at bc0
 refine run_seq ?_
 refine run_reg (l := [0]) rfl ?_
 refine p_v (v := .bool false) rfl rfl rfl (x_assign rfl) ?_
 refine run_region_end ?_
 refine run_seq ?_
 refine run_reg (l := [0, 1, 2, 3, 4]) rfl ?_
 refine p_v (v := .slice A0 s.length c0) rfl rfl rfl (x_move rfl) ?_
 refine p_v (v := .func (.func 136) #[] #[.pointer (some a1)]) rfl rfl rfl (x_move rfl) ?_
 refine p_c rfl rfl rfl (y_call (args := [.slice A0 s.length c0, .func (.func 136) #[] #[.pointer (some a1)]]) ca160 rfl rfl) (index_calls w s A0 c0 b0 (l0.mono (St.le0 S0)) f a1 (fun j v h => gcell_mono (St.le0 S0) (pc1 j v h))) ?_
 rintro _ w1 ⟨h1, T1, rfl, in1_0⟩
 have S2 := S0.keep (Chg.of_below T1.below)
 have lo_in1_0 := i64_lo in1_0; have hi_in1_0 := i64_hi in1_0
 refine p_v (v := .bool (decide (0 ≤ (place (fun x => cuts x f) s)))) rfl rfl rfl (x_geq rfl rfl) ?_
 refine p_v (v := .bool (decide (0 ≤ (place (fun x => cuts x f) s)))) rfl rfl rfl (x_assign rfl) ?_
 refine run_region_end ?_
 refine run_ret Tryd.func131 (res1 rfl (res_tmp (v := .bool (decide (0 ≤ (place (fun x => cuts x f) s)))) rfl)) ?_
 have q0 : (s.any fun x => cuts x f : Bool) = decide (0 ≤ (place (fun x => cuts x f) s)) := by
  exact (place_any _ _).symm
 refine ⟨_, rfl, (fun _ => none), ?_, ?_⟩
 · exact S2.sub [] (by decide) rfl _ rfl
 · first | rfl | (simp only [q0]; rfl) | (simp only [q0])
theorem splits_calls (w : World) (p : PartM) (o0 : okPart p) (s : BSet) :
    Calls Tryd.prog 89 #[.agg (encPart p).toArray, .agg (encSet s).toArray] w fun e w' => ∃ v, e = .returned v ∧ ∃ (hn : Ghost), St w.heap.size w hn w' [] ∧ v = .bool (splitsP p s) := by
 refine calls_of_run Tryd.func89 rfl Tryd.ntmps89 rfl ?_
 have S0 := St.init w
 have ploo0 := i64_lo o0.2; have phio0 := i64_hi o0.2
 refine run_seq ?_
 refine run_reg (l := [0, 1, 2]) rfl ?_
 obtain ⟨b1, w1, r1, g1, T1⟩ := e_box (P := Tryd.prog) S0 32 (v := .agg (encPart p).toArray) (encPart p) rfl
 have S2 := T1
 dsimp only [lAa, lAn, lA0, lAs] at S2
 refine p_v (v := .pointer (some ⟨b1, 0, none⟩)) rfl rfl rfl (x_box rfl r1) ?_
 obtain ⟨b3, w3, r3, g3, T3⟩ := e_box (P := Tryd.prog) S2 74 (v := .agg (encSet s).toArray) (encSet s) rfl
 have S4 := T3
 dsimp only [lAa, lAn, lA0, lAs] at S4
 refine p_v (v := .pointer (some ⟨b3, 0, none⟩)) rfl rfl rfl (x_box rfl r3) ?_
 refine p_v (v := .bool false) rfl rfl rfl (x_assign rfl) ?_
 refine run_region_end ?_
 refine run_seq ?_
 refine run_reg (l := [0, 1, 2, 3, 4]) rfl ?_
 refine p_v (v := .agg (encPart p).toArray) rfl rfl rfl (x_load (seg := (encPart p)) ty32 (encPart_len o0) (by simp) rfl (CF.box (m := 257) (S4.box_at (j := 0) rfl) (by rw [List.drop_zero, List.take_of_length_le (by rw [encPart_len o0]; exact Nat.le_refl _)]))) ?_
 refine p_c rfl rfl rfl (y_call (args := [.agg (encPart p).toArray]) ca134 rfl rfl) (sets_calls w3 p o0) ?_
 rintro v5_0 w5 ⟨h5, _, T5, rfl⟩
 obtain ⟨k5, lk5, ll5, U5⟩ := call_joins S4 T5
 have S6 := U5
 dsimp only [lAa, lAn, lA0, lAs] at S6
 obtain ⟨h7, le7, T7, rp7⟩ := S6.freeze (i := 2) rfl
 have lf7_0 := (lk5).trans le7
 have S8 := T7.fx 2 (emp) rfl
 dsimp only [lAa, lAn, lA0, lAs] at S8
 obtain ⟨A7, c7, e7, lc7, cm7, ld7⟩ := rp7
 injection e7 with e7 _; subst e7
 have cn7 := cm7; simp only [maxLen] at cn7
 refine p_v (v := .func (.func 136) #[] #[.pointer (some ⟨b3, 0, none⟩)]) rfl rfl rfl (y_makeFunc (fv := []) (cv := [.pointer (some ⟨b3, 0, none⟩)]) rfl rfl) ?_
 refine p_c rfl rfl rfl (y_call (args := [.slice A7 (setsP p).length c7, .func (.func 136) #[] #[.pointer (some ⟨b3, 0, none⟩)]]) ca131 rfl rfl) (contains_calls w5 (setsP p) A7 c7 (And.intro lc7 cm7) (ld7.mono ((Le.refl _).trans S8.ghost)) s ⟨b3, 0, none⟩ (box_gcell (S8.box_at (j := 1) rfl))) ?_
 rintro _ w9 ⟨h9, T9, rfl⟩
 have S10 := S8.keep (Chg.of_below T9.below)
 refine p_v (v := .bool ((setsP p).any fun x => cuts x s)) rfl rfl rfl (x_assign rfl) ?_
 refine run_region_end ?_
 refine run_ret Tryd.func89 (res1 rfl (res_tmp (v := .bool ((setsP p).any fun x => cuts x s)) rfl)) ?_
 have q0 : (splitsP p s : Bool) = (setsP p).any fun x => cuts x s := by
  unfold splitsP; rfl
 refine ⟨_, rfl, h7, ?_, ?_⟩
 · exact S10.sub [] (by decide) rfl _ rfl
 · first | rfl | (simp only [q0]; rfl) | (simp only [q0])
end Go.Proofs.YtfoemogojbnfhaaDoor
namespace Gx
open Go Go.RowKit
set_option linter.unusedSimpArgs false
set_option linter.unusedSectionVars false
set_option linter.unusedVariables false
deriving instance DecidableEq for Mach
def allTo (p : Nat → Bool) (t : Int) : Bool := (List.range t.toNat).all p
theorem allTo_0 (p : Nat → Bool) : allTo p 0 = true := rfl
theorem allTo_step {p : Nat → Bool} {t : Int} (h0 : 0 ≤ t) (h : allTo p t = true) (hp : p t.toNat = true) : allTo p (t + 1) = true := by
  unfold allTo at h ⊢
  rw [show (t + 1).toNat = t.toNat + 1 by omega, List.range_succ, List.all_append, h]; simp [hp]
theorem allTo_no {p : Nat → Bool} {t n : Int} (h0 : 0 ≤ t) (h1 : t < n) (hp : p t.toNat = false) : allTo p n = false := by
  unfold allTo
  rw [List.all_eq_false]
  exact ⟨t.toNat, List.mem_range.2 (by omega), by simp [hp]⟩
theorem allTo_iff {p : Nat → Bool} {n : Int} : allTo p n = true ↔ ∀ i : Nat, ((i : Nat) : Int) < n → p i = true := by
  unfold allTo
  rw [List.all_eq_true]
  exact ⟨fun h i hi => h i (List.mem_range.2 (by omega)), fun h i hi => h i (by have := List.mem_range.1 hi; omega)⟩
theorem drop_cons {α : Type} [Inhabited α] (l : List α) {t : Int} (h0 : 0 ≤ t) (h1 : t < (l.length : Int)) : l.drop t.toNat = at_ l t :: l.drop (t + 1).toNat := by
  rw [show (t + 1).toNat = t.toNat + 1 by omega]
  have h2 := at_some h0 h1
  obtain ⟨hl, e⟩ := List.getElem?_eq_some_iff.1 h2
  rw [List.drop_eq_getElem_cons hl, e]
theorem drop_end {α : Type} (l : List α) {t : Int} (h1 : (l.length : Int) ≤ t) : l.drop t.toNat = [] := List.drop_of_length_le (by omega)
def rises (b last : Int) : List Int → Bool
  | [] => true
  | n :: r => decide (last < n) && decide (n < b) && rises b n r
theorem rises_nil (b last : Int) : rises b last [] = true := rfl
theorem rises_step {b last : Int} (l : List Int) {t : Int} (h0 : 0 ≤ t) (h1 : t < (l.length : Int)) : rises b last (l.drop t.toNat) = (decide (last < at_ l t) && decide (at_ l t < b) && rises b (at_ l t) (l.drop (t + 1).toNat)) := by
  rw [drop_cons l h0 h1]; rfl
theorem rises_lt {b : Int} : ∀ {last : Int} {l : List Int}, rises b last l = true → ∀ x ∈ l, last < x ∧ x < b
  | last, [], h, x, hx => by cases hx
  | last, n :: r, h, x, hx => by
    unfold rises at h
    simp only [Bool.and_eq_true, decide_eq_true_eq] at h
    rcases List.mem_cons.1 hx with e | e
    · subst e; exact h.1
    · have := rises_lt h.2 x e; omega
def rowOk (m : Mach) (i : Nat) : Bool := decide ((at_ m.spots ((i : Nat) : Int)).tag ≤ 2) && rises m.spots.length (-1) (at_ m.follow ((i : Nat) : Int))
def rightM (m : Mach) : Bool := decide ((m.spots.length : Int) ≤ 250) && (decide ((m.follow.length : Int) = m.spots.length) && (decide ((m.last.length : Int) = m.spots.length) && (rises m.spots.length (-1) m.first && allTo (rowOk m) m.spots.length)))
theorem right_no1 (m : Mach) (h : (250 : Int) < (m.spots.length : Int)) : rightM m = false := by unfold rightM; rw [decide_eq_false (by omega)]; rfl
theorem right_no2 (m : Mach) (h : (m.follow.length : Int) ≠ (m.spots.length : Int)) : rightM m = false := by unfold rightM; rw [decide_eq_false h]; simp
theorem right_no3 (m : Mach) (h : (m.last.length : Int) ≠ (m.spots.length : Int)) : rightM m = false := by unfold rightM; rw [decide_eq_false h]; simp
theorem right_no4 (m : Mach) (h : rises m.spots.length (-1) m.first = false) : rightM m = false := by unfold rightM; rw [h]; simp
theorem right_no5 (m : Mach) {i : Int} (h0 : 0 ≤ i) (h1 : i < (m.spots.length : Int)) (h : 2 < (at_ m.spots i).tag) : rightM m = false := by
  unfold rightM; rw [allTo_no h0 h1 (by unfold rowOk; rw [Int.toNat_of_nonneg h0, decide_eq_false (by omega)]; rfl)]; simp
theorem right_no6 (m : Mach) {i : Int} (h0 : 0 ≤ i) (h1 : i < (m.spots.length : Int)) (h : rises m.spots.length (-1) (at_ m.follow i) = false) : rightM m = false := by
  unfold rightM; rw [allTo_no h0 h1 (by unfold rowOk; rw [Int.toNat_of_nonneg h0, h]; simp)]; simp
theorem right_ok (m : Mach) {t : Int} (ht : (m.spots.length : Int) = t) (h1 : ¬ (250 : Int) < (m.spots.length : Int)) (h2 : ¬ (m.follow.length : Int) ≠ (m.spots.length : Int)) (h3 : ¬ (m.last.length : Int) ≠ (m.spots.length : Int)) (h4 : rises m.spots.length (-1) m.first = true) (h5 : allTo (rowOk m) t = true) : rightM m = true := by
  unfold rightM
  rw [decide_eq_true (by omega), decide_eq_true (by omega), decide_eq_true (by omega), h4, ht, h5]; rfl
structure Right (m : Mach) : Prop where
  small : (m.spots.length : Int) ≤ 250
  follow : (m.follow.length : Int) = m.spots.length
  last : (m.last.length : Int) = m.spots.length
  first : rises m.spots.length (-1) m.first = true
  tag : ∀ i : Int, 0 ≤ i → i < (m.spots.length : Int) → (at_ m.spots i).tag ≤ 2
  row : ∀ i : Int, 0 ≤ i → i < (m.spots.length : Int) → rises m.spots.length (-1) (at_ m.follow i) = true
theorem right_iff {m : Mach} : rightM m = true ↔ Right m := by
  unfold rightM
  simp only [Bool.and_eq_true, decide_eq_true_eq]
  constructor
  · rintro ⟨h1, h2, h3, h4, h5⟩
    have h6 := allTo_iff.1 h5
    have h7 : ∀ i : Int, 0 ≤ i → i < (m.spots.length : Int) → rowOk m i.toNat = true := fun i h0 h1 => h6 i.toNat (by omega)
    refine ⟨h1, h2, h3, h4, fun i h0 hi => ?_, fun i h0 hi => ?_⟩ <;> have h8 := h7 i h0 hi <;> unfold rowOk at h8 <;> rw [Int.toNat_of_nonneg h0] at h8 <;> simp only [Bool.and_eq_true, decide_eq_true_eq] at h8
    · exact h8.1
    · exact h8.2
  · intro h
    refine ⟨h.small, h.follow, h.last, h.first, allTo_iff.2 fun i hi => ?_⟩
    unfold rowOk
    rw [decide_eq_true (h.tag i (by omega) hi), h.row i (by omega) hi]; rfl
theorem Right.firsts {m : Mach} (h : Right m) : ∀ x ∈ m.first, 0 ≤ x ∧ x < (m.spots.length : Int) := fun x hx => by have := rises_lt h.first x hx; omega
theorem Right.rows {m : Mach} (h : Right m) {i : Int} (h0 : 0 ≤ i) (h1 : i < (m.spots.length : Int)) : ∀ x ∈ at_ m.follow i, 0 ≤ x ∧ x < (m.spots.length : Int) := fun x hx => by have := rises_lt (h.row i h0 h1) x hx; omega
def tab (n : Nat) (p : Nat → Bool) : List Bool := (List.range n).map p
theorem tab_at {n : Nat} {p : Nat → Bool} {i : Int} (h0 : 0 ≤ i) (h1 : i < (n : Int)) : at_ (tab n p) i = p i.toNat := at_map_range p n h0 h1
def markP (n : Nat) (l : List Int) : List Bool := tab n fun i => decide (((i : Nat) : Int) ∈ l)
def intoP (m : Mach) (next : List Bool) (c : Int) : List Bool := tab m.spots.length fun i => at_ next ((i : Nat) : Int) && has (at_ m.spots ((i : Nat) : Int)).set c
def behindP (m : Mach) (at' : List Bool) : List Bool := tab m.spots.length fun k => anyTo (fun i => at_ at' ((i : Nat) : Int) && decide (((k : Nat) : Int) ∈ at_ m.follow ((i : Nat) : Int))) m.spots.length
def runTo (m : Mach) (w : ByteArray) : Nat → List Bool
  | 0 => intoP m (markP m.spots.length m.first) (byt w 0)
  | k + 1 => intoP m (behindP m (runTo m w k)) (byt w ((k + 1 : Nat) : Int))
def endsIn (m : Mach) (at' : List Bool) : Bool := anyTo (fun i => at_ at' ((i : Nat) : Int) && at_ m.last ((i : Nat) : Int)) m.spots.length
def runM (m : Mach) (w : ByteArray) : Bool := rightM m && (if w.size = 0 then m.empty else endsIn m (runTo m w (w.size - 1)))
theorem run_wrong (m : Mach) (w : ByteArray) (h : rightM m = false) : runM m w = false := by unfold runM; rw [h]; rfl
theorem run_none (m : Mach) (w : ByteArray) (h : rightM m = true) (hw : w.size = 0) : runM m w = m.empty := by unfold runM; rw [h, if_pos hw]; rfl
theorem bit_half (s : BSet) {c i : Int} (h0 : 0 ≤ c) (h1 : c < 256) (hi : i = c % 64) : decide ((at_ (words s) (c / 64) / 2 ^ i.toNat) % 2 = 1) = has s c := by
  subst hi
  have hb := bit_words s (i := c.toNat) (by omega)
  unfold has
  rw [← hb]
  unfold bitAt
  rw [show ((c.toNat / 64 : Nat) : Int) = c / 64 by omega, show c.toNat % 64 = (c % 64).toNat by omega]
  have hw : 0 ≤ at_ (words s) (c / 64) := u64_lo (okInts_at (okWords s) (by omega) (by omega))
  obtain ⟨x, hx⟩ := Int.eq_ofNat_of_zero_le hw
  rw [hx, Int.toNat_natCast, Nat.testBit_eq_decide_div_mod_eq]
  apply decide_eq_decide.2
  have e : ((x : Int) / 2 ^ (c % 64).toNat) = ((x / 2 ^ (c % 64).toNat : Nat) : Int) := by
    rw [Int.natCast_ediv, Int.natCast_pow]; rfl
  rw [e]; omega
end Gx
namespace Go.Proofs.YtfoemogojbnfhaaDoor
open Go Go.RowKit Gx
set_option maxHeartbeats 1000000
set_option linter.unusedVariables false
set_option linter.unusedSimpArgs false
set_option maxRecDepth 8000
attribute [local irreducible] listOf count first someIn has setOf wbits Lib.ctz rises rightM rowOk tab markP intoP behindP runTo endsIn runM anyTo allTo
theorem rising_calls (w : World) (l : List Int) (A0 : Option Addr) (c0 : Nat) (b0 : l.length ≤ c0 ∧ c0 ≤ maxLen) (l0 : Leads (Kd.int .i64) (hp w) A0 l) (bound : Int) (i1 : inK .i64 bound) :
    Calls Tryd.prog 102 #[.slice A0 l.length c0, .int .i64 bound] w fun e w' => ∃ v, e = .returned v ∧ ∃ (hn : Ghost), St w.heap.size w hn w' [] ∧ v = .bool (rises bound (-1) l) := by
 refine calls_of_run Tryd.func102 rfl Tryd.ntmps102 rfl ?_
 have S0 := St.init w
 have bb0 := b0.1; have bc0 := b0.2; simp only [maxLen] at bc0
 have lo1 := i64_lo i1; have hi1 := i64_hi i1
 refine run_seq ?_
 refine run_reg (l := [0]) rfl ?_
 refine p_v (v := .bool false) rfl rfl rfl (x_assign rfl) ?_
 refine run_region_end ?_
 refine run_seq ?_
 refine run_reg (l := [0]) rfl ?_
 refine p_v (v := .int .i64 (-1)) rfl rfl rfl (x_assign rfl) ?_
 refine run_region_end ?_
 refine run_seq ?_
 refine run_seq ?_
 refine run_reg (l := [0, 1, 2]) rfl ?_
 refine p_v (v := .slice A0 l.length c0) rfl rfl rfl (x_move rfl) ?_
 refine p_v (v := .int .i64 (l.length : Int)) rfl rfl rfl (x_len_slice u23 rfl) ?_
 refine p_v (v := .int .i64 0) rfl rfl rfl (x_move rfl) ?_
 refine run_region_end ?_
 refine run_block ?_
 refine run_loop (S := Int × Int) (fun (q_ : Int × Int) ρ w' => match q_ with | (last, t10) => ∃ (h : Ghost), Le (fun _ => none) h ∧ St w.heap.size w h w' [] ∧ ρ 1 = .int .i64 bound ∧ ρ 5 = .int .i64 last ∧ ρ 8 = .slice A0 l.length c0 ∧ ρ 9 = .int .i64 (l.length : Int) ∧ ρ 10 = .int .i64 t10 ∧ inK .i64 last ∧ inK .i64 t10 ∧ (0 ≤ t10 ∧ t10 ≤ (l.length : Int) ∧ rises bound (-1) l = rises bound last (l.drop t10.toNat))) (fun q_ => match q_ with | (last, t10) => (l.length - t10).toNat) ((-1), 0) ⟨(fun _ => none), Le.refl _, S0.sub [] (by decide) rfl _ rfl, rfl, rfl, rfl, rfl, rfl, (in_i64 (by first|omega|(simp;omega)|assumption) (by first|omega|(simp;omega)|assumption)), (in_i64 (by first|omega|(simp;omega)|assumption) (by first|omega|(simp;omega)|assumption)), (by exact ⟨by omega, by omega, rfl⟩)⟩ ?_
 rintro ⟨last, t10⟩ ih1 ρ1 w1 ⟨h1, le1, S1, r1_1, r1_5, r1_8, r1_9, r1_10, f1_0, f1_1, hI1⟩
 have lf1_0 := i64_lo f1_0; have hf1_0 := i64_hi f1_0
 have lf1_1 := i64_lo f1_1; have hf1_1 := i64_hi f1_1
 refine run_seq ?_
 refine run_reg (l := [0]) rfl ?_
 refine p_v (v := .bool (decide (t10 < (l.length : Int)))) rfl rfl rfl (x_lss r1_10 r1_9) ?_
 refine run_region_end ?_
 refine run_seq ?_
 refine run_cond_prop (p := t10 < (l.length : Int)) rfl (fun hc2 => ?_) (fun hc2 => ?_)
 ·skip
  refine run_skip ?_
  refine run_seq ?_
  refine run_block ?_
  refine run_seq ?_
  refine run_reg (l := [0, 1, 2]) rfl ?_
  obtain ⟨ad3, seg3, a3, rp3, ce3⟩ := e_index_ro (q := t10) (m := 1) l0 rfl (by first|omega|(simp;omega)|assumption) (by first|omega|(simp;omega)|assumption)
  refine p_v (v := .pointer (some ad3)) rfl rfl rfl (x_index_ro u23 ty3 r1_8 r1_10 a3 (by first|omega|(simp;omega)|assumption) (by first|omega|(simp;omega)|assumption)) ?_
  obtain ⟨rfl, in3⟩ := rp3
  have lo3 := i64_lo in3; have hi3 := i64_hi in3
  refine p_v (v := .int .i64 (at_ l t10)) rfl rfl rfl (x_load (seg := [.int .i64 (at_ l t10)]) ty3 rfl (by simp) rfl (CF.ghost ce3 (St.le0 S1))) ?_
  refine p_v (v := .int .i64 (at_ l t10)) rfl rfl rfl (x_assign rfl) ?_
  refine run_region_end ?_
  refine run_seq ?_
  refine run_seq ?_
  refine run_reg (l := [0, 1, 2, 3, 4, 5, 6, 7]) rfl ?_
  refine p_v (v := .int .i64 (at_ l t10)) rfl rfl rfl (x_move rfl) ?_
  refine p_v (v := .int .i64 last) rfl rfl rfl (x_move r1_5) ?_
  refine p_v (v := .bool (decide ((at_ l t10) ≤ last))) rfl rfl rfl (x_leq rfl rfl) ?_
  refine p_v (v := .bool (decide ((at_ l t10) ≤ last))) rfl rfl rfl (x_move rfl) ?_
  by_cases hc4 : (at_ l t10) ≤ last
  ·skip
   refine p_off rfl (wanted_of (j := 3) (want := false) (d := 17) (b := true) rfl rfl (congrArg Value.bool (decide_eq_true hc4)) rfl) rfl ?_
   refine p_off rfl (wanted_of (j := 3) (want := false) (d := 17) (b := true) rfl rfl (congrArg Value.bool (decide_eq_true hc4)) rfl) rfl ?_
   refine p_off rfl (wanted_of (j := 3) (want := false) (d := 17) (b := true) rfl rfl (congrArg Value.bool (decide_eq_true hc4)) rfl) rfl ?_
   refine p_v (v := .bool true) rfl rfl rfl (x_pick_t (congrArg Value.bool (decide_eq_true hc4)) rfl) ?_
   refine run_region_end ?_
   refine run_cond (b := true) rfl ?_
   simp only [if_true, if_false, Bool.false_eq_true]
   refine run_seq ?_
   refine run_reg (l := [0]) rfl ?_
   refine p_v (v := .bool false) rfl rfl rfl (x_assign rfl) ?_
   refine run_region_end ?_
   refine run_ret Tryd.func102 (res1 rfl (res_tmp (v := .bool false) rfl)) ?_
   have q0 : (rises bound (-1) l : Bool) = false := by
    rw [hI1.2.2, rises_step l hI1.1 (by omega), decide_eq_false (by omega)]; rfl
   refine ⟨_, rfl, h1, ?_, ?_⟩
   · exact S1.sub [] (by decide) rfl _ rfl
   · first | rfl | (simp only [q0]; rfl) | (simp only [q0])
  ·skip
   refine p_v (v := .int .i64 (at_ l t10)) rfl (wanted_of (j := 3) (want := false) (d := 17) (b := false) rfl rfl (congrArg Value.bool (decide_eq_false hc4)) rfl) rfl (x_move rfl) ?_
   refine p_v (v := .int .i64 bound) rfl (wanted_of (j := 3) (want := false) (d := 17) (b := false) rfl rfl (congrArg Value.bool (decide_eq_false hc4)) rfl) rfl (x_move r1_1) ?_
   refine p_v (v := .bool (decide (bound ≤ (at_ l t10)))) rfl (wanted_of (j := 3) (want := false) (d := 17) (b := false) rfl rfl (congrArg Value.bool (decide_eq_false hc4)) rfl) rfl (x_geq rfl rfl) ?_
   refine p_v (v := .bool (decide (bound ≤ (at_ l t10)))) rfl rfl rfl (x_pick_f (congrArg Value.bool (decide_eq_false hc4)) rfl) ?_
   refine run_region_end ?_
   refine run_cond_prop (p := bound ≤ (at_ l t10)) rfl (fun hc5 => ?_) (fun hc5 => ?_)
   ·skip
    refine run_seq ?_
    refine run_reg (l := [0]) rfl ?_
    refine p_v (v := .bool false) rfl rfl rfl (x_assign rfl) ?_
    refine run_region_end ?_
    refine run_ret Tryd.func102 (res1 rfl (res_tmp (v := .bool false) rfl)) ?_
    have q0 : (rises bound (-1) l : Bool) = false := by
     rw [hI1.2.2, rises_step l hI1.1 (by omega), decide_eq_true (by omega), decide_eq_false (by omega)]; rfl
    refine ⟨_, rfl, h1, ?_, ?_⟩
    · exact S1.sub [] (by decide) rfl _ rfl
    · first | rfl | (simp only [q0]; rfl) | (simp only [q0])
   ·skip
    refine run_skip ?_
    refine run_reg (l := [0, 1]) rfl ?_
    refine p_v (v := .int .i64 (at_ l t10)) rfl rfl rfl (x_move rfl) ?_
    refine p_v (v := .int .i64 (at_ l t10)) rfl rfl rfl (x_assign rfl) ?_
    refine run_region_end ?_
    refine run_inBlock ?_
    refine run_reg (l := [0, 1]) rfl ?_
    refine p_v (v := .int .i64 (t10 + 1)) rfl rfl rfl (x_add r1_10 rfl (in_i64 (by first|omega|(simp;omega)|assumption) (by first|omega|(simp;omega)|assumption))) ?_
    refine p_v (v := .int .i64 (t10 + 1)) rfl rfl rfl (x_move rfl) ?_
    refine run_region_end ?_
    refine ih1 (at_ l t10, t10 + 1) _ _ (by dsimp only; omega) ⟨h1, le1, S1.sub [] (by decide) rfl _ rfl, r1_1, rfl, r1_8, r1_9, rfl, (in_i64 (by first|omega|(simp;omega)|assumption) (by first|omega|(simp;omega)|assumption)), (in_i64 (by first|omega|(simp;omega)|assumption) (by first|omega|(simp;omega)|assumption)), (by exact ⟨by omega, by omega, by rw [hI1.2.2, rises_step l hI1.1 (by omega), decide_eq_true (by omega), decide_eq_true (by omega)]; rfl⟩)⟩
 ·skip
  refine run_exit rfl ?_
  refine run_seq ?_
  refine run_reg (l := [0]) rfl ?_
  refine p_v (v := .bool true) rfl rfl rfl (x_assign rfl) ?_
  refine run_region_end ?_
  refine run_ret Tryd.func102 (res1 rfl (res_tmp (v := .bool true) rfl)) ?_
  have q0 : (rises bound (-1) l : Bool) = true := by
   rw [hI1.2.2, drop_end l (by omega), rises_nil]
  refine ⟨_, rfl, h1, ?_, ?_⟩
  · exact S1.sub [] (by decide) rfl _ rfl
  · first | rfl | (simp only [q0]; rfl) | (simp only [q0])
theorem rightN_calls (w : World) (m : Mach) (A0_0 : Option Addr) (c0_0 : Nat) (b0_0 : m.spots.length ≤ c0_0 ∧ c0_0 ≤ maxLen) (l0_0 : Leads kSpot (hp w) A0_0 m.spots) (A0_1 : Option Addr) (c0_1 : Nat) (b0_1 : m.first.length ≤ c0_1 ∧ c0_1 ≤ maxLen) (l0_1 : Leads (Kd.int .i64) (hp w) A0_1 m.first) (A0_2 : Option Addr) (c0_2 : Nat) (b0_2 : m.follow.length ≤ c0_2 ∧ c0_2 ≤ maxLen) (l0_2 : Leads (Kd.int .i64).slice (hp w) A0_2 m.follow) (A0_3 : Option Addr) (c0_3 : Nat) (b0_3 : m.last.length ≤ c0_3 ∧ c0_3 ≤ maxLen) (l0_3 : Leads Kd.bool (hp w) A0_3 m.last) :
    Calls Tryd.prog 37 #[.agg #[.slice A0_0 m.spots.length c0_0, .slice A0_1 m.first.length c0_1, .slice A0_2 m.follow.length c0_2, .slice A0_3 m.last.length c0_3, .bool m.empty]] w fun e w' => ∃ v, e = .returned v ∧ ∃ (hn : Ghost), St w.heap.size w hn w' [] ∧ v = .bool (rightM m) := by
 refine calls_of_run Tryd.func37 rfl Tryd.ntmps37 rfl ?_
 have S0 := St.init w
 have bb0_0 := b0_0.1; have bc0_0 := b0_0.2; simp only [maxLen] at bc0_0
 have bb0_1 := b0_1.1; have bc0_1 := b0_1.2; simp only [maxLen] at bc0_1
 have bb0_2 := b0_2.1; have bc0_2 := b0_2.2; simp only [maxLen] at bc0_2
 have bb0_3 := b0_3.1; have bc0_3 := b0_3.2; simp only [maxLen] at bc0_3
 refine run_seq ?_
 refine run_reg (l := [0, 1]) rfl ?_
 obtain ⟨b1, w1, r1, g1, T1⟩ := e_box (P := Tryd.prog) S0 27 (v := .agg #[.slice A0_0 m.spots.length c0_0, .slice A0_1 m.first.length c0_1, .slice A0_2 m.follow.length c0_2, .slice A0_3 m.last.length c0_3, .bool m.empty]) [.slice A0_0 m.spots.length c0_0, .slice A0_1 m.first.length c0_1, .slice A0_2 m.follow.length c0_2, .slice A0_3 m.last.length c0_3, .bool m.empty] rfl
 have S2 := T1
 dsimp only [lAa, lAn, lA0, lAs] at S2
 refine p_v (v := .pointer (some ⟨b1, 0, none⟩)) rfl rfl rfl (x_box rfl r1) ?_
 refine p_v (v := .bool false) rfl rfl rfl (x_assign rfl) ?_
 refine run_region_end ?_
 refine run_seq ?_
 refine run_reg (l := [0, 1, 2, 3]) rfl ?_
 refine p_v (v := .pointer (some ⟨b1, 0, none⟩)) rfl rfl rfl (x_fieldAt fd27_0 ty22 rfl rfl) ?_
 refine p_v (v := .slice A0_0 m.spots.length c0_0) rfl rfl rfl (x_load (seg := [.slice A0_0 m.spots.length c0_0]) ty22 rfl (by simp) rfl (CF.box (m := 1) (S2.box_at (j := 0) rfl) rfl)) ?_
 refine p_v (v := .int .i64 (m.spots.length : Int)) rfl rfl rfl (x_len_slice u22 rfl) ?_
 refine p_v (v := .int .i64 (m.spots.length : Int)) rfl rfl rfl (x_assign rfl) ?_
 refine run_region_end ?_
 refine run_seq ?_
 refine run_seq ?_
 refine run_reg (l := [0, 1, 2, 3, 4, 5, 6, 7, 8, 9, 10, 11, 12, 13, 14, 15, 16, 17, 18, 19, 20, 21, 22]) rfl ?_
 refine p_v (v := .int .i64 (m.spots.length : Int)) rfl rfl rfl (x_move rfl) ?_
 refine p_v (v := .bool (decide (250 < (m.spots.length : Int)))) rfl rfl rfl (x_gtr rfl rfl) ?_
 refine p_v (v := .bool (decide (250 < (m.spots.length : Int)))) rfl rfl rfl (x_move rfl) ?_
 by_cases hc3 : 250 < (m.spots.length : Int)
 ·skip
  refine p_off rfl (wanted_of (j := 2) (want := false) (d := 11) (b := true) rfl rfl (congrArg Value.bool (decide_eq_true hc3)) rfl) rfl ?_
  refine p_off rfl (wanted_of (j := 2) (want := false) (d := 11) (b := true) rfl rfl (congrArg Value.bool (decide_eq_true hc3)) rfl) rfl ?_
  refine p_off rfl (wanted_of (j := 2) (want := false) (d := 11) (b := true) rfl rfl (congrArg Value.bool (decide_eq_true hc3)) rfl) rfl ?_
  refine p_off rfl (wanted_of (j := 2) (want := false) (d := 11) (b := true) rfl rfl (congrArg Value.bool (decide_eq_true hc3)) rfl) rfl ?_
  refine p_off rfl (wanted_of (j := 2) (want := false) (d := 11) (b := true) rfl rfl (congrArg Value.bool (decide_eq_true hc3)) rfl) rfl ?_
  refine p_v (v := .bool true) rfl rfl rfl (x_pick_t (congrArg Value.bool (decide_eq_true hc3)) rfl) ?_
  refine p_v (v := .bool true) rfl rfl rfl (x_move rfl) ?_
  refine p_off rfl rfl rfl ?_
  refine p_off rfl rfl rfl ?_
  refine p_off rfl rfl rfl ?_
  refine p_off rfl rfl rfl ?_
  refine p_off rfl rfl rfl ?_
  refine p_v (v := .bool true) rfl rfl rfl (x_pick_t rfl rfl) ?_
  refine p_v (v := .bool true) rfl rfl rfl (x_move rfl) ?_
  refine p_off rfl rfl rfl ?_
  refine p_off rfl rfl rfl ?_
  refine p_off rfl rfl rfl ?_
  refine p_off rfl rfl rfl ?_
  refine p_off rfl rfl rfl ?_
  refine p_v (v := .bool true) rfl rfl rfl (x_pick_t rfl rfl) ?_
  refine run_region_end ?_
  refine run_cond (b := true) rfl ?_
  simp only [if_true, if_false, Bool.false_eq_true]
  refine run_seq ?_
  refine run_reg (l := [0]) rfl ?_
  refine p_v (v := .bool false) rfl rfl rfl (x_assign rfl) ?_
  refine run_region_end ?_
  refine run_ret Tryd.func37 (res1 rfl (res_tmp (v := .bool false) rfl)) ?_
  have q0 : (rightM m : Bool) = false := by
   first | exact right_no1 m (by assumption) | exact right_no2 m (by assumption) | exact right_no3 m (by assumption) | exact right_no4 m (by assumption) | exact right_no5 m hI_.1 (by omega) (by assumption) | exact right_no6 m hI_.1 (by omega) (by assumption) | exact right_ok m (by omega) (by assumption) (by assumption) (by assumption) (by assumption) hI_.2.2
  refine ⟨_, rfl, (fun _ => none), ?_, ?_⟩
  · exact S2.sub [] (by decide) rfl _ rfl
  · first | rfl | (simp only [q0]; rfl) | (simp only [q0])
 ·skip
  refine p_v (v := .pointer (some ⟨b1, 2, none⟩)) rfl (wanted_of (j := 2) (want := false) (d := 11) (b := false) rfl rfl (congrArg Value.bool (decide_eq_false hc3)) rfl) rfl (x_fieldAt fd27_2 ty24 rfl rfl) ?_
  refine p_v (v := .slice A0_2 m.follow.length c0_2) rfl (wanted_of (j := 2) (want := false) (d := 11) (b := false) rfl rfl (congrArg Value.bool (decide_eq_false hc3)) rfl) rfl (x_load (seg := [.slice A0_2 m.follow.length c0_2]) ty24 rfl (by simp) rfl (CF.box (m := 1) (S2.box_at (j := 0) rfl) rfl)) ?_
  refine p_v (v := .int .i64 (m.follow.length : Int)) rfl (wanted_of (j := 2) (want := false) (d := 11) (b := false) rfl rfl (congrArg Value.bool (decide_eq_false hc3)) rfl) rfl (x_len_slice u24 rfl) ?_
  refine p_v (v := .int .i64 (m.spots.length : Int)) rfl (wanted_of (j := 2) (want := false) (d := 11) (b := false) rfl rfl (congrArg Value.bool (decide_eq_false hc3)) rfl) rfl (x_move rfl) ?_
  refine p_v (v := .bool (decide ((m.follow.length : Int) ≠ (m.spots.length : Int)))) rfl (wanted_of (j := 2) (want := false) (d := 11) (b := false) rfl rfl (congrArg Value.bool (decide_eq_false hc3)) rfl) rfl (x_neq rfl rfl) ?_
  refine p_v (v := .bool (decide ((m.follow.length : Int) ≠ (m.spots.length : Int)))) rfl rfl rfl (x_pick_f (congrArg Value.bool (decide_eq_false hc3)) rfl) ?_
  refine p_v (v := .bool (decide ((m.follow.length : Int) ≠ (m.spots.length : Int)))) rfl rfl rfl (x_move rfl) ?_
  by_cases hc4 : (m.follow.length : Int) ≠ (m.spots.length : Int)
  ·skip
   refine p_off rfl (wanted_of (j := 9) (want := false) (d := 18) (b := true) rfl rfl (congrArg Value.bool (decide_eq_true hc4)) rfl) rfl ?_
   refine p_off rfl (wanted_of (j := 9) (want := false) (d := 18) (b := true) rfl rfl (congrArg Value.bool (decide_eq_true hc4)) rfl) rfl ?_
   refine p_off rfl (wanted_of (j := 9) (want := false) (d := 18) (b := true) rfl rfl (congrArg Value.bool (decide_eq_true hc4)) rfl) rfl ?_
   refine p_off rfl (wanted_of (j := 9) (want := false) (d := 18) (b := true) rfl rfl (congrArg Value.bool (decide_eq_true hc4)) rfl) rfl ?_
   refine p_off rfl (wanted_of (j := 9) (want := false) (d := 18) (b := true) rfl rfl (congrArg Value.bool (decide_eq_true hc4)) rfl) rfl ?_
   refine p_v (v := .bool true) rfl rfl rfl (x_pick_t (congrArg Value.bool (decide_eq_true hc4)) rfl) ?_
   refine p_v (v := .bool true) rfl rfl rfl (x_move rfl) ?_
   refine p_off rfl rfl rfl ?_
   refine p_off rfl rfl rfl ?_
   refine p_off rfl rfl rfl ?_
   refine p_off rfl rfl rfl ?_
   refine p_off rfl rfl rfl ?_
   refine p_v (v := .bool true) rfl rfl rfl (x_pick_t rfl rfl) ?_
   refine run_region_end ?_
   refine run_cond (b := true) rfl ?_
   simp only [if_true, if_false, Bool.false_eq_true]
   refine run_seq ?_
   refine run_reg (l := [0]) rfl ?_
   refine p_v (v := .bool false) rfl rfl rfl (x_assign rfl) ?_
   refine run_region_end ?_
   refine run_ret Tryd.func37 (res1 rfl (res_tmp (v := .bool false) rfl)) ?_
   have q0 : (rightM m : Bool) = false := by
    first | exact right_no1 m (by assumption) | exact right_no2 m (by assumption) | exact right_no3 m (by assumption) | exact right_no4 m (by assumption) | exact right_no5 m hI_.1 (by omega) (by assumption) | exact right_no6 m hI_.1 (by omega) (by assumption) | exact right_ok m (by omega) (by assumption) (by assumption) (by assumption) (by assumption) hI_.2.2
   refine ⟨_, rfl, (fun _ => none), ?_, ?_⟩
   · exact S2.sub [] (by decide) rfl _ rfl
   · first | rfl | (simp only [q0]; rfl) | (simp only [q0])
  ·skip
   refine p_v (v := .pointer (some ⟨b1, 3, none⟩)) rfl (wanted_of (j := 9) (want := false) (d := 18) (b := false) rfl rfl (congrArg Value.bool (decide_eq_false hc4)) rfl) rfl (x_fieldAt fd27_3 ty25 rfl rfl) ?_
   refine p_v (v := .slice A0_3 m.last.length c0_3) rfl (wanted_of (j := 9) (want := false) (d := 18) (b := false) rfl rfl (congrArg Value.bool (decide_eq_false hc4)) rfl) rfl (x_load (seg := [.slice A0_3 m.last.length c0_3]) ty25 rfl (by simp) rfl (CF.box (m := 1) (S2.box_at (j := 0) rfl) rfl)) ?_
   refine p_v (v := .int .i64 (m.last.length : Int)) rfl (wanted_of (j := 9) (want := false) (d := 18) (b := false) rfl rfl (congrArg Value.bool (decide_eq_false hc4)) rfl) rfl (x_len_slice u25 rfl) ?_
   refine p_v (v := .int .i64 (m.spots.length : Int)) rfl (wanted_of (j := 9) (want := false) (d := 18) (b := false) rfl rfl (congrArg Value.bool (decide_eq_false hc4)) rfl) rfl (x_move rfl) ?_
   refine p_v (v := .bool (decide ((m.last.length : Int) ≠ (m.spots.length : Int)))) rfl (wanted_of (j := 9) (want := false) (d := 18) (b := false) rfl rfl (congrArg Value.bool (decide_eq_false hc4)) rfl) rfl (x_neq rfl rfl) ?_
   refine p_v (v := .bool (decide ((m.last.length : Int) ≠ (m.spots.length : Int)))) rfl rfl rfl (x_pick_f (congrArg Value.bool (decide_eq_false hc4)) rfl) ?_
   refine p_v (v := .bool (decide ((m.last.length : Int) ≠ (m.spots.length : Int)))) rfl rfl rfl (x_move rfl) ?_
   by_cases hc5 : (m.last.length : Int) ≠ (m.spots.length : Int)
   ·skip
    refine p_off rfl (wanted_of (j := 16) (want := false) (d := 25) (b := true) rfl rfl (congrArg Value.bool (decide_eq_true hc5)) rfl) rfl ?_
    refine p_off rfl (wanted_of (j := 16) (want := false) (d := 25) (b := true) rfl rfl (congrArg Value.bool (decide_eq_true hc5)) rfl) rfl ?_
    refine p_off rfl (wanted_of (j := 16) (want := false) (d := 25) (b := true) rfl rfl (congrArg Value.bool (decide_eq_true hc5)) rfl) rfl ?_
    refine p_off rfl (wanted_of (j := 16) (want := false) (d := 25) (b := true) rfl rfl (congrArg Value.bool (decide_eq_true hc5)) rfl) rfl ?_
    refine p_off rfl (wanted_of (j := 16) (want := false) (d := 25) (b := true) rfl rfl (congrArg Value.bool (decide_eq_true hc5)) rfl) rfl ?_
    refine p_v (v := .bool true) rfl rfl rfl (x_pick_t (congrArg Value.bool (decide_eq_true hc5)) rfl) ?_
    refine run_region_end ?_
    refine run_cond (b := true) rfl ?_
    simp only [if_true, if_false, Bool.false_eq_true]
    refine run_seq ?_
    refine run_reg (l := [0]) rfl ?_
    refine p_v (v := .bool false) rfl rfl rfl (x_assign rfl) ?_
    refine run_region_end ?_
    refine run_ret Tryd.func37 (res1 rfl (res_tmp (v := .bool false) rfl)) ?_
    have q0 : (rightM m : Bool) = false := by
     first | exact right_no1 m (by assumption) | exact right_no2 m (by assumption) | exact right_no3 m (by assumption) | exact right_no4 m (by assumption) | exact right_no5 m hI_.1 (by omega) (by assumption) | exact right_no6 m hI_.1 (by omega) (by assumption) | exact right_ok m (by omega) (by assumption) (by assumption) (by assumption) (by assumption) hI_.2.2
    refine ⟨_, rfl, (fun _ => none), ?_, ?_⟩
    · exact S2.sub [] (by decide) rfl _ rfl
    · first | rfl | (simp only [q0]; rfl) | (simp only [q0])
   ·skip
    refine p_v (v := .pointer (some ⟨b1, 1, none⟩)) rfl (wanted_of (j := 16) (want := false) (d := 25) (b := false) rfl rfl (congrArg Value.bool (decide_eq_false hc5)) rfl) rfl (x_fieldAt fd27_1 ty23 rfl rfl) ?_
    refine p_v (v := .slice A0_1 m.first.length c0_1) rfl (wanted_of (j := 16) (want := false) (d := 25) (b := false) rfl rfl (congrArg Value.bool (decide_eq_false hc5)) rfl) rfl (x_load (seg := [.slice A0_1 m.first.length c0_1]) ty23 rfl (by simp) rfl (CF.box (m := 1) (S2.box_at (j := 0) rfl) rfl)) ?_
    refine p_v (v := .int .i64 (m.spots.length : Int)) rfl (wanted_of (j := 16) (want := false) (d := 25) (b := false) rfl rfl (congrArg Value.bool (decide_eq_false hc5)) rfl) rfl (x_move rfl) ?_
    refine p_c rfl (wanted_of (j := 16) (want := false) (d := 25) (b := false) rfl rfl (congrArg Value.bool (decide_eq_false hc5)) rfl) rfl (y_call (args := [.slice A0_1 m.first.length c0_1, .int .i64 (m.spots.length : Int)]) ca102 rfl rfl) (rising_calls w1 m.first A0_1 c0_1 b0_1 (l0_1.mono (St.le0 S2)) (m.spots.length : Int) (in_i64 (by first|omega|(simp;omega)|assumption) (by first|omega|(simp;omega)|assumption))) ?_
    rintro _ w6 ⟨h6, T6, rfl⟩
    have S7 := S2.keep (Chg.of_below T6.below)
    refine p_v (v := .bool (!(rises (m.spots.length : Int) (-1) m.first))) rfl (wanted_of (j := 16) (want := false) (d := 25) (b := false) rfl rfl (congrArg Value.bool (decide_eq_false hc5)) rfl) rfl (x_not rfl) ?_
    refine p_v (v := .bool (!(rises (m.spots.length : Int) (-1) m.first))) rfl rfl rfl (x_pick_f (congrArg Value.bool (decide_eq_false hc5)) rfl) ?_
    refine run_region_end ?_
    refine run_cond_nsplit (b := rises (m.spots.length : Int) (-1) m.first) rfl (fun hc8 => ?_) (fun hc8 => ?_)
    ·skip
     refine run_seq ?_
     refine run_reg (l := [0]) rfl ?_
     refine p_v (v := .bool false) rfl rfl rfl (x_assign rfl) ?_
     refine run_region_end ?_
     refine run_ret Tryd.func37 (res1 rfl (res_tmp (v := .bool false) rfl)) ?_
     have q0 : (rightM m : Bool) = false := by
      first | exact right_no1 m (by assumption) | exact right_no2 m (by assumption) | exact right_no3 m (by assumption) | exact right_no4 m (by assumption) | exact right_no5 m hI_.1 (by omega) (by assumption) | exact right_no6 m hI_.1 (by omega) (by assumption) | exact right_ok m (by omega) (by assumption) (by assumption) (by assumption) (by assumption) hI_.2.2
     refine ⟨_, rfl, (fun _ => none), ?_, ?_⟩
     · exact S7.sub [] (by decide) rfl _ rfl
     · first | rfl | (simp only [q0]; rfl) | (simp only [q0])
    ·skip
     refine run_skip ?_
     refine run_seq ?_
     refine run_seq ?_
     refine run_reg (l := [0, 1, 2, 3]) rfl ?_
     refine p_v (v := .pointer (some ⟨b1, 0, none⟩)) rfl rfl rfl (x_fieldAt fd27_0 ty22 rfl rfl) ?_
     refine p_v (v := .slice A0_0 m.spots.length c0_0) rfl rfl rfl (x_load (seg := [.slice A0_0 m.spots.length c0_0]) ty22 rfl (by simp) rfl (CF.box (m := 1) (S7.box_at (j := 0) rfl) rfl)) ?_
     refine p_v (v := .int .i64 (m.spots.length : Int)) rfl rfl rfl (x_len_slice u22 rfl) ?_
     refine p_v (v := .int .i64 0) rfl rfl rfl (x_move rfl) ?_
     refine run_region_end ?_
     refine run_block ?_
     refine run_loop (S := Int) (fun (q_ : Int) ρ w' => match q_ with | t35 => ∃ (h : Ghost), Le (fun _ => none) h ∧ St w.heap.size w h w' [box b1 27 [.slice A0_0 m.spots.length c0_0, .slice A0_1 m.first.length c0_1, .slice A0_2 m.follow.length c0_2, .slice A0_3 m.last.length c0_3, .bool m.empty]] ∧ ρ 1 = .pointer (some ⟨b1, 0, none⟩) ∧ ρ 3 = .int .i64 (m.spots.length : Int) ∧ ρ 33 = .slice A0_0 m.spots.length c0_0 ∧ ρ 34 = .int .i64 (m.spots.length : Int) ∧ ρ 35 = .int .i64 t35 ∧ inK .i64 t35 ∧ (0 ≤ t35 ∧ t35 ≤ (m.spots.length : Int) ∧ allTo (rowOk m) t35 = true)) (fun q_ => match q_ with | t35 => (m.spots.length - t35).toNat) (0) ⟨(fun _ => none), Le.refl _, S7.sub [0] (by decide) rfl _ rfl, rfl, rfl, rfl, rfl, rfl, (in_i64 (by first|omega|(simp;omega)|assumption) (by first|omega|(simp;omega)|assumption)), (by exact ⟨by omega, by omega, allTo_0 _⟩)⟩ ?_
     rintro t35 ih9 ρ9 w9 ⟨h9, le9, S9, r9_1, r9_3, r9_33, r9_34, r9_35, f9_0, hI9⟩
     have lf9_0 := i64_lo f9_0; have hf9_0 := i64_hi f9_0
     refine run_seq ?_
     refine run_reg (l := [0]) rfl ?_
     refine p_v (v := .bool (decide (t35 < (m.spots.length : Int)))) rfl rfl rfl (x_lss r9_35 r9_34) ?_
     refine run_region_end ?_
     refine run_seq ?_
     refine run_cond_prop (p := t35 < (m.spots.length : Int)) rfl (fun hc10 => ?_) (fun hc10 => ?_)
     ·skip
      refine run_skip ?_
      refine run_seq ?_
      refine run_block ?_
      refine run_seq ?_
      refine run_reg (l := [0, 1, 2, 3, 4, 5]) rfl ?_
      refine p_v (v := .int .i64 t35) rfl rfl rfl (x_move r9_35) ?_
      obtain ⟨ad11, seg11, a11, rp11, ce11⟩ := e_index_ro (q := t35) (m := 5) l0_0 rfl (by first|omega|(simp;omega)|assumption) (by first|omega|(simp;omega)|assumption)
      refine p_v (v := .pointer (some ad11)) rfl rfl rfl (x_index_ro u22 ty101 r9_33 r9_35 a11 (by first|omega|(simp;omega)|assumption) (by first|omega|(simp;omega)|assumption)) ?_
      obtain ⟨rfl, ok11⟩ := rp11
      have slook11 := u8_lo ok11; have shiok11 := u8_hi ok11
      refine p_v (v := .agg (encSpot (at_ m.spots t35)).toArray) rfl rfl rfl (x_load (seg := (encSpot (at_ m.spots t35))) ty101 rfl (by simp) rfl (CF.ghost ce11 (St.le0 S9))) ?_
      obtain ⟨b12, w12, r12, g12, T12⟩ := e_box (P := Tryd.prog) S9 101 (v := (.agg #[.int .u64 0, .int .u64 0, .int .u64 0, .int .u64 0, .int .u8 0])) (encSpot (⟨0, 0⟩ : Spot)) rfl
      have S13 := T12
      dsimp only [lAa, lAn, lA0, lAs] at S13
      refine p_v (v := .pointer (some ⟨b12, 0, none⟩)) rfl rfl rfl (x_alloc ty101 r12) ?_
      refine p_v (v := .int .i64 t35) rfl rfl rfl (x_assign rfl) ?_
      obtain ⟨w14, r14, g14, T14⟩ := e_store (P := Tryd.prog) (off := 0) (v := .agg (encSpot (at_ m.spots t35)).toArray) (vs := (encSpot (at_ m.spots t35))) S13 ty101 rfl rfl (j := 1) rfl (by first | decide | exact Nat.le_of_ble_eq_true rfl) (encSpot_one _)
      have S15 := T14.fx 1 (box b12 101 (encSpot (at_ m.spots t35))) rfl
      dsimp only [lAa, lAn, lA0, lAs] at S15
      refine p_s rfl rfl (x_store rfl rfl r14) ?_
      refine run_region_end ?_
      refine run_seq ?_
      refine run_reg (l := [0, 1, 2, 3, 4, 5, 6, 7, 8, 9, 10, 11, 12]) rfl ?_
      refine p_v (v := .pointer (some ⟨b12, 4, none⟩)) rfl rfl rfl (x_fieldAt fd101_1 ty5 rfl rfl) ?_
      refine p_v (v := .int .u8 ((at_ m.spots t35).tag)) rfl rfl rfl (x_load (seg := [.int .u8 ((at_ m.spots t35).tag)]) ty5 rfl (by simp) rfl (CF.box (m := 1) (S15.box_at (j := 1) rfl) rfl)) ?_
      refine p_v (v := .bool (decide (2 < ((at_ m.spots t35).tag)))) rfl rfl rfl (x_gtr rfl rfl) ?_
      refine p_v (v := .bool (decide (2 < ((at_ m.spots t35).tag)))) rfl rfl rfl (x_move rfl) ?_
      by_cases hc16 : 2 < ((at_ m.spots t35).tag)
      ·skip
       refine p_off rfl (wanted_of (j := 3) (want := false) (d := 43) (b := true) rfl rfl (congrArg Value.bool (decide_eq_true hc16)) rfl) rfl ?_
       refine p_off rfl (wanted_of (j := 3) (want := false) (d := 43) (b := true) rfl rfl (congrArg Value.bool (decide_eq_true hc16)) rfl) rfl ?_
       refine p_off rfl (wanted_of (j := 3) (want := false) (d := 43) (b := true) rfl rfl (congrArg Value.bool (decide_eq_true hc16)) rfl) rfl ?_
       refine p_off rfl (wanted_of (j := 3) (want := false) (d := 43) (b := true) rfl rfl (congrArg Value.bool (decide_eq_true hc16)) rfl) rfl ?_
       refine p_off rfl (wanted_of (j := 3) (want := false) (d := 43) (b := true) rfl rfl (congrArg Value.bool (decide_eq_true hc16)) rfl) rfl ?_
       refine p_off rfl (wanted_of (j := 3) (want := false) (d := 43) (b := true) rfl rfl (congrArg Value.bool (decide_eq_true hc16)) rfl) rfl ?_
       refine p_off rfl (wanted_of (j := 3) (want := false) (d := 43) (b := true) rfl rfl (congrArg Value.bool (decide_eq_true hc16)) rfl) rfl ?_
       refine p_off rfl (wanted_of (j := 3) (want := false) (d := 43) (b := true) rfl rfl (congrArg Value.bool (decide_eq_true hc16)) rfl) rfl ?_
       refine p_v (v := .bool true) rfl rfl rfl (x_pick_t (congrArg Value.bool (decide_eq_true hc16)) rfl) ?_
       refine run_region_end ?_
       refine run_cond (b := true) rfl ?_
       simp only [if_true, if_false, Bool.false_eq_true]
       refine run_seq ?_
       refine run_reg (l := [0]) rfl ?_
       refine p_v (v := .bool false) rfl rfl rfl (x_assign rfl) ?_
       refine run_region_end ?_
       refine run_ret Tryd.func37 (res1 rfl (res_tmp (v := .bool false) rfl)) ?_
       have q0 : (rightM m : Bool) = false := by
        first | exact right_no1 m (by assumption) | exact right_no2 m (by assumption) | exact right_no3 m (by assumption) | exact right_no4 m (by assumption) | exact right_no5 m hI9.1 (by omega) (by assumption) | exact right_no6 m hI9.1 (by omega) (by assumption) | exact right_ok m (by omega) (by assumption) (by assumption) (by assumption) (by assumption) hI9.2.2
       refine ⟨_, rfl, h9, ?_, ?_⟩
       · exact S15.sub [] (by decide) rfl _ rfl
       · first | rfl | (simp only [q0]; rfl) | (simp only [q0])
      ·skip
       refine p_v (v := .pointer (some ⟨b1, 2, none⟩)) rfl (wanted_of (j := 3) (want := false) (d := 43) (b := false) rfl rfl (congrArg Value.bool (decide_eq_false hc16)) rfl) rfl (x_fieldAt fd27_2 ty24 rfl r9_1) ?_
       refine p_v (v := .slice A0_2 m.follow.length c0_2) rfl (wanted_of (j := 3) (want := false) (d := 43) (b := false) rfl rfl (congrArg Value.bool (decide_eq_false hc16)) rfl) rfl (x_load (seg := [.slice A0_2 m.follow.length c0_2]) ty24 rfl (by simp) rfl (CF.box (m := 1) (S15.box_at (j := 0) rfl) rfl)) ?_
       refine p_v (v := .int .i64 t35) rfl (wanted_of (j := 3) (want := false) (d := 43) (b := false) rfl rfl (congrArg Value.bool (decide_eq_false hc16)) rfl) rfl (x_move rfl) ?_
       obtain ⟨ad17, seg17, a17, rp17, ce17⟩ := e_index_ro (q := t35) (m := 1) l0_2 rfl (by first|omega|(simp;omega)|assumption) (by first|omega|(simp;omega)|assumption)
       refine p_v (v := .pointer (some ad17)) rfl (wanted_of (j := 3) (want := false) (d := 43) (b := false) rfl rfl (congrArg Value.bool (decide_eq_false hc16)) rfl) rfl (x_index_ro u24 ty23 rfl rfl a17 (by first|omega|(simp;omega)|assumption) (by first|omega|(simp;omega)|assumption)) ?_
       obtain ⟨A17, c17, rfl, lc17, cm17, ld17⟩ := rp17
       have cn17 := cm17; simp only [maxLen] at cn17
       refine p_v (v := .slice A17 (at_ m.follow t35).length c17) rfl (wanted_of (j := 3) (want := false) (d := 43) (b := false) rfl rfl (congrArg Value.bool (decide_eq_false hc16)) rfl) rfl (x_load (seg := [.slice A17 (at_ m.follow t35).length c17]) ty23 rfl (by simp) rfl (CF.ghost ce17 (St.le0 S15))) ?_
       refine p_v (v := .int .i64 (m.spots.length : Int)) rfl (wanted_of (j := 3) (want := false) (d := 43) (b := false) rfl rfl (congrArg Value.bool (decide_eq_false hc16)) rfl) rfl (x_move r9_3) ?_
       refine p_c rfl (wanted_of (j := 3) (want := false) (d := 43) (b := false) rfl rfl (congrArg Value.bool (decide_eq_false hc16)) rfl) rfl (y_call (args := [.slice A17 (at_ m.follow t35).length c17, .int .i64 (m.spots.length : Int)]) ca102 rfl rfl) (rising_calls w14 (at_ m.follow t35) A17 c17 (And.intro lc17 cm17) (ld17.mono (St.le0 S15)) (m.spots.length : Int) (in_i64 (by first|omega|(simp;omega)|assumption) (by first|omega|(simp;omega)|assumption))) ?_
       rintro _ w18 ⟨h18, T18, rfl⟩
       have S19 := S15.keep (Chg.of_below T18.below)
       refine p_v (v := .bool (!(rises (m.spots.length : Int) (-1) (at_ m.follow t35)))) rfl (wanted_of (j := 3) (want := false) (d := 43) (b := false) rfl rfl (congrArg Value.bool (decide_eq_false hc16)) rfl) rfl (x_not rfl) ?_
       refine p_v (v := .bool (!(rises (m.spots.length : Int) (-1) (at_ m.follow t35)))) rfl rfl rfl (x_pick_f (congrArg Value.bool (decide_eq_false hc16)) rfl) ?_
       refine run_region_end ?_
       refine run_cond_nsplit (b := rises (m.spots.length : Int) (-1) (at_ m.follow t35)) rfl (fun hc20 => ?_) (fun hc20 => ?_)
       ·skip
        refine run_seq ?_
        refine run_reg (l := [0]) rfl ?_
        refine p_v (v := .bool false) rfl rfl rfl (x_assign rfl) ?_
        refine run_region_end ?_
        refine run_ret Tryd.func37 (res1 rfl (res_tmp (v := .bool false) rfl)) ?_
        have q0 : (rightM m : Bool) = false := by
         first | exact right_no1 m (by assumption) | exact right_no2 m (by assumption) | exact right_no3 m (by assumption) | exact right_no4 m (by assumption) | exact right_no5 m hI9.1 (by omega) (by assumption) | exact right_no6 m hI9.1 (by omega) (by assumption) | exact right_ok m (by omega) (by assumption) (by assumption) (by assumption) (by assumption) hI9.2.2
        refine ⟨_, rfl, h9, ?_, ?_⟩
        · exact S19.sub [] (by decide) rfl _ rfl
        · first | rfl | (simp only [q0]; rfl) | (simp only [q0])
       ·skip
        refine run_skip ?_
        refine run_inBlock ?_
        refine run_reg (l := [0, 1]) rfl ?_
        refine p_v (v := .int .i64 (t35 + 1)) rfl rfl rfl (x_add r9_35 rfl (in_i64 (by first|omega|(simp;omega)|assumption) (by first|omega|(simp;omega)|assumption))) ?_
        refine p_v (v := .int .i64 (t35 + 1)) rfl rfl rfl (x_move rfl) ?_
        refine run_region_end ?_
        refine ih9 (t35 + 1) _ _ (by dsimp only; omega) ⟨h9, le9, S19.sub [0] (by decide) rfl _ rfl, r9_1, r9_3, r9_33, r9_34, rfl, (in_i64 (by first|omega|(simp;omega)|assumption) (by first|omega|(simp;omega)|assumption)), (by exact ⟨by omega, by omega, allTo_step hI9.1 hI9.2.2 (by unfold rowOk; rw [Int.toNat_of_nonneg hI9.1, decide_eq_true (by omega), (by assumption : rises _ _ _ = true)]; rfl)⟩)⟩
     ·skip
      refine run_exit rfl ?_
      refine run_seq ?_
      refine run_reg (l := [0]) rfl ?_
      refine p_v (v := .bool true) rfl rfl rfl (x_assign rfl) ?_
      refine run_region_end ?_
      refine run_ret Tryd.func37 (res1 rfl (res_tmp (v := .bool true) rfl)) ?_
      have q0 : (rightM m : Bool) = true := by
       first | exact right_no1 m (by assumption) | exact right_no2 m (by assumption) | exact right_no3 m (by assumption) | exact right_no4 m (by assumption) | exact right_no5 m hI9.1 (by omega) (by assumption) | exact right_no6 m hI9.1 (by omega) (by assumption) | exact right_ok m (by omega) (by assumption) (by assumption) (by assumption) (by assumption) hI9.2.2
      refine ⟨_, rfl, h9, ?_, ?_⟩
      · exact S9.sub [] (by decide) rfl _ rfl
      · first | rfl | (simp only [q0]; rfl) | (simp only [q0])
end Go.Proofs.YtfoemogojbnfhaaDoor
namespace Gx
open Go Go.RowKit
set_option linter.unusedSimpArgs false
set_option linter.unusedSectionVars false
set_option linter.unusedVariables false
def trues (n : Nat) (l : List Bool) : Nat := (List.range n).countP fun i => at_ l ((i : Nat) : Int)
theorem trues_le (n : Nat) (l : List Bool) : trues n l ≤ n := by
  have := List.countP_le_length (p := fun i : Nat => at_ l ((i : Nat) : Int)) (l := List.range n)
  simpa [trues] using this
def Sub (n : Nat) (a b : List Bool) : Prop := ∀ i : Nat, i < n → at_ a ((i : Nat) : Int) = true → at_ b ((i : Nat) : Int) = true
theorem Sub.refl (n : Nat) (a : List Bool) : Sub n a a := fun _ _ h => h
theorem Sub.trans {n : Nat} {a b c : List Bool} (h : Sub n a b) (h2 : Sub n b c) : Sub n a c := fun i hi hx => h2 i hi (h i hi hx)
theorem marks_ext {n : Nat} {a b : List Bool} (ha : a.length = n) (hb : b.length = n) (h : ∀ i : Nat, i < n → at_ a ((i : Nat) : Int) = at_ b ((i : Nat) : Int)) : a = b :=
  list_ext ha hb fun k h0 h1 => by have := h k.toNat (by omega); rwa [Int.toNat_of_nonneg h0] at this
theorem mark_set_at {l : List Bool} {t : Int} (h0 : 0 ≤ t) (h1 : t < (l.length : Int)) (v : Bool) (i : Nat) : at_ (l.set t.toNat v) ((i : Nat) : Int) = if ((i : Nat) : Int) = t then v else at_ l ((i : Nat) : Int) := by
  unfold at_
  rw [List.getD_eq_getElem?_getD, List.getElem?_set, List.getD_eq_getElem?_getD, Int.toNat_natCast]
  by_cases h : ((i : Nat) : Int) = t
  · rw [if_pos h, if_pos (by omega), if_pos (by omega)]; rfl
  · rw [if_neg h, if_neg (by omega)]
theorem sub_set {n : Nat} {l : List Bool} {t : Int} (h0 : 0 ≤ t) (h1 : t < (l.length : Int)) : Sub n l (l.set t.toNat true) := fun i hi h => by
  rw [mark_set_at h0 h1]; split
  · rfl
  · exact h
def lfpTo (n : Nat) (F : List Bool → Nat → Bool) : Nat → List Bool
  | 0 => tab n fun _ => false
  | k + 1 => tab n (F (lfpTo n F k))
def lfp (n : Nat) (F : List Bool → Nat → Bool) : List Bool := lfpTo n F n
theorem sub_antisymm {n : Nat} {a b : List Bool} (ha : a.length = n) (hb : b.length = n) (h : Sub n a b) (h2 : Sub n b a) : a = b :=
  marks_ext ha hb fun i hi => by
    rw [Bool.eq_iff_iff]; exact ⟨h i hi, h2 i hi⟩
end Gx
namespace Gx
open Go Go.RowKit
set_option linter.unusedSimpArgs false
set_option linter.unusedSectionVars false
set_option linter.unusedVariables false
section
variable {α : Type} [Inhabited α] [DecidableEq α] {a b : List α} {t : Int}
end
structure Small (m : Mach) : Prop where
  spots : (m.spots.length : Int) ≤ 250
  first : (m.first.length : Int) ≤ 250
  follow : (m.follow.length : Int) ≤ 250
  last : (m.last.length : Int) ≤ 250
  row : ∀ i : Int, 0 ≤ i → i < (m.follow.length : Int) → ((at_ m.follow i).length : Int) ≤ 250
theorem rises_len {b : Int} : ∀ {last : Int} {l : List Int}, rises b last l = true → last < b → (l.length : Int) ≤ b - last - 1
  | last, [], _, h => by simp; omega
  | last, n :: r, h, hb => by
    unfold rises at h
    simp only [Bool.and_eq_true, decide_eq_true_eq] at h
    have := rises_len h.2 h.1.2
    simp; omega
theorem rises_len0 {b : Int} {l : List Int} (h : rises b (-1) l = true) (hb : 0 ≤ b) : (l.length : Int) ≤ b := by
  rcases Int.lt_or_eq_of_le hb with h1 | h1
  · have := rises_len h (by omega); omega
  · subst h1
    cases l with
    | nil => simp
    | cons n r => have := rises_lt h n (by simp); omega
theorem Right.small' {m : Mach} (h : Right m) : Small m := by
  have h1 := h.small
  have h2 := h.follow
  have h3 := h.last
  have h4 := rises_len0 h.first (by omega)
  refine ⟨h1, by omega, by omega, by omega, fun i h0 hi => ?_⟩
  have := rises_len0 (h.row i h0 (by omega)) (by omega)
  omega
theorem some_full (s : BSet) : decide (0 < count s) = decide (s ≠ 0) := by
  apply decide_eq_decide.2
  constructor
  · intro h e
    subst e
    have : count (0 : BSet) = 0 := by decide +kernel
    omega
  · intro h
    rcases Int.lt_or_le 0 (count s) with h1 | h1
    · exact h1
    · refine (h ?_).elim
      have h2 := list_len s
      have h3 : listOf s = [] := List.eq_nil_of_length_eq_zero (by omega)
      rw [← setOf_list s, h3]; decide +kernel
end Gx
namespace Gx
open Go Go.RowKit
set_option linter.unusedSimpArgs false
set_option linter.unusedSectionVars false
set_option linter.unusedVariables false
def placeF {α : Type} (f : α → Bool) : List α → Int → Int
  | [], _ => -1
  | x :: r, i => if f x then i else placeF f r (i + 1)
theorem placeF_any {α : Type} (f : α → Bool) : ∀ (l : List α) (i : Int), 0 ≤ i → decide (0 ≤ placeF f l i) = l.any f
  | [], i, _ => rfl
  | x :: r, i, h => by
    unfold placeF
    cases hx : f x with
    | true => simp [hx, h]
    | false =>
      have h1 := placeF_any f r (i + 1) (by omega)
      simp only [Bool.false_eq_true, if_false, List.any_cons, hx, Bool.false_or, h1]
theorem placeF_drop {α : Type} [Inhabited α] (f : α → Bool) (l : List α) {t : Int} (h0 : 0 ≤ t) (h1 : t < (l.length : Int)) : placeF f (l.drop t.toNat) t = if f (at_ l t) then t else placeF f (l.drop (t + 1).toNat) (t + 1) := by
  rw [drop_cons l h0 h1]; rfl
theorem placeF_nil {α : Type} (f : α → Bool) (i : Int) : placeF f [] i = -1 := rfl
structure Grow (n : Nat) (c0 c : List Bool) (Q : Prop) : Prop where
  len0 : (c0.length : Int) = n
  len : (c.length : Int) = n
  sub : Sub n c0 c
  told : c = c0 → Q
theorem Grow.keep {n : Nat} {c0 c : List Bool} {Q Q' : Prop} (g : Grow n c0 c Q) (h : c = c0 → Q → Q') : Grow n c0 c Q' := ⟨g.len0, g.len, g.sub, fun e => h e (g.told e)⟩
theorem Grow.set {n : Nat} {c0 c : List Bool} {Q Q' : Prop} (g : Grow n c0 c Q) {t : Int} (h0 : 0 ≤ t) (h1 : t < (n : Int)) (h : at_ c0 t = true → Q → Q') : Grow n c0 (c.set t.toNat true) Q' where
  len0 := g.len0
  len := by rw [List.length_set]; exact g.len
  sub := g.sub.trans (sub_set h0 (by rw [g.len]; exact h1))
  told := fun e => by
    have hs : Sub n c (c.set t.toNat true) := sub_set h0 (by rw [g.len]; exact h1)
    have e2 : c = c0 := sub_antisymm (n := n) (by have := g.len; omega) (by have := g.len0; omega) (by rw [← e]; exact hs) g.sub
    have h3 := mark_set_at (l := c) h0 (by rw [g.len]; exact h1) true t.toNat
    rw [e, Int.toNat_of_nonneg h0, if_pos rfl] at h3
    exact h h3 (g.told e2)
section
variable {m : Mach} {c0 g0 come goes : List Bool} {QC QG QC' QG' : Prop}
end
section
variable {m : Mach} {c0 g0 come goes : List Bool} {QC QG : Prop} {i k : Int}
end
end Gx
namespace Gx
open Go Go.RowKit
set_option linter.unusedSimpArgs false
set_option linter.unusedSectionVars false
set_option linter.unusedVariables false
def someM : Mach := ⟨[⟨setOf [97], 0⟩, ⟨setOf [98], 0⟩, ⟨setOf [99], 0⟩], [0], [[1, 2], [], []], [false, true, false], true⟩
def addS (out : List BSet) (s : BSet) : List BSet := if out.any fun x => decide (s = x) then out else out ++ [s]
def setsOfTo (m : Mach) (t : Int) : List BSet := ((m.spots.take t.toNat).map fun x => x.set).foldl addS []
def setsM (m : Mach) : List BSet := (m.spots.map fun x => x.set).foldl addS []
theorem sets_0 (m : Mach) : ([] : List BSet) = setsOfTo m 0 := rfl
theorem sets_step (m : Mach) {t : Int} (h0 : 0 ≤ t) (h1 : t < (m.spots.length : Int)) : setsOfTo m (t + 1) = addS (setsOfTo m t) (at_ m.spots t).set := by
  unfold setsOfTo
  rw [take_next _ h0 h1, List.map_append, List.foldl_append]; rfl
theorem sets_old (m : Mach) {t : Int} (h0 : 0 ≤ t) (h1 : t < (m.spots.length : Int)) {out : List BSet} (ho : out = setsOfTo m t) (h : (out.any fun x => decide ((at_ m.spots t).set = x)) = true) : out = setsOfTo m (t + 1) := by
  rw [sets_step m h0 h1, ← ho]
  unfold addS; rw [if_pos h]
theorem sets_new (m : Mach) {t : Int} (h0 : 0 ≤ t) (h1 : t < (m.spots.length : Int)) {out : List BSet} (ho : out = setsOfTo m t) (h : (out.any fun x => decide ((at_ m.spots t).set = x)) = false) : out ++ [(at_ m.spots t).set] = setsOfTo m (t + 1) := by
  rw [sets_step m h0 h1, ← ho]
  unfold addS; rw [if_neg (by rw [h]; simp)]
theorem sets_end (m : Mach) {t : Int} (h : (m.spots.length : Int) ≤ t) : setsM m = setsOfTo m t := by
  unfold setsM setsOfTo; rw [List.take_of_length_le (by omega)]
theorem fold_add_len : ∀ (l out : List BSet), (l.foldl addS out).length ≤ out.length + l.length
  | [], out => by simp
  | s :: l, out => by
    have := fold_add_len l (addS out s)
    have h2 : (addS out s).length ≤ out.length + 1 := by unfold addS; split <;> simp
    simp only [List.foldl_cons, List.length_cons]; omega
theorem setsTo_len' (m : Mach) {t : Int} (h0 : 0 ≤ t) : ((setsOfTo m t).length : Int) ≤ t := by
  have := fold_add_len ((m.spots.take t.toNat).map fun x => x.set) []
  have h2 := List.length_take_le t.toNat m.spots
  simp only [List.length_map, List.length_nil, Nat.zero_add] at this
  unfold setsOfTo; omega
end Gx
namespace Go.Proofs.YtfoemogojbnfhaaDoor
open Go Go.RowKit Gx
set_option maxHeartbeats 1000000
set_option linter.unusedVariables false
set_option linter.unusedSimpArgs false
set_option maxRecDepth 8000
attribute [local irreducible] listOf count first someIn has setOf wbits Lib.ctz rises rightM rowOk tab markP intoP behindP runTo endsIn runM anyTo allTo lfp placeF trues addS setsOfTo setsM
theorem indexS_calls (w : World) (s : List BSet) (A0 : Option Addr) (c0 : Nat) (b0 : s.length ≤ c0 ∧ c0 ≤ maxLen) (l0 : Leads kSet (hp w) A0 s) (x : BSet) :
    Calls Tryd.prog 159 #[.slice A0 s.length c0, .agg (encSet x).toArray] w fun e w' => ∃ v, e = .returned v ∧ ∃ (hn : Ghost), St w.heap.size w hn w' [] ∧ v = .int .i64 (placeF (fun z_ => decide (x = z_)) s 0) ∧ inK .i64 (placeF (fun z_ => decide (x = z_)) s 0) := by
 refine calls_of_run Tryd.func159 rfl Tryd.ntmps159 rfl ?_
 have S0 := St.init w
 have bb0 := b0.1; have bc0 := b0.2; simp only [maxLen] at bc0
 refine run_seq ?_
 refine run_reg (l := [0, 1]) rfl ?_
 obtain ⟨b1, w1, r1, g1, T1⟩ := e_box (P := Tryd.prog) S0 74 (v := .agg (encSet x).toArray) (encSet x) rfl
 have S2 := T1
 dsimp only [lAa, lAn, lA0, lAs] at S2
 refine p_v (v := .pointer (some ⟨b1, 0, none⟩)) rfl rfl rfl (x_box rfl r1) ?_
 refine p_v (v := .int .i64 0) rfl rfl rfl (x_assign rfl) ?_
 refine run_region_end ?_
 refine run_seq ?_
 refine run_seq ?_
 refine run_reg (l := [0, 1, 2]) rfl ?_
 refine p_v (v := .slice A0 s.length c0) rfl rfl rfl (x_move rfl) ?_
 refine p_v (v := .int .i64 (s.length : Int)) rfl rfl rfl (x_len_slice u62 rfl) ?_
 refine p_v (v := .int .i64 0) rfl rfl rfl (x_move rfl) ?_
 refine run_region_end ?_
 refine run_block ?_
 refine run_loop (S := Int) (fun (q_ : Int) ρ w' => match q_ with | t8 => ∃ (h : Ghost), Le (fun _ => none) h ∧ St w.heap.size w h w' [box b1 74 (encSet x)] ∧ ρ 0 = .slice A0 s.length c0 ∧ ρ 3 = .pointer (some ⟨b1, 0, none⟩) ∧ ρ 7 = .int .i64 (s.length : Int) ∧ ρ 8 = .int .i64 t8 ∧ inK .i64 t8 ∧ (0 ≤ t8 ∧ t8 ≤ (s.length : Int) ∧ placeF (fun y => decide (x = y)) s 0 = placeF (fun y => decide (x = y)) (s.drop t8.toNat) t8)) (fun q_ => match q_ with | t8 => (s.length - t8).toNat) (0) ⟨(fun _ => none), Le.refl _, S2.sub [0] (by decide) rfl _ rfl, rfl, rfl, rfl, rfl, (in_i64 (by first|omega|(simp;omega)|assumption) (by first|omega|(simp;omega)|assumption)), (by exact ⟨by omega, by omega, rfl⟩)⟩ ?_
 rintro t8 ih3 ρ3 w3 ⟨h3, le3, S3, r3_0, r3_3, r3_7, r3_8, f3_0, hI3⟩
 have lf3_0 := i64_lo f3_0; have hf3_0 := i64_hi f3_0
 refine run_seq ?_
 refine run_reg (l := [0]) rfl ?_
 refine p_v (v := .bool (decide (t8 < (s.length : Int)))) rfl rfl rfl (x_lss r3_8 r3_7) ?_
 refine run_region_end ?_
 refine run_seq ?_
 refine run_cond_prop (p := t8 < (s.length : Int)) rfl (fun hc4 => ?_) (fun hc4 => ?_)
 ·skip
  refine run_skip ?_
  refine run_seq ?_
  refine run_block ?_
  refine run_seq ?_
  refine run_reg (l := [0, 1]) rfl ?_
  refine p_v (v := .int .i64 t8) rfl rfl rfl (x_move r3_8) ?_
  refine p_v (v := .int .i64 t8) rfl rfl rfl (x_assign rfl) ?_
  refine run_region_end ?_
  refine run_seq ?_
  obtain ⟨ad5, seg5, a5, rp5, ce5⟩ := e_index_ro (q := t8) (m := 4) l0 rfl (by first|omega|(simp;omega)|assumption) (by first|omega|(simp;omega)|assumption)
  obtain ⟨rfl, ok5⟩ := rp5
  have hf6 : (CFs ⟨b1, 0, none⟩ (encSet x)).1 w3 := (CF.box (m := 4) (S3.box_at (j := 0) rfl) rfl)
  have hf7 : (CFs ad5 (encSet (at_ s t8))).1 w3 := (CF.ghost ce5 (St.le0 S3))
  refine daS (hkC 0 hf6 (hkC 4 hf7 (hkN (w := w3)))) 6 rfl mixed ?_
  intro wd8 gd8 hd8
  have S9 := S3.keep gd8
  have hf10 := spUp gd8 hf6
  have hf11 := spUp gd8 hf7
  refine qd1 0 (i := 0) (v := .agg (encSet x).toArray) rfl rfl (by decide +kernel) rfl rfl (fun wq hq => (x_load (seg := (encSet x)) ty74 rfl (by simp) r3_3 hq)) (of_eq hf10 (of_no rfl)) ?_
  refine qd0 (i := 1) (v := .slice A0 s.length c0) rfl (by decide +kernel) rfl rfl (x_move r3_0) (of_no rfl) ?_
  refine qd0 (i := 2) (v := .int .i64 t8) rfl (by decide +kernel) rfl rfl (x_move rfl) (of_no rfl) ?_
  refine qd0 (i := 3) (v := .pointer (some ad5)) rfl (by decide +kernel) rfl rfl (x_index_ro u62 ty74 rfl rfl a5 (by first|omega|(simp;omega)|assumption) (by first|omega|(simp;omega)|assumption)) (of_no rfl) ?_
  refine qd1 1 (i := 4) (v := .agg (encSet (at_ s t8)).toArray) rfl rfl (by decide +kernel) rfl rfl (fun wq hq => (x_load (seg := (encSet (at_ s t8))) ty74 rfl (by simp) rfl hq)) (of_ne rfl (of_eq hf11 (of_no rfl))) ?_
  refine qd0 (i := 5) (v := .bool (decide (x = (at_ s t8)))) rfl (by decide +kernel) rfl rfl (x_eql_set u74 u56 ty56 q74 rfl rfl) (of_no rfl) ?_
  refine ra_done (by decide +kernel) ?_
  intro wd12 gd12
  have S13 := S9.keep gd12
  refine run_cond_prop (p := x = (at_ s t8)) rfl (fun hc14 => ?_) (fun hc14 => ?_)
  ·skip
   refine run_seq ?_
   refine run_reg (l := [0, 1]) rfl ?_
   refine p_v (v := .int .i64 t8) rfl rfl rfl (x_move rfl) ?_
   refine p_v (v := .int .i64 t8) rfl rfl rfl (x_assign rfl) ?_
   refine run_region_end ?_
   refine run_ret Tryd.func159 (res1 rfl (res_tmp (v := .int .i64 t8) rfl)) ?_
   have q0 : (placeF (fun z_ => decide (x = z_)) s 0 : Int) = t8 := by
    rw [hI3.2.2, placeF_drop _ _ hI3.1 (by omega), if_pos (decide_eq_true (by assumption))]
   refine ⟨_, rfl, h3, ?_, ?_, ?_⟩
   · exact S13.sub [] (by decide) rfl _ rfl
   · first | rfl | (simp only [q0]; rfl) | (simp only [q0])
   · rw [q0]; exact f3_0
  ·skip
   refine run_skip ?_
   refine run_inBlock ?_
   refine run_reg (l := [0, 1]) rfl ?_
   refine p_v (v := .int .i64 (t8 + 1)) rfl rfl rfl (x_add r3_8 rfl (in_i64 (by first|omega|(simp;omega)|assumption) (by first|omega|(simp;omega)|assumption))) ?_
   refine p_v (v := .int .i64 (t8 + 1)) rfl rfl rfl (x_move rfl) ?_
   refine run_region_end ?_
   refine ih3 (t8 + 1) _ _ (by dsimp only; omega) ⟨h3, le3, S13.sub [0] (by decide) rfl _ rfl, r3_0, r3_3, r3_7, rfl, (in_i64 (by first|omega|(simp;omega)|assumption) (by first|omega|(simp;omega)|assumption)), (by exact ⟨by omega, by omega, by rw [hI3.2.2, placeF_drop _ _ hI3.1 (by omega), if_neg (by simpa using (by assumption : ¬ x = at_ s t8))]⟩)⟩
 ·skip
  refine run_exit rfl ?_
  refine run_seq ?_
  refine run_reg (l := [0]) rfl ?_
  refine p_v (v := .int .i64 (-1)) rfl rfl rfl (x_assign rfl) ?_
  refine run_region_end ?_
  refine run_ret Tryd.func159 (res1 rfl (res_tmp (v := .int .i64 (-1)) rfl)) ?_
  have q0 : (placeF (fun z_ => decide (x = z_)) s 0 : Int) = (-1) := by
   rw [hI3.2.2, List.drop_of_length_le (by omega)]; exact placeF_nil _ _
  refine ⟨_, rfl, h3, ?_, ?_, ?_⟩
  · exact S3.sub [] (by decide) rfl _ rfl
  · first | rfl | (simp only [q0]; rfl) | (simp only [q0])
  · rw [q0]; exact (in_i64 (by first|omega|(simp;omega)|assumption) (by first|omega|(simp;omega)|assumption))
theorem containsS_calls (w : World) (s : List BSet) (A0 : Option Addr) (c0 : Nat) (b0 : s.length ≤ c0 ∧ c0 ≤ maxLen) (l0 : Leads kSet (hp w) A0 s) (x : BSet) :
    Calls Tryd.prog 126 #[.slice A0 s.length c0, .agg (encSet x).toArray] w fun e w' => ∃ v, e = .returned v ∧ ∃ (hn : Ghost), St w.heap.size w hn w' [] ∧ v = .bool (s.any fun z_ => decide (x = z_)) := by
 refine calls_of_run Tryd.func126 rfl Tryd.ntmps126 rfl ?_
 have S0 := St.init w
 have bb0 := b0.1; have bc0 := b0.2; simp only [maxLen] at bc0
 refine run_seq ?_
 refine run_reg (l := [0, 1]) rfl ?_
 obtain ⟨b1, w1, r1, g1, T1⟩ := e_box (P := Tryd.prog) S0 74 (v := .agg (encSet x).toArray) (encSet x) rfl
 have S2 := T1
 dsimp only [lAa, lAn, lA0, lAs] at S2
 refine p_v (v := .pointer (some ⟨b1, 0, none⟩)) rfl rfl rfl (x_box rfl r1) ?_
 refine p_v (v := .bool false) rfl rfl rfl (x_assign rfl) ?_
 refine run_region_end ?_
 refine run_seq ?_
 refine run_reg (l := [0, 1, 2, 3, 4]) rfl ?_
 refine p_v (v := .slice A0 s.length c0) rfl rfl rfl (x_move rfl) ?_
 refine p_v (v := .agg (encSet x).toArray) rfl rfl rfl (x_load (seg := (encSet x)) ty74 rfl (by simp) rfl (CF.box (m := 4) (S2.box_at (j := 0) rfl) rfl)) ?_
 refine p_c rfl rfl rfl (y_call (args := [.slice A0 s.length c0, .agg (encSet x).toArray]) ca159 rfl rfl) (indexS_calls w1 s A0 c0 b0 (l0.mono (St.le0 S2)) x) ?_
 rintro _ w3 ⟨h3, T3, rfl, in3_0⟩
 have S4 := S2.keep (Chg.of_below T3.below)
 have lo_in3_0 := i64_lo in3_0; have hi_in3_0 := i64_hi in3_0
 refine p_v (v := .bool (decide (0 ≤ (placeF (fun z_ => decide (x = z_)) s 0)))) rfl rfl rfl (x_geq rfl rfl) ?_
 refine p_v (v := .bool (decide (0 ≤ (placeF (fun z_ => decide (x = z_)) s 0)))) rfl rfl rfl (x_assign rfl) ?_
 refine run_region_end ?_
 refine run_ret Tryd.func126 (res1 rfl (res_tmp (v := .bool (decide (0 ≤ (placeF (fun z_ => decide (x = z_)) s 0)))) rfl)) ?_
 have q0 : (s.any fun z_ => decide (x = z_) : Bool) = decide (0 ≤ (placeF (fun z_ => decide (x = z_)) s 0)) := by
  exact (placeF_any _ _ _ (by omega)).symm
 refine ⟨_, rfl, (fun _ => none), ?_, ?_⟩
 · exact S4.sub [] (by decide) rfl _ rfl
 · first | rfl | (simp only [q0]; rfl) | (simp only [q0])
theorem setsN_calls (w : World) (m : Mach) (A0_0 : Option Addr) (c0_0 : Nat) (b0_0 : m.spots.length ≤ c0_0 ∧ c0_0 ≤ maxLen) (l0_0 : Leads kSpot (hp w) A0_0 m.spots) (A0_1 : Option Addr) (c0_1 : Nat) (b0_1 : m.first.length ≤ c0_1 ∧ c0_1 ≤ maxLen) (l0_1 : Leads (Kd.int .i64) (hp w) A0_1 m.first) (A0_2 : Option Addr) (c0_2 : Nat) (b0_2 : m.follow.length ≤ c0_2 ∧ c0_2 ≤ maxLen) (l0_2 : Leads (Kd.int .i64).slice (hp w) A0_2 m.follow) (A0_3 : Option Addr) (c0_3 : Nat) (b0_3 : m.last.length ≤ c0_3 ∧ c0_3 ≤ maxLen) (l0_3 : Leads Kd.bool (hp w) A0_3 m.last) (pre0 : (m.spots.length : Int) ≤ 1000) :
    Calls Tryd.prog 63 #[.agg #[.slice A0_0 m.spots.length c0_0, .slice A0_1 m.first.length c0_1, .slice A0_2 m.follow.length c0_2, .slice A0_3 m.last.length c0_3, .bool m.empty]] w fun e w' => ∃ v, e = .returned v ∧ ∃ (hn : Ghost) (r0 : Value), St w.heap.size w hn w' [row 74 kSet r0 (setsM m)] ∧ v = r0 := by
 refine calls_of_run Tryd.func63 rfl Tryd.ntmps63 rfl ?_
 have S0 := St.init w
 have bb0_0 := b0_0.1; have bc0_0 := b0_0.2; simp only [maxLen] at bc0_0
 have bb0_1 := b0_1.1; have bc0_1 := b0_1.2; simp only [maxLen] at bc0_1
 have bb0_2 := b0_2.1; have bc0_2 := b0_2.2; simp only [maxLen] at bc0_2
 have bb0_3 := b0_3.1; have bc0_3 := b0_3.2; simp only [maxLen] at bc0_3
 refine run_seq ?_
 refine run_reg (l := [0, 1]) rfl ?_
 obtain ⟨b1, w1, r1, g1, T1⟩ := e_box (P := Tryd.prog) S0 27 (v := .agg #[.slice A0_0 m.spots.length c0_0, .slice A0_1 m.first.length c0_1, .slice A0_2 m.follow.length c0_2, .slice A0_3 m.last.length c0_3, .bool m.empty]) [.slice A0_0 m.spots.length c0_0, .slice A0_1 m.first.length c0_1, .slice A0_2 m.follow.length c0_2, .slice A0_3 m.last.length c0_3, .bool m.empty] rfl
 have S2 := T1
 dsimp only [lAa, lAn, lA0, lAs] at S2
 refine p_v (v := .pointer (some ⟨b1, 0, none⟩)) rfl rfl rfl (x_box rfl r1) ?_
 refine p_v (v := .slice none 0 0) rfl rfl rfl (x_assign rfl) ?_
 refine run_region_end ?_
 refine run_seq ?_
 refine run_reg (l := [0]) rfl ?_
 refine p_v (v := .slice none 0 0) rfl rfl rfl (x_assign rfl) ?_
 refine run_region_end ?_
 refine run_seq ?_
 refine run_seq ?_
 refine run_reg (l := [0, 1, 2, 3]) rfl ?_
 refine p_v (v := .pointer (some ⟨b1, 0, none⟩)) rfl rfl rfl (x_fieldAt fd27_0 ty22 rfl rfl) ?_
 refine p_v (v := .slice A0_0 m.spots.length c0_0) rfl rfl rfl (x_load (seg := [.slice A0_0 m.spots.length c0_0]) ty22 rfl (by simp) rfl (CF.box (m := 1) (S2.box_at (j := 0) rfl) rfl)) ?_
 refine p_v (v := .int .i64 (m.spots.length : Int)) rfl rfl rfl (x_len_slice u22 rfl) ?_
 refine p_v (v := .int .i64 0) rfl rfl rfl (x_move rfl) ?_
 refine run_region_end ?_
 refine run_block ?_
 have T3 := S2.row_nil 74 kSet
 obtain ⟨vn3, ev3, T3⟩ : ∃ v, v = (.slice none 0 0 : Value) ∧ St w.heap.size w (fun _ => none) w1 ([box b1 27 [.slice A0_0 m.spots.length c0_0, .slice A0_1 m.first.length c0_1, .slice A0_2 m.follow.length c0_2, .slice A0_3 m.last.length c0_3, .bool m.empty]] ++ [row 74 kSet v []]) := ⟨_, rfl, T3⟩
 have S4 := T3
 dsimp only [lAa, lAn, lA0, lAs] at S4
 refine run_loop (S := (List BSet) × Int) (fun (q_ : (List BSet) × Int) ρ w' => match q_ with | (out, t9) => ∃ (h : Ghost) (v_out : Value), Le (fun _ => none) h ∧ St w.heap.size w h w' [row 74 kSet v_out out] ∧ ρ 3 = v_out ∧ ρ 7 = .slice A0_0 m.spots.length c0_0 ∧ ρ 8 = .int .i64 (m.spots.length : Int) ∧ ρ 9 = .int .i64 t9 ∧ inK .i64 t9 ∧ (0 ≤ t9 ∧ t9 ≤ (m.spots.length : Int) ∧ out = setsOfTo m t9)) (fun q_ => match q_ with | (out, t9) => (m.spots.length - t9).toNat) (([] : List BSet), 0) ⟨(fun _ => none), vn3, Le.refl _, S4.sub [1] (by decide) rfl _ rfl, (ev3.symm), rfl, rfl, rfl, (in_i64 (by first|omega|(simp;omega)|assumption) (by first|omega|(simp;omega)|assumption)), (by exact ⟨by omega, by omega, sets_0 m⟩)⟩ ?_
 rintro ⟨out, t9⟩ ih5 ρ5 w5 ⟨h5, v_out, le5, S5, r5_3, r5_7, r5_8, r5_9, f5_0, hI5⟩
 have lf5_0 := i64_lo f5_0; have hf5_0 := i64_hi f5_0
 have rl5_0 := S5.row_le (j := 0) rfl; simp only [maxLen] at rl5_0
 have hl_ : (out.length : Int) ≤ t9 := by rw [hI5.2.2]; exact setsTo_len' m hI5.1
 refine run_seq ?_
 refine run_reg (l := [0]) rfl ?_
 refine p_v (v := .bool (decide (t9 < (m.spots.length : Int)))) rfl rfl rfl (x_lss r5_9 r5_8) ?_
 refine run_region_end ?_
 refine run_seq ?_
 refine run_cond_prop (p := t9 < (m.spots.length : Int)) rfl (fun hc6 => ?_) (fun hc6 => ?_)
 ·skip
  refine run_skip ?_
  refine run_seq ?_
  refine run_block ?_
  refine run_seq ?_
  refine run_reg (l := [0, 1, 2, 3]) rfl ?_
  obtain ⟨ad7, seg7, a7, rp7, ce7⟩ := e_index_ro (q := t9) (m := 5) l0_0 rfl (by first|omega|(simp;omega)|assumption) (by first|omega|(simp;omega)|assumption)
  refine p_v (v := .pointer (some ad7)) rfl rfl rfl (x_index_ro u22 ty101 r5_7 r5_9 a7 (by first|omega|(simp;omega)|assumption) (by first|omega|(simp;omega)|assumption)) ?_
  obtain ⟨rfl, ok7⟩ := rp7
  have slook7 := u8_lo ok7; have shiok7 := u8_hi ok7
  refine p_v (v := .agg (encSpot (at_ m.spots t9)).toArray) rfl rfl rfl (x_load (seg := (encSpot (at_ m.spots t9))) ty101 rfl (by simp) rfl (CF.ghost ce7 (St.le0 S5))) ?_
  obtain ⟨b8, w8, r8, g8, T8⟩ := e_box (P := Tryd.prog) S5 101 (v := (.agg #[.int .u64 0, .int .u64 0, .int .u64 0, .int .u64 0, .int .u8 0])) (encSpot (⟨0, 0⟩ : Spot)) rfl
  have S9 := T8
  dsimp only [lAa, lAn, lA0, lAs] at S9
  refine p_v (v := .pointer (some ⟨b8, 0, none⟩)) rfl rfl rfl (x_alloc ty101 r8) ?_
  obtain ⟨w10, r10, g10, T10⟩ := e_store (P := Tryd.prog) (off := 0) (v := .agg (encSpot (at_ m.spots t9)).toArray) (vs := (encSpot (at_ m.spots t9))) S9 ty101 rfl rfl (j := 1) rfl (by first | decide | exact Nat.le_of_ble_eq_true rfl) (encSpot_one _)
  have S11 := T10.fx 1 (box b8 101 (encSpot (at_ m.spots t9))) rfl
  dsimp only [lAa, lAn, lA0, lAs] at S11
  refine p_s rfl rfl (x_store rfl rfl r10) ?_
  refine run_region_end ?_
  refine run_seq ?_
  refine run_reg (l := [0, 1, 2, 3, 4]) rfl ?_
  refine p_v (v := v_out) rfl rfl rfl (x_move r5_3) ?_
  refine p_v (v := .pointer (some ⟨b8, 0, none⟩)) rfl rfl rfl (x_fieldAt fd101_0 ty74 rfl rfl) ?_
  refine p_v (v := .agg (encSet ((at_ m.spots t9).set)).toArray) rfl rfl rfl (x_load (seg := (encSet ((at_ m.spots t9).set))) ty74 rfl (by simp) rfl (CF.box (m := 4) (S11.box_at (j := 1) rfl) rfl)) ?_
  obtain ⟨A12, c12, ev12, lc12, cm12⟩ := S11.row_val (j := 0) rfl
  refine p_c rfl rfl rfl (y_call (args := [.slice A12 out.length c12, .agg (encSet ((at_ m.spots t9).set)).toArray]) ca126 rfl (cons_eq ev12 (cons_eq rfl rfl))) (containsS_calls w10 out A12 c12 (And.intro lc12 cm12) (row_leads_eq S11 (j := 0) rfl ev12) ((at_ m.spots t9).set)) ?_
  rintro _ w13 ⟨h13, T13, rfl⟩
  have S14 := S11.keep (Chg.of_below T13.below)
  refine p_v (v := .bool (!(out.any fun z_ => decide (((at_ m.spots t9).set) = z_)))) rfl rfl rfl (x_not rfl) ?_
  refine run_region_end ?_
  refine run_cond_nsplit (b := out.any fun z_ => decide (((at_ m.spots t9).set) = z_)) rfl (fun hc15 => ?_) (fun hc15 => ?_)
  ·skip
   refine run_reg (l := [0, 1, 2, 3, 4, 5]) rfl ?_
   refine p_v (v := v_out) rfl rfl rfl (x_move r5_3) ?_
   refine p_v (v := .pointer (some ⟨b8, 0, none⟩)) rfl rfl rfl (x_fieldAt fd101_0 ty74 rfl rfl) ?_
   refine p_v (v := .agg (encSet ((at_ m.spots t9).set)).toArray) rfl rfl rfl (x_load (seg := (encSet ((at_ m.spots t9).set))) ty74 rfl (by simp) rfl (CF.box (m := 4) (S14.box_at (j := 1) rfl) rfl)) ?_
   obtain ⟨v16, w16, r16, g16, T16⟩ := e_build_segs (kd := kSet) (xs := ([(at_ m.spots t9).set] : List BSet)) (len := 1) (m := 4) [(.agg (encSet ((at_ m.spots t9).set)).toArray, (encSet ((at_ m.spots t9).set)))] S14 u62 ty74 rfl rfl rfl rfl (segs_cons rfl rfl segs_nil) (cs := (encSet ((at_ m.spots t9).set))) (Elems.single (k := kSet) (h := h5) (x := (at_ m.spots t9).set) (cs := (encSet ((at_ m.spots t9).set))) ⟨rfl, trivial⟩) (by simp)
   have S17 := T16
   dsimp only [lAa, lAn, lA0, lAs] at S17
   refine p_v (v := v16) rfl rfl rfl (y_build_slice (pv := [(0, .agg (encSet ((at_ m.spots t9).set)).toArray)]) rfl r16) ?_
   obtain ⟨A19, c19, ev19, lc19, cm19⟩ := S17.row_val (j := 2) rfl
   obtain ⟨v20, w20, r20, g20, T20⟩ := e_append (kd := kSet) (A := A19) (c := c19) (ys := ([(at_ m.spots t9).set] : List BSet)) (len := ([(at_ m.spots t9).set] : List BSet).length) 62 S17 u62 ty74 rfl rfl (j := 0) rfl rfl (news_own S17 (j := 2) rfl ev19) (by first|omega|(simp;omega)|assumption) (by first|omega|(simp;omega)|assumption)
   have S21 := T20.fx 0 (row 74 kSet v20 (out ++ ([(at_ m.spots t9).set] : List BSet))) rfl
   dsimp only [lAa, lAn, lA0, lAs] at S21
   refine p_v (v := v20) rfl rfl rfl (x_append rfl ev19 r20) ?_
   refine p_v (v := v20) rfl rfl rfl (x_assign rfl) ?_
   refine run_region_end ?_
   refine run_inBlock ?_
   refine run_reg (l := [0, 1]) rfl ?_
   refine p_v (v := .int .i64 (t9 + 1)) rfl rfl rfl (x_add r5_9 rfl (in_i64 (by first|omega|(simp;omega)|assumption) (by first|omega|(simp;omega)|assumption))) ?_
   refine p_v (v := .int .i64 (t9 + 1)) rfl rfl rfl (x_move rfl) ?_
   refine run_region_end ?_
   refine ih5 (out ++ ([(at_ m.spots t9).set] : List BSet), t9 + 1) _ _ (by dsimp only; omega) ⟨h5, v20, le5, S21.sub [0] (by decide) rfl _ rfl, rfl, r5_7, r5_8, rfl, (in_i64 (by first|omega|(simp;omega)|assumption) (by first|omega|(simp;omega)|assumption)), (by first | exact ⟨by omega, by omega, sets_old m hI5.1 (by omega) hI5.2.2 (by assumption)⟩ | exact ⟨by omega, by omega, sets_new m hI5.1 (by omega) hI5.2.2 (by assumption)⟩)⟩
  ·skip
   refine run_skip ?_
   refine run_inBlock ?_
   refine run_reg (l := [0, 1]) rfl ?_
   refine p_v (v := .int .i64 (t9 + 1)) rfl rfl rfl (x_add r5_9 rfl (in_i64 (by first|omega|(simp;omega)|assumption) (by first|omega|(simp;omega)|assumption))) ?_
   refine p_v (v := .int .i64 (t9 + 1)) rfl rfl rfl (x_move rfl) ?_
   refine run_region_end ?_
   refine ih5 (out, t9 + 1) _ _ (by dsimp only; omega) ⟨h5, v_out, le5, S14.sub [0] (by decide) rfl _ rfl, r5_3, r5_7, r5_8, rfl, (in_i64 (by first|omega|(simp;omega)|assumption) (by first|omega|(simp;omega)|assumption)), (by first | exact ⟨by omega, by omega, sets_old m hI5.1 (by omega) hI5.2.2 (by assumption)⟩ | exact ⟨by omega, by omega, sets_new m hI5.1 (by omega) hI5.2.2 (by assumption)⟩)⟩
 ·skip
  refine run_exit rfl ?_
  refine run_seq ?_
  refine run_reg (l := [0, 1]) rfl ?_
  refine p_v (v := v_out) rfl rfl rfl (x_move r5_3) ?_
  refine p_v (v := v_out) rfl rfl rfl (x_assign rfl) ?_
  refine run_region_end ?_
  refine run_ret Tryd.func63 (res1 rfl (res_tmp (v := v_out) rfl)) ?_
  have q0 : (setsM m : List BSet) = out := by
   rw [hI5.2.2]; exact sets_end m (by omega)
  refine ⟨_, rfl, h5, v_out, ?_, ?_⟩
  · rw [q0]; exact S5.sub [0] (by decide) rfl _ rfl
  · first | rfl | (simp only [q0]; rfl) | (simp only [q0])
theorem some10_calls (w : World) :
    Calls Tryd.prog 46 #[] w fun e w' => ∃ v, e = .returned v ∧ ∃ (hn : Ghost) (r0 : Value) (r1 : Value) (r2 : Value) (r3 : Value), St w.heap.size w hn w' [row 101 kSpot r0 someM.spots, row 3 (Kd.int .i64) r1 someM.first, row 23 (Kd.int .i64).slice r2 someM.follow, row 4 Kd.bool r3 someM.last] ∧ v = .agg #[r0, r1, r2, r3, .bool someM.empty] := by
 refine calls_of_run Tryd.func46 rfl Tryd.ntmps46 rfl ?_
 have S0 := St.init w
 refine run_seq ?_
 refine run_reg (l := [0]) rfl ?_
 obtain ⟨b1, w1, r1, g1, T1⟩ := e_box (P := Tryd.prog) S0 27 (v := (.agg #[.slice none 0 0, .slice none 0 0, .slice none 0 0, .slice none 0 0, .bool false])) [.slice none 0 0, .slice none 0 0, .slice none 0 0, .slice none 0 0, .bool false] rfl
 have S2 := T1
 dsimp only [lAa, lAn, lA0, lAs] at S2
 refine p_v (v := .pointer (some ⟨b1, 0, none⟩)) rfl rfl rfl (x_alloc ty27 r1) ?_
 refine run_region_end ?_
 refine run_seq ?_
 refine run_reg (l := [0, 1, 2, 3, 4, 5, 6, 7, 8, 9, 10, 11, 12, 13, 14, 15, 16, 17]) rfl ?_
 obtain ⟨v3, w3, r3, g3, T3⟩ := e_build_ones (kd := (Kd.int .u8)) (xs := ([97] : List Int)) (len := 1) [.int .u8 97] S2 u39 ty5 rfl rfl rfl rfl rfl (ones_cons rfl ones_nil) [.int .u8 97] (Elems.single (k := (Kd.int .u8)) (h := (fun _ => none)) (x := 97) (cs := [.int .u8 97]) ⟨rfl, (in_u8 (by first|omega|(simp;omega)|assumption) (by first|omega|(simp;omega)|assumption))⟩) rfl
 have S4 := T3
 dsimp only [lAa, lAn, lA0, lAs] at S4
 refine p_v (v := v3) rfl rfl rfl (y_build_slice (pv := [(0, .int .u8 97)]) rfl r3) ?_
 obtain ⟨A5, c5, ev5, lc5, cm5⟩ := S4.row_val (j := 1) rfl
 refine p_c rfl rfl rfl (y_call (args := [.slice A5 ([97] : List Int).length c5]) ca64 rfl (cons_eq ev5 rfl)) (of_calls w3 ([97] : List Int) A5 c5 (And.intro lc5 cm5) (row_leads_eq S4 (j := 1) rfl ev5)) ?_
 rintro _ w6 ⟨h6, T6, rfl⟩
 have S7 := S4.keep (Chg.of_below T6.below)
 refine p_v (v := .agg (encSpot (⟨setOf ([97] : List Int), 0⟩ : Spot)).toArray) rfl rfl rfl (y_build (pv := [(0, .agg (encSet (setOf ([97] : List Int))).toArray)]) rfl (run_build_struct pl101 ty101 rfl (cs := (encSpot (⟨setOf ([97] : List Int), 0⟩ : Spot))) rfl)) ?_
 obtain ⟨v8, w8, r8, g8, T8⟩ := e_build_ones (kd := (Kd.int .u8)) (xs := ([98] : List Int)) (len := 1) [.int .u8 98] S7 u39 ty5 rfl rfl rfl rfl rfl (ones_cons rfl ones_nil) [.int .u8 98] (Elems.single (k := (Kd.int .u8)) (h := (fun _ => none)) (x := 98) (cs := [.int .u8 98]) ⟨rfl, (in_u8 (by first|omega|(simp;omega)|assumption) (by first|omega|(simp;omega)|assumption))⟩) rfl
 have S9 := T8
 dsimp only [lAa, lAn, lA0, lAs] at S9
 refine p_v (v := v8) rfl rfl rfl (y_build_slice (pv := [(0, .int .u8 98)]) rfl r8) ?_
 obtain ⟨A10, c10, ev10, lc10, cm10⟩ := S9.row_val (j := 2) rfl
 refine p_c rfl rfl rfl (y_call (args := [.slice A10 ([98] : List Int).length c10]) ca64 rfl (cons_eq ev10 rfl)) (of_calls w8 ([98] : List Int) A10 c10 (And.intro lc10 cm10) (row_leads_eq S9 (j := 2) rfl ev10)) ?_
 rintro _ w11 ⟨h11, T11, rfl⟩
 have S12 := S9.keep (Chg.of_below T11.below)
 refine p_v (v := .agg (encSpot (⟨setOf ([98] : List Int), 0⟩ : Spot)).toArray) rfl rfl rfl (y_build (pv := [(0, .agg (encSet (setOf ([98] : List Int))).toArray)]) rfl (run_build_struct pl101 ty101 rfl (cs := (encSpot (⟨setOf ([98] : List Int), 0⟩ : Spot))) rfl)) ?_
 obtain ⟨v13, w13, r13, g13, T13⟩ := e_build_ones (kd := (Kd.int .u8)) (xs := ([99] : List Int)) (len := 1) [.int .u8 99] S12 u39 ty5 rfl rfl rfl rfl rfl (ones_cons rfl ones_nil) [.int .u8 99] (Elems.single (k := (Kd.int .u8)) (h := (fun _ => none)) (x := 99) (cs := [.int .u8 99]) ⟨rfl, (in_u8 (by first|omega|(simp;omega)|assumption) (by first|omega|(simp;omega)|assumption))⟩) rfl
 have S14 := T13
 dsimp only [lAa, lAn, lA0, lAs] at S14
 refine p_v (v := v13) rfl rfl rfl (y_build_slice (pv := [(0, .int .u8 99)]) rfl r13) ?_
 obtain ⟨A15, c15, ev15, lc15, cm15⟩ := S14.row_val (j := 3) rfl
 refine p_c rfl rfl rfl (y_call (args := [.slice A15 ([99] : List Int).length c15]) ca64 rfl (cons_eq ev15 rfl)) (of_calls w13 ([99] : List Int) A15 c15 (And.intro lc15 cm15) (row_leads_eq S14 (j := 3) rfl ev15)) ?_
 rintro _ w16 ⟨h16, T16, rfl⟩
 have S17 := S14.keep (Chg.of_below T16.below)
 refine p_v (v := .agg (encSpot (⟨setOf ([99] : List Int), 0⟩ : Spot)).toArray) rfl rfl rfl (y_build (pv := [(0, .agg (encSet (setOf ([99] : List Int))).toArray)]) rfl (run_build_struct pl101 ty101 rfl (cs := (encSpot (⟨setOf ([99] : List Int), 0⟩ : Spot))) rfl)) ?_
 obtain ⟨v18, w18, r18, g18, T18⟩ := e_build_segs (kd := kSpot) (xs := ([(⟨setOf ([97] : List Int), 0⟩ : Spot), (⟨setOf ([98] : List Int), 0⟩ : Spot), (⟨setOf ([99] : List Int), 0⟩ : Spot)] : List Spot)) (len := 3) (m := 5) [(.agg (encSpot (⟨setOf ([97] : List Int), 0⟩ : Spot)).toArray, (encSpot (⟨setOf ([97] : List Int), 0⟩ : Spot))), (.agg (encSpot (⟨setOf ([98] : List Int), 0⟩ : Spot)).toArray, (encSpot (⟨setOf ([98] : List Int), 0⟩ : Spot))), (.agg (encSpot (⟨setOf ([99] : List Int), 0⟩ : Spot)).toArray, (encSpot (⟨setOf ([99] : List Int), 0⟩ : Spot)))] S17 u22 ty101 rfl rfl rfl rfl (segs_cons rfl rfl (segs_cons rfl rfl (segs_cons rfl rfl segs_nil))) (cs := ((encSpot (⟨setOf ([97] : List Int), 0⟩ : Spot)) ++ (encSpot (⟨setOf ([98] : List Int), 0⟩ : Spot)) ++ (encSpot (⟨setOf ([99] : List Int), 0⟩ : Spot)))) (Elems.cons (k := kSpot) (h := (fun _ => none)) (x := (⟨setOf ([97] : List Int), 0⟩ : Spot)) (cs := (encSpot (⟨setOf ([97] : List Int), 0⟩ : Spot))) ⟨rfl, (by first | assumption | (show inK .u8 _; constructor <;> decide) | (constructor <;> simp [IntKind.min, IntKind.max] <;> omega))⟩ (Elems.cons (k := kSpot) (h := (fun _ => none)) (x := (⟨setOf ([98] : List Int), 0⟩ : Spot)) (cs := (encSpot (⟨setOf ([98] : List Int), 0⟩ : Spot))) ⟨rfl, (by first | assumption | (show inK .u8 _; constructor <;> decide) | (constructor <;> simp [IntKind.min, IntKind.max] <;> omega))⟩ (Elems.single (k := kSpot) (h := (fun _ => none)) (x := (⟨setOf ([99] : List Int), 0⟩ : Spot)) (cs := (encSpot (⟨setOf ([99] : List Int), 0⟩ : Spot))) ⟨rfl, (by first | assumption | (show inK .u8 _; constructor <;> decide) | (constructor <;> simp [IntKind.min, IntKind.max] <;> omega))⟩))) (by simp)
 have S19 := T18
 dsimp only [lAa, lAn, lA0, lAs] at S19
 refine p_v (v := v18) rfl rfl rfl (y_build_slice (pv := [(0, .agg (encSpot (⟨setOf ([97] : List Int), 0⟩ : Spot)).toArray), (1, .agg (encSpot (⟨setOf ([98] : List Int), 0⟩ : Spot)).toArray), (2, .agg (encSpot (⟨setOf ([99] : List Int), 0⟩ : Spot)).toArray)]) rfl r18) ?_
 obtain ⟨v20, w20, r20, g20, T20⟩ := e_build_ones (kd := (Kd.int .i64)) (xs := ([0] : List Int)) (len := 1) [.int .i64 0] S19 u23 ty3 rfl rfl rfl rfl rfl (ones_cons rfl ones_nil) [.int .i64 0] (Elems.single (k := (Kd.int .i64)) (h := (fun _ => none)) (x := 0) (cs := [.int .i64 0]) ⟨rfl, (in_i64 (by first|omega|(simp;omega)|assumption) (by first|omega|(simp;omega)|assumption))⟩) rfl
 have S21 := T20
 dsimp only [lAa, lAn, lA0, lAs] at S21
 refine p_v (v := v20) rfl rfl rfl (y_build_slice (pv := [(0, .int .i64 0)]) rfl r20) ?_
 obtain ⟨v22, w22, r22, g22, T22⟩ := e_build_ones (kd := (Kd.int .i64)) (xs := ([1, 2] : List Int)) (len := 2) [.int .i64 1, .int .i64 2] S21 u23 ty3 rfl rfl rfl rfl rfl (ones_cons rfl (ones_cons rfl ones_nil)) ([.int .i64 1] ++ [.int .i64 2]) (Elems.cons (k := (Kd.int .i64)) (h := (fun _ => none)) (x := 1) (cs := [.int .i64 1]) ⟨rfl, (in_i64 (by first|omega|(simp;omega)|assumption) (by first|omega|(simp;omega)|assumption))⟩ (Elems.single (k := (Kd.int .i64)) (h := (fun _ => none)) (x := 2) (cs := [.int .i64 2]) ⟨rfl, (in_i64 (by first|omega|(simp;omega)|assumption) (by first|omega|(simp;omega)|assumption))⟩)) rfl
 have S23 := T22
 dsimp only [lAa, lAn, lA0, lAs] at S23
 refine p_v (v := v22) rfl rfl rfl (y_build_slice (pv := [(0, .int .i64 1), (1, .int .i64 2)]) rfl r22) ?_
 obtain ⟨v24, w24, r24, g24, T24⟩ := e_build_ones (kd := (Kd.int .i64)) (xs := ([] : List Int)) (len := 0) [] S23 u23 ty3 rfl rfl rfl rfl rfl ones_nil [] (Elems.nil _ _) rfl
 have S25 := T24
 dsimp only [lAa, lAn, lA0, lAs] at S25
 refine p_v (v := v24) rfl rfl rfl (y_build_slice (pv := []) rfl r24) ?_
 obtain ⟨v26, w26, r26, g26, T26⟩ := e_build_ones (kd := (Kd.int .i64)) (xs := ([] : List Int)) (len := 0) [] S25 u23 ty3 rfl rfl rfl rfl rfl ones_nil [] (Elems.nil _ _) rfl
 have S27 := T26
 dsimp only [lAa, lAn, lA0, lAs] at S27
 refine p_v (v := v26) rfl rfl rfl (y_build_slice (pv := []) rfl r26) ?_
 obtain ⟨h29, le29, T29, rp29⟩ := S27.freeze (i := 6) rfl
 have S30 := T29.fx 6 (emp) rfl
 dsimp only [lAa, lAn, lA0, lAs] at S30
 obtain ⟨A29, c29, e29, lc29, cm29, ld29⟩ := rp29
 injection e29 with e29 _; subst e29
 have cn29 := cm29; simp only [maxLen] at cn29
 obtain ⟨h31, le31, T31, rp31⟩ := S30.freeze (i := 7) rfl
 have lf31_0 := (le29).trans le31
 have S32 := T31.fx 7 (emp) rfl
 dsimp only [lAa, lAn, lA0, lAs] at S32
 obtain ⟨A31, c31, e31, lc31, cm31, ld31⟩ := rp31
 injection e31 with e31 _; subst e31
 have cn31 := cm31; simp only [maxLen] at cn31
 obtain ⟨h33, le33, T33, rp33⟩ := S32.freeze (i := 8) rfl
 have lf33_0 := (lf31_0).trans le33
 have lf33_1 := (le31).trans le33
 have S34 := T33.fx 8 (emp) rfl
 dsimp only [lAa, lAn, lA0, lAs] at S34
 obtain ⟨A33, c33, e33, lc33, cm33, ld33⟩ := rp33
 injection e33 with e33 _; subst e33
 have cn33 := cm33; simp only [maxLen] at cn33
 obtain ⟨v28, w28, r28, g28, T28⟩ := e_build_ones (kd := (Kd.int .i64).slice) (xs := ([([1, 2] : List Int), ([] : List Int), ([] : List Int)] : List (List Int))) (len := 3) [.slice A29 ([1, 2] : List Int).length c29, .slice A31 ([] : List Int).length c31, .slice A33 ([] : List Int).length c33] S34 u24 ty23 rfl rfl rfl rfl rfl (ones_cons rfl (ones_cons rfl (ones_cons rfl ones_nil))) ([.slice A29 ([1, 2] : List Int).length c29] ++ [.slice A31 ([] : List Int).length c31] ++ [.slice A33 ([] : List Int).length c33]) (Elems.cons (k := (Kd.int .i64).slice) (h := h33) (x := ([1, 2] : List Int)) (cs := [.slice A29 ([1, 2] : List Int).length c29]) ⟨_, _, rfl, (And.intro lc29 cm29).1, (And.intro lc29 cm29).2, ld29.mono lf33_1⟩ (Elems.cons (k := (Kd.int .i64).slice) (h := h33) (x := ([] : List Int)) (cs := [.slice A31 ([] : List Int).length c31]) ⟨_, _, rfl, (And.intro lc31 cm31).1, (And.intro lc31 cm31).2, ld31.mono le33⟩ (Elems.single (k := (Kd.int .i64).slice) (h := h33) (x := ([] : List Int)) (cs := [.slice A33 ([] : List Int).length c33]) ⟨_, _, rfl, (And.intro lc33 cm33).1, (And.intro lc33 cm33).2, ld33.mono (Le.refl _)⟩))) rfl
 have S35 := T28
 dsimp only [lAa, lAn, lA0, lAs] at S35
 refine p_v (v := v28) rfl rfl rfl (y_build_slice (pv := [(0, .slice A29 ([1, 2] : List Int).length c29), (1, .slice A31 ([] : List Int).length c31), (2, .slice A33 ([] : List Int).length c33)]) rfl r28) ?_
 obtain ⟨v36, w36, r36, g36, T36⟩ := e_build_ones (kd := Kd.bool) (xs := ([false, true, false] : List Bool)) (len := 3) [.bool false, .bool true, .bool false] S35 u25 ty4 rfl rfl rfl rfl rfl (ones_cons rfl (ones_cons rfl (ones_cons rfl ones_nil))) ([.bool false] ++ [.bool true] ++ [.bool false]) (Elems.cons (k := Kd.bool) (h := h33) (x := false) (cs := [.bool false]) ⟨rfl, trivial⟩ (Elems.cons (k := Kd.bool) (h := h33) (x := true) (cs := [.bool true]) ⟨rfl, trivial⟩ (Elems.single (k := Kd.bool) (h := h33) (x := false) (cs := [.bool false]) ⟨rfl, trivial⟩))) rfl
 have S37 := T36
 dsimp only [lAa, lAn, lA0, lAs] at S37
 refine p_v (v := v36) rfl rfl rfl (y_build_slice (pv := [(0, .bool false), (1, .bool true), (2, .bool false)]) rfl r36) ?_
 refine p_v (v := .agg #[v18, v20, v28, v36, .bool true]) rfl rfl rfl (y_build (pv := [(0, v18), (1, v20), (2, v28), (3, v36), (4, .bool true)]) rfl (run_build_struct pl27 ty27 rfl (cs := [v18, v20, v28, v36, .bool true]) (fill_any (vc := [v18]) rfl (row_cells S37 (j := 4) rfl) rfl rfl (fill_any (vc := [v20]) rfl (row_cells S37 (j := 5) rfl) rfl rfl (fill_any (vc := [v28]) rfl (row_cells S37 (j := 9) rfl) rfl rfl (fill_any (vc := [v36]) rfl (row_cells S37 (j := 10) rfl) rfl rfl (fill_any (vc := [.bool true]) rfl rfl rfl rfl (fill_end rfl)))))))) ?_
 have oc39 := row_one S37 (j := 4) rfl
 have oc40 := row_one S37 (j := 5) rfl
 have oc41 := row_one S37 (j := 9) rfl
 have oc42 := row_one S37 (j := 10) rfl
 obtain ⟨w38, r38, g38, T38⟩ := e_store (P := Tryd.prog) (off := 0) (v := .agg #[v18, v20, v28, v36, .bool true]) (vs := [v18, v20, v28, v36, .bool true]) S37 ty27 rfl rfl (j := 0) rfl (by first | decide | exact Nat.le_of_ble_eq_true rfl) (one_cons oc39 (one_cons oc40 (one_cons oc41 (one_cons oc42 (one_cons rfl one_nil)))))
 have S43 := T38.fx 0 (box b1 27 [v18, v20, v28, v36, .bool true]) rfl
 dsimp only [lAa, lAn, lA0, lAs] at S43
 refine p_s rfl rfl (x_store rfl rfl r38) ?_
 refine run_region_end ?_
 refine run_ret Tryd.func46 (res1 rfl (res_cell S43 ty27 rfl (j := 0) rfl rfl (by simp) rfl)) ?_
 have q0 : (someM.spots : List Spot) = ([(⟨setOf ([97] : List Int), 0⟩ : Spot), (⟨setOf ([98] : List Int), 0⟩ : Spot), (⟨setOf ([99] : List Int), 0⟩ : Spot)] : List Spot) := by
  rfl
 have q1 : (someM.first : List Int) = ([0] : List Int) := by
  rfl
 have q2 : (someM.follow : List (List Int)) = ([([1, 2] : List Int), ([] : List Int), ([] : List Int)] : List (List Int)) := by
  rfl
 have q3 : (someM.last : List Bool) = ([false, true, false] : List Bool) := by
  rfl
 have q4 : (someM.empty : Bool) = true := by
  rfl
 refine ⟨_, rfl, h33, v18, v20, v28, v36, ?_, ?_⟩
 · rw [q0]; rw [q1]; rw [q2]; rw [q3]; exact S43.sub [4, 5, 9, 10] (by decide) rfl _ rfl
 · first | rfl | (simp only [q0, q1, q2, q3, q4]; rfl) | (simp only [q0, q1, q2, q3, q4])
end Go.Proofs.YtfoemogojbnfhaaDoor
namespace Gx
open Go Go.RowKit
set_option linter.unusedSimpArgs false
set_option linter.unusedSectionVars false
set_option linter.unusedVariables false
theorem mem_fold : ∀ (l out : List BSet) (s : BSet), (s ∈ out ∨ s ∈ l) → s ∈ l.foldl addS out
  | [], out, s, h => by rcases h with h | h; exact h; cases h
  | x :: l, out, s, h => by
    refine mem_fold l (addS out x) s ?_
    unfold addS
    rcases h with h | h
    · left; split
      · exact h
      · exact List.mem_append_left _ h
    · rcases List.mem_cons.1 h with e | e
      · subst e; left; split
        · rename_i hx
          obtain ⟨y, hy, hq⟩ := List.any_eq_true.1 hx
          rw [of_decide_eq_true hq]; exact hy
        · simp
      · exact .inr e
theorem spot_set (m : Mach) {i : Nat} (hi : i < m.spots.length) : (at_ m.spots ((i : Nat) : Int)).set ∈ setsM m := by
  unfold setsM
  refine mem_fold _ _ _ (.inr ?_)
  exact List.mem_map.2 ⟨_, at_mem (by omega) (by omega), rfl⟩
def bytesL (w : ByteArray) : List Int := w.data.toList.map fun b => ((b.toNat : Nat) : Int)
theorem bytesL_len (w : ByteArray) : (bytesL w).length = w.size := by unfold bytesL; rw [List.length_map, Array.length_toList]; rfl
theorem bytesL_at (w : ByteArray) {j : Int} (h0 : 0 ≤ j) (h1 : j < (w.size : Int)) : at_ (bytesL w) j = byt w j := by
  unfold at_ byt bytesL
  have : j.toNat < w.data.toList.length := by have h2 : (j.toNat : Int) < ((w.data.size : Nat) : Int) := by rw [Int.toNat_of_nonneg h0]; exact h1
                                              rw [Array.length_toList]; omega
  rw [List.getD_eq_getElem?_getD, List.getElem?_map, List.getD_eq_getElem?_getD, List.getElem?_eq_getElem this]; rfl
end Gx
namespace Gx
open Go Go.RowKit
set_option linter.unusedSimpArgs false
set_option linter.unusedSectionVars false
set_option linter.unusedVariables false
section
variable {P : Program} {f n : Nat} {k : List Item} {ρ : Env} {w : World} {R : Ending → World → Prop} {ops : Array Oper} {rest : List Nat} {i : Nat}
variable {d : Tmp} {ty : TypeId} {pos : String} {af : Array Edge} {x y : Operand} {op : Op} {gd : Option (Nat × Bool)}
theorem p_i {g : FuncId} {args : Array Value} (ho : ops[i]? = some ⟨some d, op, ty, pos, af, gd⟩) (hw : wantedE ρ ops ⟨some d, op, ty, pos, af, gd⟩ = true) (hd : Nat.blt d n = true) (hr : (execOp (ev ρ) ⟨some d, op, ty, pos, af, gd⟩).run P w = .ok (.enter g args) w)
    (hc : Calls P g args w fun e w2 => ∃ v, e = .returned v ∧ Run P f n (.inRegion ops rest :: k) (upd ρ d v) w2 R) : Run P f n (.inRegion ops (i :: rest) :: k) ρ w R := p_c ho hw hd hr hc fun _ _ h => h
end
section
variable {P : Program} {f n : Nat} {k : List Item} {ρ : Env} {w : World} {R : Ending → World → Prop} {ops : Array Oper} {H : Held} {fuel : Nat} {listed : Array Bool} {i : Nat}
variable {d : Tmp} {ty : TypeId} {pos : String} {af : Array Edge} {op : Op} {gd : Option (Nat × Bool)}
theorem d_i {g : FuncId} {args : Array Value} (ho : ops[i]? = some ⟨some d, op, ty, pos, af, gd⟩) (hw : wantedE ρ ops ⟨some d, op, ty, pos, af, gd⟩ = true) (hd : Nat.blt d n = true) (hr : (execOp (ev ρ) ⟨some d, op, ty, pos, af, gd⟩).run P w = .ok (.enter g args) w)
    (hc : Calls P g args w fun e w2 => ∃ v, e = .returned v ∧ ((Gr w w2 ∨ Keep ops i w2 H) ∧ RA P f n ops H fuel (listed.setIfInBounds i true) k (upd ρ d v) w2 R)) : RA1 P f n ops H fuel listed k ρ w R i := d_c ho hw hd hr hc fun _ _ h => h
end
section
variable {P : Program} {w : World} {ρ : Env} {d : Option Tmp} {x y : Operand} {ty : TypeId} {pos : String} {af : Array Edge} {g : Option (Nat × Bool)}
theorem x_nilCheck {ad : Addr} (hx : ev ρ x = .pointer (some ad)) : (execOp (ev ρ) ⟨d, .nilCheck x, ty, pos, af, g⟩).run P w = .ok (.value (.pointer (some ad))) w := by
  simp only [execOp, hx]
  rfl
theorem x_eql_ptr {p : Option Addr} {t t2 e : TypeId} (hT : P.underlying t = some (.pointer e)) (hx : ev ρ x = .pointer p) (hy : ev ρ y = .pointer none) : (execOp (ev ρ) ⟨d, .binOp .eql t x y t2, ty, pos, af, g⟩).run P w = .ok (.value (.bool p.isNone)) w := by
  have hg : (eqGuard .eql t x y (.pointer p) (.pointer none)).run P w = .ok () w := by unfold eqGuard; rfl
  have h1 := run_equalIn_pointer_nil (P := P) (w := w) 9999 t p (by rw [show P.pointee t = e by simp [Program.pointee, hT]]; exact hT)
  simp only [execOp, hx, hy, Sem.run_bind, hg, Result.andThen_ok, binOp, Op.equal, Op.maxDepth]
  rw [show (10000 : Nat) = 9999 + 1 from rfl, h1]
  rfl
end
theorem shr_in {a b : Int} (h : inK .u64 a) : inK .u64 (a / 2 ^ b.toNat) := by
  have h0 := u64_lo h
  have h1 := u64_hi h
  have hp : (0 : Int) < 2 ^ b.toNat := Int.pow_pos (by omega)
  refine in_u64 (Int.ediv_nonneg h0 (Int.le_of_lt hp)) (Int.le_trans (Int.ediv_le_self _ h0) h1)
def GCs (ad : Addr) (cs : List Value) : Sp := ⟨fun w => ∀ j v, cs[j]? = some v → gcell (hp w) (ad.add j) = some v, fun _ _ g h j v hj => gcell_mono (Le.below (Chg.below g)) (h j v hj)⟩
section
variable {α β : Type} [DecidableEq α] {P : Program} {kt : TypeId} {ke : α → Value} {ve : β → Value} {w w' : World}
def MapH (ke : α → Value) (ve : β → Value) (b : Nat) (kvs : List (α × β)) (w : World) : Prop := ∃ es clock, w.heap[b]? = some (.map es clock) ∧ es.toList.map (fun e => (e.key, e.val)) = pairs ke ve kvs
theorem MapH.gr {b : Nat} {kvs : List (α × β)} (g : Gr w w') (h : MapH ke ve b kvs w) : MapH ke ve b kvs w' := by
  obtain ⟨es, clock, hb, hes⟩ := h
  have hlt : b < w.heap.size := (Array.getElem?_eq_some_iff.1 hb).1
  exact ⟨es, clock, by rw [← hb]; exact Chg.block g b hlt (fun x => x), hes⟩
def MapHs (ke : α → Value) (ve : β → Value) (b : Nat) (kvs : List (α × β)) : Sp := ⟨MapH ke ve b kvs, fun _ _ g h => h.gr g⟩
theorem e_lookup_h {b : Nat} {T et : TypeId} {kvs : List (α × β)} (K : KeyK P kt ke) (hm : MapH ke ve b kvs w) (hT : P.underlying T = some (.map kt et)) {z : Value} (hz : (zeroValue et).run P w = .ok z w) (d : β) (k : α) (hd : ve d = z := by rfl) :
    (Instr.lookup T (.map (some b)) (ke k) true).run P w = .ok (.tuple #[ve ((valAt k kvs).getD d), .bool (valAt k kvs).isSome]) w := by
  obtain ⟨es, clock, hb, hes⟩ := hm
  have hg : (getObj b).run P w = .ok (.map es clock) w := by simp [getObj, Sem.run, hb]
  simp only [Instr.lookup, Sem.run_bind, run_underlying hT, Result.andThen_ok, hg, K.chk, run_findKey K k hes, Sem.run_pure]
  unfold valAt put2
  cases lookAt k kvs 0 with
  | none => simp [hz, Sem.run_bind, hd, Sem.run_pure]
  | some p => simp [Sem.run_pure]
end
theorem len_app {a b : List Value} {m n : Nat} (ha : a.length = m) (hb : b.length = n) : (a ++ b).length = m + n := by rw [List.length_append, ha, hb]
theorem take_all {a : List Value} {m : Nat} (h : a.length = m) : (a.drop 0).take m = a := by rw [List.drop_zero, List.take_of_length_le (by omega)]
theorem seg_mid {pre seg post : List Value} {off m : Nat} (h : pre.length = off) (h2 : seg.length = m) : ((pre ++ (seg ++ post)).drop off).take m = seg := by
  subst h; subst h2
  rw [List.drop_left, List.take_left]
theorem seg_mid2 {a pre seg post : List Value} {off na m : Nat} (ha : a.length = na) (h : na + pre.length = off) (h2 : seg.length = m) : ((a ++ (pre ++ (seg ++ post))).drop off).take m = seg := by
  rw [← List.append_assoc a pre]
  exact seg_mid (by rw [List.length_append, ha]; exact h) h2
theorem lput_mid {pre seg post vs : List Value} {off : Nat} (h : pre.length = off) (h2 : vs.length = seg.length) : lput (pre ++ (seg ++ post)) off vs = pre ++ (vs ++ post) := by
  subst h
  apply List.ext_getElem?
  intro q
  rw [lput_get vs _ _ _ (by simp; omega)]
  by_cases h3 : q < pre.length
  · rw [if_neg (by omega), List.getElem?_append_left h3, List.getElem?_append_left h3]
  · by_cases h4 : q < pre.length + vs.length
    · rw [if_pos ⟨by omega, h4⟩, List.getElem?_append_right (l₁ := pre) (l₂ := vs ++ post) (by omega), List.getElem?_append_left (by omega)]
    · rw [if_neg (by omega), List.getElem?_append_right (by omega), List.getElem?_append_right (by omega), List.getElem?_append_right (by omega), List.getElem?_append_right (by omega), h2]
theorem one_app {a b : List Value} (ha : ∀ u ∈ a, u.oneCell' = true) (hb : ∀ u ∈ b, u.oneCell' = true) : ∀ u ∈ a ++ b, u.oneCell' = true := fun u hu => (List.mem_append.1 hu).elim (ha u) (hb u)
theorem fill_mid {place : Nat → Option (Nat × Nat)} {cells : Array Value} {i off n : Nat} {v : Value} {vc pre seg post : List Value} {rest : List (Nat × Value)} {r : Array Value} (hp : place i = some (off, n)) (hv : v.cells = vc.toArray) (hn : vc.length = n) (hc : cells.toList = pre ++ (seg ++ post)) (h1 : pre.length = off) (h2 : seg.length = n)
    (h : Instr.fill place (pre ++ (vc ++ post)).toArray rest = some r) : Instr.fill place cells ((i, v) :: rest) = some r := by
  refine fill_any hp hv hn ?_ ?_
  · have : cells.size = cells.toList.length := by simp
    rw [this, hc]
    simp only [List.length_append, Nat.ble_eq]; omega
  · rw [hc, lput_mid h1 (by omega)]; exact h
section
variable {P : Program} {w w0 : World} {base : Nat} {h : Ghost} {L : List Asrt}
theorem e_store_mid {j b off : Nat} {T E : TypeId} {vs pre seg post : List Value} {v : Value} {m b' : Nat} {g : Bool} {z : Option Value} (S : St base w0 h w L) (ht : tyInfo P T = some (m, b', g, z)) (hc : v.cells = vs.toArray) (hm : vs.length = m)
    (hp : pre.length = off) (hs : seg.length = m) (hj : L[j]? = some (box b E (pre ++ (seg ++ post)))) (h1 : ∀ u ∈ vs, u.oneCell' = true) :
    ∃ w', (storeVar T ⟨b, off, none⟩ v).run P w = .ok () w' ∧ Chg w w' (fun q => q = b) ∧ St base w0 h w' (L.set j (box b E (pre ++ (vs ++ post)))) := by
  have := e_store (v := v) (vs := vs) (off := off) S ht hc hm hj (by rw [List.length_append, List.length_append]; omega) h1
  rwa [lput_mid hp (hm.trans hs.symm)] at this
theorem e_store_mid2 {j b off na : Nat} {T E : TypeId} {vs a pre seg post : List Value} {v : Value} {m b' : Nat} {g : Bool} {z : Option Value} (S : St base w0 h w L) (ht : tyInfo P T = some (m, b', g, z)) (hc : v.cells = vs.toArray) (hm : vs.length = m)
    (ha : a.length = na) (hp : na + pre.length = off) (hs : seg.length = m) (hj : L[j]? = some (box b E (a ++ (pre ++ (seg ++ post))))) (h1 : ∀ u ∈ vs, u.oneCell' = true) :
    ∃ w', (storeVar T ⟨b, off, none⟩ v).run P w = .ok () w' ∧ Chg w w' (fun q => q = b) ∧ St base w0 h w' (L.set j (box b E (a ++ (pre ++ (vs ++ post))))) := by
  rw [← List.append_assoc a pre] at hj
  have := e_store_mid (v := v) (vs := vs) (pre := a ++ pre) (off := off) S ht hc hm (by rw [List.length_append, ha]; exact hp) hs hj h1
  rwa [List.append_assoc a pre] at this
theorem e_store_all {j b : Nat} {T E : TypeId} {vs cs : List Value} {v : Value} {m b' : Nat} {g : Bool} {z : Option Value} (S : St base w0 h w L) (ht : tyInfo P T = some (m, b', g, z)) (hc : v.cells = vs.toArray) (hm : vs.length = m)
    (hs : cs.length = m) (hj : L[j]? = some (box b E cs)) (h1 : ∀ u ∈ vs, u.oneCell' = true) :
    ∃ w', (storeVar T ⟨b, 0, none⟩ v).run P w = .ok () w' ∧ Chg w w' (fun q => q = b) ∧ St base w0 h w' (L.set j (box b E vs)) := by
  have := e_store (v := v) (vs := vs) (off := 0) S ht hc hm hj (by omega) h1
  rwa [lput_all (by omega)] at this
end
end Gx
namespace Gx
open Go Go.RowKit
set_option linter.unusedSimpArgs false
set_option linter.unusedSectionVars false
set_option linter.unusedVariables false
section
variable {S : Type} [DecidableEq S]
def addL (l : List S) (s : S) : List S := if s ∈ l then l else l ++ [s]
def placeL (s : S) (l : List S) : Int := ((l.findIdx fun x => decide (x = s) : Nat) : Int)
def rowsOf (next : S → Int → S) (n : Int) (s : S) : List S := (List.range n.toNat).map fun k => next s ((k : Nat) : Int)
def bfs (next : S → Int → S) (n : Int) (first : S) : Nat → List S
  | 0 => [first]
  | i + 1 => match (bfs next n first i)[i]? with
    | some s => (rowsOf next n s).foldl addL (bfs next n first i)
    | none => bfs next n first i
theorem addL_pre (l : List S) (s : S) : ∃ r, addL l s = l ++ r := by
  unfold addL
  split
  · exact ⟨[], by simp⟩
  · exact ⟨[s], rfl⟩
theorem addL_mem (l : List S) (s : S) : s ∈ addL l s := by
  unfold addL
  split
  · assumption
  · simp
theorem addL_nodup {l : List S} {s : S} (h : l.Nodup) : (addL l s).Nodup := by
  unfold addL
  split
  · exact h
  · rename_i hn
    rw [List.nodup_append]
    exact ⟨h, by simp, fun a ha b hb => by rw [List.mem_singleton.1 hb]; exact fun e => hn (by rw [← e]; exact ha)⟩
theorem fold_pre : ∀ (r l : List S), ∃ q, r.foldl addL l = l ++ q
  | [], l => ⟨[], by simp⟩
  | s :: r, l => by
    obtain ⟨a, ha⟩ := addL_pre l s
    obtain ⟨b, hb⟩ := fold_pre r (addL l s)
    exact ⟨a ++ b, by rw [List.foldl_cons, hb, ha, List.append_assoc]⟩
theorem fold_nodup : ∀ (r : List S) {l : List S}, l.Nodup → (r.foldl addL l).Nodup
  | [], _, h => h
  | s :: r, l, h => fold_nodup r (addL_nodup h)
theorem fold_mem : ∀ (r l : List S), ∀ x ∈ r, x ∈ r.foldl addL l
  | [], _, x, h => by cases h
  | s :: r, l, x, h => by
    rw [List.foldl_cons]
    rcases List.mem_cons.1 h with rfl | h
    · obtain ⟨q, hq⟩ := fold_pre r (addL l x)
      rw [hq]; exact List.mem_append_left _ (addL_mem l x)
    · exact fold_mem r _ x h
theorem fold_from : ∀ (r l : List S), ∀ x ∈ r.foldl addL l, x ∈ l ∨ x ∈ r
  | [], _, x, h => .inl h
  | s :: r, l, x, h => by
    rcases fold_from r _ x h with h | h
    · unfold addL at h
      split at h
      · exact .inl h
      · rcases List.mem_append.1 h with h | h
        · exact .inl h
        · rw [List.mem_singleton.1 h]; exact .inr (by simp)
    · exact .inr (List.mem_cons_of_mem _ h)
theorem bfs_step {next : S → Int → S} {n : Int} {first : S} {i : Nat} {s : S} (h : (bfs next n first i)[i]? = some s) : bfs next n first (i + 1) = (rowsOf next n s).foldl addL (bfs next n first i) := by
  show (match (bfs next n first i)[i]? with | some s => _ | none => _) = _
  rw [h]
theorem bfs_pre (next : S → Int → S) (n : Int) (first : S) (i : Nat) : ∃ q, bfs next n first (i + 1) = bfs next n first i ++ q := by
  cases h : (bfs next n first i)[i]? with
  | some s => rw [bfs_step h]; exact fold_pre _ _
  | none => exact ⟨[], by show (match (bfs next n first i)[i]? with | some s => _ | none => _) = _; rw [h]; simp⟩
theorem bfs_nodup (next : S → Int → S) (n : Int) (first : S) : ∀ i, (bfs next n first i).Nodup
  | 0 => by simp [bfs]
  | i + 1 => by
    cases h : (bfs next n first i)[i]? with
    | some s => rw [bfs_step h]; exact fold_nodup _ (bfs_nodup next n first i)
    | none =>
      have e : bfs next n first (i + 1) = bfs next n first i := by
        show (match (bfs next n first i)[i]? with | some s => _ | none => _) = _
        rw [h]
      rw [e]; exact bfs_nodup next n first i
theorem bfs_end {next : S → Int → S} {n : Int} {first : S} {i : Nat} (h : (bfs next n first i).length ≤ i) : ∀ d, bfs next n first (i + d) = bfs next n first i
  | 0 => rfl
  | d + 1 => by
    have ih := bfs_end h d
    rw [← Nat.add_assoc]
    show (match (bfs next n first (i + d))[i + d]? with | some s => _ | none => _) = _
    rw [ih, List.getElem?_eq_none (by omega)]
theorem bfs_all {next : S → Int → S} {n : Int} {first : S} {P : S → Prop} (h0 : P first) (h1 : ∀ s k, P s → 0 ≤ k → k < n → P (next s k)) : ∀ i, ∀ s ∈ bfs next n first i, P s
  | 0, s, hs => by simp only [bfs, List.mem_singleton] at hs; rw [hs]; exact h0
  | i + 1, s, hs => by
    have ih := bfs_all h0 h1 i
    cases h : (bfs next n first i)[i]? with
    | some t =>
      rw [bfs_step h] at hs
      rcases fold_from _ _ s hs with hs | hs
      · exact ih s hs
      · unfold rowsOf at hs
        obtain ⟨k, hk, rfl⟩ := List.mem_map.1 hs
        rw [List.mem_range] at hk
        exact h1 t _ (ih t (List.mem_of_getElem? h)) (by omega) (by omega)
    | none =>
      have e : bfs next n first (i + 1) = bfs next n first i := by
        show (match (bfs next n first i)[i]? with | some s => _ | none => _) = _
        rw [h]
      rw [e] at hs; exact ih s hs
open Classical in
noncomputable def allM (next : S → Int → S) (n : Int) (first : S) : List S := if h : ∃ i, (bfs next n first i).length ≤ i then bfs next n first h.choose else []
theorem allM_eq {next : S → Int → S} {n : Int} {first : S} {i : Nat} (h : (bfs next n first i).length ≤ i) : allM next n first = bfs next n first i := by
  have hx : ∃ i, (bfs next n first i).length ≤ i := ⟨i, h⟩
  unfold allM
  rw [dif_pos hx]
  have hc := hx.choose_spec
  generalize hx.choose = j at hc
  rcases Nat.le_total i j with hle | hle
  · have := bfs_end h (j - i); rwa [show i + (j - i) = j by omega] at this
  · have := bfs_end hc (i - j); rw [show j + (i - j) = i by omega] at this; exact this.symm
theorem place_mem {l : List S} {s : S} (h : s ∈ l) : 0 ≤ placeL s l ∧ placeL s l < (l.length : Int) ∧ l[(placeL s l).toNat]? = some s := by
  unfold placeL
  have hlt : l.findIdx (fun x => decide (x = s)) < l.length := List.findIdx_lt_length_of_exists ⟨s, h, by simp⟩
  refine ⟨by omega, by omega, ?_⟩
  rw [Int.toNat_natCast, List.getElem?_eq_getElem hlt]
  have := List.findIdx_getElem (w := hlt)
  rw [of_decide_eq_true this]
theorem place_app {l : List S} {s : S} (r : List S) (h : s ∈ l) : placeL s (l ++ r) = placeL s l := by
  unfold placeL
  rw [List.findIdx_append, if_pos (List.findIdx_lt_length_of_exists ⟨s, h, by simp⟩)]
theorem place_new {l : List S} {s : S} (h : s ∉ l) : placeL s (l ++ [s]) = (l.length : Int) := by
  unfold placeL
  have e : l.findIdx (fun x => decide (x = s)) = l.length := List.findIdx_eq_length.2 fun x hx => decide_eq_false fun e => h (by rw [← e]; exact hx)
  rw [List.findIdx_append, if_neg (by rw [e]; omega)]
  simp
def numbered (l : List S) : List (S × Int) := l.mapIdx fun i s => (s, ((i : Nat) : Int))
theorem numbered_app (l : List S) (s : S) : numbered (l ++ [s]) = numbered l ++ [(s, (l.length : Int))] := by
  unfold numbered
  rw [List.mapIdx_append]; simp
theorem look_app (k : S) : ∀ (a b : List (S × Int)) (i : Nat), lookAt k (a ++ b) i = (lookAt k a i).or (lookAt k b (i + a.length))
  | [], b, i => by simp [lookAt]
  | p :: a, b, i => by
    have e : ∀ (l : List (S × Int)) (j : Nat), lookAt k (p :: l) j = if k = p.1 then some (j, p.2) else lookAt k l (j + 1) := fun l j => rfl
    rw [List.cons_append, e, e]
    by_cases h : k = p.1
    · rw [if_pos h, if_pos h]; rfl
    · rw [if_neg h, if_neg h, look_app k a b (i + 1), List.length_cons, show i + 1 + a.length = i + (a.length + 1) by omega]
theorem list_snoc {P : List S → Prop} (h0 : P []) (h1 : ∀ l s, P l → P (l ++ [s])) (l : List S) : P l := by
  rw [← List.reverse_reverse l]
  induction l.reverse with
  | nil => exact h0
  | cons a r ih => rw [List.reverse_cons]; exact h1 _ _ ih
theorem numbered_len (l : List S) : (numbered l).length = l.length := by simp [numbered]
theorem look_numbered (s : S) (l : List S) : lookAt s (numbered l) 0 = if s ∈ l then some ((placeL s l).toNat, placeL s l) else none := by
  induction l using list_snoc with
  | h0 => rfl
  | h1 l t ih =>
    rw [numbered_app, look_app, ih]
    by_cases h : s ∈ l
    · rw [if_pos h, if_pos (List.mem_append_left _ h), place_app _ h]; rfl
    · rw [if_neg h]
      by_cases h2 : s = t
      · rw [if_pos (by simp [h2])]
        subst h2
        rw [place_new h]
        simp [lookAt, numbered_len]
      · rw [if_neg (by simp [h, h2])]
        simp [lookAt, h2]
theorem val_old {s : S} {l : List S} (h : s ∈ l) : valAt s (numbered l) = some (placeL s l) := by unfold valAt; rw [look_numbered, if_pos h]; rfl
theorem val_new {s : S} {l : List S} (h : s ∉ l) : valAt s (numbered l) = none := by unfold valAt; rw [look_numbered, if_neg h]; rfl
theorem put_new {s : S} {l : List S} (h : s ∉ l) : putAt s (l.length : Int) (numbered l) = numbered (l ++ [s]) := by
  unfold putAt
  rw [look_numbered, if_neg h, numbered_app]
end
end Gx
