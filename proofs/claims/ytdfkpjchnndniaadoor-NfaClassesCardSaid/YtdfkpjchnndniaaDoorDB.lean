/- Functions of this translation, each walked once; no conditions but those that each contract tells. -/
import Derived.Test.YtdfkpjchnndniaaDoorTB
import Derived.Test.YtdfkpjchnndniaaDoorM6
import Derived.Test.YtdfkpjchnndniaaDoorM7
import Derived.Test.YtdfkpjchnndniaaDoorQB
import Derived.Test.YtdfkpjchnndniaaDoorTzB
import Derived.Test.YtdfkpjchnndniaaDoorN2
import Derived.Test.YtdfkpjchnndniaaDoorK1B
import Derived.Test.YtdfkpjchnndniaaDoorAB
namespace Go.Proofs.YtdfkpjchnndniaaDoor
open Go Go.RowKit Gx
set_option maxHeartbeats 1000000
set_option linter.unusedVariables false
set_option linter.unusedSimpArgs false
attribute [local irreducible] members pack listOf count first someIn has setOf setRange wbits Lib.ctz partOf refineP setsP leastP rightP splitsP splitP

theorem split_calls (w : World) (p : PartM) (o0 : okPart p) (s : BSet) :
    Calls Tryd.prog 29 #[.agg (encPart p).toArray, .agg (encSet s).toArray] w fun e w' => ∃ v, e = .returned v ∧ ∃ (hn : Ghost), St w.heap.size w hn w' [] ∧ v = .agg (encPart (splitP p s)).toArray ∧ okPart (splitP p s) := by
  refine calls_of_run Tryd.func29 rfl Tryd.ntmps29 rfl ?_
  have S0 := St.init w
  have ploo0 := i64_lo o0.2; have phio0 := i64_hi o0.2
  refine run_seq ?_
  refine run_reg (l := [0, 1, 2]) rfl ?_
  obtain ⟨b1, w1, r1, g1, T1⟩ := e_box (P := Tryd.prog) S0 41 (v := .agg (encPart p).toArray) (encPart p) rfl
  have S2 : St w.heap.size w (fun _ => none) w1 [box b1 41 (encPart p)] := T1
  refine p_v (v := .pointer (some ⟨b1, 0, none⟩)) rfl rfl rfl (x_box rfl r1) ?_
  obtain ⟨b3, w3, r3, g3, T3⟩ := e_box (P := Tryd.prog) S2 49 (v := .agg (encSet s).toArray) (encSet s) rfl
  have S4 : St w.heap.size w (fun _ => none) w3 [box b1 41 (encPart p), box b3 49 (encSet s)] := T3
  refine p_v (v := .pointer (some ⟨b3, 0, none⟩)) rfl rfl rfl (x_box rfl r3) ?_
  obtain ⟨b5, w5, r5, g5, T5⟩ := e_box (P := Tryd.prog) S4 41 (v := (.agg #[.int .u8 0, .int .u8 0, .int .u8 0, .int .u8 0, .int .u8 0, .int .u8 0, .int .u8 0, .int .u8 0, .int .u8 0, .int .u8 0, .int .u8 0, .int .u8 0, .int .u8 0, .int .u8 0, .int .u8 0, .int .u8 0, .int .u8 0, .int .u8 0, .int .u8 0, .int .u8 0, .int .u8 0, .int .u8 0, .int .u8 0, .int .u8 0, .int .u8 0, .int .u8 0, .int .u8 0, .int .u8 0, .int .u8 0, .int .u8 0, .int .u8 0, .int .u8 0, .int .u8 0, .int .u8 0, .int .u8 0, .int .u8 0, .int .u8 0, .int .u8 0, .int .u8 0, .int .u8 0, .int .u8 0, .int .u8 0, .int .u8 0, .int .u8 0, .int .u8 0, .int .u8 0, .int .u8 0, .int .u8 0, .int .u8 0, .int .u8 0, .int .u8 0, .int .u8 0, .int .u8 0, .int .u8 0, .int .u8 0, .int .u8 0, .int .u8 0, .int .u8 0, .int .u8 0, .int .u8 0, .int .u8 0, .int .u8 0, .int .u8 0, .int .u8 0, .int .u8 0, .int .u8 0, .int .u8 0, .int .u8 0, .int .u8 0, .int .u8 0, .int .u8 0, .int .u8 0, .int .u8 0, .int .u8 0, .int .u8 0, .int .u8 0, .int .u8 0, .int .u8 0, .int .u8 0, .int .u8 0, .int .u8 0, .int .u8 0, .int .u8 0, .int .u8 0, .int .u8 0, .int .u8 0, .int .u8 0, .int .u8 0, .int .u8 0, .int .u8 0, .int .u8 0, .int .u8 0, .int .u8 0, .int .u8 0, .int .u8 0, .int .u8 0, .int .u8 0, .int .u8 0, .int .u8 0, .int .u8 0, .int .u8 0, .int .u8 0, .int .u8 0, .int .u8 0, .int .u8 0, .int .u8 0, .int .u8 0, .int .u8 0, .int .u8 0, .int .u8 0, .int .u8 0, .int .u8 0, .int .u8 0, .int .u8 0, .int .u8 0, .int .u8 0, .int .u8 0, .int .u8 0, .int .u8 0, .int .u8 0, .int .u8 0, .int .u8 0, .int .u8 0, .int .u8 0, .int .u8 0, .int .u8 0, .int .u8 0, .int .u8 0, .int .u8 0, .int .u8 0, .int .u8 0, .int .u8 0, .int .u8 0, .int .u8 0, .int .u8 0, .int .u8 0, .int .u8 0, .int .u8 0, .int .u8 0, .int .u8 0, .int .u8 0, .int .u8 0, .int .u8 0, .int .u8 0, .int .u8 0, .int .u8 0, .int .u8 0, .int .u8 0, .int .u8 0, .int .u8 0, .int .u8 0, .int .u8 0, .int .u8 0, .int .u8 0, .int .u8 0, .int .u8 0, .int .u8 0, .int .u8 0, .int .u8 0, .int .u8 0, .int .u8 0, .int .u8 0, .int .u8 0, .int .u8 0, .int .u8 0, .int .u8 0, .int .u8 0, .int .u8 0, .int .u8 0, .int .u8 0, .int .u8 0, .int .u8 0, .int .u8 0, .int .u8 0, .int .u8 0, .int .u8 0, .int .u8 0, .int .u8 0, .int .u8 0, .int .u8 0, .int .u8 0, .int .u8 0, .int .u8 0, .int .u8 0, .int .u8 0, .int .u8 0, .int .u8 0, .int .u8 0, .int .u8 0, .int .u8 0, .int .u8 0, .int .u8 0, .int .u8 0, .int .u8 0, .int .u8 0, .int .u8 0, .int .u8 0, .int .u8 0, .int .u8 0, .int .u8 0, .int .u8 0, .int .u8 0, .int .u8 0, .int .u8 0, .int .u8 0, .int .u8 0, .int .u8 0, .int .u8 0, .int .u8 0, .int .u8 0, .int .u8 0, .int .u8 0, .int .u8 0, .int .u8 0, .int .u8 0, .int .u8 0, .int .u8 0, .int .u8 0, .int .u8 0, .int .u8 0, .int .u8 0, .int .u8 0, .int .u8 0, .int .u8 0, .int .u8 0, .int .u8 0, .int .u8 0, .int .u8 0, .int .u8 0, .int .u8 0, .int .u8 0, .int .u8 0, .int .u8 0, .int .u8 0, .int .u8 0, .int .u8 0, .int .u8 0, .int .u8 0, .int .u8 0, .int .u8 0, .int .u8 0, .int .u8 0, .int .u8 0, .int .u8 0, .int .u8 0, .int .u8 0, .int .u8 0, .int .u8 0, .int .u8 0, .int .u8 0, .int .u8 0, .int .u8 0, .int .u8 0, .int .u8 0, .int .u8 0, .int .u8 0, .int .i64 0])) (encPart (⟨(List.replicate 256 (0 : Int)), 0⟩ : PartM)) (by kernel_rfl)
  have S6 : St w.heap.size w (fun _ => none) w5 [box b1 41 (encPart p), box b3 49 (encSet s), box b5 41 (encPart (⟨(List.replicate 256 (0 : Int)), 0⟩ : PartM))] := T5
  refine p_v (v := .pointer (some ⟨b5, 0, none⟩)) rfl rfl rfl (x_alloc ty41 r5) ?_
  refine run_region_end ?_
  refine run_seq ?_
  refine run_reg (l := [0]) rfl ?_
  obtain ⟨b7, w7, r7, g7, T7⟩ := e_box (P := Tryd.prog) S6 41 (v := (.agg #[.int .u8 0, .int .u8 0, .int .u8 0, .int .u8 0, .int .u8 0, .int .u8 0, .int .u8 0, .int .u8 0, .int .u8 0, .int .u8 0, .int .u8 0, .int .u8 0, .int .u8 0, .int .u8 0, .int .u8 0, .int .u8 0, .int .u8 0, .int .u8 0, .int .u8 0, .int .u8 0, .int .u8 0, .int .u8 0, .int .u8 0, .int .u8 0, .int .u8 0, .int .u8 0, .int .u8 0, .int .u8 0, .int .u8 0, .int .u8 0, .int .u8 0, .int .u8 0, .int .u8 0, .int .u8 0, .int .u8 0, .int .u8 0, .int .u8 0, .int .u8 0, .int .u8 0, .int .u8 0, .int .u8 0, .int .u8 0, .int .u8 0, .int .u8 0, .int .u8 0, .int .u8 0, .int .u8 0, .int .u8 0, .int .u8 0, .int .u8 0, .int .u8 0, .int .u8 0, .int .u8 0, .int .u8 0, .int .u8 0, .int .u8 0, .int .u8 0, .int .u8 0, .int .u8 0, .int .u8 0, .int .u8 0, .int .u8 0, .int .u8 0, .int .u8 0, .int .u8 0, .int .u8 0, .int .u8 0, .int .u8 0, .int .u8 0, .int .u8 0, .int .u8 0, .int .u8 0, .int .u8 0, .int .u8 0, .int .u8 0, .int .u8 0, .int .u8 0, .int .u8 0, .int .u8 0, .int .u8 0, .int .u8 0, .int .u8 0, .int .u8 0, .int .u8 0, .int .u8 0, .int .u8 0, .int .u8 0, .int .u8 0, .int .u8 0, .int .u8 0, .int .u8 0, .int .u8 0, .int .u8 0, .int .u8 0, .int .u8 0, .int .u8 0, .int .u8 0, .int .u8 0, .int .u8 0, .int .u8 0, .int .u8 0, .int .u8 0, .int .u8 0, .int .u8 0, .int .u8 0, .int .u8 0, .int .u8 0, .int .u8 0, .int .u8 0, .int .u8 0, .int .u8 0, .int .u8 0, .int .u8 0, .int .u8 0, .int .u8 0, .int .u8 0, .int .u8 0, .int .u8 0, .int .u8 0, .int .u8 0, .int .u8 0, .int .u8 0, .int .u8 0, .int .u8 0, .int .u8 0, .int .u8 0, .int .u8 0, .int .u8 0, .int .u8 0, .int .u8 0, .int .u8 0, .int .u8 0, .int .u8 0, .int .u8 0, .int .u8 0, .int .u8 0, .int .u8 0, .int .u8 0, .int .u8 0, .int .u8 0, .int .u8 0, .int .u8 0, .int .u8 0, .int .u8 0, .int .u8 0, .int .u8 0, .int .u8 0, .int .u8 0, .int .u8 0, .int .u8 0, .int .u8 0, .int .u8 0, .int .u8 0, .int .u8 0, .int .u8 0, .int .u8 0, .int .u8 0, .int .u8 0, .int .u8 0, .int .u8 0, .int .u8 0, .int .u8 0, .int .u8 0, .int .u8 0, .int .u8 0, .int .u8 0, .int .u8 0, .int .u8 0, .int .u8 0, .int .u8 0, .int .u8 0, .int .u8 0, .int .u8 0, .int .u8 0, .int .u8 0, .int .u8 0, .int .u8 0, .int .u8 0, .int .u8 0, .int .u8 0, .int .u8 0, .int .u8 0, .int .u8 0, .int .u8 0, .int .u8 0, .int .u8 0, .int .u8 0, .int .u8 0, .int .u8 0, .int .u8 0, .int .u8 0, .int .u8 0, .int .u8 0, .int .u8 0, .int .u8 0, .int .u8 0, .int .u8 0, .int .u8 0, .int .u8 0, .int .u8 0, .int .u8 0, .int .u8 0, .int .u8 0, .int .u8 0, .int .u8 0, .int .u8 0, .int .u8 0, .int .u8 0, .int .u8 0, .int .u8 0, .int .u8 0, .int .u8 0, .int .u8 0, .int .u8 0, .int .u8 0, .int .u8 0, .int .u8 0, .int .u8 0, .int .u8 0, .int .u8 0, .int .u8 0, .int .u8 0, .int .u8 0, .int .u8 0, .int .u8 0, .int .u8 0, .int .u8 0, .int .u8 0, .int .u8 0, .int .u8 0, .int .u8 0, .int .u8 0, .int .u8 0, .int .u8 0, .int .u8 0, .int .u8 0, .int .u8 0, .int .u8 0, .int .u8 0, .int .u8 0, .int .u8 0, .int .u8 0, .int .u8 0, .int .u8 0, .int .u8 0, .int .u8 0, .int .u8 0, .int .u8 0, .int .u8 0, .int .u8 0, .int .u8 0, .int .u8 0, .int .u8 0, .int .u8 0, .int .u8 0, .int .u8 0, .int .i64 0])) (encPart (⟨(List.replicate 256 (0 : Int)), 0⟩ : PartM)) (by kernel_rfl)
  have S8 : St w.heap.size w (fun _ => none) w7 [box b1 41 (encPart p), box b3 49 (encSet s), box b5 41 (encPart (⟨(List.replicate 256 (0 : Int)), 0⟩ : PartM)), box b7 41 (encPart (⟨(List.replicate 256 (0 : Int)), 0⟩ : PartM))] := T7
  refine p_v (v := .pointer (some ⟨b7, 0, none⟩)) rfl rfl rfl (x_alloc ty41 r7) ?_
  refine run_region_end ?_
  refine run_seq ?_
  refine run_reg (l := [0, 1]) rfl ?_
  obtain ⟨b9, w9, r9, g9, T9⟩ := e_makeMap (P := Tryd.prog) S8 75 (fun x : (Int × Bool) => Value.agg (encSide x).toArray) (fun x : Int => Value.int .u8 x)
  have S10 : St w.heap.size w (fun _ => none) w9 [box b1 41 (encPart p), box b3 49 (encSet s), box b5 41 (encPart (⟨(List.replicate 256 (0 : Int)), 0⟩ : PartM)), box b7 41 (encPart (⟨(List.replicate 256 (0 : Int)), 0⟩ : PartM)), amap (fun x : (Int × Bool) => Value.agg (encSide x).toArray) (fun x : Int => Value.int .u8 x) b9 ([] : List ((Int × Bool) × Int))] := T9
  refine p_v (v := .map (some b9)) rfl rfl rfl (x_makeMap r9) ?_
  refine p_v (v := .map (some b9)) rfl rfl rfl (x_assign rfl) ?_
  refine run_region_end ?_
  refine run_seq ?_
  refine run_seq ?_
  refine run_reg (l := [0]) rfl ?_
  refine p_v (v := .int .i64 0) rfl rfl rfl (x_move rfl) ?_
  refine run_region_end ?_
  refine run_block ?_
  refine run_loop (S := PartM × (List ((Int × Bool) × Int)) × Int) (fun (q_ : PartM × (List ((Int × Bool) × Int)) × Int) ρ w' => match q_ with | (out, of, t12) => ∃ (h : Ghost), Le (fun _ => none) h ∧ St w.heap.size w h w' [box b1 41 (encPart p), box b3 49 (encSet s), box b5 41 (encPart (⟨(List.replicate 256 (0 : Int)), 0⟩ : PartM)), box b7 41 (encPart out), amap (fun x : (Int × Bool) => Value.agg (encSide x).toArray) (fun x : Int => Value.int .u8 x) b9 of] ∧ ρ 2 = .pointer (some ⟨b1, 0, none⟩) ∧ ρ 3 = .pointer (some ⟨b3, 0, none⟩) ∧ ρ 4 = .pointer (some ⟨b5, 0, none⟩) ∧ ρ 5 = .pointer (some ⟨b7, 0, none⟩) ∧ ρ 6 = .map (some b9) ∧ ρ 12 = .int .i64 t12 ∧ okPart out ∧ inK .i64 t12 ∧ (0 ≤ t12 ∧ t12 ≤ 256 ∧ of = kvTo (sideOf p s) t12.toNat ∧ out.of = ofTo (sideOf p s) t12 ∧ out.n = ((reps (sideOf p s) t12.toNat).length : Int))) (fun q_ => match q_ with | (out, of, t12) => (256 - t12).toNat) ((⟨(List.replicate 256 (0 : Int)), 0⟩ : PartM), ([] : List ((Int × Bool) × Int)), 0) ⟨(fun _ => none), Le.refl _, S10.sub [0, 1, 2, 3, 4] (by decide) rfl _ rfl, rfl, rfl, rfl, rfl, rfl, rfl, (okPart_zero), (in_i64 (by first|omega|(simp;omega)|assumption) (by first|omega|(simp;omega)|assumption)), (by exact ⟨by omega, by omega, rfl, ofTo_0 _, rfl⟩)⟩ ?_
  rintro ⟨out, of, t12⟩ ih11 ρ11 w11 ⟨h11, le11, S11, r11_2, r11_3, r11_4, r11_5, r11_6, r11_12, f11_0, f11_1, hI11⟩
  have lf11_1 := i64_lo f11_1; have hf11_1 := i64_hi f11_1
  have hb_ := reps_le (sideOf p s) t12.toNat; have hN_ := hI11.2.2.2.2
  refine run_seq ?_
  refine run_reg (l := [0]) rfl ?_
  refine p_v (v := .bool (decide (t12 < 256))) rfl rfl rfl (x_lss r11_12 rfl) ?_
  refine run_region_end ?_
  refine run_seq ?_
  refine run_cond_prop (p := t12 < 256) rfl (fun hc12 => ?_) (fun hc12 => ?_)
  · skip
    refine run_skip ?_
    refine run_seq ?_
    refine run_block ?_
    refine run_seq ?_
    refine run_reg (l := [0, 1]) rfl ?_
    refine p_v (v := .int .i64 t12) rfl rfl rfl (x_move r11_12) ?_
    refine p_v (v := .int .i64 t12) rfl rfl rfl (x_assign rfl) ?_
    refine run_region_end ?_
    refine run_seq ?_
    have in13 := okInts_at (o0).1 (i := t12) (by first|omega|(simp;omega)|assumption) (by first|omega|(simp;omega)|assumption)
    have lo13 := u8_lo in13; have hi13 := u8_hi in13
    have hf15 : (CFs ⟨b1, 0 + t12.toNat * 1, none⟩ [.int .u8 (at_ p.of t12)]).1 w11 := (CF.box (m := 1) (S11.box_at (j := 0) rfl) (cs := (encPart p)) (encPart_at o0 (by first|omega|(simp;omega)|assumption) (by first|omega|(simp;omega)|assumption)))
    have hf16 : (CFs ⟨b3, 0, none⟩ (encSet s)).1 w11 := (CF.box (m := 4) (S11.box_at (j := 1) rfl) rfl)
    refine da_start [(3, CFs ⟨b1, 0 + t12.toNat * 1, none⟩ [.int .u8 (at_ p.of t12)]), (4, CFs ⟨b3, 0, none⟩ (encSet s))] 11 rfl mixed ?_
    intro wd17 gd17 hd17
    have S18 := S11.keep gd17
    have hf19 := (CFs ⟨b1, 0 + t12.toNat * 1, none⟩ [.int .u8 (at_ p.of t12)]).2 _ _ gd17 hf15
    have hf20 := (CFs ⟨b3, 0, none⟩ (encSet s)).2 _ _ gd17 hf16
    refine d_q (i := 0) (v := .int .i64 t12) (fun _ => True) (fun _ ho => trivial) rfl (by decide +kernel) (by decide +kernel) (by decide +kernel) rfl rfl (fun wq hq => (x_move rfl)) (of_ne rfl (of_ne rfl (of_nil _ _))) ?_
    refine d_q (i := 1) (v := .pointer (some ⟨b1, 0, none⟩)) (fun _ => True) (fun _ ho => trivial) rfl (by decide +kernel) (by decide +kernel) (by decide +kernel) rfl rfl (fun wq hq => (x_fieldAt fd41_0 ty39 rfl r11_2)) (of_ne rfl (of_ne rfl (of_nil _ _))) ?_
    refine d_q (i := 2) (v := .pointer (some ⟨b1, 0 + t12.toNat * 1, none⟩)) (fun _ => True) (fun _ ho => trivial) rfl (by decide +kernel) (by decide +kernel) (by decide +kernel) rfl rfl (fun wq hq => (x_indexAddr_arr u39 ty5 rfl rfl (by first|omega|(simp;omega)|assumption) (by first|omega|(simp;omega)|assumption))) (of_ne rfl (of_ne rfl (of_nil _ _))) ?_
    refine d_q (i := 3) (v := .int .u8 (at_ p.of t12)) (CF ⟨b1, 0 + t12.toNat * 1, none⟩ [.int .u8 (at_ p.of t12)]) (fun _ ho => ho _ (List.mem_of_getElem? (i := 0) rfl) rfl) rfl (by decide +kernel) (by decide +kernel) (by decide +kernel) rfl rfl (fun wq hq => (x_load (seg := [.int .u8 (at_ p.of t12)]) ty5 rfl (by simp) rfl hq)) (of_eq hf19 (of_ne rfl (of_nil _ _))) ?_
    refine d_q (i := 4) (v := .agg (encSet s).toArray) (CF ⟨b3, 0, none⟩ (encSet s)) (fun _ ho => ho _ (List.mem_of_getElem? (i := 1) rfl) rfl) rfl (by decide +kernel) (by decide +kernel) (by decide +kernel) rfl rfl (fun wq hq => (x_load (seg := (encSet s)) ty49 rfl (by simp) r11_3 hq)) (of_ne rfl (of_eq hf20 (of_nil _ _))) ?_
    refine d_q (i := 5) (v := .int .i64 t12) (fun _ => True) (fun _ ho => trivial) rfl (by decide +kernel) (by decide +kernel) (by decide +kernel) rfl rfl (fun wq hq => (x_move rfl)) (of_ne rfl (of_ne rfl (of_nil _ _))) ?_
    refine d_q (i := 6) (v := .int .u8 t12) (fun _ => True) (fun _ ho => trivial) rfl (by decide +kernel) (by decide +kernel) (by decide +kernel) rfl rfl (fun wq hq => (x_conv u3 u5 rfl (in_u8 (by first|omega|(simp;omega)|assumption) (by first|omega|(simp;omega)|assumption)))) (of_ne rfl (of_ne rfl (of_nil _ _))) ?_
    refine d_m (i := 7) (v := .bool (has s t12)) (fun _ => True) (fun _ ho => trivial) rfl (by decide +kernel) (by decide +kernel) (by decide +kernel) rfl rfl (fun wq => (y_call (args := [.agg (encSet s).toArray, .int .u8 t12]) ca37 rfl rfl)) (fun wq hq => (has_calls wq s t12 (in_u8 (by first|omega|(simp;omega)|assumption) (by first|omega|(simp;omega)|assumption))).mono fun e w2 he => by obtain ⟨_, rfl, _, T, rfl⟩ := he; exact ⟨rfl, Chg.of_below T.below⟩) (of_ne rfl (of_ne rfl (of_nil _ _))) ?_
    refine d_q (i := 8) (v := .agg (encSide ((at_ p.of t12, has s t12) : Int × Bool)).toArray) (fun _ => True) (fun _ ho => trivial) rfl (by decide +kernel) (by decide +kernel) (by decide +kernel) rfl rfl (fun wq hq => (y_build (pv := [(0, .int .u8 (at_ p.of t12)), (1, .bool (has s t12))]) rfl (run_build_struct pl77 ty77 rfl (cs := (encSide ((at_ p.of t12, has s t12) : Int × Bool))) rfl))) (of_ne rfl (of_ne rfl (of_nil _ _))) ?_
    refine ra_one (i := 9) (by decide +kernel) ?_
    intro wd21 gd21
    have S22 := S18.keep gd21
    have hf23 := (CFs ⟨b1, 0 + t12.toNat * 1, none⟩ [.int .u8 (at_ p.of t12)]).2 _ _ gd21 hf19
    have hf24 := (CFs ⟨b3, 0, none⟩ (encSet s)).2 _ _ gd21 hf20
    obtain ⟨b25, w25, r25, g25, T25⟩ := e_box (P := Tryd.prog) S22 77 (v := (.agg #[.int .u8 0, .bool false])) (encSide ((0, false) : Int × Bool)) rfl
    have S26 : St w.heap.size w h11 w25 [box b1 41 (encPart p), box b3 49 (encSet s), box b5 41 (encPart (⟨(List.replicate 256 (0 : Int)), 0⟩ : PartM)), box b7 41 (encPart out), amap (fun x : (Int × Bool) => Value.agg (encSide x).toArray) (fun x : Int => Value.int .u8 x) b9 of, box b25 77 (encSide ((0, false) : Int × Bool))] := T25
    have hf27 := (CFs ⟨b1, 0 + t12.toNat * 1, none⟩ [.int .u8 (at_ p.of t12)]).2 _ _ g25 hf23
    have hf28 := (CFs ⟨b3, 0, none⟩ (encSet s)).2 _ _ g25 hf24
    refine d_v (v := .pointer (some ⟨b25, 0, none⟩)) rfl rfl rfl (x_alloc ty77 r25) (.inl g25) ?_
    refine ra_one (i := 10) (by decide +kernel) ?_
    intro wd29 gd29
    have S30 := S26.keep gd29
    have hf31 := (CFs ⟨b1, 0 + t12.toNat * 1, none⟩ [.int .u8 (at_ p.of t12)]).2 _ _ gd29 hf27
    have hf32 := (CFs ⟨b3, 0, none⟩ (encSet s)).2 _ _ gd29 hf28
    obtain ⟨w33, r33, g33, T33⟩ := e_store (P := Tryd.prog) (off := 0) (v := .agg (encSide ((at_ p.of t12, has s t12) : Int × Bool)).toArray) (vs := (encSide ((at_ p.of t12, has s t12) : Int × Bool))) S30 ty77 rfl rfl (j := 5) rfl (by first | decide | exact Nat.le_of_ble_eq_true rfl) (encSide_one _)
    have S34 : St w.heap.size w h11 w33 [box b1 41 (encPart p), box b3 49 (encSet s), box b5 41 (encPart (⟨(List.replicate 256 (0 : Int)), 0⟩ : PartM)), box b7 41 (encPart out), amap (fun x : (Int × Bool) => Value.agg (encSide x).toArray) (fun x : Int => Value.int .u8 x) b9 of, box b25 77 (encSide ((at_ p.of t12, has s t12) : Int × Bool))] := T33
    have hf35 : (CFs ⟨b1, 0 + t12.toNat * 1, none⟩ [.int .u8 (at_ p.of t12)]).1 w33 := (CF.box (m := 1) (S34.box_at (j := 0) rfl) (cs := (encPart p)) (encPart_at o0 (by first|omega|(simp;omega)|assumption) (by first|omega|(simp;omega)|assumption)))
    have hf36 : (CFs ⟨b3, 0, none⟩ (encSet s)).1 w33 := (CF.box (m := 4) (S34.box_at (j := 1) rfl) rfl)
    refine d_s rfl rfl (x_store rfl rfl r33) (.inr (keep_w (by decide +kernel) (keep_w (by decide +kernel) trivial))) ?_
    refine ra_done (by decide +kernel) ?_
    intro wd37 gd37
    have S38 := S34.keep gd37
    refine run_seq ?_
    refine run_reg (l := [0, 1, 2, 3, 4, 5, 6, 7]) rfl ?_
    refine p_v (v := .map (some b9)) rfl rfl rfl (x_move r11_6) ?_
    refine p_v (v := .agg (encSide ((at_ p.of t12, has s t12) : Int × Bool)).toArray) rfl rfl rfl (x_load (seg := (encSide ((at_ p.of t12, has s t12) : Int × Bool))) ty77 rfl (by simp) rfl (CF.box (m := 2) (S38.box_at (j := 5) rfl) rfl)) ?_
    refine p_v (v := .tuple #[.int .u8 ((valAt ((at_ p.of t12, has s t12) : Int × Bool) of).getD 0), .bool ((valAt ((at_ p.of t12, has s t12) : Int × Bool) of).isSome)]) rfl rfl rfl (x_lookup rfl rfl (e_lookup_d key77 S38 (j := 4) rfl u75 (zero_cells ty5) 0 ((at_ p.of t12, has s t12) : Int × Bool))) ?_
    refine p_v (v := .tuple #[.int .u8 ((valAt ((at_ p.of t12, has s t12) : Int × Bool) of).getD 0), .bool ((valAt ((at_ p.of t12, has s t12) : Int × Bool) of).isSome)]) rfl rfl rfl (x_move rfl) ?_
    refine p_v (v := .int .u8 ((valAt ((at_ p.of t12, has s t12) : Int × Bool) of).getD 0)) rfl rfl rfl (x_extract (vs := [.int .u8 ((valAt ((at_ p.of t12, has s t12) : Int × Bool) of).getD 0), .bool ((valAt ((at_ p.of t12, has s t12) : Int × Bool) of).isSome)]) rfl rfl) ?_
    refine p_v (v := .bool ((valAt ((at_ p.of t12, has s t12) : Int × Bool) of).isSome)) rfl rfl rfl (x_extract (vs := [.int .u8 ((valAt ((at_ p.of t12, has s t12) : Int × Bool) of).getD 0), .bool ((valAt ((at_ p.of t12, has s t12) : Int × Bool) of).isSome)]) rfl rfl) ?_
    refine p_v (v := .int .u8 ((valAt ((at_ p.of t12, has s t12) : Int × Bool) of).getD 0)) rfl rfl rfl (x_assign rfl) ?_
    refine p_v (v := .bool ((valAt ((at_ p.of t12, has s t12) : Int × Bool) of).isSome)) rfl rfl rfl (x_assign rfl) ?_
    refine run_region_end ?_
    refine run_seq ?_
    refine run_seq ?_
    refine run_reg (l := [0, 1]) rfl ?_
    refine p_v (v := .bool ((valAt ((at_ p.of t12, has s t12) : Int × Bool) of).isSome)) rfl rfl rfl (x_move rfl) ?_
    refine p_v (v := .bool (!((valAt ((at_ p.of t12, has s t12) : Int × Bool) of).isSome))) rfl rfl rfl (x_not rfl) ?_
    refine run_region_end ?_
    refine run_cond_nsplit (b := (valAt ((at_ p.of t12, has s t12) : Int × Bool) of).isSome) rfl (fun hc39 => ?_) (fun hc39 => ?_)
    · skip
      have hv_ := Option.isSome_eq_false_iff.1 hc39
      rw [Option.isNone_iff_eq_none, hI11.2.2.1, ← side_at p s hI11.1] at hv_
      have hw_ := kvTo_new hv_
      refine run_seq ?_
      refine run_reg (l := [0, 1, 2, 3]) rfl ?_
      refine p_v (v := .pointer (some ⟨b7, 256, none⟩)) rfl rfl rfl (x_fieldAt fd41_1 ty3 rfl r11_5) ?_
      have in40 := (f11_0).2
      have lo40 := i64_lo in40; have hi40 := i64_hi in40
      refine p_v (v := .int .i64 out.n) rfl rfl rfl (x_load (seg := [.int .i64 out.n]) ty3 rfl (by simp) rfl (CF.box (m := 1) (S38.box_at (j := 3) rfl) (encPart_n f11_0))) ?_
      refine p_v (v := .int .u8 out.n) rfl rfl rfl (x_conv u3 u5 rfl (in_u8 (by first|omega|(simp;omega)|assumption) (by first|omega|(simp;omega)|assumption))) ?_
      refine p_v (v := .int .u8 out.n) rfl rfl rfl (x_assign rfl) ?_
      refine run_region_end ?_
      refine run_seq ?_
      refine run_reg (l := [0, 1, 2, 3]) rfl ?_
      refine p_v (v := .map (some b9)) rfl rfl rfl (x_move r11_6) ?_
      refine p_v (v := .agg (encSide ((at_ p.of t12, has s t12) : Int × Bool)).toArray) rfl rfl rfl (x_load (seg := (encSide ((at_ p.of t12, has s t12) : Int × Bool))) ty77 rfl (by simp) rfl (CF.box (m := 2) (S38.box_at (j := 5) rfl) rfl)) ?_
      refine p_v (v := .int .u8 out.n) rfl rfl rfl (x_move rfl) ?_
      obtain ⟨w41, r41, g41, T41⟩ := e_mapUpdate key77 S38 (j := 4) rfl u75 ((at_ p.of t12, has s t12) : Int × Bool) out.n
      have S42 : St w.heap.size w h11 w41 [box b1 41 (encPart p), box b3 49 (encSet s), box b5 41 (encPart (⟨(List.replicate 256 (0 : Int)), 0⟩ : PartM)), box b7 41 (encPart out), amap (fun x : (Int × Bool) => Value.agg (encSide x).toArray) (fun x : Int => Value.int .u8 x) b9 (putAt ((at_ p.of t12, has s t12) : Int × Bool) out.n of), box b25 77 (encSide ((at_ p.of t12, has s t12) : Int × Bool))] := T41
      refine p_s rfl rfl (x_mapUpdate rfl rfl rfl r41) ?_
      refine run_region_end ?_
      refine run_reg (l := [0, 1, 2, 3, 4]) rfl ?_
      refine p_v (v := .pointer (some ⟨b7, 256, none⟩)) rfl rfl rfl (x_fieldAt fd41_1 ty3 rfl r11_5) ?_
      have in43 := (f11_0).2
      have lo43 := i64_lo in43; have hi43 := i64_hi in43
      refine p_v (v := .int .i64 out.n) rfl rfl rfl (x_load (seg := [.int .i64 out.n]) ty3 rfl (by simp) rfl (CF.box (m := 1) (S42.box_at (j := 3) rfl) (encPart_n f11_0))) ?_
      refine p_v (v := .int .i64 (out.n + 1)) rfl rfl rfl (x_add rfl rfl (in_i64 (by first|omega|(simp;omega)|assumption) (by first|omega|(simp;omega)|assumption))) ?_
      refine p_v (v := .pointer (some ⟨b7, 256, none⟩)) rfl rfl rfl (x_fieldAt fd41_1 ty3 rfl r11_5) ?_
      obtain ⟨w44, r44, g44, T44⟩ := e_store (P := Tryd.prog) (off := 256) (v := .int .i64 (out.n + 1)) (vs := [.int .i64 (out.n + 1)]) S42 ty3 rfl rfl (j := 3) rfl (by rw [encPart_len f11_0]; decide) (by simp [Value.oneCell'])
      rw [encPart_putN f11_0] at T44
      have ok44 : okPart (⟨out.of, out.n + 1⟩ : PartM) := okPart_putN f11_0 (in_i64 (by first|omega|(simp;omega)|assumption) (by first|omega|(simp;omega)|assumption))
      have S45 : St w.heap.size w h11 w44 [box b1 41 (encPart p), box b3 49 (encSet s), box b5 41 (encPart (⟨(List.replicate 256 (0 : Int)), 0⟩ : PartM)), box b7 41 (encPart (⟨out.of, out.n + 1⟩ : PartM)), amap (fun x : (Int × Bool) => Value.agg (encSide x).toArray) (fun x : Int => Value.int .u8 x) b9 (putAt ((at_ p.of t12, has s t12) : Int × Bool) out.n of), box b25 77 (encSide ((at_ p.of t12, has s t12) : Int × Bool))] := T44
      refine p_s rfl rfl (x_store rfl rfl r44) ?_
      refine run_region_end ?_
      refine run_reg (l := [0, 1, 2, 3, 4]) rfl ?_
      refine p_v (v := .int .i64 t12) rfl rfl rfl (x_move rfl) ?_
      refine p_v (v := .int .u8 out.n) rfl rfl rfl (x_move rfl) ?_
      refine p_v (v := .pointer (some ⟨b7, 0, none⟩)) rfl rfl rfl (x_fieldAt fd41_0 ty39 rfl r11_5) ?_
      refine p_v (v := .pointer (some ⟨b7, 0 + t12.toNat * 1, none⟩)) rfl rfl rfl (x_indexAddr_arr u39 ty5 rfl rfl (by first|omega|(simp;omega)|assumption) (by first|omega|(simp;omega)|assumption)) ?_
      obtain ⟨w46, r46, g46, T46⟩ := e_store (P := Tryd.prog) (off := 0 + t12.toNat * 1) (v := .int .u8 out.n) (vs := [.int .u8 out.n]) S45 ty5 rfl rfl (j := 3) rfl (by rw [encPart_len ok44]; first|omega|(simp;omega)|assumption) (by simp [Value.oneCell'])
      rw [encPart_put ok44 (by first|omega|(simp;omega)|assumption) (by first|omega|(simp;omega)|assumption)] at T46
      have ok46 : okPart (⟨(⟨out.of, out.n + 1⟩ : PartM).of.set t12.toNat out.n, (⟨out.of, out.n + 1⟩ : PartM).n⟩ : PartM) := okPart_put ok44 _ (in_u8 (by first|omega|(simp;omega)|assumption) (by first|omega|(simp;omega)|assumption))
      have S47 : St w.heap.size w h11 w46 [box b1 41 (encPart p), box b3 49 (encSet s), box b5 41 (encPart (⟨(List.replicate 256 (0 : Int)), 0⟩ : PartM)), box b7 41 (encPart (⟨(⟨out.of, out.n + 1⟩ : PartM).of.set t12.toNat out.n, (⟨out.of, out.n + 1⟩ : PartM).n⟩ : PartM)), amap (fun x : (Int × Bool) => Value.agg (encSide x).toArray) (fun x : Int => Value.int .u8 x) b9 (putAt ((at_ p.of t12, has s t12) : Int × Bool) out.n of), box b25 77 (encSide ((at_ p.of t12, has s t12) : Int × Bool))] := T46
      refine p_s rfl rfl (x_store rfl rfl r46) ?_
      refine run_region_end ?_
      refine run_inBlock ?_
      refine run_reg (l := [0, 1]) rfl ?_
      refine p_v (v := .int .i64 (t12 + 1)) rfl rfl rfl (x_add r11_12 rfl (in_i64 (by first|omega|(simp;omega)|assumption) (by first|omega|(simp;omega)|assumption))) ?_
      refine p_v (v := .int .i64 (t12 + 1)) rfl rfl rfl (x_move rfl) ?_
      refine run_region_end ?_
      refine ih11 ((⟨(⟨out.of, out.n + 1⟩ : PartM).of.set t12.toNat out.n, (⟨out.of, out.n + 1⟩ : PartM).n⟩ : PartM), putAt ((at_ p.of t12, has s t12) : Int × Bool) out.n of, t12 + 1) _ _ (by dsimp only; omega) ⟨h11, le11, S47.sub [0, 1, 2, 3, 4] (by decide) rfl _ rfl, r11_2, r11_3, r11_4, r11_5, r11_6, rfl, ok46, (in_i64 (by first|omega|(simp;omega)|assumption) (by first|omega|(simp;omega)|assumption)), (by first | exact ⟨by omega, by omega, by rw [hI11.2.2.1, show (t12 + 1).toNat = t12.toNat + 1 by omega, ho_.2.1], ofTo_step hI11.2.2.2.1 hI11.1 (by omega) hn_, by rw [show (t12 + 1).toNat = t12.toNat + 1 by omega, ho_.2.2]; exact hI11.2.2.2.2⟩ | exact ⟨by omega, by omega, by rw [show (t12 + 1).toNat = t12.toNat + 1 by omega, hw_.2.1, ← hI11.2.2.1, side_at p s hI11.1, ← hI11.2.2.2.2], ofTo_step hI11.2.2.2.1 hI11.1 (by omega) (by show out.n = _; rw [hI11.2.2.2.2]; exact hw_.1), by show out.n + 1 = _; rw [hI11.2.2.2.2, show (t12 + 1).toNat = t12.toNat + 1 by omega, hw_.2.2]; omega⟩)⟩
    · skip
      obtain ⟨v_, hv_⟩ := Option.isSome_iff_exists.1 hc39
      have hn_ : (valAt (at_ p.of t12, has s t12) of).getD 0 = v_ := by rw [hv_]; rfl
      rw [hI11.2.2.1, ← side_at p s hI11.1] at hv_
      have ho_ := kvTo_old hv_
      rw [ho_.1] at hn_
      have hi_ := idx_le (sideOf p s) t12.toNat
      have hk_ : inK .u8 ((valAt (at_ p.of t12, has s t12) of).getD 0) := by rw [hn_]; exact in_u8 (by omega) (by omega)
      have hl_ := u8_lo hk_; have hh_ := u8_hi hk_
      refine run_skip ?_
      refine run_reg (l := [0, 1, 2, 3, 4]) rfl ?_
      refine p_v (v := .int .i64 t12) rfl rfl rfl (x_move rfl) ?_
      refine p_v (v := .int .u8 ((valAt ((at_ p.of t12, has s t12) : Int × Bool) of).getD 0)) rfl rfl rfl (x_move rfl) ?_
      refine p_v (v := .pointer (some ⟨b7, 0, none⟩)) rfl rfl rfl (x_fieldAt fd41_0 ty39 rfl r11_5) ?_
      refine p_v (v := .pointer (some ⟨b7, 0 + t12.toNat * 1, none⟩)) rfl rfl rfl (x_indexAddr_arr u39 ty5 rfl rfl (by first|omega|(simp;omega)|assumption) (by first|omega|(simp;omega)|assumption)) ?_
      obtain ⟨w48, r48, g48, T48⟩ := e_store (P := Tryd.prog) (off := 0 + t12.toNat * 1) (v := .int .u8 ((valAt ((at_ p.of t12, has s t12) : Int × Bool) of).getD 0)) (vs := [.int .u8 ((valAt ((at_ p.of t12, has s t12) : Int × Bool) of).getD 0)]) S38 ty5 rfl rfl (j := 3) rfl (by rw [encPart_len f11_0]; first|omega|(simp;omega)|assumption) (by simp [Value.oneCell'])
      rw [encPart_put f11_0 (by first|omega|(simp;omega)|assumption) (by first|omega|(simp;omega)|assumption)] at T48
      have ok48 : okPart (⟨out.of.set t12.toNat ((valAt ((at_ p.of t12, has s t12) : Int × Bool) of).getD 0), out.n⟩ : PartM) := okPart_put f11_0 _ (in_u8 (by first|omega|(simp;omega)|assumption) (by first|omega|(simp;omega)|assumption))
      have S49 : St w.heap.size w h11 w48 [box b1 41 (encPart p), box b3 49 (encSet s), box b5 41 (encPart (⟨(List.replicate 256 (0 : Int)), 0⟩ : PartM)), box b7 41 (encPart (⟨out.of.set t12.toNat ((valAt ((at_ p.of t12, has s t12) : Int × Bool) of).getD 0), out.n⟩ : PartM)), amap (fun x : (Int × Bool) => Value.agg (encSide x).toArray) (fun x : Int => Value.int .u8 x) b9 of, box b25 77 (encSide ((at_ p.of t12, has s t12) : Int × Bool))] := T48
      refine p_s rfl rfl (x_store rfl rfl r48) ?_
      refine run_region_end ?_
      refine run_inBlock ?_
      refine run_reg (l := [0, 1]) rfl ?_
      refine p_v (v := .int .i64 (t12 + 1)) rfl rfl rfl (x_add r11_12 rfl (in_i64 (by first|omega|(simp;omega)|assumption) (by first|omega|(simp;omega)|assumption))) ?_
      refine p_v (v := .int .i64 (t12 + 1)) rfl rfl rfl (x_move rfl) ?_
      refine run_region_end ?_
      refine ih11 ((⟨out.of.set t12.toNat ((valAt ((at_ p.of t12, has s t12) : Int × Bool) of).getD 0), out.n⟩ : PartM), of, t12 + 1) _ _ (by dsimp only; omega) ⟨h11, le11, S49.sub [0, 1, 2, 3, 4] (by decide) rfl _ rfl, r11_2, r11_3, r11_4, r11_5, r11_6, rfl, ok48, (in_i64 (by first|omega|(simp;omega)|assumption) (by first|omega|(simp;omega)|assumption)), (by first | exact ⟨by omega, by omega, by rw [hI11.2.2.1, show (t12 + 1).toNat = t12.toNat + 1 by omega, ho_.2.1], ofTo_step hI11.2.2.2.1 hI11.1 (by omega) hn_, by rw [show (t12 + 1).toNat = t12.toNat + 1 by omega, ho_.2.2]; exact hI11.2.2.2.2⟩ | exact ⟨by omega, by omega, by rw [show (t12 + 1).toNat = t12.toNat + 1 by omega, hw_.2.1, ← hI11.2.2.1, side_at p s hI11.1, ← hI11.2.2.2.2], ofTo_step hI11.2.2.2.1 hI11.1 (by omega) (by show out.n = _; rw [hI11.2.2.2.2]; exact hw_.1), by show out.n + 1 = _; rw [hI11.2.2.2.2, show (t12 + 1).toNat = t12.toNat + 1 by omega, hw_.2.2]; omega⟩)⟩
  · skip
    refine run_exit rfl ?_
    refine run_seq ?_
    refine run_reg (l := [0, 1]) rfl ?_
    refine p_v (v := .agg (encPart out).toArray) rfl rfl rfl (x_load (seg := (encPart out)) ty41 (encPart_len f11_0) (by simp) r11_5 (CF.box (m := 257) (S11.box_at (j := 3) rfl) (by rw [List.drop_zero, List.take_of_length_le (by rw [encPart_len f11_0]; exact Nat.le_refl _)]))) ?_
    obtain ⟨w50, r50, g50, T50⟩ := e_store (P := Tryd.prog) (off := 0) (v := .agg (encPart out).toArray) (vs := (encPart out)) S11 ty41 rfl (encPart_len f11_0) (j := 2) rfl (by rw [encPart_len (okPart_zero)]; decide) (encPart_one _)
    rw [lput_all (by rw [encPart_len f11_0, encPart_len (okPart_zero)])] at T50
    have S51 : St w.heap.size w h11 w50 [box b1 41 (encPart p), box b3 49 (encSet s), box b5 41 (encPart out), box b7 41 (encPart out), amap (fun x : (Int × Bool) => Value.agg (encSide x).toArray) (fun x : Int => Value.int .u8 x) b9 of] := T50
    refine p_s rfl rfl (x_store r11_4 rfl r50) ?_
    refine run_region_end ?_
    refine run_ret Tryd.func29 (res1 rfl (res_cell S51 ty41 r11_4 (j := 2) rfl (encPart_len f11_0) (by simp) rfl)) ?_
    have q0 : (splitP p s : PartM) = out := by
      exact split_end p s (by omega) hI11.2.2.2.1 hI11.2.2.2.2
    refine ⟨_, rfl, h11, ?_, ?_, ?_⟩
    · exact S51.sub [] (by decide) rfl _ rfl
    · first | rfl | (simp only [q0]; rfl) | (simp only [q0])
    · rw [q0]; assumption
theorem refine_calls (w : World) (sets : List BSet) (A0 : Option Addr) (c0 : Nat) (b0 : sets.length ≤ c0 ∧ c0 ≤ maxLen) (l0 : Leads kSet (hp w) A0 sets) :
    Calls Tryd.prog 13 #[.slice A0 sets.length c0] w fun e w' => ∃ v, e = .returned v ∧ ∃ (hn : Ghost), St w.heap.size w hn w' [] ∧ v = .agg (encPart (refineP sets)).toArray ∧ okPart (refineP sets) := by
  refine calls_of_run Tryd.func13 rfl Tryd.ntmps13 rfl ?_
  have S0 := St.init w
  have bb0 := b0.1; have bc0 := b0.2; simp only [maxLen] at bc0
  refine run_seq ?_
  refine run_reg (l := [0]) rfl ?_
  obtain ⟨b1, w1, r1, g1, T1⟩ := e_box (P := Tryd.prog) S0 41 (v := (.agg #[.int .u8 0, .int .u8 0, .int .u8 0, .int .u8 0, .int .u8 0, .int .u8 0, .int .u8 0, .int .u8 0, .int .u8 0, .int .u8 0, .int .u8 0, .int .u8 0, .int .u8 0, .int .u8 0, .int .u8 0, .int .u8 0, .int .u8 0, .int .u8 0, .int .u8 0, .int .u8 0, .int .u8 0, .int .u8 0, .int .u8 0, .int .u8 0, .int .u8 0, .int .u8 0, .int .u8 0, .int .u8 0, .int .u8 0, .int .u8 0, .int .u8 0, .int .u8 0, .int .u8 0, .int .u8 0, .int .u8 0, .int .u8 0, .int .u8 0, .int .u8 0, .int .u8 0, .int .u8 0, .int .u8 0, .int .u8 0, .int .u8 0, .int .u8 0, .int .u8 0, .int .u8 0, .int .u8 0, .int .u8 0, .int .u8 0, .int .u8 0, .int .u8 0, .int .u8 0, .int .u8 0, .int .u8 0, .int .u8 0, .int .u8 0, .int .u8 0, .int .u8 0, .int .u8 0, .int .u8 0, .int .u8 0, .int .u8 0, .int .u8 0, .int .u8 0, .int .u8 0, .int .u8 0, .int .u8 0, .int .u8 0, .int .u8 0, .int .u8 0, .int .u8 0, .int .u8 0, .int .u8 0, .int .u8 0, .int .u8 0, .int .u8 0, .int .u8 0, .int .u8 0, .int .u8 0, .int .u8 0, .int .u8 0, .int .u8 0, .int .u8 0, .int .u8 0, .int .u8 0, .int .u8 0, .int .u8 0, .int .u8 0, .int .u8 0, .int .u8 0, .int .u8 0, .int .u8 0, .int .u8 0, .int .u8 0, .int .u8 0, .int .u8 0, .int .u8 0, .int .u8 0, .int .u8 0, .int .u8 0, .int .u8 0, .int .u8 0, .int .u8 0, .int .u8 0, .int .u8 0, .int .u8 0, .int .u8 0, .int .u8 0, .int .u8 0, .int .u8 0, .int .u8 0, .int .u8 0, .int .u8 0, .int .u8 0, .int .u8 0, .int .u8 0, .int .u8 0, .int .u8 0, .int .u8 0, .int .u8 0, .int .u8 0, .int .u8 0, .int .u8 0, .int .u8 0, .int .u8 0, .int .u8 0, .int .u8 0, .int .u8 0, .int .u8 0, .int .u8 0, .int .u8 0, .int .u8 0, .int .u8 0, .int .u8 0, .int .u8 0, .int .u8 0, .int .u8 0, .int .u8 0, .int .u8 0, .int .u8 0, .int .u8 0, .int .u8 0, .int .u8 0, .int .u8 0, .int .u8 0, .int .u8 0, .int .u8 0, .int .u8 0, .int .u8 0, .int .u8 0, .int .u8 0, .int .u8 0, .int .u8 0, .int .u8 0, .int .u8 0, .int .u8 0, .int .u8 0, .int .u8 0, .int .u8 0, .int .u8 0, .int .u8 0, .int .u8 0, .int .u8 0, .int .u8 0, .int .u8 0, .int .u8 0, .int .u8 0, .int .u8 0, .int .u8 0, .int .u8 0, .int .u8 0, .int .u8 0, .int .u8 0, .int .u8 0, .int .u8 0, .int .u8 0, .int .u8 0, .int .u8 0, .int .u8 0, .int .u8 0, .int .u8 0, .int .u8 0, .int .u8 0, .int .u8 0, .int .u8 0, .int .u8 0, .int .u8 0, .int .u8 0, .int .u8 0, .int .u8 0, .int .u8 0, .int .u8 0, .int .u8 0, .int .u8 0, .int .u8 0, .int .u8 0, .int .u8 0, .int .u8 0, .int .u8 0, .int .u8 0, .int .u8 0, .int .u8 0, .int .u8 0, .int .u8 0, .int .u8 0, .int .u8 0, .int .u8 0, .int .u8 0, .int .u8 0, .int .u8 0, .int .u8 0, .int .u8 0, .int .u8 0, .int .u8 0, .int .u8 0, .int .u8 0, .int .u8 0, .int .u8 0, .int .u8 0, .int .u8 0, .int .u8 0, .int .u8 0, .int .u8 0, .int .u8 0, .int .u8 0, .int .u8 0, .int .u8 0, .int .u8 0, .int .u8 0, .int .u8 0, .int .u8 0, .int .u8 0, .int .u8 0, .int .u8 0, .int .u8 0, .int .u8 0, .int .u8 0, .int .u8 0, .int .u8 0, .int .u8 0, .int .u8 0, .int .u8 0, .int .u8 0, .int .u8 0, .int .u8 0, .int .u8 0, .int .u8 0, .int .u8 0, .int .u8 0, .int .u8 0, .int .u8 0, .int .u8 0, .int .u8 0, .int .u8 0, .int .u8 0, .int .u8 0, .int .i64 0])) (encPart (⟨(List.replicate 256 (0 : Int)), 0⟩ : PartM)) (by kernel_rfl)
  have S2 : St w.heap.size w (fun _ => none) w1 [box b1 41 (encPart (⟨(List.replicate 256 (0 : Int)), 0⟩ : PartM))] := T1
  refine p_v (v := .pointer (some ⟨b1, 0, none⟩)) rfl rfl rfl (x_alloc ty41 r1) ?_
  refine run_region_end ?_
  refine run_seq ?_
  refine run_reg (l := [0, 1, 2]) rfl ?_
  refine p_v (v := .agg (encPart (⟨(List.replicate 256 (0 : Int)), 1⟩ : PartM)).toArray) rfl rfl rfl (y_build (pv := [(1, .int .i64 1)]) rfl (run_build_struct pl41 ty41 rfl (cs := (encPart (⟨(List.replicate 256 (0 : Int)), 1⟩ : PartM))) (by kernel_rfl))) ?_
  obtain ⟨b3, w3, r3, g3, T3⟩ := e_box (P := Tryd.prog) S2 41 (v := (.agg #[.int .u8 0, .int .u8 0, .int .u8 0, .int .u8 0, .int .u8 0, .int .u8 0, .int .u8 0, .int .u8 0, .int .u8 0, .int .u8 0, .int .u8 0, .int .u8 0, .int .u8 0, .int .u8 0, .int .u8 0, .int .u8 0, .int .u8 0, .int .u8 0, .int .u8 0, .int .u8 0, .int .u8 0, .int .u8 0, .int .u8 0, .int .u8 0, .int .u8 0, .int .u8 0, .int .u8 0, .int .u8 0, .int .u8 0, .int .u8 0, .int .u8 0, .int .u8 0, .int .u8 0, .int .u8 0, .int .u8 0, .int .u8 0, .int .u8 0, .int .u8 0, .int .u8 0, .int .u8 0, .int .u8 0, .int .u8 0, .int .u8 0, .int .u8 0, .int .u8 0, .int .u8 0, .int .u8 0, .int .u8 0, .int .u8 0, .int .u8 0, .int .u8 0, .int .u8 0, .int .u8 0, .int .u8 0, .int .u8 0, .int .u8 0, .int .u8 0, .int .u8 0, .int .u8 0, .int .u8 0, .int .u8 0, .int .u8 0, .int .u8 0, .int .u8 0, .int .u8 0, .int .u8 0, .int .u8 0, .int .u8 0, .int .u8 0, .int .u8 0, .int .u8 0, .int .u8 0, .int .u8 0, .int .u8 0, .int .u8 0, .int .u8 0, .int .u8 0, .int .u8 0, .int .u8 0, .int .u8 0, .int .u8 0, .int .u8 0, .int .u8 0, .int .u8 0, .int .u8 0, .int .u8 0, .int .u8 0, .int .u8 0, .int .u8 0, .int .u8 0, .int .u8 0, .int .u8 0, .int .u8 0, .int .u8 0, .int .u8 0, .int .u8 0, .int .u8 0, .int .u8 0, .int .u8 0, .int .u8 0, .int .u8 0, .int .u8 0, .int .u8 0, .int .u8 0, .int .u8 0, .int .u8 0, .int .u8 0, .int .u8 0, .int .u8 0, .int .u8 0, .int .u8 0, .int .u8 0, .int .u8 0, .int .u8 0, .int .u8 0, .int .u8 0, .int .u8 0, .int .u8 0, .int .u8 0, .int .u8 0, .int .u8 0, .int .u8 0, .int .u8 0, .int .u8 0, .int .u8 0, .int .u8 0, .int .u8 0, .int .u8 0, .int .u8 0, .int .u8 0, .int .u8 0, .int .u8 0, .int .u8 0, .int .u8 0, .int .u8 0, .int .u8 0, .int .u8 0, .int .u8 0, .int .u8 0, .int .u8 0, .int .u8 0, .int .u8 0, .int .u8 0, .int .u8 0, .int .u8 0, .int .u8 0, .int .u8 0, .int .u8 0, .int .u8 0, .int .u8 0, .int .u8 0, .int .u8 0, .int .u8 0, .int .u8 0, .int .u8 0, .int .u8 0, .int .u8 0, .int .u8 0, .int .u8 0, .int .u8 0, .int .u8 0, .int .u8 0, .int .u8 0, .int .u8 0, .int .u8 0, .int .u8 0, .int .u8 0, .int .u8 0, .int .u8 0, .int .u8 0, .int .u8 0, .int .u8 0, .int .u8 0, .int .u8 0, .int .u8 0, .int .u8 0, .int .u8 0, .int .u8 0, .int .u8 0, .int .u8 0, .int .u8 0, .int .u8 0, .int .u8 0, .int .u8 0, .int .u8 0, .int .u8 0, .int .u8 0, .int .u8 0, .int .u8 0, .int .u8 0, .int .u8 0, .int .u8 0, .int .u8 0, .int .u8 0, .int .u8 0, .int .u8 0, .int .u8 0, .int .u8 0, .int .u8 0, .int .u8 0, .int .u8 0, .int .u8 0, .int .u8 0, .int .u8 0, .int .u8 0, .int .u8 0, .int .u8 0, .int .u8 0, .int .u8 0, .int .u8 0, .int .u8 0, .int .u8 0, .int .u8 0, .int .u8 0, .int .u8 0, .int .u8 0, .int .u8 0, .int .u8 0, .int .u8 0, .int .u8 0, .int .u8 0, .int .u8 0, .int .u8 0, .int .u8 0, .int .u8 0, .int .u8 0, .int .u8 0, .int .u8 0, .int .u8 0, .int .u8 0, .int .u8 0, .int .u8 0, .int .u8 0, .int .u8 0, .int .u8 0, .int .u8 0, .int .u8 0, .int .u8 0, .int .u8 0, .int .u8 0, .int .u8 0, .int .u8 0, .int .u8 0, .int .u8 0, .int .u8 0, .int .u8 0, .int .u8 0, .int .u8 0, .int .u8 0, .int .u8 0, .int .u8 0, .int .u8 0, .int .u8 0, .int .u8 0, .int .u8 0, .int .u8 0, .int .i64 0])) (encPart (⟨(List.replicate 256 (0 : Int)), 0⟩ : PartM)) (by kernel_rfl)
  have S4 : St w.heap.size w (fun _ => none) w3 [box b1 41 (encPart (⟨(List.replicate 256 (0 : Int)), 0⟩ : PartM)), box b3 41 (encPart (⟨(List.replicate 256 (0 : Int)), 0⟩ : PartM))] := T3
  refine p_v (v := .pointer (some ⟨b3, 0, none⟩)) rfl rfl rfl (x_alloc ty41 r3) ?_
  obtain ⟨w5, r5, g5, T5⟩ := e_store (P := Tryd.prog) (off := 0) (v := .agg (encPart (⟨(List.replicate 256 (0 : Int)), 1⟩ : PartM)).toArray) (vs := (encPart (⟨(List.replicate 256 (0 : Int)), 1⟩ : PartM))) S4 ty41 rfl (encPart_len okPart_one) (j := 1) rfl (by rw [encPart_len (okPart_zero)]; decide) (encPart_one _)
  rw [lput_all (by rw [encPart_len okPart_one, encPart_len (okPart_zero)])] at T5
  have S6 : St w.heap.size w (fun _ => none) w5 [box b1 41 (encPart (⟨(List.replicate 256 (0 : Int)), 0⟩ : PartM)), box b3 41 (encPart (⟨(List.replicate 256 (0 : Int)), 1⟩ : PartM))] := T5
  refine p_s rfl rfl (x_store rfl rfl r5) ?_
  refine run_region_end ?_
  refine run_seq ?_
  refine run_seq ?_
  refine run_reg (l := [0, 1, 2]) rfl ?_
  refine p_v (v := .slice A0 sets.length c0) rfl rfl rfl (x_move rfl) ?_
  refine p_v (v := .int .i64 (sets.length : Int)) rfl rfl rfl (x_len_slice u43 rfl) ?_
  refine p_v (v := .int .i64 0) rfl rfl rfl (x_move rfl) ?_
  refine run_region_end ?_
  refine run_block ?_
  refine run_loop (S := PartM × Int) (fun (q_ : PartM × Int) ρ w' => match q_ with | (p, t9) => ∃ (h : Ghost), Le (fun _ => none) h ∧ St w.heap.size w h w' [box b1 41 (encPart (⟨(List.replicate 256 (0 : Int)), 0⟩ : PartM)), box b3 41 (encPart p)] ∧ ρ 2 = .pointer (some ⟨b1, 0, none⟩) ∧ ρ 3 = .pointer (some ⟨b3, 0, none⟩) ∧ ρ 7 = .slice A0 sets.length c0 ∧ ρ 8 = .int .i64 (sets.length : Int) ∧ ρ 9 = .int .i64 t9 ∧ okPart p ∧ inK .i64 t9 ∧ (0 ≤ t9 ∧ t9 ≤ (sets.length : Int) ∧ p = refineP (sets.take t9.toNat))) (fun q_ => match q_ with | (p, t9) => (sets.length - t9).toNat) ((⟨(List.replicate 256 (0 : Int)), 1⟩ : PartM), 0) ⟨(fun _ => none), Le.refl _, S6.sub [0, 1] (by decide) rfl _ rfl, rfl, rfl, rfl, rfl, rfl, okPart_one, (in_i64 (by first|omega|(simp;omega)|assumption) (by first|omega|(simp;omega)|assumption)), (by exact ⟨by omega, by omega, refine_0 _⟩)⟩ ?_
  rintro ⟨p, t9⟩ ih7 ρ7 w7 ⟨h7, le7, S7, r7_2, r7_3, r7_7, r7_8, r7_9, f7_0, f7_1, hI7⟩
  have lf7_1 := i64_lo f7_1; have hf7_1 := i64_hi f7_1
  refine run_seq ?_
  refine run_reg (l := [0]) rfl ?_
  refine p_v (v := .bool (decide (t9 < (sets.length : Int)))) rfl rfl rfl (x_lss r7_9 r7_8) ?_
  refine run_region_end ?_
  refine run_seq ?_
  refine run_cond_prop (p := t9 < (sets.length : Int)) rfl (fun hc8 => ?_) (fun hc8 => ?_)
  · skip
    refine run_skip ?_
    refine run_seq ?_
    refine run_block ?_
    refine run_seq ?_
    refine run_reg (l := [0, 1, 2, 3]) rfl ?_
    obtain ⟨ad9, seg9, a9, rp9, ce9⟩ := e_index_ro (q := t9) (m := 4) l0 rfl (by first|omega|(simp;omega)|assumption) (by first|omega|(simp;omega)|assumption)
    refine p_v (v := .pointer (some ad9)) rfl rfl rfl (x_index_ro u43 ty49 r7_7 r7_9 a9 (by first|omega|(simp;omega)|assumption) (by first|omega|(simp;omega)|assumption)) ?_
    obtain ⟨rfl, ok9⟩ := rp9
    refine p_v (v := .agg (encSet (at_ sets t9)).toArray) rfl rfl rfl (x_load (seg := (encSet (at_ sets t9))) ty49 rfl (by simp) rfl (CF.ghost ce9 (St.le0 S7))) ?_
    obtain ⟨b10, w10, r10, g10, T10⟩ := e_box (P := Tryd.prog) S7 49 (v := (.agg #[.int .u64 0, .int .u64 0, .int .u64 0, .int .u64 0])) (encSet (0 : BSet)) rfl
    have S11 : St w.heap.size w h7 w10 [box b1 41 (encPart (⟨(List.replicate 256 (0 : Int)), 0⟩ : PartM)), box b3 41 (encPart p), box b10 49 (encSet (0 : BSet))] := T10
    refine p_v (v := .pointer (some ⟨b10, 0, none⟩)) rfl rfl rfl (x_alloc ty49 r10) ?_
    obtain ⟨w12, r12, g12, T12⟩ := e_store (P := Tryd.prog) (off := 0) (v := .agg (encSet (at_ sets t9)).toArray) (vs := (encSet (at_ sets t9))) S11 ty49 rfl rfl (j := 2) rfl (by first | decide | exact Nat.le_of_ble_eq_true rfl) (encSet_one _)
    have S13 : St w.heap.size w h7 w12 [box b1 41 (encPart (⟨(List.replicate 256 (0 : Int)), 0⟩ : PartM)), box b3 41 (encPart p), box b10 49 (encSet (at_ sets t9))] := T12
    refine p_s rfl rfl (x_store rfl rfl r12) ?_
    refine run_region_end ?_
    refine run_reg (l := [0, 1, 2, 3]) rfl ?_
    refine p_v (v := .agg (encPart p).toArray) rfl rfl rfl (x_load (seg := (encPart p)) ty41 (encPart_len f7_0) (by simp) r7_3 (CF.box (m := 257) (S13.box_at (j := 1) rfl) (by rw [List.drop_zero, List.take_of_length_le (by rw [encPart_len f7_0]; exact Nat.le_refl _)]))) ?_
    refine p_v (v := .agg (encSet (at_ sets t9)).toArray) rfl rfl rfl (x_load (seg := (encSet (at_ sets t9))) ty49 rfl (by simp) rfl (CF.box (m := 4) (S13.box_at (j := 2) rfl) rfl)) ?_
    refine p_c rfl rfl rfl (y_call (args := [.agg (encPart p).toArray, .agg (encSet (at_ sets t9)).toArray]) ca29 rfl rfl) (split_calls w12 p f7_0 (at_ sets t9)) ?_
    rintro _ w14 ⟨h14, T14, rfl, ok14_0⟩
    have S15 := S13.keep (Chg.of_below T14.below)
    obtain ⟨w16, r16, g16, T16⟩ := e_store (P := Tryd.prog) (off := 0) (v := .agg (encPart (splitP p (at_ sets t9))).toArray) (vs := (encPart (splitP p (at_ sets t9)))) S15 ty41 rfl (encPart_len ok14_0) (j := 1) rfl (by rw [encPart_len f7_0]; decide) (encPart_one _)
    rw [lput_all (by rw [encPart_len ok14_0, encPart_len f7_0])] at T16
    have S17 : St w.heap.size w h7 w16 [box b1 41 (encPart (⟨(List.replicate 256 (0 : Int)), 0⟩ : PartM)), box b3 41 (encPart (splitP p (at_ sets t9))), box b10 49 (encSet (at_ sets t9))] := T16
    refine p_s rfl rfl (x_store r7_3 rfl r16) ?_
    refine run_region_end ?_
    refine run_inBlock ?_
    refine run_reg (l := [0, 1]) rfl ?_
    refine p_v (v := .int .i64 (t9 + 1)) rfl rfl rfl (x_add r7_9 rfl (in_i64 (by first|omega|(simp;omega)|assumption) (by first|omega|(simp;omega)|assumption))) ?_
    refine p_v (v := .int .i64 (t9 + 1)) rfl rfl rfl (x_move rfl) ?_
    refine run_region_end ?_
    refine ih7 (splitP p (at_ sets t9), t9 + 1) _ _ (by dsimp only; omega) ⟨h7, le7, S17.sub [0, 1] (by decide) rfl _ rfl, r7_2, r7_3, r7_7, r7_8, rfl, ok14_0, (in_i64 (by first|omega|(simp;omega)|assumption) (by first|omega|(simp;omega)|assumption)), (by exact ⟨by omega, by omega, refine_step sets hI7.1 (by omega) hI7.2.2⟩)⟩
  · skip
    refine run_exit rfl ?_
    refine run_seq ?_
    refine run_reg (l := [0, 1]) rfl ?_
    refine p_v (v := .agg (encPart p).toArray) rfl rfl rfl (x_load (seg := (encPart p)) ty41 (encPart_len f7_0) (by simp) r7_3 (CF.box (m := 257) (S7.box_at (j := 1) rfl) (by rw [List.drop_zero, List.take_of_length_le (by rw [encPart_len f7_0]; exact Nat.le_refl _)]))) ?_
    obtain ⟨w18, r18, g18, T18⟩ := e_store (P := Tryd.prog) (off := 0) (v := .agg (encPart p).toArray) (vs := (encPart p)) S7 ty41 rfl (encPart_len f7_0) (j := 0) rfl (by rw [encPart_len (okPart_zero)]; decide) (encPart_one _)
    rw [lput_all (by rw [encPart_len f7_0, encPart_len (okPart_zero)])] at T18
    have S19 : St w.heap.size w h7 w18 [box b1 41 (encPart p), box b3 41 (encPart p)] := T18
    refine p_s rfl rfl (x_store r7_2 rfl r18) ?_
    refine run_region_end ?_
    refine run_ret Tryd.func13 (res1 rfl (res_cell S19 ty41 r7_2 (j := 0) rfl (encPart_len f7_0) (by simp) rfl)) ?_
    have q0 : (refineP sets : PartM) = p := by
      exact refine_end sets (by omega) hI7.2.2
    refine ⟨_, rfl, h7, ?_, ?_, ?_⟩
    · exact S19.sub [] (by decide) rfl _ rfl
    · first | rfl | (simp only [q0]; rfl) | (simp only [q0])
    · rw [q0]; assumption
theorem sets_calls (w : World) (p : PartM) (o0 : okPart p) :
    Calls Tryd.prog 15 #[.agg (encPart p).toArray] w fun e w' => ∃ v, e = .returned v ∧ ∃ (hn : Ghost) (r0 : Value), St w.heap.size w hn w' [row 49 kSet r0 (setsP p)] ∧ v = r0 := by
  refine calls_of_run Tryd.func15 rfl Tryd.ntmps15 rfl ?_
  have S0 := St.init w
  have ploo0 := i64_lo o0.2; have phio0 := i64_hi o0.2
  refine run_seq ?_
  refine run_reg (l := [0, 1]) rfl ?_
  obtain ⟨b1, w1, r1, g1, T1⟩ := e_box (P := Tryd.prog) S0 41 (v := .agg (encPart p).toArray) (encPart p) rfl
  have S2 : St w.heap.size w (fun _ => none) w1 [box b1 41 (encPart p)] := T1
  refine p_v (v := .pointer (some ⟨b1, 0, none⟩)) rfl rfl rfl (x_box rfl r1) ?_
  refine p_v (v := .slice none 0 0) rfl rfl rfl (x_assign rfl) ?_
  refine run_region_end ?_
  refine run_seq ?_
  refine run_reg (l := [0, 1, 2, 3, 4, 5]) rfl ?_
  refine p_v (v := .pointer (some ⟨b1, 256, none⟩)) rfl rfl rfl (x_fieldAt fd41_1 ty3 rfl rfl) ?_
  have in3 := (o0).2
  have lo3 := i64_lo in3; have hi3 := i64_hi in3
  refine p_v (v := .int .i64 p.n) rfl rfl rfl (x_load (seg := [.int .i64 p.n]) ty3 rfl (by simp) rfl (CF.box (m := 1) (S2.box_at (j := 0) rfl) (encPart_n o0))) ?_
  refine p_v (v := .int .i64 (max p.n 0)) rfl rfl rfl (x_max rfl rfl) ?_
  refine p_v (v := .int .i64 (min (max p.n 0) 256)) rfl rfl rfl (x_min rfl rfl) ?_
  obtain ⟨v4, w4, r4, g4, T4⟩ := e_make (kk := .i64) (kk' := .i64) (kd := kSet) (q := min (max p.n 0) 256) (z := (0 : BSet)) (zc := (encSet (0 : BSet))) S2 u43 ty49 rfl rfl ⟨rfl, trivial⟩ (by first|omega|(simp;omega)|assumption) (by first|omega|(simp;omega)|assumption) (by first|omega|(simp;omega)|assumption)
  have S5 : St w.heap.size w (fun _ => none) w4 [box b1 41 (encPart p), row 49 kSet v4 (List.replicate (min (max p.n 0) 256).toNat (0 : BSet))] := T4
  refine p_v (v := v4) rfl rfl rfl (x_make rfl rfl r4) ?_
  refine p_v (v := v4) rfl rfl rfl (x_assign rfl) ?_
  refine run_region_end ?_
  refine run_seq ?_
  refine run_seq ?_
  refine run_reg (l := [0, 1, 2]) rfl ?_
  refine p_v (v := .pointer (some ⟨b1, 0, none⟩)) rfl rfl rfl (x_fieldAt fd41_0 ty39 rfl rfl) ?_
  refine p_v (v := .agg (encInts .u8 p.of).toArray) rfl rfl rfl (x_load (seg := (encInts .u8 p.of)) ty39 (encInts_len (o0).1) (by simp) rfl (CF.box (m := 256) (S5.box_at (j := 0) rfl) (encPart_of o0))) ?_
  refine p_v (v := .int .i64 0) rfl rfl rfl (x_move rfl) ?_
  refine run_region_end ?_
  refine run_block ?_
  refine run_loop (S := (List BSet) × Int) (fun (q_ : (List BSet) × Int) ρ w' => match q_ with | (out, t13) => ∃ (h : Ghost) (v_out : Value), Le (fun _ => none) h ∧ St w.heap.size w h w' [row 49 kSet v_out out] ∧ ρ 3 = v_out ∧ ρ 12 = .agg (encInts .u8 p.of).toArray ∧ ρ 13 = .int .i64 t13 ∧ inK .i64 t13 ∧ (0 ≤ t13 ∧ t13 ≤ 256 ∧ out = setsTo p t13)) (fun q_ => match q_ with | (out, t13) => (256 - t13).toNat) (List.replicate (min (max p.n 0) 256).toNat (0 : BSet), 0) ⟨(fun _ => none), v4, Le.refl _, S5.sub [1] (by decide) rfl _ rfl, rfl, rfl, rfl, (in_i64 (by first|omega|(simp;omega)|assumption) (by first|omega|(simp;omega)|assumption)), (by exact ⟨by omega, by omega, setsTo_0 p⟩)⟩ ?_
  rintro ⟨out, t13⟩ ih6 ρ6 w6 ⟨h6, v_out, le6, S6, r6_3, r6_12, r6_13, f6_0, hI6⟩
  have lf6_0 := i64_lo f6_0; have hf6_0 := i64_hi f6_0
  have rl6_0 := S6.row_le (j := 0) rfl; simp only [maxLen] at rl6_0
  have hlen_ : (out.length : Int) = min (max p.n 0) 256 := by rw [hI6.2.2]; exact setsTo_len p t13
  refine run_seq ?_
  refine run_reg (l := [0]) rfl ?_
  refine p_v (v := .bool (decide (t13 < 256))) rfl rfl rfl (x_lss r6_13 rfl) ?_
  refine run_region_end ?_
  refine run_seq ?_
  refine run_cond_prop (p := t13 < 256) rfl (fun hc7 => ?_) (fun hc7 => ?_)
  · skip
    refine run_skip ?_
    refine run_seq ?_
    refine run_block ?_
    refine run_seq ?_
    refine run_reg (l := [0, 1, 2, 3]) rfl ?_
    refine p_v (v := .int .i64 t13) rfl rfl rfl (x_move r6_13) ?_
    have in8 := okInts_at (o0).1 (i := t13) (by first|omega|(simp;omega)|assumption) (by first|omega|(simp;omega)|assumption)
    have lo8 := u8_lo in8; have hi8 := u8_hi in8
    refine p_v (v := .int .u8 (at_ p.of t13)) rfl rfl rfl (x_index_arr (cs := (encInts .u8 p.of)) u39 ty5 r6_12 r6_13 (by first|omega|(simp;omega)|assumption) (by first|omega|(simp;omega)|assumption) (encInts_get (o0).1 (by first|omega|(simp;omega)|assumption) (by first|omega|(simp;omega)|assumption))) ?_
    refine p_v (v := .int .i64 t13) rfl rfl rfl (x_assign rfl) ?_
    refine p_v (v := .int .u8 (at_ p.of t13)) rfl rfl rfl (x_assign rfl) ?_
    refine run_region_end ?_
    refine run_seq ?_
    refine run_reg (l := [0, 1, 2, 3, 4]) rfl ?_
    refine p_v (v := .int .u8 (at_ p.of t13)) rfl rfl rfl (x_move rfl) ?_
    refine p_v (v := .int .i64 (at_ p.of t13)) rfl rfl rfl (x_conv u5 u3 rfl (in_i64 (by first|omega|(simp;omega)|assumption) (by first|omega|(simp;omega)|assumption))) ?_
    refine p_v (v := v_out) rfl rfl rfl (x_move r6_3) ?_
    have lb9 := S6.row_le (j := 0) rfl; simp only [maxLen] at lb9
    refine p_v (v := .int .i64 (out.length : Int)) rfl rfl rfl (x_len_own u43 rfl (e_len_own S6 (j := 0) rfl)) ?_
    refine p_v (v := .bool (decide ((at_ p.of t13) < (out.length : Int)))) rfl rfl rfl (x_lss rfl rfl) ?_
    refine run_region_end ?_
    refine run_cond_prop (p := (at_ p.of t13) < (out.length : Int)) rfl (fun hc10 => ?_) (fun hc10 => ?_)
    · skip
      obtain ⟨ad11, a11, at11⟩ := e_index_own (q := at_ p.of t13) (m := 4) S6 (j := 0) rfl rfl (by first|omega|(simp;omega)|assumption) (by first|omega|(simp;omega)|assumption)
      obtain ⟨seg12, rp12, cf12⟩ := e_load_own (q := at_ p.of t13) S6 (j := 0) rfl rfl at11 (by first|omega|(simp;omega)|assumption) (by first|omega|(simp;omega)|assumption)
      obtain ⟨rfl, ok12⟩ := rp12
      have hf13 : (CFs ad11 (encSet (at_ out (at_ p.of t13)))).1 w6 := cf12
      refine da_start [(5, CFs ad11 (encSet (at_ out (at_ p.of t13))))] 13 rfl mixed ?_
      intro wd14 gd14 hd14
      have S15 := S6.keep gd14
      have hf16 := (CFs ad11 (encSet (at_ out (at_ p.of t13)))).2 _ _ gd14 hf13
      refine d_q (i := 0) (v := v_out) (fun _ => True) (fun _ ho => trivial) rfl (by decide +kernel) (by decide +kernel) (by decide +kernel) rfl rfl (fun wq hq => (x_move r6_3)) (of_ne rfl (of_nil _ _)) ?_
      refine d_q (i := 1) (v := .int .u8 (at_ p.of t13)) (fun _ => True) (fun _ ho => trivial) rfl (by decide +kernel) (by decide +kernel) (by decide +kernel) rfl rfl (fun wq hq => (x_move rfl)) (of_ne rfl (of_nil _ _)) ?_
      refine d_q (i := 2) (v := v_out) (fun _ => True) (fun _ ho => trivial) rfl (by decide +kernel) (by decide +kernel) (by decide +kernel) rfl rfl (fun wq hq => (x_move r6_3)) (of_ne rfl (of_nil _ _)) ?_
      refine d_q (i := 3) (v := .int .u8 (at_ p.of t13)) (fun _ => True) (fun _ ho => trivial) rfl (by decide +kernel) (by decide +kernel) (by decide +kernel) rfl rfl (fun wq hq => (x_move rfl)) (of_ne rfl (of_nil _ _)) ?_
      refine d_q (i := 4) (v := .pointer (some ad11)) (fun _ => True) (fun _ ho => trivial) rfl (by decide +kernel) (by decide +kernel) (by decide +kernel) rfl rfl (fun wq hq => (x_index_own u43 ty49 rfl rfl a11 (by first|omega|(simp;omega)|assumption) (by first|omega|(simp;omega)|assumption))) (of_ne rfl (of_nil _ _)) ?_
      refine d_q (i := 5) (v := .agg (encSet (at_ out (at_ p.of t13))).toArray) (CF ad11 (encSet (at_ out (at_ p.of t13)))) (fun _ ho => ho _ (List.mem_of_getElem? (i := 0) rfl) rfl) rfl (by decide +kernel) (by decide +kernel) (by decide +kernel) rfl rfl (fun wq hq => (x_load (seg := (encSet (at_ out (at_ p.of t13)))) ty49 rfl (by simp) rfl hq)) (of_eq hf16 (of_nil _ _)) ?_
      refine d_q (i := 6) (v := .int .i64 t13) (fun _ => True) (fun _ ho => trivial) rfl (by decide +kernel) (by decide +kernel) (by decide +kernel) rfl rfl (fun wq hq => (x_move rfl)) (of_ne rfl (of_nil _ _)) ?_
      refine d_q (i := 7) (v := .int .u8 t13) (fun _ => True) (fun _ ho => trivial) rfl (by decide +kernel) (by decide +kernel) (by decide +kernel) rfl rfl (fun wq hq => (x_conv u3 u5 rfl (in_u8 (by first|omega|(simp;omega)|assumption) (by first|omega|(simp;omega)|assumption)))) (of_ne rfl (of_nil _ _)) ?_
      refine ra_one (i := 8) (by decide +kernel) ?_
      intro wd17 gd17
      have S18 := S15.keep gd17
      have hf19 := (CFs ad11 (encSet (at_ out (at_ p.of t13)))).2 _ _ gd17 hf16
      obtain ⟨v20, w20, r20, g20, T20⟩ := e_build_ones (kd := (Kd.int .u8)) (xs := ([t13] : List Int)) (len := 1) [.int .u8 t13] S18 u38 ty5 rfl rfl rfl rfl rfl (ones_cons rfl ones_nil) [.int .u8 t13] (Elems.single (k := (Kd.int .u8)) (h := h6) (x := t13) (cs := [.int .u8 t13]) ⟨rfl, (in_u8 (by first|omega|(simp;omega)|assumption) (by first|omega|(simp;omega)|assumption))⟩) rfl
      have S21 : St w.heap.size w h6 w20 [row 49 kSet v_out out, row 5 (Kd.int .u8) v20 ([t13] : List Int)] := T20
      have hf22 := (CFs ad11 (encSet (at_ out (at_ p.of t13)))).2 _ _ g20 hf19
      refine d_v (v := v20) rfl rfl rfl (y_build_slice (pv := [(0, .int .u8 t13)]) rfl r20) (.inl g20) ?_
      refine ra_one (i := 9) (by decide +kernel) ?_
      intro wd23 gd23
      have S24 := S21.keep gd23
      have hf25 := (CFs ad11 (encSet (at_ out (at_ p.of t13)))).2 _ _ gd23 hf22
      obtain ⟨A26, c26, ev26, lc26, cm26⟩ := S24.row_val (j := 1) rfl
      refine d_c rfl rfl rfl (y_call (args := [.slice A26 ([t13] : List Int).length c26]) ca32 rfl (cons_eq ev26 rfl)) (of_calls wd23 ([t13] : List Int) A26 c26 (And.intro lc26 cm26) (row_leads_eq S24 (j := 1) rfl ev26)) ?_
      rintro _ w27 ⟨h27, T27, rfl⟩
      have S28 := S24.keep (Chg.of_below T27.below)
      have hf29 := (CFs ad11 (encSet (at_ out (at_ p.of t13)))).2 _ _ (Chg.of_below T27.below) hf25
      refine ⟨.inl (Chg.of_below T27.below), ?_⟩
      obtain ⟨ad31, a31, at31⟩ := e_index_own (q := at_ p.of t13) (m := 4) S28 (j := 0) rfl rfl (by first|omega|(simp;omega)|assumption) (by first|omega|(simp;omega)|assumption)
      refine d_m (i := 10) (v := .agg (encSet ((at_ out (at_ p.of t13)) ||| (setOf ([t13] : List Int)))).toArray) (fun _ => True) (fun _ ho => trivial) rfl (by decide +kernel) (by decide +kernel) (by decide +kernel) rfl rfl (fun wq => (y_call (args := [.agg (encSet (at_ out (at_ p.of t13))).toArray, .agg (encSet (setOf ([t13] : List Int))).toArray]) ca31 rfl rfl)) (fun wq hq => (or_calls wq (at_ out (at_ p.of t13)) (setOf ([t13] : List Int))).mono fun e w2 he => by obtain ⟨_, rfl, _, T, rfl⟩ := he; exact ⟨rfl, Chg.of_below T.below⟩) (of_ne rfl (of_nil _ _)) ?_
      refine d_q (i := 11) (v := .pointer (some ad31)) (fun _ => True) (fun _ ho => trivial) rfl (by decide +kernel) (by decide +kernel) (by decide +kernel) rfl rfl (fun wq hq => (x_index_own u43 ty49 rfl rfl a31 (by first|omega|(simp;omega)|assumption) (by first|omega|(simp;omega)|assumption))) (of_ne rfl (of_nil _ _)) ?_
      refine ra_one (i := 12) (by decide +kernel) ?_
      intro wd32 gd32
      have S33 := S28.keep gd32
      have hf34 := (CFs ad11 (encSet (at_ out (at_ p.of t13)))).2 _ _ gd32 hf29
      obtain ⟨w35, r35, g35, T35⟩ := e_store_own (u := .agg (encSet ((at_ out (at_ p.of t13)) ||| (setOf ([t13] : List Int)))).toArray) (q := at_ p.of t13) ((at_ out (at_ p.of t13)) ||| (setOf ([t13] : List Int))) (vs := (encSet ((at_ out (at_ p.of t13)) ||| (setOf ([t13] : List Int))))) S33 ty49 rfl (j := 0) rfl rfl ⟨rfl, trivial⟩ at31 (by first|omega|(simp;omega)|assumption) (by first|omega|(simp;omega)|assumption)
      have S36 : St w.heap.size w h6 w35 [row 49 kSet v_out (out.set (at_ p.of t13).toNat ((at_ out (at_ p.of t13)) ||| (setOf ([t13] : List Int)))), row 5 (Kd.int .u8) v20 ([t13] : List Int)] := T35
      refine d_s rfl rfl (x_store rfl rfl r35) (.inr (keep_w (by decide +kernel) trivial)) ?_
      refine ra_done (by decide +kernel) ?_
      intro wd37 gd37
      have S38 := S36.keep gd37
      refine run_inBlock ?_
      refine run_reg (l := [0, 1]) rfl ?_
      refine p_v (v := .int .i64 (t13 + 1)) rfl rfl rfl (x_add r6_13 rfl (in_i64 (by first|omega|(simp;omega)|assumption) (by first|omega|(simp;omega)|assumption))) ?_
      refine p_v (v := .int .i64 (t13 + 1)) rfl rfl rfl (x_move rfl) ?_
      refine run_region_end ?_
      refine ih6 (out.set (at_ p.of t13).toNat ((at_ out (at_ p.of t13)) ||| (setOf ([t13] : List Int))), t13 + 1) _ _ (by dsimp only; omega) ⟨h6, v_out, le6, S38.sub [0] (by decide) rfl _ rfl, r6_3, r6_12, rfl, (in_i64 (by first|omega|(simp;omega)|assumption) (by first|omega|(simp;omega)|assumption)), (by first | exact ⟨by omega, by omega, by rw [hI6.2.2]; exact setsTo_in p hI6.1 (by omega) (by omega) (by omega)⟩ | exact ⟨by omega, by omega, by rw [hI6.2.2]; exact setsTo_out p hI6.1 (by omega) (by omega)⟩)⟩
    · skip
      refine run_skip ?_
      refine run_inBlock ?_
      refine run_reg (l := [0, 1]) rfl ?_
      refine p_v (v := .int .i64 (t13 + 1)) rfl rfl rfl (x_add r6_13 rfl (in_i64 (by first|omega|(simp;omega)|assumption) (by first|omega|(simp;omega)|assumption))) ?_
      refine p_v (v := .int .i64 (t13 + 1)) rfl rfl rfl (x_move rfl) ?_
      refine run_region_end ?_
      refine ih6 (out, t13 + 1) _ _ (by dsimp only; omega) ⟨h6, v_out, le6, S6.sub [0] (by decide) rfl _ rfl, r6_3, r6_12, rfl, (in_i64 (by first|omega|(simp;omega)|assumption) (by first|omega|(simp;omega)|assumption)), (by first | exact ⟨by omega, by omega, by rw [hI6.2.2]; exact setsTo_in p hI6.1 (by omega) (by omega) (by omega)⟩ | exact ⟨by omega, by omega, by rw [hI6.2.2]; exact setsTo_out p hI6.1 (by omega) (by omega)⟩)⟩
  · skip
    refine run_exit rfl ?_
    refine run_seq ?_
    refine run_reg (l := [0, 1]) rfl ?_
    refine p_v (v := v_out) rfl rfl rfl (x_move r6_3) ?_
    refine p_v (v := v_out) rfl rfl rfl (x_assign rfl) ?_
    refine run_region_end ?_
    refine run_ret Tryd.func15 (res1 rfl (res_tmp (v := v_out) rfl)) ?_
    have q0 : (setsP p : List BSet) = out := by
      rw [hI6.2.2, show t13 = 256 by omega]; exact setsTo_end p
    refine ⟨_, rfl, h6, v_out, ?_, ?_⟩
    · rw [q0]; exact S6.sub [0] (by decide) rfl _ rfl
    · first | rfl | (simp only [q0]; rfl) | (simp only [q0])
end Go.Proofs.YtdfkpjchnndniaaDoor
