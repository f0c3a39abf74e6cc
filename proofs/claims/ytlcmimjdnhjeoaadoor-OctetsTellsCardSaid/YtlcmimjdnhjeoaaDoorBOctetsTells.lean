/- The law OctetsTells, walked: it tells true at every input, and writes nothing that was there. -/
import Derived.Test.YtlcmimjdnhjeoaaDoorB0
namespace Go.Proofs.YtlcmimjdnhjeoaaDoor
open Go Go.RowKit Gx
set_option maxHeartbeats 1000000
set_option linter.unusedVariables false
set_option linter.unusedSimpArgs false
attribute [local irreducible] members pack listOf count first someIn has setOf setRange wbits Lib.ctz

theorem octetsTells_calls (w : World) (a : BSet) (b : BSet) (xfrom : Int) (i2 : inK .u8 xfrom) (xto : Int) (i3 : inK .u8 xto) (tb : Block 0 tzTab w) :
    Calls Tryd.prog 6 #[.agg (encSet a).toArray, .agg (encSet b).toArray, .int .u8 xfrom, .int .u8 xto] w fun e w' => ∃ v, e = .returned v ∧ ∃ (hn : Ghost), St w.heap.size w hn w' [] ∧ v = .bool true := by
  refine calls_of_run Tryd.func6 rfl Tryd.ntmps6 rfl ?_
  have S0 := St.init w
  have lo2 := u8_lo i2; have hi2 := u8_hi i2
  have lo3 := u8_lo i3; have hi3 := u8_hi i3
  refine run_seq ?_
  refine run_reg (l := [0, 1, 2]) rfl ?_
  obtain ⟨b1, w1, r1, g1, T1⟩ := e_box (P := Tryd.prog) S0 27 (v := .agg (encSet a).toArray) (encSet a) rfl
  have S2 : St w.heap.size w (fun _ => none) w1 [box b1 27 (encSet a)] := T1
  refine p_v (v := .pointer (some ⟨b1, 0, none⟩)) rfl rfl rfl (x_box rfl r1) ?_
  obtain ⟨b3, w3, r3, g3, T3⟩ := e_box (P := Tryd.prog) S2 27 (v := .agg (encSet b).toArray) (encSet b) rfl
  have S4 : St w.heap.size w (fun _ => none) w3 [box b1 27 (encSet a), box b3 27 (encSet b)] := T3
  refine p_v (v := .pointer (some ⟨b3, 0, none⟩)) rfl rfl rfl (x_box rfl r3) ?_
  refine p_v (v := .bool false) rfl rfl rfl (x_assign rfl) ?_
  refine run_region_end ?_
  refine run_seq ?_
  refine run_reg (l := [0, 1, 2, 3]) rfl ?_
  refine p_v (v := .agg (encSet a).toArray) rfl rfl rfl (x_load (seg := (encSet a)) t27 rfl (by simp) rfl (CF.box (m := 4) (S4.box_at (j := 0) rfl) (cs := (encSet a)) rfl)) ?_
  refine p_c rfl rfl rfl (y_call (args := [.agg (encInts .u64 (words a)).toArray]) c23 rfl rfl) (members_calls w3 (words a) (okWords a)) ?_
  rintro _ w5 ⟨h5, T5, rfl, ok5_0⟩
  have S6 : St w.heap.size w (fun _ => none) w5 [box b1 27 (encSet a), box b3 27 (encSet b)] := S4.keep (Chg.of_below T5.below)
  obtain ⟨b7, w7, r7, g7, T7⟩ := e_box (P := Tryd.prog) S6 24 (v := (.agg #[.bool false, .bool false, .bool false, .bool false, .bool false, .bool false, .bool false, .bool false, .bool false, .bool false, .bool false, .bool false, .bool false, .bool false, .bool false, .bool false, .bool false, .bool false, .bool false, .bool false, .bool false, .bool false, .bool false, .bool false, .bool false, .bool false, .bool false, .bool false, .bool false, .bool false, .bool false, .bool false, .bool false, .bool false, .bool false, .bool false, .bool false, .bool false, .bool false, .bool false, .bool false, .bool false, .bool false, .bool false, .bool false, .bool false, .bool false, .bool false, .bool false, .bool false, .bool false, .bool false, .bool false, .bool false, .bool false, .bool false, .bool false, .bool false, .bool false, .bool false, .bool false, .bool false, .bool false, .bool false, .bool false, .bool false, .bool false, .bool false, .bool false, .bool false, .bool false, .bool false, .bool false, .bool false, .bool false, .bool false, .bool false, .bool false, .bool false, .bool false, .bool false, .bool false, .bool false, .bool false, .bool false, .bool false, .bool false, .bool false, .bool false, .bool false, .bool false, .bool false, .bool false, .bool false, .bool false, .bool false, .bool false, .bool false, .bool false, .bool false, .bool false, .bool false, .bool false, .bool false, .bool false, .bool false, .bool false, .bool false, .bool false, .bool false, .bool false, .bool false, .bool false, .bool false, .bool false, .bool false, .bool false, .bool false, .bool false, .bool false, .bool false, .bool false, .bool false, .bool false, .bool false, .bool false, .bool false, .bool false, .bool false, .bool false, .bool false, .bool false, .bool false, .bool false, .bool false, .bool false, .bool false, .bool false, .bool false, .bool false, .bool false, .bool false, .bool false, .bool false, .bool false, .bool false, .bool false, .bool false, .bool false, .bool false, .bool false, .bool false, .bool false, .bool false, .bool false, .bool false, .bool false, .bool false, .bool false, .bool false, .bool false, .bool false, .bool false, .bool false, .bool false, .bool false, .bool false, .bool false, .bool false, .bool false, .bool false, .bool false, .bool false, .bool false, .bool false, .bool false, .bool false, .bool false, .bool false, .bool false, .bool false, .bool false, .bool false, .bool false, .bool false, .bool false, .bool false, .bool false, .bool false, .bool false, .bool false, .bool false, .bool false, .bool false, .bool false, .bool false, .bool false, .bool false, .bool false, .bool false, .bool false, .bool false, .bool false, .bool false, .bool false, .bool false, .bool false, .bool false, .bool false, .bool false, .bool false, .bool false, .bool false, .bool false, .bool false, .bool false, .bool false, .bool false, .bool false, .bool false, .bool false, .bool false, .bool false, .bool false, .bool false, .bool false, .bool false, .bool false, .bool false, .bool false, .bool false, .bool false, .bool false, .bool false, .bool false, .bool false, .bool false, .bool false, .bool false, .bool false, .bool false, .bool false, .bool false, .bool false, .bool false, .bool false, .bool false, .bool false, .bool false, .bool false, .bool false, .bool false, .bool false, .bool false, .bool false, .bool false])) (encBools (List.replicate 256 false)) (by kernel_rfl)
  have S8 : St w.heap.size w (fun _ => none) w7 [box b1 27 (encSet a), box b3 27 (encSet b), box b7 24 (encBools (List.replicate 256 false))] := T7
  refine p_v (v := .pointer (some ⟨b7, 0, none⟩)) rfl rfl rfl (x_alloc t24 r7) ?_
  obtain ⟨w9, r9, g9, T9⟩ := e_store (P := Tryd.prog) (off := 0) (v := .agg (encBools (members (words a))).toArray) (vs := (encBools (members (words a)))) S8 t24 rfl (encBools_len (by assumption)) (j := 2) rfl (by rw [encBools_len (okBools_rep _ _)]; decide) (encBools_one _)
  rw [lput_all (by rw [encBools_len (by assumption), encBools_len (okBools_rep _ _)])] at T9
  have S10 : St w.heap.size w (fun _ => none) w9 [box b1 27 (encSet a), box b3 27 (encSet b), box b7 24 (encBools (members (words a)))] := T9
  refine p_s rfl rfl (x_store rfl rfl r9) ?_
  refine run_region_end ?_
  refine run_seq ?_
  refine run_reg (l := [0, 1, 2, 3]) rfl ?_
  refine p_v (v := .agg (encSet b).toArray) rfl rfl rfl (x_load (seg := (encSet b)) t27 rfl (by simp) rfl (CF.box (m := 4) (S10.box_at (j := 1) rfl) (cs := (encSet b)) rfl)) ?_
  refine p_c rfl rfl rfl (y_call (args := [.agg (encInts .u64 (words b)).toArray]) c23 rfl rfl) (members_calls w9 (words b) (okWords b)) ?_
  rintro _ w11 ⟨h11, T11, rfl, ok11_0⟩
  have S12 : St w.heap.size w (fun _ => none) w11 [box b1 27 (encSet a), box b3 27 (encSet b), box b7 24 (encBools (members (words a)))] := S10.keep (Chg.of_below T11.below)
  obtain ⟨b13, w13, r13, g13, T13⟩ := e_box (P := Tryd.prog) S12 24 (v := (.agg #[.bool false, .bool false, .bool false, .bool false, .bool false, .bool false, .bool false, .bool false, .bool false, .bool false, .bool false, .bool false, .bool false, .bool false, .bool false, .bool false, .bool false, .bool false, .bool false, .bool false, .bool false, .bool false, .bool false, .bool false, .bool false, .bool false, .bool false, .bool false, .bool false, .bool false, .bool false, .bool false, .bool false, .bool false, .bool false, .bool false, .bool false, .bool false, .bool false, .bool false, .bool false, .bool false, .bool false, .bool false, .bool false, .bool false, .bool false, .bool false, .bool false, .bool false, .bool false, .bool false, .bool false, .bool false, .bool false, .bool false, .bool false, .bool false, .bool false, .bool false, .bool false, .bool false, .bool false, .bool false, .bool false, .bool false, .bool false, .bool false, .bool false, .bool false, .bool false, .bool false, .bool false, .bool false, .bool false, .bool false, .bool false, .bool false, .bool false, .bool false, .bool false, .bool false, .bool false, .bool false, .bool false, .bool false, .bool false, .bool false, .bool false, .bool false, .bool false, .bool false, .bool false, .bool false, .bool false, .bool false, .bool false, .bool false, .bool false, .bool false, .bool false, .bool false, .bool false, .bool false, .bool false, .bool false, .bool false, .bool false, .bool false, .bool false, .bool false, .bool false, .bool false, .bool false, .bool false, .bool false, .bool false, .bool false, .bool false, .bool false, .bool false, .bool false, .bool false, .bool false, .bool false, .bool false, .bool false, .bool false, .bool false, .bool false, .bool false, .bool false, .bool false, .bool false, .bool false, .bool false, .bool false, .bool false, .bool false, .bool false, .bool false, .bool false, .bool false, .bool false, .bool false, .bool false, .bool false, .bool false, .bool false, .bool false, .bool false, .bool false, .bool false, .bool false, .bool false, .bool false, .bool false, .bool false, .bool false, .bool false, .bool false, .bool false, .bool false, .bool false, .bool false, .bool false, .bool false, .bool false, .bool false, .bool false, .bool false, .bool false, .bool false, .bool false, .bool false, .bool false, .bool false, .bool false, .bool false, .bool false, .bool false, .bool false, .bool false, .bool false, .bool false, .bool false, .bool false, .bool false, .bool false, .bool false, .bool false, .bool false, .bool false, .bool false, .bool false, .bool false, .bool false, .bool false, .bool false, .bool false, .bool false, .bool false, .bool false, .bool false, .bool false, .bool false, .bool false, .bool false, .bool false, .bool false, .bool false, .bool false, .bool false, .bool false, .bool false, .bool false, .bool false, .bool false, .bool false, .bool false, .bool false, .bool false, .bool false, .bool false, .bool false, .bool false, .bool false, .bool false, .bool false, .bool false, .bool false, .bool false, .bool false, .bool false, .bool false, .bool false, .bool false, .bool false, .bool false, .bool false, .bool false, .bool false, .bool false, .bool false, .bool false, .bool false, .bool false, .bool false, .bool false, .bool false, .bool false, .bool false, .bool false, .bool false, .bool false, .bool false])) (encBools (List.replicate 256 false)) (by kernel_rfl)
  have S14 : St w.heap.size w (fun _ => none) w13 [box b1 27 (encSet a), box b3 27 (encSet b), box b7 24 (encBools (members (words a))), box b13 24 (encBools (List.replicate 256 false))] := T13
  refine p_v (v := .pointer (some ⟨b13, 0, none⟩)) rfl rfl rfl (x_alloc t24 r13) ?_
  obtain ⟨w15, r15, g15, T15⟩ := e_store (P := Tryd.prog) (off := 0) (v := .agg (encBools (members (words b))).toArray) (vs := (encBools (members (words b)))) S14 t24 rfl (encBools_len (by assumption)) (j := 3) rfl (by rw [encBools_len (okBools_rep _ _)]; decide) (encBools_one _)
  rw [lput_all (by rw [encBools_len (by assumption), encBools_len (okBools_rep _ _)])] at T15
  have S16 : St w.heap.size w (fun _ => none) w15 [box b1 27 (encSet a), box b3 27 (encSet b), box b7 24 (encBools (members (words a))), box b13 24 (encBools (members (words b)))] := T15
  refine p_s rfl rfl (x_store rfl rfl r15) ?_
  refine run_region_end ?_
  refine run_seq ?_
  refine run_reg (l := [0, 1, 2, 3]) rfl ?_
  obtain ⟨b17, w17, r17, g17, T17⟩ := e_box (P := Tryd.prog) S16 24 (v := (.agg #[.bool false, .bool false, .bool false, .bool false, .bool false, .bool false, .bool false, .bool false, .bool false, .bool false, .bool false, .bool false, .bool false, .bool false, .bool false, .bool false, .bool false, .bool false, .bool false, .bool false, .bool false, .bool false, .bool false, .bool false, .bool false, .bool false, .bool false, .bool false, .bool false, .bool false, .bool false, .bool false, .bool false, .bool false, .bool false, .bool false, .bool false, .bool false, .bool false, .bool false, .bool false, .bool false, .bool false, .bool false, .bool false, .bool false, .bool false, .bool false, .bool false, .bool false, .bool false, .bool false, .bool false, .bool false, .bool false, .bool false, .bool false, .bool false, .bool false, .bool false, .bool false, .bool false, .bool false, .bool false, .bool false, .bool false, .bool false, .bool false, .bool false, .bool false, .bool false, .bool false, .bool false, .bool false, .bool false, .bool false, .bool false, .bool false, .bool false, .bool false, .bool false, .bool false, .bool false, .bool false, .bool false, .bool false, .bool false, .bool false, .bool false, .bool false, .bool false, .bool false, .bool false, .bool false, .bool false, .bool false, .bool false, .bool false, .bool false, .bool false, .bool false, .bool false, .bool false, .bool false, .bool false, .bool false, .bool false, .bool false, .bool false, .bool false, .bool false, .bool false, .bool false, .bool false, .bool false, .bool false, .bool false, .bool false, .bool false, .bool false, .bool false, .bool false, .bool false, .bool false, .bool false, .bool false, .bool false, .bool false, .bool false, .bool false, .bool false, .bool false, .bool false, .bool false, .bool false, .bool false, .bool false, .bool false, .bool false, .bool false, .bool false, .bool false, .bool false, .bool false, .bool false, .bool false, .bool false, .bool false, .bool false, .bool false, .bool false, .bool false, .bool false, .bool false, .bool false, .bool false, .bool false, .bool false, .bool false, .bool false, .bool false, .bool false, .bool false, .bool false, .bool false, .bool false, .bool false, .bool false, .bool false, .bool false, .bool false, .bool false, .bool false, .bool false, .bool false, .bool false, .bool false, .bool false, .bool false, .bool false, .bool false, .bool false, .bool false, .bool false, .bool false, .bool false, .bool false, .bool false, .bool false, .bool false, .bool false, .bool false, .bool false, .bool false, .bool false, .bool false, .bool false, .bool false, .bool false, .bool false, .bool false, .bool false, .bool false, .bool false, .bool false, .bool false, .bool false, .bool false, .bool false, .bool false, .bool false, .bool false, .bool false, .bool false, .bool false, .bool false, .bool false, .bool false, .bool false, .bool false, .bool false, .bool false, .bool false, .bool false, .bool false, .bool false, .bool false, .bool false, .bool false, .bool false, .bool false, .bool false, .bool false, .bool false, .bool false, .bool false, .bool false, .bool false, .bool false, .bool false, .bool false, .bool false, .bool false, .bool false, .bool false, .bool false, .bool false, .bool false, .bool false, .bool false, .bool false, .bool false, .bool false, .bool false, .bool false, .bool false])) (encBools (List.replicate 256 false)) (by kernel_rfl)
  have S18 : St w.heap.size w (fun _ => none) w17 [box b1 27 (encSet a), box b3 27 (encSet b), box b7 24 (encBools (members (words a))), box b13 24 (encBools (members (words b))), box b17 24 (encBools (List.replicate 256 false))] := T17
  refine p_v (v := .pointer (some ⟨b17, 0, none⟩)) rfl rfl rfl (x_alloc t24 r17) ?_
  obtain ⟨b19, w19, r19, g19, T19⟩ := e_box (P := Tryd.prog) S18 24 (v := (.agg #[.bool false, .bool false, .bool false, .bool false, .bool false, .bool false, .bool false, .bool false, .bool false, .bool false, .bool false, .bool false, .bool false, .bool false, .bool false, .bool false, .bool false, .bool false, .bool false, .bool false, .bool false, .bool false, .bool false, .bool false, .bool false, .bool false, .bool false, .bool false, .bool false, .bool false, .bool false, .bool false, .bool false, .bool false, .bool false, .bool false, .bool false, .bool false, .bool false, .bool false, .bool false, .bool false, .bool false, .bool false, .bool false, .bool false, .bool false, .bool false, .bool false, .bool false, .bool false, .bool false, .bool false, .bool false, .bool false, .bool false, .bool false, .bool false, .bool false, .bool false, .bool false, .bool false, .bool false, .bool false, .bool false, .bool false, .bool false, .bool false, .bool false, .bool false, .bool false, .bool false, .bool false, .bool false, .bool false, .bool false, .bool false, .bool false, .bool false, .bool false, .bool false, .bool false, .bool false, .bool false, .bool false, .bool false, .bool false, .bool false, .bool false, .bool false, .bool false, .bool false, .bool false, .bool false, .bool false, .bool false, .bool false, .bool false, .bool false, .bool false, .bool false, .bool false, .bool false, .bool false, .bool false, .bool false, .bool false, .bool false, .bool false, .bool false, .bool false, .bool false, .bool false, .bool false, .bool false, .bool false, .bool false, .bool false, .bool false, .bool false, .bool false, .bool false, .bool false, .bool false, .bool false, .bool false, .bool false, .bool false, .bool false, .bool false, .bool false, .bool false, .bool false, .bool false, .bool false, .bool false, .bool false, .bool false, .bool false, .bool false, .bool false, .bool false, .bool false, .bool false, .bool false, .bool false, .bool false, .bool false, .bool false, .bool false, .bool false, .bool false, .bool false, .bool false, .bool false, .bool false, .bool false, .bool false, .bool false, .bool false, .bool false, .bool false, .bool false, .bool false, .bool false, .bool false, .bool false, .bool false, .bool false, .bool false, .bool false, .bool false, .bool false, .bool false, .bool false, .bool false, .bool false, .bool false, .bool false, .bool false, .bool false, .bool false, .bool false, .bool false, .bool false, .bool false, .bool false, .bool false, .bool false, .bool false, .bool false, .bool false, .bool false, .bool false, .bool false, .bool false, .bool false, .bool false, .bool false, .bool false, .bool false, .bool false, .bool false, .bool false, .bool false, .bool false, .bool false, .bool false, .bool false, .bool false, .bool false, .bool false, .bool false, .bool false, .bool false, .bool false, .bool false, .bool false, .bool false, .bool false, .bool false, .bool false, .bool false, .bool false, .bool false, .bool false, .bool false, .bool false, .bool false, .bool false, .bool false, .bool false, .bool false, .bool false, .bool false, .bool false, .bool false, .bool false, .bool false, .bool false, .bool false, .bool false, .bool false, .bool false, .bool false, .bool false, .bool false, .bool false, .bool false, .bool false, .bool false, .bool false, .bool false, .bool false, .bool false, .bool false])) (encBools (List.replicate 256 false)) (by kernel_rfl)
  have S20 : St w.heap.size w (fun _ => none) w19 [box b1 27 (encSet a), box b3 27 (encSet b), box b7 24 (encBools (members (words a))), box b13 24 (encBools (members (words b))), box b17 24 (encBools (List.replicate 256 false)), box b19 24 (encBools (List.replicate 256 false))] := T19
  refine p_v (v := .pointer (some ⟨b19, 0, none⟩)) rfl rfl rfl (x_alloc t24 r19) ?_
  obtain ⟨b21, w21, r21, g21, T21⟩ := e_box (P := Tryd.prog) S20 24 (v := (.agg #[.bool false, .bool false, .bool false, .bool false, .bool false, .bool false, .bool false, .bool false, .bool false, .bool false, .bool false, .bool false, .bool false, .bool false, .bool false, .bool false, .bool false, .bool false, .bool false, .bool false, .bool false, .bool false, .bool false, .bool false, .bool false, .bool false, .bool false, .bool false, .bool false, .bool false, .bool false, .bool false, .bool false, .bool false, .bool false, .bool false, .bool false, .bool false, .bool false, .bool false, .bool false, .bool false, .bool false, .bool false, .bool false, .bool false, .bool false, .bool false, .bool false, .bool false, .bool false, .bool false, .bool false, .bool false, .bool false, .bool false, .bool false, .bool false, .bool false, .bool false, .bool false, .bool false, .bool false, .bool false, .bool false, .bool false, .bool false, .bool false, .bool false, .bool false, .bool false, .bool false, .bool false, .bool false, .bool false, .bool false, .bool false, .bool false, .bool false, .bool false, .bool false, .bool false, .bool false, .bool false, .bool false, .bool false, .bool false, .bool false, .bool false, .bool false, .bool false, .bool false, .bool false, .bool false, .bool false, .bool false, .bool false, .bool false, .bool false, .bool false, .bool false, .bool false, .bool false, .bool false, .bool false, .bool false, .bool false, .bool false, .bool false, .bool false, .bool false, .bool false, .bool false, .bool false, .bool false, .bool false, .bool false, .bool false, .bool false, .bool false, .bool false, .bool false, .bool false, .bool false, .bool false, .bool false, .bool false, .bool false, .bool false, .bool false, .bool false, .bool false, .bool false, .bool false, .bool false, .bool false, .bool false, .bool false, .bool false, .bool false, .bool false, .bool false, .bool false, .bool false, .bool false, .bool false, .bool false, .bool false, .bool false, .bool false, .bool false, .bool false, .bool false, .bool false, .bool false, .bool false, .bool false, .bool false, .bool false, .bool false, .bool false, .bool false, .bool false, .bool false, .bool false, .bool false, .bool false, .bool false, .bool false, .bool false, .bool false, .bool false, .bool false, .bool false, .bool false, .bool false, .bool false, .bool false, .bool false, .bool false, .bool false, .bool false, .bool false, .bool false, .bool false, .bool false, .bool false, .bool false, .bool false, .bool false, .bool false, .bool false, .bool false, .bool false, .bool false, .bool false, .bool false, .bool false, .bool false, .bool false, .bool false, .bool false, .bool false, .bool false, .bool false, .bool false, .bool false, .bool false, .bool false, .bool false, .bool false, .bool false, .bool false, .bool false, .bool false, .bool false, .bool false, .bool false, .bool false, .bool false, .bool false, .bool false, .bool false, .bool false, .bool false, .bool false, .bool false, .bool false, .bool false, .bool false, .bool false, .bool false, .bool false, .bool false, .bool false, .bool false, .bool false, .bool false, .bool false, .bool false, .bool false, .bool false, .bool false, .bool false, .bool false, .bool false, .bool false, .bool false, .bool false, .bool false, .bool false, .bool false, .bool false, .bool false, .bool false, .bool false])) (encBools (List.replicate 256 false)) (by kernel_rfl)
  have S22 : St w.heap.size w (fun _ => none) w21 [box b1 27 (encSet a), box b3 27 (encSet b), box b7 24 (encBools (members (words a))), box b13 24 (encBools (members (words b))), box b17 24 (encBools (List.replicate 256 false)), box b19 24 (encBools (List.replicate 256 false)), box b21 24 (encBools (List.replicate 256 false))] := T21
  refine p_v (v := .pointer (some ⟨b21, 0, none⟩)) rfl rfl rfl (x_alloc t24 r21) ?_
  obtain ⟨b23, w23, r23, g23, T23⟩ := e_box (P := Tryd.prog) S22 24 (v := (.agg #[.bool false, .bool false, .bool false, .bool false, .bool false, .bool false, .bool false, .bool false, .bool false, .bool false, .bool false, .bool false, .bool false, .bool false, .bool false, .bool false, .bool false, .bool false, .bool false, .bool false, .bool false, .bool false, .bool false, .bool false, .bool false, .bool false, .bool false, .bool false, .bool false, .bool false, .bool false, .bool false, .bool false, .bool false, .bool false, .bool false, .bool false, .bool false, .bool false, .bool false, .bool false, .bool false, .bool false, .bool false, .bool false, .bool false, .bool false, .bool false, .bool false, .bool false, .bool false, .bool false, .bool false, .bool false, .bool false, .bool false, .bool false, .bool false, .bool false, .bool false, .bool false, .bool false, .bool false, .bool false, .bool false, .bool false, .bool false, .bool false, .bool false, .bool false, .bool false, .bool false, .bool false, .bool false, .bool false, .bool false, .bool false, .bool false, .bool false, .bool false, .bool false, .bool false, .bool false, .bool false, .bool false, .bool false, .bool false, .bool false, .bool false, .bool false, .bool false, .bool false, .bool false, .bool false, .bool false, .bool false, .bool false, .bool false, .bool false, .bool false, .bool false, .bool false, .bool false, .bool false, .bool false, .bool false, .bool false, .bool false, .bool false, .bool false, .bool false, .bool false, .bool false, .bool false, .bool false, .bool false, .bool false, .bool false, .bool false, .bool false, .bool false, .bool false, .bool false, .bool false, .bool false, .bool false, .bool false, .bool false, .bool false, .bool false, .bool false, .bool false, .bool false, .bool false, .bool false, .bool false, .bool false, .bool false, .bool false, .bool false, .bool false, .bool false, .bool false, .bool false, .bool false, .bool false, .bool false, .bool false, .bool false, .bool false, .bool false, .bool false, .bool false, .bool false, .bool false, .bool false, .bool false, .bool false, .bool false, .bool false, .bool false, .bool false, .bool false, .bool false, .bool false, .bool false, .bool false, .bool false, .bool false, .bool false, .bool false, .bool false, .bool false, .bool false, .bool false, .bool false, .bool false, .bool false, .bool false, .bool false, .bool false, .bool false, .bool false, .bool false, .bool false, .bool false, .bool false, .bool false, .bool false, .bool false, .bool false, .bool false, .bool false, .bool false, .bool false, .bool false, .bool false, .bool false, .bool false, .bool false, .bool false, .bool false, .bool false, .bool false, .bool false, .bool false, .bool false, .bool false, .bool false, .bool false, .bool false, .bool false, .bool false, .bool false, .bool false, .bool false, .bool false, .bool false, .bool false, .bool false, .bool false, .bool false, .bool false, .bool false, .bool false, .bool false, .bool false, .bool false, .bool false, .bool false, .bool false, .bool false, .bool false, .bool false, .bool false, .bool false, .bool false, .bool false, .bool false, .bool false, .bool false, .bool false, .bool false, .bool false, .bool false, .bool false, .bool false, .bool false, .bool false, .bool false, .bool false, .bool false, .bool false, .bool false, .bool false, .bool false])) (encBools (List.replicate 256 false)) (by kernel_rfl)
  have S24 : St w.heap.size w (fun _ => none) w23 [box b1 27 (encSet a), box b3 27 (encSet b), box b7 24 (encBools (members (words a))), box b13 24 (encBools (members (words b))), box b17 24 (encBools (List.replicate 256 false)), box b19 24 (encBools (List.replicate 256 false)), box b21 24 (encBools (List.replicate 256 false)), box b23 24 (encBools (List.replicate 256 false))] := T23
  refine p_v (v := .pointer (some ⟨b23, 0, none⟩)) rfl rfl rfl (x_alloc t24 r23) ?_
  refine run_region_end ?_
  refine run_seq ?_
  refine run_reg (l := [0]) rfl ?_
  refine p_v (v := .int .i64 0) rfl rfl rfl (x_assign rfl) ?_
  refine run_region_end ?_
  refine run_seq ?_
  refine run_reg (l := [0]) rfl ?_
  refine p_v (v := .int .i64 (-1)) rfl rfl rfl (x_assign rfl) ?_
  refine run_region_end ?_
  refine run_seq ?_
  refine run_seq ?_
  refine run_reg (l := [0]) rfl ?_
  refine p_v (v := .int .i64 0) rfl rfl rfl (x_assign rfl) ?_
  refine run_region_end ?_
  refine run_block ?_
  refine run_loop (S := (List Bool) × (List Bool) × (List Bool) × (List Bool) × Int × Int × Int) (fun (q_ : (List Bool) × (List Bool) × (List Bool) × (List Bool) × Int × Int × Int) ρ w' => match q_ with | (both, one, not, part, n, least, c) => ∃ (h : Ghost), Le (fun _ => none) h ∧ St w.heap.size w h w' [box b1 27 (encSet a), box b3 27 (encSet b), box b7 24 (encBools (members (words a))), box b13 24 (encBools (members (words b))), box b17 24 (encBools both), box b19 24 (encBools one), box b21 24 (encBools not), box b23 24 (encBools part)] ∧ ρ 2 = .int .u8 xfrom ∧ ρ 3 = .int .u8 xto ∧ ρ 4 = .pointer (some ⟨b1, 0, none⟩) ∧ ρ 5 = .pointer (some ⟨b3, 0, none⟩) ∧ ρ 9 = .pointer (some ⟨b7, 0, none⟩) ∧ ρ 10 = .pointer (some ⟨b13, 0, none⟩) ∧ ρ 11 = .pointer (some ⟨b17, 0, none⟩) ∧ ρ 12 = .pointer (some ⟨b19, 0, none⟩) ∧ ρ 13 = .pointer (some ⟨b21, 0, none⟩) ∧ ρ 14 = .pointer (some ⟨b23, 0, none⟩) ∧ ρ 15 = .int .i64 n ∧ ρ 16 = .int .i64 least ∧ ρ 17 = .int .i64 c ∧ okBools 256 both ∧ okBools 256 one ∧ okBools 256 not ∧ okBools 256 part ∧ inK .i64 n ∧ inK .i64 least ∧ inK .i64 c ∧ (0 ≤ c ∧ c ≤ 256 ∧ both = predTo (fun i => a.getLsbD i && b.getLsbD i) c ∧ one = predTo (fun i => a.getLsbD i || b.getLsbD i) c ∧ not = predTo (fun i => !a.getLsbD i) c ∧ part = predTo (fun i => decide (xfrom ≤ (i : Int) ∧ (i : Int) ≤ xto)) c ∧ n = num_ a c ∧ least = least_ a c)) (fun q_ => match q_ with | (both, one, not, part, n, least, c) => (256 - c).toNat) ((List.replicate 256 false), (List.replicate 256 false), (List.replicate 256 false), (List.replicate 256 false), 0, (-1), 0) ⟨(fun _ => none), Le.refl _, S24.sub [0, 1, 2, 3, 4, 5, 6, 7] (by decide) rfl _ rfl, rfl, rfl, rfl, rfl, rfl, rfl, rfl, rfl, rfl, rfl, rfl, rfl, rfl, (okBools_rep _ _), (okBools_rep _ _), (okBools_rep _ _), (okBools_rep _ _), (in_i64 (by first | omega | (simp; omega) | assumption) (by first | omega | (simp; omega) | assumption)), (in_i64 (by first | omega | (simp; omega) | assumption) (by first | omega | (simp; omega) | assumption)), (in_i64 (by first | omega | (simp; omega) | assumption) (by first | omega | (simp; omega) | assumption)), (by exact ⟨by omega, by omega, predTo_0 _, predTo_0 _, predTo_0 _, predTo_0 _, num_0 a, least_0 a⟩)⟩ ?_
  rintro ⟨both, one, not, part, n, least, c⟩ ih25 ρ25 w25 ⟨h25, le25, S25, r25_2, r25_3, r25_4, r25_5, r25_9, r25_10, r25_11, r25_12, r25_13, r25_14, r25_15, r25_16, r25_17, f25_0, f25_1, f25_2, f25_3, f25_4, f25_5, f25_6, hI25⟩
  have lf25_4 := i64_lo f25_4; have hf25_4 := i64_hi f25_4
  have lf25_5 := i64_lo f25_5; have hf25_5 := i64_hi f25_5
  have lf25_6 := i64_lo f25_6; have hf25_6 := i64_hi f25_6
  have hn := num_le a hI25.1; rw [← hI25.2.2.2.2.2.2.1] at hn
  refine run_seq ?_
  refine run_seq ?_
  refine run_reg (l := [0, 1]) rfl ?_
  refine p_v (v := .int .i64 c) rfl rfl rfl (x_move r25_17) ?_
  refine p_v (v := .bool (decide (c < 256))) rfl rfl rfl (x_lss rfl rfl) ?_
  refine run_region_end ?_
  refine run_cond_prop (p := c < 256) rfl (fun hc26 => ?_) (fun hc26 => ?_)
  · skip
    refine run_skip ?_
    refine run_seq ?_
    refine run_block ?_
    refine run_seq ?_
    refine run_reg (l := [0, 1, 2, 3, 4, 5, 6, 7, 8, 9, 10]) rfl ?_
    refine p_v (v := .int .i64 c) rfl rfl rfl (x_move r25_17) ?_
    refine p_v (v := .int .i64 c) rfl rfl rfl (x_move r25_17) ?_
    refine p_v (v := .pointer (some ⟨b7, 0 + c.toNat * 1, none⟩)) rfl rfl rfl (x_indexAddr_arr u24 t4 r25_9 rfl (by first | omega | (simp; omega) | assumption) (by first | omega | (simp; omega) | assumption)) ?_
    refine p_v (v := .bool (at_ (members (words a)) c)) rfl rfl rfl (x_load (seg := [.bool (at_ (members (words a)) c)]) t4 rfl (by simp) rfl (CF.box (m := 1) (S25.box_at (j := 2) rfl) (cs := (encBools (members (words a)))) (encBools_at (by assumption) (by first | omega | (simp; omega) | assumption) (by first | omega | (simp; omega) | assumption)))) ?_
    refine p_v (v := .bool (at_ (members (words a)) c)) rfl rfl rfl (x_move rfl) ?_
    rcases Bool.eq_false_or_eq_true (at_ (members (words a)) c) with hc27 | hc27
    · skip
      refine p_v (v := .int .i64 c) rfl (wanted_of (j := 4) (want := true) (d := 35) (b := true) rfl rfl (congrArg Value.bool hc27) rfl) rfl (x_move r25_17) ?_
      refine p_v (v := .pointer (some ⟨b13, 0 + c.toNat * 1, none⟩)) rfl (wanted_of (j := 4) (want := true) (d := 35) (b := true) rfl rfl (congrArg Value.bool hc27) rfl) rfl (x_indexAddr_arr u24 t4 r25_10 rfl (by first | omega | (simp; omega) | assumption) (by first | omega | (simp; omega) | assumption)) ?_
      refine p_v (v := .bool (at_ (members (words b)) c)) rfl (wanted_of (j := 4) (want := true) (d := 35) (b := true) rfl rfl (congrArg Value.bool hc27) rfl) rfl (x_load (seg := [.bool (at_ (members (words b)) c)]) t4 rfl (by simp) rfl (CF.box (m := 1) (S25.box_at (j := 3) rfl) (cs := (encBools (members (words b)))) (encBools_at (by assumption) (by first | omega | (simp; omega) | assumption) (by first | omega | (simp; omega) | assumption)))) ?_
      refine p_v (v := .bool (at_ (members (words b)) c)) rfl rfl rfl (x_pick_t (congrArg Value.bool hc27) rfl) ?_
      refine p_v (v := .pointer (some ⟨b17, 0 + c.toNat * 1, none⟩)) rfl rfl rfl (x_indexAddr_arr u24 t4 r25_11 rfl (by first | omega | (simp; omega) | assumption) (by first | omega | (simp; omega) | assumption)) ?_
      obtain ⟨w28, r28, g28, T28⟩ := e_store (P := Tryd.prog) (off := 0 + c.toNat * 1) (v := .bool (at_ (members (words b)) c)) (vs := [.bool (at_ (members (words b)) c)]) S25 t4 rfl rfl (j := 4) rfl (by rw [encBools_len f25_0]; first | omega | (simp; omega) | assumption) (by simp [Value.oneCell'])
      rw [encBools_put] at T28
      have ok28 : okBools 256 (both.set c.toNat (at_ (members (words b)) c)) := okBools_set f25_0 _ _
      have S29 : St w.heap.size w h25 w28 [box b1 27 (encSet a), box b3 27 (encSet b), box b7 24 (encBools (members (words a))), box b13 24 (encBools (members (words b))), box b17 24 (encBools (both.set c.toNat (at_ (members (words b)) c))), box b19 24 (encBools one), box b21 24 (encBools not), box b23 24 (encBools part)] := T28
      refine p_s rfl rfl (x_store rfl rfl r28) ?_
      refine run_region_end ?_
      refine run_seq ?_
      refine run_reg (l := [0, 1, 2, 3, 4, 5, 6, 7, 8, 9, 10]) rfl ?_
      refine p_v (v := .int .i64 c) rfl rfl rfl (x_move r25_17) ?_
      refine p_v (v := .int .i64 c) rfl rfl rfl (x_move r25_17) ?_
      refine p_v (v := .pointer (some ⟨b7, 0 + c.toNat * 1, none⟩)) rfl rfl rfl (x_indexAddr_arr u24 t4 r25_9 rfl (by first | omega | (simp; omega) | assumption) (by first | omega | (simp; omega) | assumption)) ?_
      refine p_v (v := .bool (at_ (members (words a)) c)) rfl rfl rfl (x_load (seg := [.bool (at_ (members (words a)) c)]) t4 rfl (by simp) rfl (CF.box (m := 1) (S29.box_at (j := 2) rfl) (cs := (encBools (members (words a)))) (encBools_at (by assumption) (by first | omega | (simp; omega) | assumption) (by first | omega | (simp; omega) | assumption)))) ?_
      refine p_v (v := .bool true) rfl rfl rfl (x_move (congrArg Value.bool hc27)) ?_
      refine p_off rfl rfl rfl ?_
      refine p_off rfl rfl rfl ?_
      refine p_off rfl rfl rfl ?_
      refine p_v (v := .bool true) rfl rfl rfl (x_pick_t rfl rfl) ?_
      refine p_v (v := .pointer (some ⟨b19, 0 + c.toNat * 1, none⟩)) rfl rfl rfl (x_indexAddr_arr u24 t4 r25_12 rfl (by first | omega | (simp; omega) | assumption) (by first | omega | (simp; omega) | assumption)) ?_
      obtain ⟨w30, r30, g30, T30⟩ := e_store (P := Tryd.prog) (off := 0 + c.toNat * 1) (v := .bool true) (vs := [.bool true]) S29 t4 rfl rfl (j := 5) rfl (by rw [encBools_len f25_1]; first | omega | (simp; omega) | assumption) (by simp [Value.oneCell'])
      rw [encBools_put] at T30
      have ok30 : okBools 256 (one.set c.toNat true) := okBools_set f25_1 _ _
      have S31 : St w.heap.size w h25 w30 [box b1 27 (encSet a), box b3 27 (encSet b), box b7 24 (encBools (members (words a))), box b13 24 (encBools (members (words b))), box b17 24 (encBools (both.set c.toNat (at_ (members (words b)) c))), box b19 24 (encBools (one.set c.toNat true)), box b21 24 (encBools not), box b23 24 (encBools part)] := T30
      refine p_s rfl rfl (x_store rfl rfl r30) ?_
      refine run_region_end ?_
      refine run_seq ?_
      refine run_reg (l := [0, 1, 2, 3, 4, 5, 6]) rfl ?_
      refine p_v (v := .int .i64 c) rfl rfl rfl (x_move r25_17) ?_
      refine p_v (v := .int .i64 c) rfl rfl rfl (x_move r25_17) ?_
      refine p_v (v := .pointer (some ⟨b7, 0 + c.toNat * 1, none⟩)) rfl rfl rfl (x_indexAddr_arr u24 t4 r25_9 rfl (by first | omega | (simp; omega) | assumption) (by first | omega | (simp; omega) | assumption)) ?_
      refine p_v (v := .bool (at_ (members (words a)) c)) rfl rfl rfl (x_load (seg := [.bool (at_ (members (words a)) c)]) t4 rfl (by simp) rfl (CF.box (m := 1) (S31.box_at (j := 2) rfl) (cs := (encBools (members (words a)))) (encBools_at (by assumption) (by first | omega | (simp; omega) | assumption) (by first | omega | (simp; omega) | assumption)))) ?_
      refine p_v (v := .bool false) rfl rfl rfl (x_not (b := true) (congrArg Value.bool hc27)) ?_
      refine p_v (v := .pointer (some ⟨b21, 0 + c.toNat * 1, none⟩)) rfl rfl rfl (x_indexAddr_arr u24 t4 r25_13 rfl (by first | omega | (simp; omega) | assumption) (by first | omega | (simp; omega) | assumption)) ?_
      obtain ⟨w32, r32, g32, T32⟩ := e_store (P := Tryd.prog) (off := 0 + c.toNat * 1) (v := .bool false) (vs := [.bool false]) S31 t4 rfl rfl (j := 6) rfl (by rw [encBools_len f25_2]; first | omega | (simp; omega) | assumption) (by simp [Value.oneCell'])
      rw [encBools_put] at T32
      have ok32 : okBools 256 (not.set c.toNat false) := okBools_set f25_2 _ _
      have S33 : St w.heap.size w h25 w32 [box b1 27 (encSet a), box b3 27 (encSet b), box b7 24 (encBools (members (words a))), box b13 24 (encBools (members (words b))), box b17 24 (encBools (both.set c.toNat (at_ (members (words b)) c))), box b19 24 (encBools (one.set c.toNat true)), box b21 24 (encBools (not.set c.toNat false)), box b23 24 (encBools part)] := T32
      refine p_s rfl rfl (x_store rfl rfl r32) ?_
      refine run_region_end ?_
      refine run_seq ?_
      refine run_reg (l := [0, 1, 2, 3, 4, 5, 6, 7, 8, 9, 10, 11, 12]) rfl ?_
      refine p_v (v := .int .i64 c) rfl rfl rfl (x_move r25_17) ?_
      refine p_v (v := .int .i64 c) rfl rfl rfl (x_move r25_17) ?_
      refine p_v (v := .int .u8 xfrom) rfl rfl rfl (x_move r25_2) ?_
      refine p_v (v := .int .i64 xfrom) rfl rfl rfl (x_conv u5 u3 rfl (in_i64 (by first | omega | (simp; omega) | assumption) (by first | omega | (simp; omega) | assumption))) ?_
      refine p_v (v := .bool (decide (xfrom ≤ c))) rfl rfl rfl (x_geq rfl rfl) ?_
      refine p_v (v := .bool (decide (xfrom ≤ c))) rfl rfl rfl (x_move rfl) ?_
      by_cases hc34 : xfrom ≤ c
      · skip
        refine p_v (v := .int .i64 c) rfl (wanted_of (j := 5) (want := true) (d := 62) (b := true) rfl rfl (congrArg Value.bool (decide_eq_true hc34)) rfl) rfl (x_move r25_17) ?_
        refine p_v (v := .int .u8 xto) rfl (wanted_of (j := 5) (want := true) (d := 62) (b := true) rfl rfl (congrArg Value.bool (decide_eq_true hc34)) rfl) rfl (x_move r25_3) ?_
        refine p_v (v := .int .i64 xto) rfl (wanted_of (j := 5) (want := true) (d := 62) (b := true) rfl rfl (congrArg Value.bool (decide_eq_true hc34)) rfl) rfl (x_conv u5 u3 rfl (in_i64 (by first | omega | (simp; omega) | assumption) (by first | omega | (simp; omega) | assumption))) ?_
        refine p_v (v := .bool (decide (c ≤ xto))) rfl (wanted_of (j := 5) (want := true) (d := 62) (b := true) rfl rfl (congrArg Value.bool (decide_eq_true hc34)) rfl) rfl (x_leq rfl rfl) ?_
        refine p_v (v := .bool (decide (c ≤ xto))) rfl rfl rfl (x_pick_t (congrArg Value.bool (decide_eq_true hc34)) rfl) ?_
        refine p_v (v := .pointer (some ⟨b23, 0 + c.toNat * 1, none⟩)) rfl rfl rfl (x_indexAddr_arr u24 t4 r25_14 rfl (by first | omega | (simp; omega) | assumption) (by first | omega | (simp; omega) | assumption)) ?_
        obtain ⟨w35, r35, g35, T35⟩ := e_store (P := Tryd.prog) (off := 0 + c.toNat * 1) (v := .bool (decide (c ≤ xto))) (vs := [.bool (decide (c ≤ xto))]) S33 t4 rfl rfl (j := 7) rfl (by rw [encBools_len f25_3]; first | omega | (simp; omega) | assumption) (by simp [Value.oneCell'])
        rw [encBools_put] at T35
        have ok35 : okBools 256 (part.set c.toNat (decide (c ≤ xto))) := okBools_set f25_3 _ _
        have S36 : St w.heap.size w h25 w35 [box b1 27 (encSet a), box b3 27 (encSet b), box b7 24 (encBools (members (words a))), box b13 24 (encBools (members (words b))), box b17 24 (encBools (both.set c.toNat (at_ (members (words b)) c))), box b19 24 (encBools (one.set c.toNat true)), box b21 24 (encBools (not.set c.toNat false)), box b23 24 (encBools (part.set c.toNat (decide (c ≤ xto))))] := T35
        refine p_s rfl rfl (x_store rfl rfl r35) ?_
        refine run_region_end ?_
        refine run_seq ?_
        refine run_seq ?_
        have hf38 : (CFs ⟨b1, 0, none⟩ (encSet a)).1 w35 := (CF.box (m := 4) (S36.box_at (j := 0) rfl) (cs := (encSet a)) rfl)
        have hf39 : (CFs ⟨b7, 0 + c.toNat * 1, none⟩ [.bool (at_ (members (words a)) c)]).1 w35 := (CF.box (m := 1) (S36.box_at (j := 2) rfl) (cs := (encBools (members (words a)))) (encBools_at (by assumption) (by first | omega | (simp; omega) | assumption) (by first | omega | (simp; omega) | assumption)))
        refine da_start [(0, CFs ⟨b1, 0, none⟩ (encSet a)), (6, CFs ⟨b7, 0 + c.toNat * 1, none⟩ [.bool (at_ (members (words a)) c)])] 8 rfl mixed ?_
        intro wd40 gd40 hd40
        have S41 : St w.heap.size w h25 wd40 [box b1 27 (encSet a), box b3 27 (encSet b), box b7 24 (encBools (members (words a))), box b13 24 (encBools (members (words b))), box b17 24 (encBools (both.set c.toNat (at_ (members (words b)) c))), box b19 24 (encBools (one.set c.toNat true)), box b21 24 (encBools (not.set c.toNat false)), box b23 24 (encBools (part.set c.toNat (decide (c ≤ xto))))] := S36.keep gd40
        have hf42 := (CFs ⟨b1, 0, none⟩ (encSet a)).2 _ _ gd40 hf38
        have hf43 := (CFs ⟨b7, 0 + c.toNat * 1, none⟩ [.bool (at_ (members (words a)) c)]).2 _ _ gd40 hf39
        refine d_q (i := 0) (v := .agg (encSet a).toArray) (CF ⟨b1, 0, none⟩ (encSet a)) (fun _ ho => ho _ (List.mem_of_getElem? (i := 0) rfl) rfl) rfl (by decide +kernel) (by decide +kernel) (by decide +kernel) rfl rfl (fun wq hq => (x_load (seg := (encSet a)) t27 rfl (by simp) r25_4 hq)) (of_eq hf42 (of_ne rfl (of_nil _ _))) ?_
        refine d_q (i := 1) (v := .int .i64 c) (fun _ => True) (fun _ ho => trivial) rfl (by decide +kernel) (by decide +kernel) (by decide +kernel) rfl rfl (fun wq hq => (x_move r25_17)) (of_ne rfl (of_ne rfl (of_nil _ _))) ?_
        refine d_q (i := 2) (v := .int .u8 c) (fun _ => True) (fun _ ho => trivial) rfl (by decide +kernel) (by decide +kernel) (by decide +kernel) rfl rfl (fun wq hq => (x_conv u3 u5 rfl (in_u8 (by first | omega | (simp; omega) | assumption) (by first | omega | (simp; omega) | assumption)))) (of_ne rfl (of_ne rfl (of_nil _ _))) ?_
        refine d_m (i := 3) (v := .bool (has a c)) (fun _ => True) (fun _ ho => trivial) rfl (by decide +kernel) (by decide +kernel) (by decide +kernel) rfl rfl (fun wq => (y_call (args := [.agg (encSet a).toArray, .int .u8 c]) c18 rfl rfl)) (fun wq hq => (has_calls wq a c (in_u8 (by first | omega | (simp; omega) | assumption) (by first | omega | (simp; omega) | assumption))).mono fun e w2 he => by obtain ⟨_, rfl, _, T, rfl⟩ := he; exact ⟨rfl, Chg.of_below T.below⟩) (of_ne rfl (of_ne rfl (of_nil _ _))) ?_
        refine d_q (i := 4) (v := .int .i64 c) (fun _ => True) (fun _ ho => trivial) rfl (by decide +kernel) (by decide +kernel) (by decide +kernel) rfl rfl (fun wq hq => (x_move r25_17)) (of_ne rfl (of_ne rfl (of_nil _ _))) ?_
        refine d_q (i := 5) (v := .pointer (some ⟨b7, 0 + c.toNat * 1, none⟩)) (fun _ => True) (fun _ ho => trivial) rfl (by decide +kernel) (by decide +kernel) (by decide +kernel) rfl rfl (fun wq hq => (x_indexAddr_arr u24 t4 r25_9 rfl (by first | omega | (simp; omega) | assumption) (by first | omega | (simp; omega) | assumption))) (of_ne rfl (of_ne rfl (of_nil _ _))) ?_
        refine d_q (i := 6) (v := .bool (at_ (members (words a)) c)) (CF ⟨b7, 0 + c.toNat * 1, none⟩ [.bool (at_ (members (words a)) c)]) (fun _ ho => ho _ (List.mem_of_getElem? (i := 1) rfl) rfl) rfl (by decide +kernel) (by decide +kernel) (by decide +kernel) rfl rfl (fun wq hq => (x_load (seg := [.bool (at_ (members (words a)) c)]) t4 rfl (by simp) rfl hq)) (of_ne rfl (of_eq hf43 (of_nil _ _))) ?_
        refine d_q (i := 7) (v := .bool (decide ((has a c) ≠ true))) (fun _ => True) (fun _ ho => trivial) rfl (by decide +kernel) (by decide +kernel) (by decide +kernel) rfl rfl (fun wq hq => (x_neq_bool u4 rfl (congrArg Value.bool hc27))) (of_ne rfl (of_ne rfl (of_nil _ _))) ?_
        refine ra_done (by decide +kernel) ?_
        intro wd44 gd44
        have S45 : St w.heap.size w h25 wd44 [box b1 27 (encSet a), box b3 27 (encSet b), box b7 24 (encBools (members (words a))), box b13 24 (encBools (members (words b))), box b17 24 (encBools (both.set c.toNat (at_ (members (words b)) c))), box b19 24 (encBools (one.set c.toNat true)), box b21 24 (encBools (not.set c.toNat false)), box b23 24 (encBools (part.set c.toNat (decide (c ≤ xto))))] := S41.keep gd44
        have hc46 : ¬ ((has a c) ≠ true) := by
          have e := has_mem a hI25.1 (by omega)
          rw [e]; first | (rw [(by assumption : at_ (members (words a)) c = true)]; simp) | (rw [(by assumption : at_ (members (words a)) c = false)]; simp)
        refine run_cond (b := false) (congrArg Value.bool (decide_eq_false hc46)) ?_
        simp only [if_true, if_false, Bool.false_eq_true]
        refine run_skip ?_
        refine run_seq ?_
        refine run_seq ?_
        refine run_reg (l := [0, 1, 2]) rfl ?_
        refine p_v (v := .int .i64 c) rfl rfl rfl (x_move r25_17) ?_
        refine p_v (v := .pointer (some ⟨b7, 0 + c.toNat * 1, none⟩)) rfl rfl rfl (x_indexAddr_arr u24 t4 r25_9 rfl (by first | omega | (simp; omega) | assumption) (by first | omega | (simp; omega) | assumption)) ?_
        refine p_v (v := .bool (at_ (members (words a)) c)) rfl rfl rfl (x_load (seg := [.bool (at_ (members (words a)) c)]) t4 rfl (by simp) rfl (CF.box (m := 1) (S45.box_at (j := 2) rfl) (cs := (encBools (members (words a)))) (encBools_at (by assumption) (by first | omega | (simp; omega) | assumption) (by first | omega | (simp; omega) | assumption)))) ?_
        refine run_region_end ?_
        refine run_cond (b := true) (congrArg Value.bool hc27) ?_
        simp only [if_true, if_false, Bool.false_eq_true]
        refine run_reg (l := [0, 1, 2]) rfl ?_
        refine p_v (v := .int .i64 n) rfl rfl rfl (x_move r25_15) ?_
        refine p_v (v := .int .i64 (n + 1)) rfl rfl rfl (x_add rfl rfl (in_i64 (by first | omega | (simp; omega) | assumption) (by first | omega | (simp; omega) | assumption))) ?_
        refine p_v (v := .int .i64 (n + 1)) rfl rfl rfl (x_assign rfl) ?_
        refine run_region_end ?_
        refine run_seq ?_
        refine run_reg (l := [0, 1, 2, 3, 4, 5, 6]) rfl ?_
        refine p_v (v := .int .i64 c) rfl rfl rfl (x_move r25_17) ?_
        refine p_v (v := .pointer (some ⟨b7, 0 + c.toNat * 1, none⟩)) rfl rfl rfl (x_indexAddr_arr u24 t4 r25_9 rfl (by first | omega | (simp; omega) | assumption) (by first | omega | (simp; omega) | assumption)) ?_
        refine p_v (v := .bool (at_ (members (words a)) c)) rfl rfl rfl (x_load (seg := [.bool (at_ (members (words a)) c)]) t4 rfl (by simp) rfl (CF.box (m := 1) (S45.box_at (j := 2) rfl) (cs := (encBools (members (words a)))) (encBools_at (by assumption) (by first | omega | (simp; omega) | assumption) (by first | omega | (simp; omega) | assumption)))) ?_
        refine p_v (v := .bool true) rfl rfl rfl (x_move (congrArg Value.bool hc27)) ?_
        refine p_v (v := .int .i64 least) rfl rfl rfl (x_move r25_16) ?_
        refine p_v (v := .bool (decide (least < 0))) rfl rfl rfl (x_lss rfl rfl) ?_
        refine p_v (v := .bool (decide (least < 0))) rfl rfl rfl (x_pick_t rfl rfl) ?_
        refine run_region_end ?_
        refine run_cond_prop (p := least < 0) rfl (fun hc47 => ?_) (fun hc47 => ?_)
        · skip
          refine run_reg (l := [0, 1]) rfl ?_
          refine p_v (v := .int .i64 c) rfl rfl rfl (x_move r25_17) ?_
          refine p_v (v := .int .i64 c) rfl rfl rfl (x_assign rfl) ?_
          refine run_region_end ?_
          refine run_inBlock ?_
          refine run_reg (l := [0, 1, 2]) rfl ?_
          refine p_v (v := .int .i64 c) rfl rfl rfl (x_move r25_17) ?_
          refine p_v (v := .int .i64 (c + 1)) rfl rfl rfl (x_add rfl rfl (in_i64 (by first | omega | (simp; omega) | assumption) (by first | omega | (simp; omega) | assumption))) ?_
          refine p_v (v := .int .i64 (c + 1)) rfl rfl rfl (x_assign rfl) ?_
          refine run_region_end ?_
          refine ih25 (both.set c.toNat (at_ (members (words b)) c), one.set c.toNat true, not.set c.toNat false, part.set c.toNat (decide (c ≤ xto)), n + 1, c, c + 1) _ _ (by dsimp only; omega) ⟨h25, le25, S45.sub [0, 1, 2, 3, 4, 5, 6, 7] (by decide) rfl _ rfl, r25_2, r25_3, r25_4, r25_5, r25_9, r25_10, r25_11, r25_12, r25_13, r25_14, rfl, rfl, rfl, ok28, ok30, ok32, ok35, (in_i64 (by first | omega | (simp; omega) | assumption) (by first | omega | (simp; omega) | assumption)), f25_6, (in_i64 (by first | omega | (simp; omega) | assumption) (by first | omega | (simp; omega) | assumption)), (by exact ⟨by omega, by omega, predTo_step hI25.2.2.1 (by omega) (by omega) (by show _ = (a.getLsbD c.toNat && b.getLsbD c.toNat); rw [← mem_at a hI25.1 (by omega), ← mem_at b hI25.1 (by omega)]; first | (rw [(by assumption : at_ (members (words a)) c = true)]; simp) | (rw [(by assumption : at_ (members (words a)) c = false)]; simp)), predTo_step hI25.2.2.2.1 (by omega) (by omega) (by show _ = (a.getLsbD c.toNat || b.getLsbD c.toNat); rw [← mem_at a hI25.1 (by omega), ← mem_at b hI25.1 (by omega)]; first | (rw [(by assumption : at_ (members (words a)) c = true)]; simp) | (rw [(by assumption : at_ (members (words a)) c = false)]; simp)), predTo_step hI25.2.2.2.2.1 (by omega) (by omega) (by show _ = (!a.getLsbD c.toNat); rw [← mem_at a hI25.1 (by omega)]; first | (rw [(by assumption : at_ (members (words a)) c = true)]; simp) | (rw [(by assumption : at_ (members (words a)) c = false)]; simp)), predTo_step hI25.2.2.2.2.2.1 (by omega) (by omega) (by have e : ((c.toNat : Nat) : Int) = c := (by omega); simp only [e]; first | (exact (decide_eq_decide.2 (by omega))) | (exact (decide_eq_false (by omega)).symm)), (by first | (rw [num_T a hI25.1 (by omega) (by assumption), ← hI25.2.2.2.2.2.2.1]) | (rw [num_F a hI25.1 (by omega) (by assumption), ← hI25.2.2.2.2.2.2.1])), (by have hl := hI25.2.2.2.2.2.2.2; first | (rw [least_F a hI25.1 (by omega) (by assumption), ← hl]) | (rw [least_T1 a hI25.1 (by omega) (by assumption) (by omega)]) | (rw [least_T2 a hI25.1 (by omega) (by omega), ← hl]))⟩)⟩
        · skip
          refine run_skip ?_
          refine run_inBlock ?_
          refine run_reg (l := [0, 1, 2]) rfl ?_
          refine p_v (v := .int .i64 c) rfl rfl rfl (x_move r25_17) ?_
          refine p_v (v := .int .i64 (c + 1)) rfl rfl rfl (x_add rfl rfl (in_i64 (by first | omega | (simp; omega) | assumption) (by first | omega | (simp; omega) | assumption))) ?_
          refine p_v (v := .int .i64 (c + 1)) rfl rfl rfl (x_assign rfl) ?_
          refine run_region_end ?_
          refine ih25 (both.set c.toNat (at_ (members (words b)) c), one.set c.toNat true, not.set c.toNat false, part.set c.toNat (decide (c ≤ xto)), n + 1, least, c + 1) _ _ (by dsimp only; omega) ⟨h25, le25, S45.sub [0, 1, 2, 3, 4, 5, 6, 7] (by decide) rfl _ rfl, r25_2, r25_3, r25_4, r25_5, r25_9, r25_10, r25_11, r25_12, r25_13, r25_14, rfl, r25_16, rfl, ok28, ok30, ok32, ok35, (in_i64 (by first | omega | (simp; omega) | assumption) (by first | omega | (simp; omega) | assumption)), f25_5, (in_i64 (by first | omega | (simp; omega) | assumption) (by first | omega | (simp; omega) | assumption)), (by exact ⟨by omega, by omega, predTo_step hI25.2.2.1 (by omega) (by omega) (by show _ = (a.getLsbD c.toNat && b.getLsbD c.toNat); rw [← mem_at a hI25.1 (by omega), ← mem_at b hI25.1 (by omega)]; first | (rw [(by assumption : at_ (members (words a)) c = true)]; simp) | (rw [(by assumption : at_ (members (words a)) c = false)]; simp)), predTo_step hI25.2.2.2.1 (by omega) (by omega) (by show _ = (a.getLsbD c.toNat || b.getLsbD c.toNat); rw [← mem_at a hI25.1 (by omega), ← mem_at b hI25.1 (by omega)]; first | (rw [(by assumption : at_ (members (words a)) c = true)]; simp) | (rw [(by assumption : at_ (members (words a)) c = false)]; simp)), predTo_step hI25.2.2.2.2.1 (by omega) (by omega) (by show _ = (!a.getLsbD c.toNat); rw [← mem_at a hI25.1 (by omega)]; first | (rw [(by assumption : at_ (members (words a)) c = true)]; simp) | (rw [(by assumption : at_ (members (words a)) c = false)]; simp)), predTo_step hI25.2.2.2.2.2.1 (by omega) (by omega) (by have e : ((c.toNat : Nat) : Int) = c := (by omega); simp only [e]; first | (exact (decide_eq_decide.2 (by omega))) | (exact (decide_eq_false (by omega)).symm)), (by first | (rw [num_T a hI25.1 (by omega) (by assumption), ← hI25.2.2.2.2.2.2.1]) | (rw [num_F a hI25.1 (by omega) (by assumption), ← hI25.2.2.2.2.2.2.1])), (by have hl := hI25.2.2.2.2.2.2.2; first | (rw [least_F a hI25.1 (by omega) (by assumption), ← hl]) | (rw [least_T1 a hI25.1 (by omega) (by assumption) (by omega)]) | (rw [least_T2 a hI25.1 (by omega) (by omega), ← hl]))⟩)⟩
      · skip
        refine p_off rfl (wanted_of (j := 5) (want := true) (d := 62) (b := false) rfl rfl (congrArg Value.bool (decide_eq_false hc34)) rfl) rfl ?_
        refine p_off rfl (wanted_of (j := 5) (want := true) (d := 62) (b := false) rfl rfl (congrArg Value.bool (decide_eq_false hc34)) rfl) rfl ?_
        refine p_off rfl (wanted_of (j := 5) (want := true) (d := 62) (b := false) rfl rfl (congrArg Value.bool (decide_eq_false hc34)) rfl) rfl ?_
        refine p_off rfl (wanted_of (j := 5) (want := true) (d := 62) (b := false) rfl rfl (congrArg Value.bool (decide_eq_false hc34)) rfl) rfl ?_
        refine p_v (v := .bool false) rfl rfl rfl (x_pick_f (congrArg Value.bool (decide_eq_false hc34)) rfl) ?_
        refine p_v (v := .pointer (some ⟨b23, 0 + c.toNat * 1, none⟩)) rfl rfl rfl (x_indexAddr_arr u24 t4 r25_14 rfl (by first | omega | (simp; omega) | assumption) (by first | omega | (simp; omega) | assumption)) ?_
        obtain ⟨w48, r48, g48, T48⟩ := e_store (P := Tryd.prog) (off := 0 + c.toNat * 1) (v := .bool false) (vs := [.bool false]) S33 t4 rfl rfl (j := 7) rfl (by rw [encBools_len f25_3]; first | omega | (simp; omega) | assumption) (by simp [Value.oneCell'])
        rw [encBools_put] at T48
        have ok48 : okBools 256 (part.set c.toNat false) := okBools_set f25_3 _ _
        have S49 : St w.heap.size w h25 w48 [box b1 27 (encSet a), box b3 27 (encSet b), box b7 24 (encBools (members (words a))), box b13 24 (encBools (members (words b))), box b17 24 (encBools (both.set c.toNat (at_ (members (words b)) c))), box b19 24 (encBools (one.set c.toNat true)), box b21 24 (encBools (not.set c.toNat false)), box b23 24 (encBools (part.set c.toNat false))] := T48
        refine p_s rfl rfl (x_store rfl rfl r48) ?_
        refine run_region_end ?_
        refine run_seq ?_
        refine run_seq ?_
        have hf51 : (CFs ⟨b1, 0, none⟩ (encSet a)).1 w48 := (CF.box (m := 4) (S49.box_at (j := 0) rfl) (cs := (encSet a)) rfl)
        have hf52 : (CFs ⟨b7, 0 + c.toNat * 1, none⟩ [.bool (at_ (members (words a)) c)]).1 w48 := (CF.box (m := 1) (S49.box_at (j := 2) rfl) (cs := (encBools (members (words a)))) (encBools_at (by assumption) (by first | omega | (simp; omega) | assumption) (by first | omega | (simp; omega) | assumption)))
        refine da_start [(0, CFs ⟨b1, 0, none⟩ (encSet a)), (6, CFs ⟨b7, 0 + c.toNat * 1, none⟩ [.bool (at_ (members (words a)) c)])] 8 rfl mixed ?_
        intro wd53 gd53 hd53
        have S54 : St w.heap.size w h25 wd53 [box b1 27 (encSet a), box b3 27 (encSet b), box b7 24 (encBools (members (words a))), box b13 24 (encBools (members (words b))), box b17 24 (encBools (both.set c.toNat (at_ (members (words b)) c))), box b19 24 (encBools (one.set c.toNat true)), box b21 24 (encBools (not.set c.toNat false)), box b23 24 (encBools (part.set c.toNat false))] := S49.keep gd53
        have hf55 := (CFs ⟨b1, 0, none⟩ (encSet a)).2 _ _ gd53 hf51
        have hf56 := (CFs ⟨b7, 0 + c.toNat * 1, none⟩ [.bool (at_ (members (words a)) c)]).2 _ _ gd53 hf52
        refine d_q (i := 0) (v := .agg (encSet a).toArray) (CF ⟨b1, 0, none⟩ (encSet a)) (fun _ ho => ho _ (List.mem_of_getElem? (i := 0) rfl) rfl) rfl (by decide +kernel) (by decide +kernel) (by decide +kernel) rfl rfl (fun wq hq => (x_load (seg := (encSet a)) t27 rfl (by simp) r25_4 hq)) (of_eq hf55 (of_ne rfl (of_nil _ _))) ?_
        refine d_q (i := 1) (v := .int .i64 c) (fun _ => True) (fun _ ho => trivial) rfl (by decide +kernel) (by decide +kernel) (by decide +kernel) rfl rfl (fun wq hq => (x_move r25_17)) (of_ne rfl (of_ne rfl (of_nil _ _))) ?_
        refine d_q (i := 2) (v := .int .u8 c) (fun _ => True) (fun _ ho => trivial) rfl (by decide +kernel) (by decide +kernel) (by decide +kernel) rfl rfl (fun wq hq => (x_conv u3 u5 rfl (in_u8 (by first | omega | (simp; omega) | assumption) (by first | omega | (simp; omega) | assumption)))) (of_ne rfl (of_ne rfl (of_nil _ _))) ?_
        refine d_m (i := 3) (v := .bool (has a c)) (fun _ => True) (fun _ ho => trivial) rfl (by decide +kernel) (by decide +kernel) (by decide +kernel) rfl rfl (fun wq => (y_call (args := [.agg (encSet a).toArray, .int .u8 c]) c18 rfl rfl)) (fun wq hq => (has_calls wq a c (in_u8 (by first | omega | (simp; omega) | assumption) (by first | omega | (simp; omega) | assumption))).mono fun e w2 he => by obtain ⟨_, rfl, _, T, rfl⟩ := he; exact ⟨rfl, Chg.of_below T.below⟩) (of_ne rfl (of_ne rfl (of_nil _ _))) ?_
        refine d_q (i := 4) (v := .int .i64 c) (fun _ => True) (fun _ ho => trivial) rfl (by decide +kernel) (by decide +kernel) (by decide +kernel) rfl rfl (fun wq hq => (x_move r25_17)) (of_ne rfl (of_ne rfl (of_nil _ _))) ?_
        refine d_q (i := 5) (v := .pointer (some ⟨b7, 0 + c.toNat * 1, none⟩)) (fun _ => True) (fun _ ho => trivial) rfl (by decide +kernel) (by decide +kernel) (by decide +kernel) rfl rfl (fun wq hq => (x_indexAddr_arr u24 t4 r25_9 rfl (by first | omega | (simp; omega) | assumption) (by first | omega | (simp; omega) | assumption))) (of_ne rfl (of_ne rfl (of_nil _ _))) ?_
        refine d_q (i := 6) (v := .bool (at_ (members (words a)) c)) (CF ⟨b7, 0 + c.toNat * 1, none⟩ [.bool (at_ (members (words a)) c)]) (fun _ ho => ho _ (List.mem_of_getElem? (i := 1) rfl) rfl) rfl (by decide +kernel) (by decide +kernel) (by decide +kernel) rfl rfl (fun wq hq => (x_load (seg := [.bool (at_ (members (words a)) c)]) t4 rfl (by simp) rfl hq)) (of_ne rfl (of_eq hf56 (of_nil _ _))) ?_
        refine d_q (i := 7) (v := .bool (decide ((has a c) ≠ true))) (fun _ => True) (fun _ ho => trivial) rfl (by decide +kernel) (by decide +kernel) (by decide +kernel) rfl rfl (fun wq hq => (x_neq_bool u4 rfl (congrArg Value.bool hc27))) (of_ne rfl (of_ne rfl (of_nil _ _))) ?_
        refine ra_done (by decide +kernel) ?_
        intro wd57 gd57
        have S58 : St w.heap.size w h25 wd57 [box b1 27 (encSet a), box b3 27 (encSet b), box b7 24 (encBools (members (words a))), box b13 24 (encBools (members (words b))), box b17 24 (encBools (both.set c.toNat (at_ (members (words b)) c))), box b19 24 (encBools (one.set c.toNat true)), box b21 24 (encBools (not.set c.toNat false)), box b23 24 (encBools (part.set c.toNat false))] := S54.keep gd57
        have hc59 : ¬ ((has a c) ≠ true) := by
          have e := has_mem a hI25.1 (by omega)
          rw [e]; first | (rw [(by assumption : at_ (members (words a)) c = true)]; simp) | (rw [(by assumption : at_ (members (words a)) c = false)]; simp)
        refine run_cond (b := false) (congrArg Value.bool (decide_eq_false hc59)) ?_
        simp only [if_true, if_false, Bool.false_eq_true]
        refine run_skip ?_
        refine run_seq ?_
        refine run_seq ?_
        refine run_reg (l := [0, 1, 2]) rfl ?_
        refine p_v (v := .int .i64 c) rfl rfl rfl (x_move r25_17) ?_
        refine p_v (v := .pointer (some ⟨b7, 0 + c.toNat * 1, none⟩)) rfl rfl rfl (x_indexAddr_arr u24 t4 r25_9 rfl (by first | omega | (simp; omega) | assumption) (by first | omega | (simp; omega) | assumption)) ?_
        refine p_v (v := .bool (at_ (members (words a)) c)) rfl rfl rfl (x_load (seg := [.bool (at_ (members (words a)) c)]) t4 rfl (by simp) rfl (CF.box (m := 1) (S58.box_at (j := 2) rfl) (cs := (encBools (members (words a)))) (encBools_at (by assumption) (by first | omega | (simp; omega) | assumption) (by first | omega | (simp; omega) | assumption)))) ?_
        refine run_region_end ?_
        refine run_cond (b := true) (congrArg Value.bool hc27) ?_
        simp only [if_true, if_false, Bool.false_eq_true]
        refine run_reg (l := [0, 1, 2]) rfl ?_
        refine p_v (v := .int .i64 n) rfl rfl rfl (x_move r25_15) ?_
        refine p_v (v := .int .i64 (n + 1)) rfl rfl rfl (x_add rfl rfl (in_i64 (by first | omega | (simp; omega) | assumption) (by first | omega | (simp; omega) | assumption))) ?_
        refine p_v (v := .int .i64 (n + 1)) rfl rfl rfl (x_assign rfl) ?_
        refine run_region_end ?_
        refine run_seq ?_
        refine run_reg (l := [0, 1, 2, 3, 4, 5, 6]) rfl ?_
        refine p_v (v := .int .i64 c) rfl rfl rfl (x_move r25_17) ?_
        refine p_v (v := .pointer (some ⟨b7, 0 + c.toNat * 1, none⟩)) rfl rfl rfl (x_indexAddr_arr u24 t4 r25_9 rfl (by first | omega | (simp; omega) | assumption) (by first | omega | (simp; omega) | assumption)) ?_
        refine p_v (v := .bool (at_ (members (words a)) c)) rfl rfl rfl (x_load (seg := [.bool (at_ (members (words a)) c)]) t4 rfl (by simp) rfl (CF.box (m := 1) (S58.box_at (j := 2) rfl) (cs := (encBools (members (words a)))) (encBools_at (by assumption) (by first | omega | (simp; omega) | assumption) (by first | omega | (simp; omega) | assumption)))) ?_
        refine p_v (v := .bool true) rfl rfl rfl (x_move (congrArg Value.bool hc27)) ?_
        refine p_v (v := .int .i64 least) rfl rfl rfl (x_move r25_16) ?_
        refine p_v (v := .bool (decide (least < 0))) rfl rfl rfl (x_lss rfl rfl) ?_
        refine p_v (v := .bool (decide (least < 0))) rfl rfl rfl (x_pick_t rfl rfl) ?_
        refine run_region_end ?_
        refine run_cond_prop (p := least < 0) rfl (fun hc60 => ?_) (fun hc60 => ?_)
        · skip
          refine run_reg (l := [0, 1]) rfl ?_
          refine p_v (v := .int .i64 c) rfl rfl rfl (x_move r25_17) ?_
          refine p_v (v := .int .i64 c) rfl rfl rfl (x_assign rfl) ?_
          refine run_region_end ?_
          refine run_inBlock ?_
          refine run_reg (l := [0, 1, 2]) rfl ?_
          refine p_v (v := .int .i64 c) rfl rfl rfl (x_move r25_17) ?_
          refine p_v (v := .int .i64 (c + 1)) rfl rfl rfl (x_add rfl rfl (in_i64 (by first | omega | (simp; omega) | assumption) (by first | omega | (simp; omega) | assumption))) ?_
          refine p_v (v := .int .i64 (c + 1)) rfl rfl rfl (x_assign rfl) ?_
          refine run_region_end ?_
          refine ih25 (both.set c.toNat (at_ (members (words b)) c), one.set c.toNat true, not.set c.toNat false, part.set c.toNat false, n + 1, c, c + 1) _ _ (by dsimp only; omega) ⟨h25, le25, S58.sub [0, 1, 2, 3, 4, 5, 6, 7] (by decide) rfl _ rfl, r25_2, r25_3, r25_4, r25_5, r25_9, r25_10, r25_11, r25_12, r25_13, r25_14, rfl, rfl, rfl, ok28, ok30, ok32, ok48, (in_i64 (by first | omega | (simp; omega) | assumption) (by first | omega | (simp; omega) | assumption)), f25_6, (in_i64 (by first | omega | (simp; omega) | assumption) (by first | omega | (simp; omega) | assumption)), (by exact ⟨by omega, by omega, predTo_step hI25.2.2.1 (by omega) (by omega) (by show _ = (a.getLsbD c.toNat && b.getLsbD c.toNat); rw [← mem_at a hI25.1 (by omega), ← mem_at b hI25.1 (by omega)]; first | (rw [(by assumption : at_ (members (words a)) c = true)]; simp) | (rw [(by assumption : at_ (members (words a)) c = false)]; simp)), predTo_step hI25.2.2.2.1 (by omega) (by omega) (by show _ = (a.getLsbD c.toNat || b.getLsbD c.toNat); rw [← mem_at a hI25.1 (by omega), ← mem_at b hI25.1 (by omega)]; first | (rw [(by assumption : at_ (members (words a)) c = true)]; simp) | (rw [(by assumption : at_ (members (words a)) c = false)]; simp)), predTo_step hI25.2.2.2.2.1 (by omega) (by omega) (by show _ = (!a.getLsbD c.toNat); rw [← mem_at a hI25.1 (by omega)]; first | (rw [(by assumption : at_ (members (words a)) c = true)]; simp) | (rw [(by assumption : at_ (members (words a)) c = false)]; simp)), predTo_step hI25.2.2.2.2.2.1 (by omega) (by omega) (by have e : ((c.toNat : Nat) : Int) = c := (by omega); simp only [e]; first | (exact (decide_eq_decide.2 (by omega))) | (exact (decide_eq_false (by omega)).symm)), (by first | (rw [num_T a hI25.1 (by omega) (by assumption), ← hI25.2.2.2.2.2.2.1]) | (rw [num_F a hI25.1 (by omega) (by assumption), ← hI25.2.2.2.2.2.2.1])), (by have hl := hI25.2.2.2.2.2.2.2; first | (rw [least_F a hI25.1 (by omega) (by assumption), ← hl]) | (rw [least_T1 a hI25.1 (by omega) (by assumption) (by omega)]) | (rw [least_T2 a hI25.1 (by omega) (by omega), ← hl]))⟩)⟩
        · skip
          refine run_skip ?_
          refine run_inBlock ?_
          refine run_reg (l := [0, 1, 2]) rfl ?_
          refine p_v (v := .int .i64 c) rfl rfl rfl (x_move r25_17) ?_
          refine p_v (v := .int .i64 (c + 1)) rfl rfl rfl (x_add rfl rfl (in_i64 (by first | omega | (simp; omega) | assumption) (by first | omega | (simp; omega) | assumption))) ?_
          refine p_v (v := .int .i64 (c + 1)) rfl rfl rfl (x_assign rfl) ?_
          refine run_region_end ?_
          refine ih25 (both.set c.toNat (at_ (members (words b)) c), one.set c.toNat true, not.set c.toNat false, part.set c.toNat false, n + 1, least, c + 1) _ _ (by dsimp only; omega) ⟨h25, le25, S58.sub [0, 1, 2, 3, 4, 5, 6, 7] (by decide) rfl _ rfl, r25_2, r25_3, r25_4, r25_5, r25_9, r25_10, r25_11, r25_12, r25_13, r25_14, rfl, r25_16, rfl, ok28, ok30, ok32, ok48, (in_i64 (by first | omega | (simp; omega) | assumption) (by first | omega | (simp; omega) | assumption)), f25_5, (in_i64 (by first | omega | (simp; omega) | assumption) (by first | omega | (simp; omega) | assumption)), (by exact ⟨by omega, by omega, predTo_step hI25.2.2.1 (by omega) (by omega) (by show _ = (a.getLsbD c.toNat && b.getLsbD c.toNat); rw [← mem_at a hI25.1 (by omega), ← mem_at b hI25.1 (by omega)]; first | (rw [(by assumption : at_ (members (words a)) c = true)]; simp) | (rw [(by assumption : at_ (members (words a)) c = false)]; simp)), predTo_step hI25.2.2.2.1 (by omega) (by omega) (by show _ = (a.getLsbD c.toNat || b.getLsbD c.toNat); rw [← mem_at a hI25.1 (by omega), ← mem_at b hI25.1 (by omega)]; first | (rw [(by assumption : at_ (members (words a)) c = true)]; simp) | (rw [(by assumption : at_ (members (words a)) c = false)]; simp)), predTo_step hI25.2.2.2.2.1 (by omega) (by omega) (by show _ = (!a.getLsbD c.toNat); rw [← mem_at a hI25.1 (by omega)]; first | (rw [(by assumption : at_ (members (words a)) c = true)]; simp) | (rw [(by assumption : at_ (members (words a)) c = false)]; simp)), predTo_step hI25.2.2.2.2.2.1 (by omega) (by omega) (by have e : ((c.toNat : Nat) : Int) = c := (by omega); simp only [e]; first | (exact (decide_eq_decide.2 (by omega))) | (exact (decide_eq_false (by omega)).symm)), (by first | (rw [num_T a hI25.1 (by omega) (by assumption), ← hI25.2.2.2.2.2.2.1]) | (rw [num_F a hI25.1 (by omega) (by assumption), ← hI25.2.2.2.2.2.2.1])), (by have hl := hI25.2.2.2.2.2.2.2; first | (rw [least_F a hI25.1 (by omega) (by assumption), ← hl]) | (rw [least_T1 a hI25.1 (by omega) (by assumption) (by omega)]) | (rw [least_T2 a hI25.1 (by omega) (by omega), ← hl]))⟩)⟩
    · skip
      refine p_off rfl (wanted_of (j := 4) (want := true) (d := 35) (b := false) rfl rfl (congrArg Value.bool hc27) rfl) rfl ?_
      refine p_off rfl (wanted_of (j := 4) (want := true) (d := 35) (b := false) rfl rfl (congrArg Value.bool hc27) rfl) rfl ?_
      refine p_off rfl (wanted_of (j := 4) (want := true) (d := 35) (b := false) rfl rfl (congrArg Value.bool hc27) rfl) rfl ?_
      refine p_v (v := .bool false) rfl rfl rfl (x_pick_f (congrArg Value.bool hc27) rfl) ?_
      refine p_v (v := .pointer (some ⟨b17, 0 + c.toNat * 1, none⟩)) rfl rfl rfl (x_indexAddr_arr u24 t4 r25_11 rfl (by first | omega | (simp; omega) | assumption) (by first | omega | (simp; omega) | assumption)) ?_
      obtain ⟨w61, r61, g61, T61⟩ := e_store (P := Tryd.prog) (off := 0 + c.toNat * 1) (v := .bool false) (vs := [.bool false]) S25 t4 rfl rfl (j := 4) rfl (by rw [encBools_len f25_0]; first | omega | (simp; omega) | assumption) (by simp [Value.oneCell'])
      rw [encBools_put] at T61
      have ok61 : okBools 256 (both.set c.toNat false) := okBools_set f25_0 _ _
      have S62 : St w.heap.size w h25 w61 [box b1 27 (encSet a), box b3 27 (encSet b), box b7 24 (encBools (members (words a))), box b13 24 (encBools (members (words b))), box b17 24 (encBools (both.set c.toNat false)), box b19 24 (encBools one), box b21 24 (encBools not), box b23 24 (encBools part)] := T61
      refine p_s rfl rfl (x_store rfl rfl r61) ?_
      refine run_region_end ?_
      refine run_seq ?_
      refine run_reg (l := [0, 1, 2, 3, 4, 5, 6, 7, 8, 9, 10]) rfl ?_
      refine p_v (v := .int .i64 c) rfl rfl rfl (x_move r25_17) ?_
      refine p_v (v := .int .i64 c) rfl rfl rfl (x_move r25_17) ?_
      refine p_v (v := .pointer (some ⟨b7, 0 + c.toNat * 1, none⟩)) rfl rfl rfl (x_indexAddr_arr u24 t4 r25_9 rfl (by first | omega | (simp; omega) | assumption) (by first | omega | (simp; omega) | assumption)) ?_
      refine p_v (v := .bool (at_ (members (words a)) c)) rfl rfl rfl (x_load (seg := [.bool (at_ (members (words a)) c)]) t4 rfl (by simp) rfl (CF.box (m := 1) (S62.box_at (j := 2) rfl) (cs := (encBools (members (words a)))) (encBools_at (by assumption) (by first | omega | (simp; omega) | assumption) (by first | omega | (simp; omega) | assumption)))) ?_
      refine p_v (v := .bool false) rfl rfl rfl (x_move (congrArg Value.bool hc27)) ?_
      refine p_v (v := .int .i64 c) rfl rfl rfl (x_move r25_17) ?_
      refine p_v (v := .pointer (some ⟨b13, 0 + c.toNat * 1, none⟩)) rfl rfl rfl (x_indexAddr_arr u24 t4 r25_10 rfl (by first | omega | (simp; omega) | assumption) (by first | omega | (simp; omega) | assumption)) ?_
      refine p_v (v := .bool (at_ (members (words b)) c)) rfl rfl rfl (x_load (seg := [.bool (at_ (members (words b)) c)]) t4 rfl (by simp) rfl (CF.box (m := 1) (S62.box_at (j := 3) rfl) (cs := (encBools (members (words b)))) (encBools_at (by assumption) (by first | omega | (simp; omega) | assumption) (by first | omega | (simp; omega) | assumption)))) ?_
      refine p_v (v := .bool (at_ (members (words b)) c)) rfl rfl rfl (x_pick_f rfl rfl) ?_
      refine p_v (v := .pointer (some ⟨b19, 0 + c.toNat * 1, none⟩)) rfl rfl rfl (x_indexAddr_arr u24 t4 r25_12 rfl (by first | omega | (simp; omega) | assumption) (by first | omega | (simp; omega) | assumption)) ?_
      obtain ⟨w63, r63, g63, T63⟩ := e_store (P := Tryd.prog) (off := 0 + c.toNat * 1) (v := .bool (at_ (members (words b)) c)) (vs := [.bool (at_ (members (words b)) c)]) S62 t4 rfl rfl (j := 5) rfl (by rw [encBools_len f25_1]; first | omega | (simp; omega) | assumption) (by simp [Value.oneCell'])
      rw [encBools_put] at T63
      have ok63 : okBools 256 (one.set c.toNat (at_ (members (words b)) c)) := okBools_set f25_1 _ _
      have S64 : St w.heap.size w h25 w63 [box b1 27 (encSet a), box b3 27 (encSet b), box b7 24 (encBools (members (words a))), box b13 24 (encBools (members (words b))), box b17 24 (encBools (both.set c.toNat false)), box b19 24 (encBools (one.set c.toNat (at_ (members (words b)) c))), box b21 24 (encBools not), box b23 24 (encBools part)] := T63
      refine p_s rfl rfl (x_store rfl rfl r63) ?_
      refine run_region_end ?_
      refine run_seq ?_
      refine run_reg (l := [0, 1, 2, 3, 4, 5, 6]) rfl ?_
      refine p_v (v := .int .i64 c) rfl rfl rfl (x_move r25_17) ?_
      refine p_v (v := .int .i64 c) rfl rfl rfl (x_move r25_17) ?_
      refine p_v (v := .pointer (some ⟨b7, 0 + c.toNat * 1, none⟩)) rfl rfl rfl (x_indexAddr_arr u24 t4 r25_9 rfl (by first | omega | (simp; omega) | assumption) (by first | omega | (simp; omega) | assumption)) ?_
      refine p_v (v := .bool (at_ (members (words a)) c)) rfl rfl rfl (x_load (seg := [.bool (at_ (members (words a)) c)]) t4 rfl (by simp) rfl (CF.box (m := 1) (S64.box_at (j := 2) rfl) (cs := (encBools (members (words a)))) (encBools_at (by assumption) (by first | omega | (simp; omega) | assumption) (by first | omega | (simp; omega) | assumption)))) ?_
      refine p_v (v := .bool true) rfl rfl rfl (x_not (b := false) (congrArg Value.bool hc27)) ?_
      refine p_v (v := .pointer (some ⟨b21, 0 + c.toNat * 1, none⟩)) rfl rfl rfl (x_indexAddr_arr u24 t4 r25_13 rfl (by first | omega | (simp; omega) | assumption) (by first | omega | (simp; omega) | assumption)) ?_
      obtain ⟨w65, r65, g65, T65⟩ := e_store (P := Tryd.prog) (off := 0 + c.toNat * 1) (v := .bool true) (vs := [.bool true]) S64 t4 rfl rfl (j := 6) rfl (by rw [encBools_len f25_2]; first | omega | (simp; omega) | assumption) (by simp [Value.oneCell'])
      rw [encBools_put] at T65
      have ok65 : okBools 256 (not.set c.toNat true) := okBools_set f25_2 _ _
      have S66 : St w.heap.size w h25 w65 [box b1 27 (encSet a), box b3 27 (encSet b), box b7 24 (encBools (members (words a))), box b13 24 (encBools (members (words b))), box b17 24 (encBools (both.set c.toNat false)), box b19 24 (encBools (one.set c.toNat (at_ (members (words b)) c))), box b21 24 (encBools (not.set c.toNat true)), box b23 24 (encBools part)] := T65
      refine p_s rfl rfl (x_store rfl rfl r65) ?_
      refine run_region_end ?_
      refine run_seq ?_
      refine run_reg (l := [0, 1, 2, 3, 4, 5, 6, 7, 8, 9, 10, 11, 12]) rfl ?_
      refine p_v (v := .int .i64 c) rfl rfl rfl (x_move r25_17) ?_
      refine p_v (v := .int .i64 c) rfl rfl rfl (x_move r25_17) ?_
      refine p_v (v := .int .u8 xfrom) rfl rfl rfl (x_move r25_2) ?_
      refine p_v (v := .int .i64 xfrom) rfl rfl rfl (x_conv u5 u3 rfl (in_i64 (by first | omega | (simp; omega) | assumption) (by first | omega | (simp; omega) | assumption))) ?_
      refine p_v (v := .bool (decide (xfrom ≤ c))) rfl rfl rfl (x_geq rfl rfl) ?_
      refine p_v (v := .bool (decide (xfrom ≤ c))) rfl rfl rfl (x_move rfl) ?_
      by_cases hc67 : xfrom ≤ c
      · skip
        refine p_v (v := .int .i64 c) rfl (wanted_of (j := 5) (want := true) (d := 62) (b := true) rfl rfl (congrArg Value.bool (decide_eq_true hc67)) rfl) rfl (x_move r25_17) ?_
        refine p_v (v := .int .u8 xto) rfl (wanted_of (j := 5) (want := true) (d := 62) (b := true) rfl rfl (congrArg Value.bool (decide_eq_true hc67)) rfl) rfl (x_move r25_3) ?_
        refine p_v (v := .int .i64 xto) rfl (wanted_of (j := 5) (want := true) (d := 62) (b := true) rfl rfl (congrArg Value.bool (decide_eq_true hc67)) rfl) rfl (x_conv u5 u3 rfl (in_i64 (by first | omega | (simp; omega) | assumption) (by first | omega | (simp; omega) | assumption))) ?_
        refine p_v (v := .bool (decide (c ≤ xto))) rfl (wanted_of (j := 5) (want := true) (d := 62) (b := true) rfl rfl (congrArg Value.bool (decide_eq_true hc67)) rfl) rfl (x_leq rfl rfl) ?_
        refine p_v (v := .bool (decide (c ≤ xto))) rfl rfl rfl (x_pick_t (congrArg Value.bool (decide_eq_true hc67)) rfl) ?_
        refine p_v (v := .pointer (some ⟨b23, 0 + c.toNat * 1, none⟩)) rfl rfl rfl (x_indexAddr_arr u24 t4 r25_14 rfl (by first | omega | (simp; omega) | assumption) (by first | omega | (simp; omega) | assumption)) ?_
        obtain ⟨w68, r68, g68, T68⟩ := e_store (P := Tryd.prog) (off := 0 + c.toNat * 1) (v := .bool (decide (c ≤ xto))) (vs := [.bool (decide (c ≤ xto))]) S66 t4 rfl rfl (j := 7) rfl (by rw [encBools_len f25_3]; first | omega | (simp; omega) | assumption) (by simp [Value.oneCell'])
        rw [encBools_put] at T68
        have ok68 : okBools 256 (part.set c.toNat (decide (c ≤ xto))) := okBools_set f25_3 _ _
        have S69 : St w.heap.size w h25 w68 [box b1 27 (encSet a), box b3 27 (encSet b), box b7 24 (encBools (members (words a))), box b13 24 (encBools (members (words b))), box b17 24 (encBools (both.set c.toNat false)), box b19 24 (encBools (one.set c.toNat (at_ (members (words b)) c))), box b21 24 (encBools (not.set c.toNat true)), box b23 24 (encBools (part.set c.toNat (decide (c ≤ xto))))] := T68
        refine p_s rfl rfl (x_store rfl rfl r68) ?_
        refine run_region_end ?_
        refine run_seq ?_
        refine run_seq ?_
        have hf71 : (CFs ⟨b1, 0, none⟩ (encSet a)).1 w68 := (CF.box (m := 4) (S69.box_at (j := 0) rfl) (cs := (encSet a)) rfl)
        have hf72 : (CFs ⟨b7, 0 + c.toNat * 1, none⟩ [.bool (at_ (members (words a)) c)]).1 w68 := (CF.box (m := 1) (S69.box_at (j := 2) rfl) (cs := (encBools (members (words a)))) (encBools_at (by assumption) (by first | omega | (simp; omega) | assumption) (by first | omega | (simp; omega) | assumption)))
        refine da_start [(0, CFs ⟨b1, 0, none⟩ (encSet a)), (6, CFs ⟨b7, 0 + c.toNat * 1, none⟩ [.bool (at_ (members (words a)) c)])] 8 rfl mixed ?_
        intro wd73 gd73 hd73
        have S74 : St w.heap.size w h25 wd73 [box b1 27 (encSet a), box b3 27 (encSet b), box b7 24 (encBools (members (words a))), box b13 24 (encBools (members (words b))), box b17 24 (encBools (both.set c.toNat false)), box b19 24 (encBools (one.set c.toNat (at_ (members (words b)) c))), box b21 24 (encBools (not.set c.toNat true)), box b23 24 (encBools (part.set c.toNat (decide (c ≤ xto))))] := S69.keep gd73
        have hf75 := (CFs ⟨b1, 0, none⟩ (encSet a)).2 _ _ gd73 hf71
        have hf76 := (CFs ⟨b7, 0 + c.toNat * 1, none⟩ [.bool (at_ (members (words a)) c)]).2 _ _ gd73 hf72
        refine d_q (i := 0) (v := .agg (encSet a).toArray) (CF ⟨b1, 0, none⟩ (encSet a)) (fun _ ho => ho _ (List.mem_of_getElem? (i := 0) rfl) rfl) rfl (by decide +kernel) (by decide +kernel) (by decide +kernel) rfl rfl (fun wq hq => (x_load (seg := (encSet a)) t27 rfl (by simp) r25_4 hq)) (of_eq hf75 (of_ne rfl (of_nil _ _))) ?_
        refine d_q (i := 1) (v := .int .i64 c) (fun _ => True) (fun _ ho => trivial) rfl (by decide +kernel) (by decide +kernel) (by decide +kernel) rfl rfl (fun wq hq => (x_move r25_17)) (of_ne rfl (of_ne rfl (of_nil _ _))) ?_
        refine d_q (i := 2) (v := .int .u8 c) (fun _ => True) (fun _ ho => trivial) rfl (by decide +kernel) (by decide +kernel) (by decide +kernel) rfl rfl (fun wq hq => (x_conv u3 u5 rfl (in_u8 (by first | omega | (simp; omega) | assumption) (by first | omega | (simp; omega) | assumption)))) (of_ne rfl (of_ne rfl (of_nil _ _))) ?_
        refine d_m (i := 3) (v := .bool (has a c)) (fun _ => True) (fun _ ho => trivial) rfl (by decide +kernel) (by decide +kernel) (by decide +kernel) rfl rfl (fun wq => (y_call (args := [.agg (encSet a).toArray, .int .u8 c]) c18 rfl rfl)) (fun wq hq => (has_calls wq a c (in_u8 (by first | omega | (simp; omega) | assumption) (by first | omega | (simp; omega) | assumption))).mono fun e w2 he => by obtain ⟨_, rfl, _, T, rfl⟩ := he; exact ⟨rfl, Chg.of_below T.below⟩) (of_ne rfl (of_ne rfl (of_nil _ _))) ?_
        refine d_q (i := 4) (v := .int .i64 c) (fun _ => True) (fun _ ho => trivial) rfl (by decide +kernel) (by decide +kernel) (by decide +kernel) rfl rfl (fun wq hq => (x_move r25_17)) (of_ne rfl (of_ne rfl (of_nil _ _))) ?_
        refine d_q (i := 5) (v := .pointer (some ⟨b7, 0 + c.toNat * 1, none⟩)) (fun _ => True) (fun _ ho => trivial) rfl (by decide +kernel) (by decide +kernel) (by decide +kernel) rfl rfl (fun wq hq => (x_indexAddr_arr u24 t4 r25_9 rfl (by first | omega | (simp; omega) | assumption) (by first | omega | (simp; omega) | assumption))) (of_ne rfl (of_ne rfl (of_nil _ _))) ?_
        refine d_q (i := 6) (v := .bool (at_ (members (words a)) c)) (CF ⟨b7, 0 + c.toNat * 1, none⟩ [.bool (at_ (members (words a)) c)]) (fun _ ho => ho _ (List.mem_of_getElem? (i := 1) rfl) rfl) rfl (by decide +kernel) (by decide +kernel) (by decide +kernel) rfl rfl (fun wq hq => (x_load (seg := [.bool (at_ (members (words a)) c)]) t4 rfl (by simp) rfl hq)) (of_ne rfl (of_eq hf76 (of_nil _ _))) ?_
        refine d_q (i := 7) (v := .bool (decide ((has a c) ≠ false))) (fun _ => True) (fun _ ho => trivial) rfl (by decide +kernel) (by decide +kernel) (by decide +kernel) rfl rfl (fun wq hq => (x_neq_bool u4 rfl (congrArg Value.bool hc27))) (of_ne rfl (of_ne rfl (of_nil _ _))) ?_
        refine ra_done (by decide +kernel) ?_
        intro wd77 gd77
        have S78 : St w.heap.size w h25 wd77 [box b1 27 (encSet a), box b3 27 (encSet b), box b7 24 (encBools (members (words a))), box b13 24 (encBools (members (words b))), box b17 24 (encBools (both.set c.toNat false)), box b19 24 (encBools (one.set c.toNat (at_ (members (words b)) c))), box b21 24 (encBools (not.set c.toNat true)), box b23 24 (encBools (part.set c.toNat (decide (c ≤ xto))))] := S74.keep gd77
        have hc79 : ¬ ((has a c) ≠ false) := by
          have e := has_mem a hI25.1 (by omega)
          rw [e]; first | (rw [(by assumption : at_ (members (words a)) c = true)]; simp) | (rw [(by assumption : at_ (members (words a)) c = false)]; simp)
        refine run_cond (b := false) (congrArg Value.bool (decide_eq_false hc79)) ?_
        simp only [if_true, if_false, Bool.false_eq_true]
        refine run_skip ?_
        refine run_seq ?_
        refine run_seq ?_
        refine run_reg (l := [0, 1, 2]) rfl ?_
        refine p_v (v := .int .i64 c) rfl rfl rfl (x_move r25_17) ?_
        refine p_v (v := .pointer (some ⟨b7, 0 + c.toNat * 1, none⟩)) rfl rfl rfl (x_indexAddr_arr u24 t4 r25_9 rfl (by first | omega | (simp; omega) | assumption) (by first | omega | (simp; omega) | assumption)) ?_
        refine p_v (v := .bool (at_ (members (words a)) c)) rfl rfl rfl (x_load (seg := [.bool (at_ (members (words a)) c)]) t4 rfl (by simp) rfl (CF.box (m := 1) (S78.box_at (j := 2) rfl) (cs := (encBools (members (words a)))) (encBools_at (by assumption) (by first | omega | (simp; omega) | assumption) (by first | omega | (simp; omega) | assumption)))) ?_
        refine run_region_end ?_
        refine run_cond (b := false) (congrArg Value.bool hc27) ?_
        simp only [if_true, if_false, Bool.false_eq_true]
        refine run_skip ?_
        refine run_seq ?_
        refine run_reg (l := [0, 1, 2, 3, 4, 5, 6]) rfl ?_
        refine p_v (v := .int .i64 c) rfl rfl rfl (x_move r25_17) ?_
        refine p_v (v := .pointer (some ⟨b7, 0 + c.toNat * 1, none⟩)) rfl rfl rfl (x_indexAddr_arr u24 t4 r25_9 rfl (by first | omega | (simp; omega) | assumption) (by first | omega | (simp; omega) | assumption)) ?_
        refine p_v (v := .bool (at_ (members (words a)) c)) rfl rfl rfl (x_load (seg := [.bool (at_ (members (words a)) c)]) t4 rfl (by simp) rfl (CF.box (m := 1) (S78.box_at (j := 2) rfl) (cs := (encBools (members (words a)))) (encBools_at (by assumption) (by first | omega | (simp; omega) | assumption) (by first | omega | (simp; omega) | assumption)))) ?_
        refine p_v (v := .bool false) rfl rfl rfl (x_move (congrArg Value.bool hc27)) ?_
        refine p_off rfl rfl rfl ?_
        refine p_off rfl rfl rfl ?_
        refine p_v (v := .bool false) rfl rfl rfl (x_pick_f rfl rfl) ?_
        refine run_region_end ?_
        refine run_cond (b := false) rfl ?_
        simp only [if_true, if_false, Bool.false_eq_true]
        refine run_skip ?_
        refine run_inBlock ?_
        refine run_reg (l := [0, 1, 2]) rfl ?_
        refine p_v (v := .int .i64 c) rfl rfl rfl (x_move r25_17) ?_
        refine p_v (v := .int .i64 (c + 1)) rfl rfl rfl (x_add rfl rfl (in_i64 (by first | omega | (simp; omega) | assumption) (by first | omega | (simp; omega) | assumption))) ?_
        refine p_v (v := .int .i64 (c + 1)) rfl rfl rfl (x_assign rfl) ?_
        refine run_region_end ?_
        refine ih25 (both.set c.toNat false, one.set c.toNat (at_ (members (words b)) c), not.set c.toNat true, part.set c.toNat (decide (c ≤ xto)), n, least, c + 1) _ _ (by dsimp only; omega) ⟨h25, le25, S78.sub [0, 1, 2, 3, 4, 5, 6, 7] (by decide) rfl _ rfl, r25_2, r25_3, r25_4, r25_5, r25_9, r25_10, r25_11, r25_12, r25_13, r25_14, r25_15, r25_16, rfl, ok61, ok63, ok65, ok68, f25_4, f25_5, (in_i64 (by first | omega | (simp; omega) | assumption) (by first | omega | (simp; omega) | assumption)), (by exact ⟨by omega, by omega, predTo_step hI25.2.2.1 (by omega) (by omega) (by show _ = (a.getLsbD c.toNat && b.getLsbD c.toNat); rw [← mem_at a hI25.1 (by omega), ← mem_at b hI25.1 (by omega)]; first | (rw [(by assumption : at_ (members (words a)) c = true)]; simp) | (rw [(by assumption : at_ (members (words a)) c = false)]; simp)), predTo_step hI25.2.2.2.1 (by omega) (by omega) (by show _ = (a.getLsbD c.toNat || b.getLsbD c.toNat); rw [← mem_at a hI25.1 (by omega), ← mem_at b hI25.1 (by omega)]; first | (rw [(by assumption : at_ (members (words a)) c = true)]; simp) | (rw [(by assumption : at_ (members (words a)) c = false)]; simp)), predTo_step hI25.2.2.2.2.1 (by omega) (by omega) (by show _ = (!a.getLsbD c.toNat); rw [← mem_at a hI25.1 (by omega)]; first | (rw [(by assumption : at_ (members (words a)) c = true)]; simp) | (rw [(by assumption : at_ (members (words a)) c = false)]; simp)), predTo_step hI25.2.2.2.2.2.1 (by omega) (by omega) (by have e : ((c.toNat : Nat) : Int) = c := (by omega); simp only [e]; first | (exact (decide_eq_decide.2 (by omega))) | (exact (decide_eq_false (by omega)).symm)), (by first | (rw [num_T a hI25.1 (by omega) (by assumption), ← hI25.2.2.2.2.2.2.1]) | (rw [num_F a hI25.1 (by omega) (by assumption), ← hI25.2.2.2.2.2.2.1])), (by have hl := hI25.2.2.2.2.2.2.2; first | (rw [least_F a hI25.1 (by omega) (by assumption), ← hl]) | (rw [least_T1 a hI25.1 (by omega) (by assumption) (by omega)]) | (rw [least_T2 a hI25.1 (by omega) (by omega), ← hl]))⟩)⟩
      · skip
        refine p_off rfl (wanted_of (j := 5) (want := true) (d := 62) (b := false) rfl rfl (congrArg Value.bool (decide_eq_false hc67)) rfl) rfl ?_
        refine p_off rfl (wanted_of (j := 5) (want := true) (d := 62) (b := false) rfl rfl (congrArg Value.bool (decide_eq_false hc67)) rfl) rfl ?_
        refine p_off rfl (wanted_of (j := 5) (want := true) (d := 62) (b := false) rfl rfl (congrArg Value.bool (decide_eq_false hc67)) rfl) rfl ?_
        refine p_off rfl (wanted_of (j := 5) (want := true) (d := 62) (b := false) rfl rfl (congrArg Value.bool (decide_eq_false hc67)) rfl) rfl ?_
        refine p_v (v := .bool false) rfl rfl rfl (x_pick_f (congrArg Value.bool (decide_eq_false hc67)) rfl) ?_
        refine p_v (v := .pointer (some ⟨b23, 0 + c.toNat * 1, none⟩)) rfl rfl rfl (x_indexAddr_arr u24 t4 r25_14 rfl (by first | omega | (simp; omega) | assumption) (by first | omega | (simp; omega) | assumption)) ?_
        obtain ⟨w80, r80, g80, T80⟩ := e_store (P := Tryd.prog) (off := 0 + c.toNat * 1) (v := .bool false) (vs := [.bool false]) S66 t4 rfl rfl (j := 7) rfl (by rw [encBools_len f25_3]; first | omega | (simp; omega) | assumption) (by simp [Value.oneCell'])
        rw [encBools_put] at T80
        have ok80 : okBools 256 (part.set c.toNat false) := okBools_set f25_3 _ _
        have S81 : St w.heap.size w h25 w80 [box b1 27 (encSet a), box b3 27 (encSet b), box b7 24 (encBools (members (words a))), box b13 24 (encBools (members (words b))), box b17 24 (encBools (both.set c.toNat false)), box b19 24 (encBools (one.set c.toNat (at_ (members (words b)) c))), box b21 24 (encBools (not.set c.toNat true)), box b23 24 (encBools (part.set c.toNat false))] := T80
        refine p_s rfl rfl (x_store rfl rfl r80) ?_
        refine run_region_end ?_
        refine run_seq ?_
        refine run_seq ?_
        have hf83 : (CFs ⟨b1, 0, none⟩ (encSet a)).1 w80 := (CF.box (m := 4) (S81.box_at (j := 0) rfl) (cs := (encSet a)) rfl)
        have hf84 : (CFs ⟨b7, 0 + c.toNat * 1, none⟩ [.bool (at_ (members (words a)) c)]).1 w80 := (CF.box (m := 1) (S81.box_at (j := 2) rfl) (cs := (encBools (members (words a)))) (encBools_at (by assumption) (by first | omega | (simp; omega) | assumption) (by first | omega | (simp; omega) | assumption)))
        refine da_start [(0, CFs ⟨b1, 0, none⟩ (encSet a)), (6, CFs ⟨b7, 0 + c.toNat * 1, none⟩ [.bool (at_ (members (words a)) c)])] 8 rfl mixed ?_
        intro wd85 gd85 hd85
        have S86 : St w.heap.size w h25 wd85 [box b1 27 (encSet a), box b3 27 (encSet b), box b7 24 (encBools (members (words a))), box b13 24 (encBools (members (words b))), box b17 24 (encBools (both.set c.toNat false)), box b19 24 (encBools (one.set c.toNat (at_ (members (words b)) c))), box b21 24 (encBools (not.set c.toNat true)), box b23 24 (encBools (part.set c.toNat false))] := S81.keep gd85
        have hf87 := (CFs ⟨b1, 0, none⟩ (encSet a)).2 _ _ gd85 hf83
        have hf88 := (CFs ⟨b7, 0 + c.toNat * 1, none⟩ [.bool (at_ (members (words a)) c)]).2 _ _ gd85 hf84
        refine d_q (i := 0) (v := .agg (encSet a).toArray) (CF ⟨b1, 0, none⟩ (encSet a)) (fun _ ho => ho _ (List.mem_of_getElem? (i := 0) rfl) rfl) rfl (by decide +kernel) (by decide +kernel) (by decide +kernel) rfl rfl (fun wq hq => (x_load (seg := (encSet a)) t27 rfl (by simp) r25_4 hq)) (of_eq hf87 (of_ne rfl (of_nil _ _))) ?_
        refine d_q (i := 1) (v := .int .i64 c) (fun _ => True) (fun _ ho => trivial) rfl (by decide +kernel) (by decide +kernel) (by decide +kernel) rfl rfl (fun wq hq => (x_move r25_17)) (of_ne rfl (of_ne rfl (of_nil _ _))) ?_
        refine d_q (i := 2) (v := .int .u8 c) (fun _ => True) (fun _ ho => trivial) rfl (by decide +kernel) (by decide +kernel) (by decide +kernel) rfl rfl (fun wq hq => (x_conv u3 u5 rfl (in_u8 (by first | omega | (simp; omega) | assumption) (by first | omega | (simp; omega) | assumption)))) (of_ne rfl (of_ne rfl (of_nil _ _))) ?_
        refine d_m (i := 3) (v := .bool (has a c)) (fun _ => True) (fun _ ho => trivial) rfl (by decide +kernel) (by decide +kernel) (by decide +kernel) rfl rfl (fun wq => (y_call (args := [.agg (encSet a).toArray, .int .u8 c]) c18 rfl rfl)) (fun wq hq => (has_calls wq a c (in_u8 (by first | omega | (simp; omega) | assumption) (by first | omega | (simp; omega) | assumption))).mono fun e w2 he => by obtain ⟨_, rfl, _, T, rfl⟩ := he; exact ⟨rfl, Chg.of_below T.below⟩) (of_ne rfl (of_ne rfl (of_nil _ _))) ?_
        refine d_q (i := 4) (v := .int .i64 c) (fun _ => True) (fun _ ho => trivial) rfl (by decide +kernel) (by decide +kernel) (by decide +kernel) rfl rfl (fun wq hq => (x_move r25_17)) (of_ne rfl (of_ne rfl (of_nil _ _))) ?_
        refine d_q (i := 5) (v := .pointer (some ⟨b7, 0 + c.toNat * 1, none⟩)) (fun _ => True) (fun _ ho => trivial) rfl (by decide +kernel) (by decide +kernel) (by decide +kernel) rfl rfl (fun wq hq => (x_indexAddr_arr u24 t4 r25_9 rfl (by first | omega | (simp; omega) | assumption) (by first | omega | (simp; omega) | assumption))) (of_ne rfl (of_ne rfl (of_nil _ _))) ?_
        refine d_q (i := 6) (v := .bool (at_ (members (words a)) c)) (CF ⟨b7, 0 + c.toNat * 1, none⟩ [.bool (at_ (members (words a)) c)]) (fun _ ho => ho _ (List.mem_of_getElem? (i := 1) rfl) rfl) rfl (by decide +kernel) (by decide +kernel) (by decide +kernel) rfl rfl (fun wq hq => (x_load (seg := [.bool (at_ (members (words a)) c)]) t4 rfl (by simp) rfl hq)) (of_ne rfl (of_eq hf88 (of_nil _ _))) ?_
        refine d_q (i := 7) (v := .bool (decide ((has a c) ≠ false))) (fun _ => True) (fun _ ho => trivial) rfl (by decide +kernel) (by decide +kernel) (by decide +kernel) rfl rfl (fun wq hq => (x_neq_bool u4 rfl (congrArg Value.bool hc27))) (of_ne rfl (of_ne rfl (of_nil _ _))) ?_
        refine ra_done (by decide +kernel) ?_
        intro wd89 gd89
        have S90 : St w.heap.size w h25 wd89 [box b1 27 (encSet a), box b3 27 (encSet b), box b7 24 (encBools (members (words a))), box b13 24 (encBools (members (words b))), box b17 24 (encBools (both.set c.toNat false)), box b19 24 (encBools (one.set c.toNat (at_ (members (words b)) c))), box b21 24 (encBools (not.set c.toNat true)), box b23 24 (encBools (part.set c.toNat false))] := S86.keep gd89
        have hc91 : ¬ ((has a c) ≠ false) := by
          have e := has_mem a hI25.1 (by omega)
          rw [e]; first | (rw [(by assumption : at_ (members (words a)) c = true)]; simp) | (rw [(by assumption : at_ (members (words a)) c = false)]; simp)
        refine run_cond (b := false) (congrArg Value.bool (decide_eq_false hc91)) ?_
        simp only [if_true, if_false, Bool.false_eq_true]
        refine run_skip ?_
        refine run_seq ?_
        refine run_seq ?_
        refine run_reg (l := [0, 1, 2]) rfl ?_
        refine p_v (v := .int .i64 c) rfl rfl rfl (x_move r25_17) ?_
        refine p_v (v := .pointer (some ⟨b7, 0 + c.toNat * 1, none⟩)) rfl rfl rfl (x_indexAddr_arr u24 t4 r25_9 rfl (by first | omega | (simp; omega) | assumption) (by first | omega | (simp; omega) | assumption)) ?_
        refine p_v (v := .bool (at_ (members (words a)) c)) rfl rfl rfl (x_load (seg := [.bool (at_ (members (words a)) c)]) t4 rfl (by simp) rfl (CF.box (m := 1) (S90.box_at (j := 2) rfl) (cs := (encBools (members (words a)))) (encBools_at (by assumption) (by first | omega | (simp; omega) | assumption) (by first | omega | (simp; omega) | assumption)))) ?_
        refine run_region_end ?_
        refine run_cond (b := false) (congrArg Value.bool hc27) ?_
        simp only [if_true, if_false, Bool.false_eq_true]
        refine run_skip ?_
        refine run_seq ?_
        refine run_reg (l := [0, 1, 2, 3, 4, 5, 6]) rfl ?_
        refine p_v (v := .int .i64 c) rfl rfl rfl (x_move r25_17) ?_
        refine p_v (v := .pointer (some ⟨b7, 0 + c.toNat * 1, none⟩)) rfl rfl rfl (x_indexAddr_arr u24 t4 r25_9 rfl (by first | omega | (simp; omega) | assumption) (by first | omega | (simp; omega) | assumption)) ?_
        refine p_v (v := .bool (at_ (members (words a)) c)) rfl rfl rfl (x_load (seg := [.bool (at_ (members (words a)) c)]) t4 rfl (by simp) rfl (CF.box (m := 1) (S90.box_at (j := 2) rfl) (cs := (encBools (members (words a)))) (encBools_at (by assumption) (by first | omega | (simp; omega) | assumption) (by first | omega | (simp; omega) | assumption)))) ?_
        refine p_v (v := .bool false) rfl rfl rfl (x_move (congrArg Value.bool hc27)) ?_
        refine p_off rfl rfl rfl ?_
        refine p_off rfl rfl rfl ?_
        refine p_v (v := .bool false) rfl rfl rfl (x_pick_f rfl rfl) ?_
        refine run_region_end ?_
        refine run_cond (b := false) rfl ?_
        simp only [if_true, if_false, Bool.false_eq_true]
        refine run_skip ?_
        refine run_inBlock ?_
        refine run_reg (l := [0, 1, 2]) rfl ?_
        refine p_v (v := .int .i64 c) rfl rfl rfl (x_move r25_17) ?_
        refine p_v (v := .int .i64 (c + 1)) rfl rfl rfl (x_add rfl rfl (in_i64 (by first | omega | (simp; omega) | assumption) (by first | omega | (simp; omega) | assumption))) ?_
        refine p_v (v := .int .i64 (c + 1)) rfl rfl rfl (x_assign rfl) ?_
        refine run_region_end ?_
        refine ih25 (both.set c.toNat false, one.set c.toNat (at_ (members (words b)) c), not.set c.toNat true, part.set c.toNat false, n, least, c + 1) _ _ (by dsimp only; omega) ⟨h25, le25, S90.sub [0, 1, 2, 3, 4, 5, 6, 7] (by decide) rfl _ rfl, r25_2, r25_3, r25_4, r25_5, r25_9, r25_10, r25_11, r25_12, r25_13, r25_14, r25_15, r25_16, rfl, ok61, ok63, ok65, ok80, f25_4, f25_5, (in_i64 (by first | omega | (simp; omega) | assumption) (by first | omega | (simp; omega) | assumption)), (by exact ⟨by omega, by omega, predTo_step hI25.2.2.1 (by omega) (by omega) (by show _ = (a.getLsbD c.toNat && b.getLsbD c.toNat); rw [← mem_at a hI25.1 (by omega), ← mem_at b hI25.1 (by omega)]; first | (rw [(by assumption : at_ (members (words a)) c = true)]; simp) | (rw [(by assumption : at_ (members (words a)) c = false)]; simp)), predTo_step hI25.2.2.2.1 (by omega) (by omega) (by show _ = (a.getLsbD c.toNat || b.getLsbD c.toNat); rw [← mem_at a hI25.1 (by omega), ← mem_at b hI25.1 (by omega)]; first | (rw [(by assumption : at_ (members (words a)) c = true)]; simp) | (rw [(by assumption : at_ (members (words a)) c = false)]; simp)), predTo_step hI25.2.2.2.2.1 (by omega) (by omega) (by show _ = (!a.getLsbD c.toNat); rw [← mem_at a hI25.1 (by omega)]; first | (rw [(by assumption : at_ (members (words a)) c = true)]; simp) | (rw [(by assumption : at_ (members (words a)) c = false)]; simp)), predTo_step hI25.2.2.2.2.2.1 (by omega) (by omega) (by have e : ((c.toNat : Nat) : Int) = c := (by omega); simp only [e]; first | (exact (decide_eq_decide.2 (by omega))) | (exact (decide_eq_false (by omega)).symm)), (by first | (rw [num_T a hI25.1 (by omega) (by assumption), ← hI25.2.2.2.2.2.2.1]) | (rw [num_F a hI25.1 (by omega) (by assumption), ← hI25.2.2.2.2.2.2.1])), (by have hl := hI25.2.2.2.2.2.2.2; first | (rw [least_F a hI25.1 (by omega) (by assumption), ← hl]) | (rw [least_T1 a hI25.1 (by omega) (by assumption) (by omega)]) | (rw [least_T2 a hI25.1 (by omega) (by omega), ← hl]))⟩)⟩
  · skip
    refine run_exit rfl ?_
    refine run_seq ?_
    refine run_reg (l := [0, 1, 2, 3, 4, 5, 6]) rfl ?_
    refine p_v (v := .agg (encSet a).toArray) rfl rfl rfl (x_load (seg := (encSet a)) t27 rfl (by simp) r25_4 (CF.box (m := 4) (S25.box_at (j := 0) rfl) (cs := (encSet a)) rfl)) ?_
    refine p_c rfl rfl rfl (y_call (args := [.agg (encSet a).toArray]) c19 rfl rfl) (first_calls w25 a (Block.st S25 tb)) ?_
    rintro _ w92 ⟨h92, T92, rfl, in92_0⟩
    have S93 : St w.heap.size w h25 w92 [box b1 27 (encSet a), box b3 27 (encSet b), box b7 24 (encBools (members (words a))), box b13 24 (encBools (members (words b))), box b17 24 (encBools both), box b19 24 (encBools one), box b21 24 (encBools not), box b23 24 (encBools part)] := S25.keep (Chg.of_below T92.below)
    have lo_in92_0 := u8_lo in92_0; have hi_in92_0 := u8_hi in92_0
    refine p_v (v := .tuple #[.int .u8 (first a), .bool (someIn a)]) rfl rfl rfl (x_move rfl) ?_
    refine p_v (v := .int .u8 (first a)) rfl rfl rfl (x_extract (vs := [.int .u8 (first a), .bool (someIn a)]) rfl rfl) ?_
    refine p_v (v := .bool (someIn a)) rfl rfl rfl (x_extract (vs := [.int .u8 (first a), .bool (someIn a)]) rfl rfl) ?_
    refine p_v (v := .int .u8 (first a)) rfl rfl rfl (x_assign rfl) ?_
    refine p_v (v := .bool (someIn a)) rfl rfl rfl (x_assign rfl) ?_
    refine run_region_end ?_
    refine run_seq ?_
    refine run_seq ?_
    refine run_reg (l := [0, 1, 2, 3, 4, 5, 6, 7, 8, 9, 10, 11, 12, 13, 14, 15, 16, 17, 18, 19, 20, 21, 22, 23, 24, 25, 26]) rfl ?_
    refine p_v (v := .agg (encSet a).toArray) rfl rfl rfl (x_load (seg := (encSet a)) t27 rfl (by simp) r25_4 (CF.box (m := 4) (S93.box_at (j := 0) rfl) (cs := (encSet a)) rfl)) ?_
    refine p_c rfl rfl rfl (y_call (args := [.agg (encSet a).toArray]) c17 rfl rfl) (count_calls w92 a) ?_
    rintro _ w94 ⟨h94, T94, rfl, in94_0⟩
    have S95 : St w.heap.size w h25 w94 [box b1 27 (encSet a), box b3 27 (encSet b), box b7 24 (encBools (members (words a))), box b13 24 (encBools (members (words b))), box b17 24 (encBools both), box b19 24 (encBools one), box b21 24 (encBools not), box b23 24 (encBools part)] := S93.keep (Chg.of_below T94.below)
    have lo_in94_0 := i64_lo in94_0; have hi_in94_0 := i64_hi in94_0
    have cl94 := count_le a
    refine p_v (v := .int .i64 n) rfl rfl rfl (x_move r25_15) ?_
    refine p_v (v := .bool (decide ((count a) ≠ n))) rfl rfl rfl (x_neq rfl rfl) ?_
    refine p_v (v := .bool (decide ((count a) ≠ n))) rfl rfl rfl (x_move rfl) ?_
    have hc96 : ¬ ((count a) ≠ n) := by
      rw [hI25.2.2.2.2.2.2.1, num_end a (by omega)]; simp
    refine p_v (v := .bool (someIn a)) rfl (wanted_of (j := 4) (want := false) (d := 99) (b := false) rfl rfl (congrArg Value.bool (decide_eq_false hc96)) rfl) rfl (x_move rfl) ?_
    refine p_v (v := .int .i64 n) rfl (wanted_of (j := 4) (want := false) (d := 99) (b := false) rfl rfl (congrArg Value.bool (decide_eq_false hc96)) rfl) rfl (x_move r25_15) ?_
    refine p_v (v := .bool (decide (0 < n))) rfl (wanted_of (j := 4) (want := false) (d := 99) (b := false) rfl rfl (congrArg Value.bool (decide_eq_false hc96)) rfl) rfl (x_gtr rfl rfl) ?_
    refine p_v (v := .bool (decide ((someIn a) ≠ (decide (0 < n))))) rfl (wanted_of (j := 4) (want := false) (d := 99) (b := false) rfl rfl (congrArg Value.bool (decide_eq_false hc96)) rfl) rfl (x_neq_bool u4 rfl rfl) ?_
    refine p_v (v := .bool (decide ((someIn a) ≠ (decide (0 < n))))) rfl rfl rfl (x_pick_f (congrArg Value.bool (decide_eq_false hc96)) rfl) ?_
    refine p_v (v := .bool (decide ((someIn a) ≠ (decide (0 < n))))) rfl rfl rfl (x_move rfl) ?_
    have hc97 : ¬ ((someIn a) ≠ (decide (0 < n))) := by
      rw [hI25.2.2.2.2.2.2.1, num_end a (by omega), some_count]; simp
    refine p_v (v := .bool (someIn a)) rfl (wanted_of (j := 10) (want := false) (d := 105) (b := false) rfl rfl (congrArg Value.bool (decide_eq_false hc97)) rfl) rfl (x_move rfl) ?_
    refine p_v (v := .bool (someIn a)) rfl (wanted_of (j := 10) (want := false) (d := 105) (b := false) rfl rfl (congrArg Value.bool (decide_eq_false hc97)) rfl) rfl (x_move rfl) ?_
    rcases Bool.eq_false_or_eq_true (someIn a) with hc98 | hc98
    · skip
      refine p_v (v := .int .u8 (first a)) rfl (wanted_of (j := 12) (want := true) (d := 107) (b := true) rfl rfl (congrArg Value.bool hc98) rfl) rfl (x_move rfl) ?_
      refine p_v (v := .int .i64 (first a)) rfl (wanted_of (j := 12) (want := true) (d := 107) (b := true) rfl rfl (congrArg Value.bool hc98) rfl) rfl (x_conv u5 u3 rfl (in_i64 (by first | omega | (simp; omega) | assumption) (by first | omega | (simp; omega) | assumption))) ?_
      refine p_v (v := .int .i64 least) rfl (wanted_of (j := 12) (want := true) (d := 107) (b := true) rfl rfl (congrArg Value.bool hc98) rfl) rfl (x_move r25_16) ?_
      refine p_v (v := .bool (decide ((first a) ≠ least))) rfl (wanted_of (j := 12) (want := true) (d := 107) (b := true) rfl rfl (congrArg Value.bool hc98) rfl) rfl (x_neq rfl rfl) ?_
      refine p_v (v := .bool (decide ((first a) ≠ least))) rfl (wanted_of (j := 10) (want := false) (d := 105) (b := false) rfl rfl (congrArg Value.bool (decide_eq_false hc97)) rfl) rfl (x_pick_t (congrArg Value.bool hc98) rfl) ?_
      refine p_v (v := .bool (decide ((first a) ≠ least))) rfl rfl rfl (x_pick_f (congrArg Value.bool (decide_eq_false hc97)) rfl) ?_
      refine p_v (v := .bool (decide ((first a) ≠ least))) rfl rfl rfl (x_move rfl) ?_
      have hc99 : ¬ ((first a) ≠ least) := by
        rw [hI25.2.2.2.2.2.2.2, show c = 256 by omega, first_least a (by assumption)]; simp
      refine p_v (v := .bool true) rfl (wanted_of (j := 19) (want := false) (d := 114) (b := false) rfl rfl (congrArg Value.bool (decide_eq_false hc99)) rfl) rfl (x_move (congrArg Value.bool hc98)) ?_
      refine p_v (v := .bool false) rfl (wanted_of (j := 19) (want := false) (d := 114) (b := false) rfl rfl (congrArg Value.bool (decide_eq_false hc99)) rfl) rfl (x_not (b := true) rfl) ?_
      refine p_v (v := .bool false) rfl (wanted_of (j := 19) (want := false) (d := 114) (b := false) rfl rfl (congrArg Value.bool (decide_eq_false hc99)) rfl) rfl (x_move rfl) ?_
      refine p_off rfl rfl rfl ?_
      refine p_off rfl rfl rfl ?_
      refine p_v (v := .bool false) rfl (wanted_of (j := 19) (want := false) (d := 114) (b := false) rfl rfl (congrArg Value.bool (decide_eq_false hc99)) rfl) rfl (x_pick_f rfl rfl) ?_
      refine p_v (v := .bool false) rfl rfl rfl (x_pick_f (congrArg Value.bool (decide_eq_false hc99)) rfl) ?_
      refine run_region_end ?_
      refine run_cond (b := false) rfl ?_
      simp only [if_true, if_false, Bool.false_eq_true]
      refine run_skip ?_
      refine run_seq ?_
      refine run_reg (l := [0, 1, 2]) rfl ?_
      refine p_v (v := .agg (encSet a).toArray) rfl rfl rfl (x_load (seg := (encSet a)) t27 rfl (by simp) r25_4 (CF.box (m := 4) (S95.box_at (j := 0) rfl) (cs := (encSet a)) rfl)) ?_
      refine p_c rfl rfl rfl (y_call (args := [.agg (encSet a).toArray]) c16 rfl rfl) (list_calls w94 a (Block.st S95 tb)) ?_
      rintro v100_0 w100 ⟨h100, _, T100, rfl⟩
      obtain ⟨k100, lk100, ll100, U100⟩ := call_joins S95 T100
      have lc100_0 := (le25).trans lk100
      have S101 : St w.heap.size w k100 w100 [box b1 27 (encSet a), box b3 27 (encSet b), box b7 24 (encBools (members (words a))), box b13 24 (encBools (members (words b))), box b17 24 (encBools both), box b19 24 (encBools one), box b21 24 (encBools not), box b23 24 (encBools part), row 5 (Kd.int .u8) v100_0 (listOf a)] := U100
      obtain ⟨h102, le102, T102, rp102⟩ := S101.freeze (i := 8) rfl
      have lf102_0 := (lc100_0).trans le102
      have lf102_1 := (lk100).trans le102
      have S103 : St w.heap.size w h102 w100 [box b1 27 (encSet a), box b3 27 (encSet b), box b7 24 (encBools (members (words a))), box b13 24 (encBools (members (words b))), box b17 24 (encBools both), box b19 24 (encBools one), box b21 24 (encBools not), box b23 24 (encBools part), emp] := T102
      obtain ⟨A102, c102, e102, lc102, cm102, ld102⟩ := rp102
      injection e102 with e102 _; subst e102
      have cn102 := cm102; simp only [maxLen] at cn102
      refine p_v (v := .slice A102 (listOf a).length c102) rfl rfl rfl (x_assign rfl) ?_
      refine run_region_end ?_
      refine run_seq ?_
      refine run_reg (l := [0]) rfl ?_
      refine p_v (v := .int .i64 0) rfl rfl rfl (x_assign rfl) ?_
      refine run_region_end ?_
      refine run_seq ?_
      refine run_seq ?_
      refine run_reg (l := [0]) rfl ?_
      refine p_v (v := .int .i64 0) rfl rfl rfl (x_assign rfl) ?_
      refine run_region_end ?_
      refine run_block ?_
      refine run_loop (S := Int × Int) (fun (q_ : Int × Int) ρ w' => match q_ with | (k, c2) => ∃ (h : Ghost), Le h102 h ∧ St w.heap.size w h w' [box b1 27 (encSet a), box b3 27 (encSet b), box b7 24 (encBools (members (words a))), box b17 24 (encBools both), box b19 24 (encBools one), box b21 24 (encBools not), box b23 24 (encBools part)] ∧ ρ 2 = .int .u8 xfrom ∧ ρ 3 = .int .u8 xto ∧ ρ 4 = .pointer (some ⟨b1, 0, none⟩) ∧ ρ 5 = .pointer (some ⟨b3, 0, none⟩) ∧ ρ 9 = .pointer (some ⟨b7, 0, none⟩) ∧ ρ 11 = .pointer (some ⟨b17, 0, none⟩) ∧ ρ 12 = .pointer (some ⟨b19, 0, none⟩) ∧ ρ 13 = .pointer (some ⟨b21, 0, none⟩) ∧ ρ 14 = .pointer (some ⟨b23, 0, none⟩) ∧ ρ 20 = .slice A102 (listOf a).length c102 ∧ ρ 21 = .int .i64 k ∧ ρ 22 = .int .i64 c2 ∧ inK .i64 k ∧ inK .i64 c2 ∧ (0 ≤ c2 ∧ c2 ≤ 256 ∧ k = num_ a c2)) (fun q_ => match q_ with | (k, c2) => (256 - c2).toNat) (0, 0) ⟨h102, Le.refl _, S103.sub [0, 1, 2, 4, 5, 6, 7] (by decide) rfl _ rfl, r25_2, r25_3, r25_4, r25_5, r25_9, r25_11, r25_12, r25_13, r25_14, rfl, rfl, rfl, (in_i64 (by first | omega | (simp; omega) | assumption) (by first | omega | (simp; omega) | assumption)), (in_i64 (by first | omega | (simp; omega) | assumption) (by first | omega | (simp; omega) | assumption)), (by exact ⟨by omega, by omega, num_0 a⟩)⟩ ?_
      rintro ⟨k, c2⟩ ih104 ρ104 w104 ⟨h104, le104, S104, r104_2, r104_3, r104_4, r104_5, r104_9, r104_11, r104_12, r104_13, r104_14, r104_20, r104_21, r104_22, f104_0, f104_1, hI104⟩
      have lf104_0 := i64_lo f104_0; have hf104_0 := i64_hi f104_0
      have lf104_1 := i64_lo f104_1; have hf104_1 := i64_hi f104_1
      have hk := num_le a hI104.1; rw [← hI104.2.2] at hk
      refine run_seq ?_
      refine run_seq ?_
      refine run_reg (l := [0, 1]) rfl ?_
      refine p_v (v := .int .i64 c2) rfl rfl rfl (x_move r104_22) ?_
      refine p_v (v := .bool (decide (c2 < 256))) rfl rfl rfl (x_lss rfl rfl) ?_
      refine run_region_end ?_
      refine run_cond_prop (p := c2 < 256) rfl (fun hc105 => ?_) (fun hc105 => ?_)
      · skip
        refine run_skip ?_
        refine run_seq ?_
        refine run_block ?_
        refine run_seq ?_
        refine run_reg (l := [0, 1, 2]) rfl ?_
        refine p_v (v := .int .i64 c2) rfl rfl rfl (x_move r104_22) ?_
        refine p_v (v := .pointer (some ⟨b7, 0 + c2.toNat * 1, none⟩)) rfl rfl rfl (x_indexAddr_arr u24 t4 r104_9 rfl (by first | omega | (simp; omega) | assumption) (by first | omega | (simp; omega) | assumption)) ?_
        refine p_v (v := .bool (at_ (members (words a)) c2)) rfl rfl rfl (x_load (seg := [.bool (at_ (members (words a)) c2)]) t4 rfl (by simp) rfl (CF.box (m := 1) (S104.box_at (j := 2) rfl) (cs := (encBools (members (words a)))) (encBools_at (by assumption) (by first | omega | (simp; omega) | assumption) (by first | omega | (simp; omega) | assumption)))) ?_
        refine run_region_end ?_
        refine run_cond_split (b := at_ (members (words a)) c2) rfl (fun hc106 => ?_) (fun hc106 => ?_)
        · skip
          refine run_seq ?_
          refine run_seq ?_
          refine run_reg (l := [0, 1, 2, 3, 4, 5, 6, 7, 8, 9, 10, 11, 12]) rfl ?_
          refine p_v (v := .int .i64 k) rfl rfl rfl (x_move r104_21) ?_
          refine p_v (v := .slice A102 (listOf a).length c102) rfl rfl rfl (x_move r104_20) ?_
          refine p_v (v := .int .i64 ((listOf a).length : Int)) rfl rfl rfl (x_len_slice u22 rfl) ?_
          refine p_v (v := .bool (decide (((listOf a).length : Int) ≤ k))) rfl rfl rfl (x_geq rfl rfl) ?_
          refine p_v (v := .bool (decide (((listOf a).length : Int) ≤ k))) rfl rfl rfl (x_move rfl) ?_
          have hc107 : ¬ (((listOf a).length : Int) ≤ k) := by
            have := (list_place a hI104.1 (by omega) (by assumption)).1; omega
          refine p_v (v := .slice A102 (listOf a).length c102) rfl (wanted_of (j := 4) (want := false) (d := 135) (b := false) rfl rfl (congrArg Value.bool (decide_eq_false hc107)) rfl) rfl (x_move r104_20) ?_
          refine p_v (v := .int .i64 k) rfl (wanted_of (j := 4) (want := false) (d := 135) (b := false) rfl rfl (congrArg Value.bool (decide_eq_false hc107)) rfl) rfl (x_move r104_21) ?_
          obtain ⟨ad108, seg108, a108, rp108, ce108⟩ := e_index_ro (q := k) (m := 1) ld102 rfl (by first | omega | (simp; omega) | assumption) (by first | omega | (simp; omega) | assumption)
          refine p_v (v := .pointer (some ad108)) rfl (wanted_of (j := 4) (want := false) (d := 135) (b := false) rfl rfl (congrArg Value.bool (decide_eq_false hc107)) rfl) rfl (x_index_ro u22 t5 rfl rfl a108 (by first | omega | (simp; omega) | assumption) (by first | omega | (simp; omega) | assumption)) ?_
          obtain ⟨rfl, in108⟩ := rp108
          have lo108 := u8_lo in108; have hi108 := u8_hi in108
          refine p_v (v := .int .u8 (at_ (listOf a) k)) rfl (wanted_of (j := 4) (want := false) (d := 135) (b := false) rfl rfl (congrArg Value.bool (decide_eq_false hc107)) rfl) rfl (x_load (seg := [.int .u8 (at_ (listOf a) k)]) t5 rfl (by simp) rfl (CF.ghost ce108 (le104.trans S104.ghost))) ?_
          refine p_v (v := .int .i64 c2) rfl (wanted_of (j := 4) (want := false) (d := 135) (b := false) rfl rfl (congrArg Value.bool (decide_eq_false hc107)) rfl) rfl (x_move r104_22) ?_
          refine p_v (v := .int .u8 c2) rfl (wanted_of (j := 4) (want := false) (d := 135) (b := false) rfl rfl (congrArg Value.bool (decide_eq_false hc107)) rfl) rfl (x_conv u3 u5 rfl (in_u8 (by first | omega | (simp; omega) | assumption) (by first | omega | (simp; omega) | assumption))) ?_
          refine p_v (v := .bool (decide ((at_ (listOf a) k) ≠ c2))) rfl (wanted_of (j := 4) (want := false) (d := 135) (b := false) rfl rfl (congrArg Value.bool (decide_eq_false hc107)) rfl) rfl (x_neq rfl rfl) ?_
          refine p_v (v := .bool (decide ((at_ (listOf a) k) ≠ c2))) rfl rfl rfl (x_pick_f (congrArg Value.bool (decide_eq_false hc107)) rfl) ?_
          refine run_region_end ?_
          have hc109 : ¬ ((at_ (listOf a) k) ≠ c2) := by
            rw [hI104.2.2, (list_place a hI104.1 (by omega) (by assumption)).2]; simp
          refine run_cond (b := false) (congrArg Value.bool (decide_eq_false hc109)) ?_
          simp only [if_true, if_false, Bool.false_eq_true]
          refine run_skip ?_
          refine run_reg (l := [0, 1, 2]) rfl ?_
          refine p_v (v := .int .i64 k) rfl rfl rfl (x_move r104_21) ?_
          refine p_v (v := .int .i64 (k + 1)) rfl rfl rfl (x_add rfl rfl (in_i64 (by first | omega | (simp; omega) | assumption) (by first | omega | (simp; omega) | assumption))) ?_
          refine p_v (v := .int .i64 (k + 1)) rfl rfl rfl (x_assign rfl) ?_
          refine run_region_end ?_
          refine run_inBlock ?_
          refine run_reg (l := [0, 1, 2]) rfl ?_
          refine p_v (v := .int .i64 c2) rfl rfl rfl (x_move r104_22) ?_
          refine p_v (v := .int .i64 (c2 + 1)) rfl rfl rfl (x_add rfl rfl (in_i64 (by first | omega | (simp; omega) | assumption) (by first | omega | (simp; omega) | assumption))) ?_
          refine p_v (v := .int .i64 (c2 + 1)) rfl rfl rfl (x_assign rfl) ?_
          refine run_region_end ?_
          refine ih104 (k + 1, c2 + 1) _ _ (by dsimp only; omega) ⟨h104, le104, S104.sub [0, 1, 2, 3, 4, 5, 6] (by decide) rfl _ rfl, r104_2, r104_3, r104_4, r104_5, r104_9, r104_11, r104_12, r104_13, r104_14, r104_20, rfl, rfl, (in_i64 (by first | omega | (simp; omega) | assumption) (by first | omega | (simp; omega) | assumption)), (in_i64 (by first | omega | (simp; omega) | assumption) (by first | omega | (simp; omega) | assumption)), (by exact ⟨by omega, by omega, by first | (rw [num_T a hI104.1 (by omega) (by assumption), ← hI104.2.2]) | (rw [num_F a hI104.1 (by omega) (by assumption), ← hI104.2.2])⟩)⟩
        · skip
          refine run_skip ?_
          refine run_inBlock ?_
          refine run_reg (l := [0, 1, 2]) rfl ?_
          refine p_v (v := .int .i64 c2) rfl rfl rfl (x_move r104_22) ?_
          refine p_v (v := .int .i64 (c2 + 1)) rfl rfl rfl (x_add rfl rfl (in_i64 (by first | omega | (simp; omega) | assumption) (by first | omega | (simp; omega) | assumption))) ?_
          refine p_v (v := .int .i64 (c2 + 1)) rfl rfl rfl (x_assign rfl) ?_
          refine run_region_end ?_
          refine ih104 (k, c2 + 1) _ _ (by dsimp only; omega) ⟨h104, le104, S104.sub [0, 1, 2, 3, 4, 5, 6] (by decide) rfl _ rfl, r104_2, r104_3, r104_4, r104_5, r104_9, r104_11, r104_12, r104_13, r104_14, r104_20, r104_21, rfl, f104_0, (in_i64 (by first | omega | (simp; omega) | assumption) (by first | omega | (simp; omega) | assumption)), (by exact ⟨by omega, by omega, by first | (rw [num_T a hI104.1 (by omega) (by assumption), ← hI104.2.2]) | (rw [num_F a hI104.1 (by omega) (by assumption), ← hI104.2.2])⟩)⟩
      · skip
        refine run_exit rfl ?_
        refine run_seq ?_
        refine run_seq ?_
        refine run_reg (l := [0, 1, 2, 3]) rfl ?_
        refine p_v (v := .int .i64 k) rfl rfl rfl (x_move r104_21) ?_
        refine p_v (v := .slice A102 (listOf a).length c102) rfl rfl rfl (x_move r104_20) ?_
        refine p_v (v := .int .i64 ((listOf a).length : Int)) rfl rfl rfl (x_len_slice u22 rfl) ?_
        refine p_v (v := .bool (decide (k ≠ ((listOf a).length : Int)))) rfl rfl rfl (x_neq rfl rfl) ?_
        refine run_region_end ?_
        have hc110 : ¬ (k ≠ ((listOf a).length : Int)) := by
          rw [hI104.2.2, num_end a (by omega), list_len]; simp
        refine run_cond (b := false) (congrArg Value.bool (decide_eq_false hc110)) ?_
        simp only [if_true, if_false, Bool.false_eq_true]
        refine run_skip ?_
        refine run_seq ?_
        obtain ⟨_, _, _, _, _, _, _, ok112_0⟩ := calls_some (pack_calls w104 both f25_0)
        have hc113 : ((a &&& b) = (ofWords (pack both))) := by
          exact pack_pred hI25.2.2.1 (by omega) fun i hi => by simp
        obtain ⟨_, _, _, _, _, _, _, ok115_0⟩ := calls_some (pack_calls w104 one f25_1)
        have hc116 : ((a ||| b) = (ofWords (pack one))) := by
          exact pack_pred hI25.2.2.2.1 (by omega) fun i hi => by simp
        obtain ⟨_, _, _, _, _, _, _, ok118_0⟩ := calls_some (pack_calls w104 not f25_2)
        have hc119 : ((~~~ a) = (ofWords (pack not))) := by
          exact pack_pred hI25.2.2.2.2.1 (by omega) fun i hi => by simp [hi]
        obtain ⟨_, _, _, _, _, _, _, ok121_0⟩ := calls_some (pack_calls w104 part f25_3)
        have hc122 : ((setRange xfrom xto) = (ofWords (pack part))) := by
          exact pack_pred hI25.2.2.2.2.2.1 (by omega) fun i hi => by unfold setRange; exact pred_bit _ hi
        have hf124 : (CFs ⟨b1, 0, none⟩ (encSet a)).1 w104 := (CF.box (m := 4) (S104.box_at (j := 0) rfl) (cs := (encSet a)) rfl)
        have hf125 : (CFs ⟨b3, 0, none⟩ (encSet b)).1 w104 := (CF.box (m := 4) (S104.box_at (j := 1) rfl) (cs := (encSet b)) rfl)
        have hf126 : (CFs ⟨b17, 0, none⟩ (encBools both)).1 w104 := (CF.box (m := 256) (S104.box_at (j := 3) rfl) (cs := (encBools both)) (encBools_full f25_0))
        have hf127 : (CFs ⟨b1, 0, none⟩ (encSet a)).1 w104 := (CF.box (m := 4) (S104.box_at (j := 0) rfl) (cs := (encSet a)) rfl)
        have hf128 : (CFs ⟨b3, 0, none⟩ (encSet b)).1 w104 := (CF.box (m := 4) (S104.box_at (j := 1) rfl) (cs := (encSet b)) rfl)
        have hf129 : (CFs ⟨b19, 0, none⟩ (encBools one)).1 w104 := (CF.box (m := 256) (S104.box_at (j := 4) rfl) (cs := (encBools one)) (encBools_full f25_1))
        have hf130 : (CFs ⟨b1, 0, none⟩ (encSet a)).1 w104 := (CF.box (m := 4) (S104.box_at (j := 0) rfl) (cs := (encSet a)) rfl)
        have hf131 : (CFs ⟨b21, 0, none⟩ (encBools not)).1 w104 := (CF.box (m := 256) (S104.box_at (j := 5) rfl) (cs := (encBools not)) (encBools_full f25_2))
        have hf132 : (CFs ⟨b23, 0, none⟩ (encBools part)).1 w104 := (CF.box (m := 256) (S104.box_at (j := 6) rfl) (cs := (encBools part)) (encBools_full f25_3))
        have hf133 : (BlockS 0 tzTab).1 w104 := (Block.st S104 tb)
        refine da_start [(0, CFs ⟨b1, 0, none⟩ (encSet a)), (1, CFs ⟨b3, 0, none⟩ (encSet b)), (3, CFs ⟨b17, 0, none⟩ (encBools both)), (7, CFs ⟨b1, 0, none⟩ (encSet a)), (8, CFs ⟨b3, 0, none⟩ (encSet b)), (10, CFs ⟨b19, 0, none⟩ (encBools one)), (15, CFs ⟨b1, 0, none⟩ (encSet a)), (17, CFs ⟨b21, 0, none⟩ (encBools not)), (25, CFs ⟨b23, 0, none⟩ (encBools part)), (30, BlockS 0 tzTab)] 33 rfl mixed ?_
        intro wd134 gd134 hd134
        have S135 : St w.heap.size w h104 wd134 [box b1 27 (encSet a), box b3 27 (encSet b), box b7 24 (encBools (members (words a))), box b17 24 (encBools both), box b19 24 (encBools one), box b21 24 (encBools not), box b23 24 (encBools part)] := S104.keep gd134
        have hf136 := (CFs ⟨b1, 0, none⟩ (encSet a)).2 _ _ gd134 hf124
        have hf137 := (CFs ⟨b3, 0, none⟩ (encSet b)).2 _ _ gd134 hf125
        have hf138 := (CFs ⟨b17, 0, none⟩ (encBools both)).2 _ _ gd134 hf126
        have hf139 := (CFs ⟨b1, 0, none⟩ (encSet a)).2 _ _ gd134 hf127
        have hf140 := (CFs ⟨b3, 0, none⟩ (encSet b)).2 _ _ gd134 hf128
        have hf141 := (CFs ⟨b19, 0, none⟩ (encBools one)).2 _ _ gd134 hf129
        have hf142 := (CFs ⟨b1, 0, none⟩ (encSet a)).2 _ _ gd134 hf130
        have hf143 := (CFs ⟨b21, 0, none⟩ (encBools not)).2 _ _ gd134 hf131
        have hf144 := (CFs ⟨b23, 0, none⟩ (encBools part)).2 _ _ gd134 hf132
        have hf145 := (BlockS 0 tzTab).2 _ _ gd134 hf133
        refine d_q (i := 0) (v := .agg (encSet a).toArray) (CF ⟨b1, 0, none⟩ (encSet a)) (fun _ ho => ho _ (List.mem_of_getElem? (i := 0) rfl) rfl) rfl (by decide +kernel) (by decide +kernel) (by decide +kernel) rfl rfl (fun wq hq => (x_load (seg := (encSet a)) t27 rfl (by simp) r104_4 hq)) (of_eq hf136 (of_ne rfl (of_ne rfl (of_ne rfl (of_ne rfl (of_ne rfl (of_ne rfl (of_ne rfl (of_ne rfl (of_ne rfl (of_nil _ _))))))))))) ?_
        refine d_q (i := 1) (v := .agg (encSet b).toArray) (CF ⟨b3, 0, none⟩ (encSet b)) (fun _ ho => ho _ (List.mem_of_getElem? (i := 1) rfl) rfl) rfl (by decide +kernel) (by decide +kernel) (by decide +kernel) rfl rfl (fun wq hq => (x_load (seg := (encSet b)) t27 rfl (by simp) r104_5 hq)) (of_ne rfl (of_eq hf137 (of_ne rfl (of_ne rfl (of_ne rfl (of_ne rfl (of_ne rfl (of_ne rfl (of_ne rfl (of_ne rfl (of_nil _ _))))))))))) ?_
        refine d_m (i := 2) (v := .agg (encSet (a &&& b)).toArray) (fun _ => True) (fun _ ho => trivial) rfl (by decide +kernel) (by decide +kernel) (by decide +kernel) rfl rfl (fun wq => (y_call (args := [.agg (encSet a).toArray, .agg (encSet b).toArray]) c24 rfl rfl)) (fun wq hq => (and_calls wq a b).mono fun e w2 he => by obtain ⟨_, rfl, _, T, rfl⟩ := he; exact ⟨rfl, Chg.of_below T.below⟩) (of_ne rfl (of_ne rfl (of_ne rfl (of_ne rfl (of_ne rfl (of_ne rfl (of_ne rfl (of_ne rfl (of_ne rfl (of_ne rfl (of_nil _ _))))))))))) ?_
        refine d_q (i := 3) (v := .agg (encBools both).toArray) (CF ⟨b17, 0, none⟩ (encBools both)) (fun _ ho => ho _ (List.mem_of_getElem? (i := 2) rfl) rfl) rfl (by decide +kernel) (by decide +kernel) (by decide +kernel) rfl rfl (fun wq hq => (x_load (seg := (encBools both)) t24 (encBools_len f25_0) (by simp) r104_11 hq)) (of_ne rfl (of_ne rfl (of_eq hf138 (of_ne rfl (of_ne rfl (of_ne rfl (of_ne rfl (of_ne rfl (of_ne rfl (of_ne rfl (of_nil _ _))))))))))) ?_
        refine d_m (i := 4) (v := .agg (encInts .u64 (pack both)).toArray) (fun _ => True) (fun _ ho => trivial) rfl (by decide +kernel) (by decide +kernel) (by decide +kernel) rfl rfl (fun wq => (y_call (args := [.agg (encBools both).toArray]) c15 rfl rfl)) (fun wq hq => (pack_calls wq both f25_0).mono fun e w2 he => by obtain ⟨_, rfl, _, T, rfl, _⟩ := he; exact ⟨rfl, Chg.of_below T.below⟩) (of_ne rfl (of_ne rfl (of_ne rfl (of_ne rfl (of_ne rfl (of_ne rfl (of_ne rfl (of_ne rfl (of_ne rfl (of_ne rfl (of_nil _ _))))))))))) ?_
        refine d_q (i := 5) (v := .bool (decide ((a &&& b) = (ofWords (pack both))))) (fun _ => True) (fun _ ho => trivial) rfl (by decide +kernel) (by decide +kernel) (by decide +kernel) rfl rfl (fun wq hq => (x_eql_set u27 u25 t25 q27 rfl (Eq.trans (b := .agg (encInts .u64 (pack both)).toArray) rfl (congrArg (fun z : List Value => Value.agg z.toArray) (encSet_of ok112_0))))) (of_ne rfl (of_ne rfl (of_ne rfl (of_ne rfl (of_ne rfl (of_ne rfl (of_ne rfl (of_ne rfl (of_ne rfl (of_ne rfl (of_nil _ _))))))))))) ?_
        refine d_q (i := 6) (v := .bool (decide ((a &&& b) = (ofWords (pack both))))) (fun _ => True) (fun _ ho => trivial) rfl (by decide +kernel) (by decide +kernel) (by decide +kernel) rfl rfl (fun wq hq => (x_move rfl)) (of_ne rfl (of_ne rfl (of_ne rfl (of_ne rfl (of_ne rfl (of_ne rfl (of_ne rfl (of_ne rfl (of_ne rfl (of_ne rfl (of_nil _ _))))))))))) ?_
        refine d_q (i := 7) (v := .agg (encSet a).toArray) (CF ⟨b1, 0, none⟩ (encSet a)) (fun _ ho => ho _ (List.mem_of_getElem? (i := 3) rfl) rfl) rfl (by decide +kernel) (by decide +kernel) (by decide +kernel) (wanted_of (j := 6) (want := true) (d := 156) (b := true) rfl rfl (congrArg Value.bool (decide_eq_true hc113)) rfl) rfl (fun wq hq => (x_load (seg := (encSet a)) t27 rfl (by simp) r104_4 hq)) (of_ne rfl (of_ne rfl (of_ne rfl (of_eq hf139 (of_ne rfl (of_ne rfl (of_ne rfl (of_ne rfl (of_ne rfl (of_ne rfl (of_nil _ _))))))))))) ?_
        refine d_q (i := 8) (v := .agg (encSet b).toArray) (CF ⟨b3, 0, none⟩ (encSet b)) (fun _ ho => ho _ (List.mem_of_getElem? (i := 4) rfl) rfl) rfl (by decide +kernel) (by decide +kernel) (by decide +kernel) (wanted_of (j := 6) (want := true) (d := 156) (b := true) rfl rfl (congrArg Value.bool (decide_eq_true hc113)) rfl) rfl (fun wq hq => (x_load (seg := (encSet b)) t27 rfl (by simp) r104_5 hq)) (of_ne rfl (of_ne rfl (of_ne rfl (of_ne rfl (of_eq hf140 (of_ne rfl (of_ne rfl (of_ne rfl (of_ne rfl (of_ne rfl (of_nil _ _))))))))))) ?_
        refine d_m (i := 9) (v := .agg (encSet (a ||| b)).toArray) (fun _ => True) (fun _ ho => trivial) rfl (by decide +kernel) (by decide +kernel) (by decide +kernel) (wanted_of (j := 6) (want := true) (d := 156) (b := true) rfl rfl (congrArg Value.bool (decide_eq_true hc113)) rfl) rfl (fun wq => (y_call (args := [.agg (encSet a).toArray, .agg (encSet b).toArray]) c25 rfl rfl)) (fun wq hq => (or_calls wq a b).mono fun e w2 he => by obtain ⟨_, rfl, _, T, rfl⟩ := he; exact ⟨rfl, Chg.of_below T.below⟩) (of_ne rfl (of_ne rfl (of_ne rfl (of_ne rfl (of_ne rfl (of_ne rfl (of_ne rfl (of_ne rfl (of_ne rfl (of_ne rfl (of_nil _ _))))))))))) ?_
        refine d_q (i := 10) (v := .agg (encBools one).toArray) (CF ⟨b19, 0, none⟩ (encBools one)) (fun _ ho => ho _ (List.mem_of_getElem? (i := 5) rfl) rfl) rfl (by decide +kernel) (by decide +kernel) (by decide +kernel) (wanted_of (j := 6) (want := true) (d := 156) (b := true) rfl rfl (congrArg Value.bool (decide_eq_true hc113)) rfl) rfl (fun wq hq => (x_load (seg := (encBools one)) t24 (encBools_len f25_1) (by simp) r104_12 hq)) (of_ne rfl (of_ne rfl (of_ne rfl (of_ne rfl (of_ne rfl (of_eq hf141 (of_ne rfl (of_ne rfl (of_ne rfl (of_ne rfl (of_nil _ _))))))))))) ?_
        refine d_m (i := 11) (v := .agg (encInts .u64 (pack one)).toArray) (fun _ => True) (fun _ ho => trivial) rfl (by decide +kernel) (by decide +kernel) (by decide +kernel) (wanted_of (j := 6) (want := true) (d := 156) (b := true) rfl rfl (congrArg Value.bool (decide_eq_true hc113)) rfl) rfl (fun wq => (y_call (args := [.agg (encBools one).toArray]) c15 rfl rfl)) (fun wq hq => (pack_calls wq one f25_1).mono fun e w2 he => by obtain ⟨_, rfl, _, T, rfl, _⟩ := he; exact ⟨rfl, Chg.of_below T.below⟩) (of_ne rfl (of_ne rfl (of_ne rfl (of_ne rfl (of_ne rfl (of_ne rfl (of_ne rfl (of_ne rfl (of_ne rfl (of_ne rfl (of_nil _ _))))))))))) ?_
        refine d_q (i := 12) (v := .bool (decide ((a ||| b) = (ofWords (pack one))))) (fun _ => True) (fun _ ho => trivial) rfl (by decide +kernel) (by decide +kernel) (by decide +kernel) (wanted_of (j := 6) (want := true) (d := 156) (b := true) rfl rfl (congrArg Value.bool (decide_eq_true hc113)) rfl) rfl (fun wq hq => (x_eql_set u27 u25 t25 q27 rfl (Eq.trans (b := .agg (encInts .u64 (pack one)).toArray) rfl (congrArg (fun z : List Value => Value.agg z.toArray) (encSet_of ok115_0))))) (of_ne rfl (of_ne rfl (of_ne rfl (of_ne rfl (of_ne rfl (of_ne rfl (of_ne rfl (of_ne rfl (of_ne rfl (of_ne rfl (of_nil _ _))))))))))) ?_
        refine d_q (i := 13) (v := .bool (decide ((a ||| b) = (ofWords (pack one))))) (fun _ => True) (fun _ ho => trivial) rfl (by decide +kernel) (by decide +kernel) (by decide +kernel) rfl rfl (fun wq hq => (x_pick_t (congrArg Value.bool (decide_eq_true hc113)) rfl)) (of_ne rfl (of_ne rfl (of_ne rfl (of_ne rfl (of_ne rfl (of_ne rfl (of_ne rfl (of_ne rfl (of_ne rfl (of_ne rfl (of_nil _ _))))))))))) ?_
        refine d_q (i := 14) (v := .bool (decide ((a ||| b) = (ofWords (pack one))))) (fun _ => True) (fun _ ho => trivial) rfl (by decide +kernel) (by decide +kernel) (by decide +kernel) rfl rfl (fun wq hq => (x_move rfl)) (of_ne rfl (of_ne rfl (of_ne rfl (of_ne rfl (of_ne rfl (of_ne rfl (of_ne rfl (of_ne rfl (of_ne rfl (of_ne rfl (of_nil _ _))))))))))) ?_
        refine d_q (i := 15) (v := .agg (encSet a).toArray) (CF ⟨b1, 0, none⟩ (encSet a)) (fun _ ho => ho _ (List.mem_of_getElem? (i := 6) rfl) rfl) rfl (by decide +kernel) (by decide +kernel) (by decide +kernel) (wanted_of (j := 14) (want := true) (d := 164) (b := true) rfl rfl (congrArg Value.bool (decide_eq_true hc116)) rfl) rfl (fun wq hq => (x_load (seg := (encSet a)) t27 rfl (by simp) r104_4 hq)) (of_ne rfl (of_ne rfl (of_ne rfl (of_ne rfl (of_ne rfl (of_ne rfl (of_eq hf142 (of_ne rfl (of_ne rfl (of_ne rfl (of_nil _ _))))))))))) ?_
        refine d_m (i := 16) (v := .agg (encSet (~~~ a)).toArray) (fun _ => True) (fun _ ho => trivial) rfl (by decide +kernel) (by decide +kernel) (by decide +kernel) (wanted_of (j := 14) (want := true) (d := 164) (b := true) rfl rfl (congrArg Value.bool (decide_eq_true hc116)) rfl) rfl (fun wq => (y_call (args := [.agg (encSet a).toArray]) c21 rfl rfl)) (fun wq hq => (not_calls wq a).mono fun e w2 he => by obtain ⟨_, rfl, _, T, rfl⟩ := he; exact ⟨rfl, Chg.of_below T.below⟩) (of_ne rfl (of_ne rfl (of_ne rfl (of_ne rfl (of_ne rfl (of_ne rfl (of_ne rfl (of_ne rfl (of_ne rfl (of_ne rfl (of_nil _ _))))))))))) ?_
        refine d_q (i := 17) (v := .agg (encBools not).toArray) (CF ⟨b21, 0, none⟩ (encBools not)) (fun _ ho => ho _ (List.mem_of_getElem? (i := 7) rfl) rfl) rfl (by decide +kernel) (by decide +kernel) (by decide +kernel) (wanted_of (j := 14) (want := true) (d := 164) (b := true) rfl rfl (congrArg Value.bool (decide_eq_true hc116)) rfl) rfl (fun wq hq => (x_load (seg := (encBools not)) t24 (encBools_len f25_2) (by simp) r104_13 hq)) (of_ne rfl (of_ne rfl (of_ne rfl (of_ne rfl (of_ne rfl (of_ne rfl (of_ne rfl (of_eq hf143 (of_ne rfl (of_ne rfl (of_nil _ _))))))))))) ?_
        refine d_m (i := 18) (v := .agg (encInts .u64 (pack not)).toArray) (fun _ => True) (fun _ ho => trivial) rfl (by decide +kernel) (by decide +kernel) (by decide +kernel) (wanted_of (j := 14) (want := true) (d := 164) (b := true) rfl rfl (congrArg Value.bool (decide_eq_true hc116)) rfl) rfl (fun wq => (y_call (args := [.agg (encBools not).toArray]) c15 rfl rfl)) (fun wq hq => (pack_calls wq not f25_2).mono fun e w2 he => by obtain ⟨_, rfl, _, T, rfl, _⟩ := he; exact ⟨rfl, Chg.of_below T.below⟩) (of_ne rfl (of_ne rfl (of_ne rfl (of_ne rfl (of_ne rfl (of_ne rfl (of_ne rfl (of_ne rfl (of_ne rfl (of_ne rfl (of_nil _ _))))))))))) ?_
        refine d_q (i := 19) (v := .bool (decide ((~~~ a) = (ofWords (pack not))))) (fun _ => True) (fun _ ho => trivial) rfl (by decide +kernel) (by decide +kernel) (by decide +kernel) (wanted_of (j := 14) (want := true) (d := 164) (b := true) rfl rfl (congrArg Value.bool (decide_eq_true hc116)) rfl) rfl (fun wq hq => (x_eql_set u27 u25 t25 q27 rfl (Eq.trans (b := .agg (encInts .u64 (pack not)).toArray) rfl (congrArg (fun z : List Value => Value.agg z.toArray) (encSet_of ok118_0))))) (of_ne rfl (of_ne rfl (of_ne rfl (of_ne rfl (of_ne rfl (of_ne rfl (of_ne rfl (of_ne rfl (of_ne rfl (of_ne rfl (of_nil _ _))))))))))) ?_
        refine d_q (i := 20) (v := .bool (decide ((~~~ a) = (ofWords (pack not))))) (fun _ => True) (fun _ ho => trivial) rfl (by decide +kernel) (by decide +kernel) (by decide +kernel) rfl rfl (fun wq hq => (x_pick_t (congrArg Value.bool (decide_eq_true hc116)) rfl)) (of_ne rfl (of_ne rfl (of_ne rfl (of_ne rfl (of_ne rfl (of_ne rfl (of_ne rfl (of_ne rfl (of_ne rfl (of_ne rfl (of_nil _ _))))))))))) ?_
        refine d_q (i := 21) (v := .bool (decide ((~~~ a) = (ofWords (pack not))))) (fun _ => True) (fun _ ho => trivial) rfl (by decide +kernel) (by decide +kernel) (by decide +kernel) rfl rfl (fun wq hq => (x_move rfl)) (of_ne rfl (of_ne rfl (of_ne rfl (of_ne rfl (of_ne rfl (of_ne rfl (of_ne rfl (of_ne rfl (of_ne rfl (of_ne rfl (of_nil _ _))))))))))) ?_
        refine d_q (i := 22) (v := .int .u8 xfrom) (fun _ => True) (fun _ ho => trivial) rfl (by decide +kernel) (by decide +kernel) (by decide +kernel) (wanted_of (j := 21) (want := true) (d := 171) (b := true) rfl rfl (congrArg Value.bool (decide_eq_true hc119)) rfl) rfl (fun wq hq => (x_move r104_2)) (of_ne rfl (of_ne rfl (of_ne rfl (of_ne rfl (of_ne rfl (of_ne rfl (of_ne rfl (of_ne rfl (of_ne rfl (of_ne rfl (of_nil _ _))))))))))) ?_
        refine d_q (i := 23) (v := .int .u8 xto) (fun _ => True) (fun _ ho => trivial) rfl (by decide +kernel) (by decide +kernel) (by decide +kernel) (wanted_of (j := 21) (want := true) (d := 171) (b := true) rfl rfl (congrArg Value.bool (decide_eq_true hc119)) rfl) rfl (fun wq hq => (x_move r104_3)) (of_ne rfl (of_ne rfl (of_ne rfl (of_ne rfl (of_ne rfl (of_ne rfl (of_ne rfl (of_ne rfl (of_ne rfl (of_ne rfl (of_nil _ _))))))))))) ?_
        refine d_m (i := 24) (v := .agg (encSet (setRange xfrom xto)).toArray) (fun _ => True) (fun _ ho => trivial) rfl (by decide +kernel) (by decide +kernel) (by decide +kernel) (wanted_of (j := 21) (want := true) (d := 171) (b := true) rfl rfl (congrArg Value.bool (decide_eq_true hc119)) rfl) rfl (fun wq => (y_call (args := [.int .u8 xfrom, .int .u8 xto]) c20 rfl rfl)) (fun wq hq => (range_calls wq xfrom (in_u8 (by first | omega | (simp; omega) | assumption) (by first | omega | (simp; omega) | assumption)) xto (in_u8 (by first | omega | (simp; omega) | assumption) (by first | omega | (simp; omega) | assumption))).mono fun e w2 he => by obtain ⟨_, rfl, _, T, rfl⟩ := he; exact ⟨rfl, Chg.of_below T.below⟩) (of_ne rfl (of_ne rfl (of_ne rfl (of_ne rfl (of_ne rfl (of_ne rfl (of_ne rfl (of_ne rfl (of_ne rfl (of_ne rfl (of_nil _ _))))))))))) ?_
        refine d_q (i := 25) (v := .agg (encBools part).toArray) (CF ⟨b23, 0, none⟩ (encBools part)) (fun _ ho => ho _ (List.mem_of_getElem? (i := 8) rfl) rfl) rfl (by decide +kernel) (by decide +kernel) (by decide +kernel) (wanted_of (j := 21) (want := true) (d := 171) (b := true) rfl rfl (congrArg Value.bool (decide_eq_true hc119)) rfl) rfl (fun wq hq => (x_load (seg := (encBools part)) t24 (encBools_len f25_3) (by simp) r104_14 hq)) (of_ne rfl (of_ne rfl (of_ne rfl (of_ne rfl (of_ne rfl (of_ne rfl (of_ne rfl (of_ne rfl (of_eq hf144 (of_ne rfl (of_nil _ _))))))))))) ?_
        refine d_m (i := 26) (v := .agg (encInts .u64 (pack part)).toArray) (fun _ => True) (fun _ ho => trivial) rfl (by decide +kernel) (by decide +kernel) (by decide +kernel) (wanted_of (j := 21) (want := true) (d := 171) (b := true) rfl rfl (congrArg Value.bool (decide_eq_true hc119)) rfl) rfl (fun wq => (y_call (args := [.agg (encBools part).toArray]) c15 rfl rfl)) (fun wq hq => (pack_calls wq part f25_3).mono fun e w2 he => by obtain ⟨_, rfl, _, T, rfl, _⟩ := he; exact ⟨rfl, Chg.of_below T.below⟩) (of_ne rfl (of_ne rfl (of_ne rfl (of_ne rfl (of_ne rfl (of_ne rfl (of_ne rfl (of_ne rfl (of_ne rfl (of_ne rfl (of_nil _ _))))))))))) ?_
        refine d_q (i := 27) (v := .bool (decide ((setRange xfrom xto) = (ofWords (pack part))))) (fun _ => True) (fun _ ho => trivial) rfl (by decide +kernel) (by decide +kernel) (by decide +kernel) (wanted_of (j := 21) (want := true) (d := 171) (b := true) rfl rfl (congrArg Value.bool (decide_eq_true hc119)) rfl) rfl (fun wq hq => (x_eql_set u27 u25 t25 q27 rfl (Eq.trans (b := .agg (encInts .u64 (pack part)).toArray) rfl (congrArg (fun z : List Value => Value.agg z.toArray) (encSet_of ok121_0))))) (of_ne rfl (of_ne rfl (of_ne rfl (of_ne rfl (of_ne rfl (of_ne rfl (of_ne rfl (of_ne rfl (of_ne rfl (of_ne rfl (of_nil _ _))))))))))) ?_
        refine d_q (i := 28) (v := .bool (decide ((setRange xfrom xto) = (ofWords (pack part))))) (fun _ => True) (fun _ ho => trivial) rfl (by decide +kernel) (by decide +kernel) (by decide +kernel) rfl rfl (fun wq hq => (x_pick_t (congrArg Value.bool (decide_eq_true hc119)) rfl)) (of_ne rfl (of_ne rfl (of_ne rfl (of_ne rfl (of_ne rfl (of_ne rfl (of_ne rfl (of_ne rfl (of_ne rfl (of_ne rfl (of_nil _ _))))))))))) ?_
        refine d_q (i := 29) (v := .bool (decide ((setRange xfrom xto) = (ofWords (pack part))))) (fun _ => True) (fun _ ho => trivial) rfl (by decide +kernel) (by decide +kernel) (by decide +kernel) rfl rfl (fun wq hq => (x_move rfl)) (of_ne rfl (of_ne rfl (of_ne rfl (of_ne rfl (of_ne rfl (of_ne rfl (of_ne rfl (of_ne rfl (of_ne rfl (of_ne rfl (of_nil _ _))))))))))) ?_
        refine d_m (i := 30) (v := .bool true) (fun wf => Block 0 tzTab wf) (fun _ ho => ho _ (List.mem_of_getElem? (i := 9) rfl) rfl) rfl (by decide +kernel) (by decide +kernel) (by decide +kernel) (wanted_of (j := 29) (want := true) (d := 179) (b := true) rfl rfl (congrArg Value.bool (decide_eq_true hc122)) rfl) rfl (fun wq => (y_call (args := []) c13 rfl rfl)) (fun wq hq => (awake_calls wq hq).mono fun e w2 he => by obtain ⟨_, rfl, _, T, rfl⟩ := he; exact ⟨rfl, Chg.of_below T.below⟩) (of_ne rfl (of_ne rfl (of_ne rfl (of_ne rfl (of_ne rfl (of_ne rfl (of_ne rfl (of_ne rfl (of_ne rfl (of_eq hf145 (of_nil _ _))))))))))) ?_
        refine d_q (i := 31) (v := .bool true) (fun _ => True) (fun _ ho => trivial) rfl (by decide +kernel) (by decide +kernel) (by decide +kernel) rfl rfl (fun wq hq => (x_pick_t (congrArg Value.bool (decide_eq_true hc122)) rfl)) (of_ne rfl (of_ne rfl (of_ne rfl (of_ne rfl (of_ne rfl (of_ne rfl (of_ne rfl (of_ne rfl (of_ne rfl (of_ne rfl (of_nil _ _))))))))))) ?_
        refine d_q (i := 32) (v := .bool true) (fun _ => True) (fun _ ho => trivial) rfl (by decide +kernel) (by decide +kernel) (by decide +kernel) rfl rfl (fun wq hq => (x_assign rfl)) (of_ne rfl (of_ne rfl (of_ne rfl (of_ne rfl (of_ne rfl (of_ne rfl (of_ne rfl (of_ne rfl (of_ne rfl (of_ne rfl (of_nil _ _))))))))))) ?_
        refine ra_done (by decide +kernel) ?_
        intro wd146 gd146
        have S147 : St w.heap.size w h104 wd146 [box b1 27 (encSet a), box b3 27 (encSet b), box b7 24 (encBools (members (words a))), box b17 24 (encBools both), box b19 24 (encBools one), box b21 24 (encBools not), box b23 24 (encBools part)] := S135.keep gd146
        refine run_ret Tryd.func6 (res1 rfl (res_tmp (v := .bool true) rfl)) ?_
        have q0 : (true : Bool) = true := rfl
        refine ⟨_, rfl, h104, ?_, ?_⟩
        · exact S147.sub [] (by decide) rfl _ rfl
        · rfl
    · skip
      refine p_off rfl (wanted_of (j := 12) (want := true) (d := 107) (b := false) rfl rfl (congrArg Value.bool hc98) rfl) rfl ?_
      refine p_off rfl (wanted_of (j := 12) (want := true) (d := 107) (b := false) rfl rfl (congrArg Value.bool hc98) rfl) rfl ?_
      refine p_off rfl (wanted_of (j := 12) (want := true) (d := 107) (b := false) rfl rfl (congrArg Value.bool hc98) rfl) rfl ?_
      refine p_off rfl (wanted_of (j := 12) (want := true) (d := 107) (b := false) rfl rfl (congrArg Value.bool hc98) rfl) rfl ?_
      refine p_v (v := .bool false) rfl (wanted_of (j := 10) (want := false) (d := 105) (b := false) rfl rfl (congrArg Value.bool (decide_eq_false hc97)) rfl) rfl (x_pick_f (congrArg Value.bool hc98) rfl) ?_
      refine p_v (v := .bool false) rfl rfl rfl (x_pick_f (congrArg Value.bool (decide_eq_false hc97)) rfl) ?_
      refine p_v (v := .bool false) rfl rfl rfl (x_move rfl) ?_
      refine p_v (v := .bool false) rfl rfl rfl (x_move (congrArg Value.bool hc98)) ?_
      refine p_v (v := .bool true) rfl rfl rfl (x_not (b := false) rfl) ?_
      refine p_v (v := .bool true) rfl rfl rfl (x_move rfl) ?_
      refine p_v (v := .int .u8 (first a)) rfl rfl rfl (x_move rfl) ?_
      refine p_v (v := .bool (decide ((first a) ≠ 0))) rfl rfl rfl (x_neq rfl rfl) ?_
      refine p_v (v := .bool (decide ((first a) ≠ 0))) rfl rfl rfl (x_pick_t rfl rfl) ?_
      refine p_v (v := .bool (decide ((first a) ≠ 0))) rfl rfl rfl (x_pick_f rfl rfl) ?_
      refine run_region_end ?_
      have hc149 : ¬ ((first a) ≠ 0) := by
        rw [first_zero a (by assumption)]; simp
      refine run_cond (b := false) (congrArg Value.bool (decide_eq_false hc149)) ?_
      simp only [if_true, if_false, Bool.false_eq_true]
      refine run_skip ?_
      refine run_seq ?_
      refine run_reg (l := [0, 1, 2]) rfl ?_
      refine p_v (v := .agg (encSet a).toArray) rfl rfl rfl (x_load (seg := (encSet a)) t27 rfl (by simp) r25_4 (CF.box (m := 4) (S95.box_at (j := 0) rfl) (cs := (encSet a)) rfl)) ?_
      refine p_c rfl rfl rfl (y_call (args := [.agg (encSet a).toArray]) c16 rfl rfl) (list_calls w94 a (Block.st S95 tb)) ?_
      rintro v150_0 w150 ⟨h150, _, T150, rfl⟩
      obtain ⟨k150, lk150, ll150, U150⟩ := call_joins S95 T150
      have lc150_0 := (le25).trans lk150
      have S151 : St w.heap.size w k150 w150 [box b1 27 (encSet a), box b3 27 (encSet b), box b7 24 (encBools (members (words a))), box b13 24 (encBools (members (words b))), box b17 24 (encBools both), box b19 24 (encBools one), box b21 24 (encBools not), box b23 24 (encBools part), row 5 (Kd.int .u8) v150_0 (listOf a)] := U150
      obtain ⟨h152, le152, T152, rp152⟩ := S151.freeze (i := 8) rfl
      have lf152_0 := (lc150_0).trans le152
      have lf152_1 := (lk150).trans le152
      have S153 : St w.heap.size w h152 w150 [box b1 27 (encSet a), box b3 27 (encSet b), box b7 24 (encBools (members (words a))), box b13 24 (encBools (members (words b))), box b17 24 (encBools both), box b19 24 (encBools one), box b21 24 (encBools not), box b23 24 (encBools part), emp] := T152
      obtain ⟨A152, c152, e152, lc152, cm152, ld152⟩ := rp152
      injection e152 with e152 _; subst e152
      have cn152 := cm152; simp only [maxLen] at cn152
      refine p_v (v := .slice A152 (listOf a).length c152) rfl rfl rfl (x_assign rfl) ?_
      refine run_region_end ?_
      refine run_seq ?_
      refine run_reg (l := [0]) rfl ?_
      refine p_v (v := .int .i64 0) rfl rfl rfl (x_assign rfl) ?_
      refine run_region_end ?_
      refine run_seq ?_
      refine run_seq ?_
      refine run_reg (l := [0]) rfl ?_
      refine p_v (v := .int .i64 0) rfl rfl rfl (x_assign rfl) ?_
      refine run_region_end ?_
      refine run_block ?_
      refine run_loop (S := Int × Int) (fun (q_ : Int × Int) ρ w' => match q_ with | (k, c2) => ∃ (h : Ghost), Le h152 h ∧ St w.heap.size w h w' [box b1 27 (encSet a), box b3 27 (encSet b), box b7 24 (encBools (members (words a))), box b17 24 (encBools both), box b19 24 (encBools one), box b21 24 (encBools not), box b23 24 (encBools part)] ∧ ρ 2 = .int .u8 xfrom ∧ ρ 3 = .int .u8 xto ∧ ρ 4 = .pointer (some ⟨b1, 0, none⟩) ∧ ρ 5 = .pointer (some ⟨b3, 0, none⟩) ∧ ρ 9 = .pointer (some ⟨b7, 0, none⟩) ∧ ρ 11 = .pointer (some ⟨b17, 0, none⟩) ∧ ρ 12 = .pointer (some ⟨b19, 0, none⟩) ∧ ρ 13 = .pointer (some ⟨b21, 0, none⟩) ∧ ρ 14 = .pointer (some ⟨b23, 0, none⟩) ∧ ρ 20 = .slice A152 (listOf a).length c152 ∧ ρ 21 = .int .i64 k ∧ ρ 22 = .int .i64 c2 ∧ inK .i64 k ∧ inK .i64 c2 ∧ (0 ≤ c2 ∧ c2 ≤ 256 ∧ k = num_ a c2)) (fun q_ => match q_ with | (k, c2) => (256 - c2).toNat) (0, 0) ⟨h152, Le.refl _, S153.sub [0, 1, 2, 4, 5, 6, 7] (by decide) rfl _ rfl, r25_2, r25_3, r25_4, r25_5, r25_9, r25_11, r25_12, r25_13, r25_14, rfl, rfl, rfl, (in_i64 (by first | omega | (simp; omega) | assumption) (by first | omega | (simp; omega) | assumption)), (in_i64 (by first | omega | (simp; omega) | assumption) (by first | omega | (simp; omega) | assumption)), (by exact ⟨by omega, by omega, num_0 a⟩)⟩ ?_
      rintro ⟨k, c2⟩ ih154 ρ154 w154 ⟨h154, le154, S154, r154_2, r154_3, r154_4, r154_5, r154_9, r154_11, r154_12, r154_13, r154_14, r154_20, r154_21, r154_22, f154_0, f154_1, hI154⟩
      have lf154_0 := i64_lo f154_0; have hf154_0 := i64_hi f154_0
      have lf154_1 := i64_lo f154_1; have hf154_1 := i64_hi f154_1
      have hk := num_le a hI154.1; rw [← hI154.2.2] at hk
      refine run_seq ?_
      refine run_seq ?_
      refine run_reg (l := [0, 1]) rfl ?_
      refine p_v (v := .int .i64 c2) rfl rfl rfl (x_move r154_22) ?_
      refine p_v (v := .bool (decide (c2 < 256))) rfl rfl rfl (x_lss rfl rfl) ?_
      refine run_region_end ?_
      refine run_cond_prop (p := c2 < 256) rfl (fun hc155 => ?_) (fun hc155 => ?_)
      · skip
        refine run_skip ?_
        refine run_seq ?_
        refine run_block ?_
        refine run_seq ?_
        refine run_reg (l := [0, 1, 2]) rfl ?_
        refine p_v (v := .int .i64 c2) rfl rfl rfl (x_move r154_22) ?_
        refine p_v (v := .pointer (some ⟨b7, 0 + c2.toNat * 1, none⟩)) rfl rfl rfl (x_indexAddr_arr u24 t4 r154_9 rfl (by first | omega | (simp; omega) | assumption) (by first | omega | (simp; omega) | assumption)) ?_
        refine p_v (v := .bool (at_ (members (words a)) c2)) rfl rfl rfl (x_load (seg := [.bool (at_ (members (words a)) c2)]) t4 rfl (by simp) rfl (CF.box (m := 1) (S154.box_at (j := 2) rfl) (cs := (encBools (members (words a)))) (encBools_at (by assumption) (by first | omega | (simp; omega) | assumption) (by first | omega | (simp; omega) | assumption)))) ?_
        refine run_region_end ?_
        refine run_cond_split (b := at_ (members (words a)) c2) rfl (fun hc156 => ?_) (fun hc156 => ?_)
        · skip
          refine run_seq ?_
          refine run_seq ?_
          refine run_reg (l := [0, 1, 2, 3, 4, 5, 6, 7, 8, 9, 10, 11, 12]) rfl ?_
          refine p_v (v := .int .i64 k) rfl rfl rfl (x_move r154_21) ?_
          refine p_v (v := .slice A152 (listOf a).length c152) rfl rfl rfl (x_move r154_20) ?_
          refine p_v (v := .int .i64 ((listOf a).length : Int)) rfl rfl rfl (x_len_slice u22 rfl) ?_
          refine p_v (v := .bool (decide (((listOf a).length : Int) ≤ k))) rfl rfl rfl (x_geq rfl rfl) ?_
          refine p_v (v := .bool (decide (((listOf a).length : Int) ≤ k))) rfl rfl rfl (x_move rfl) ?_
          have hc157 : ¬ (((listOf a).length : Int) ≤ k) := by
            have := (list_place a hI154.1 (by omega) (by assumption)).1; omega
          refine p_v (v := .slice A152 (listOf a).length c152) rfl (wanted_of (j := 4) (want := false) (d := 135) (b := false) rfl rfl (congrArg Value.bool (decide_eq_false hc157)) rfl) rfl (x_move r154_20) ?_
          refine p_v (v := .int .i64 k) rfl (wanted_of (j := 4) (want := false) (d := 135) (b := false) rfl rfl (congrArg Value.bool (decide_eq_false hc157)) rfl) rfl (x_move r154_21) ?_
          obtain ⟨ad158, seg158, a158, rp158, ce158⟩ := e_index_ro (q := k) (m := 1) ld152 rfl (by first | omega | (simp; omega) | assumption) (by first | omega | (simp; omega) | assumption)
          refine p_v (v := .pointer (some ad158)) rfl (wanted_of (j := 4) (want := false) (d := 135) (b := false) rfl rfl (congrArg Value.bool (decide_eq_false hc157)) rfl) rfl (x_index_ro u22 t5 rfl rfl a158 (by first | omega | (simp; omega) | assumption) (by first | omega | (simp; omega) | assumption)) ?_
          obtain ⟨rfl, in158⟩ := rp158
          have lo158 := u8_lo in158; have hi158 := u8_hi in158
          refine p_v (v := .int .u8 (at_ (listOf a) k)) rfl (wanted_of (j := 4) (want := false) (d := 135) (b := false) rfl rfl (congrArg Value.bool (decide_eq_false hc157)) rfl) rfl (x_load (seg := [.int .u8 (at_ (listOf a) k)]) t5 rfl (by simp) rfl (CF.ghost ce158 (le154.trans S154.ghost))) ?_
          refine p_v (v := .int .i64 c2) rfl (wanted_of (j := 4) (want := false) (d := 135) (b := false) rfl rfl (congrArg Value.bool (decide_eq_false hc157)) rfl) rfl (x_move r154_22) ?_
          refine p_v (v := .int .u8 c2) rfl (wanted_of (j := 4) (want := false) (d := 135) (b := false) rfl rfl (congrArg Value.bool (decide_eq_false hc157)) rfl) rfl (x_conv u3 u5 rfl (in_u8 (by first | omega | (simp; omega) | assumption) (by first | omega | (simp; omega) | assumption))) ?_
          refine p_v (v := .bool (decide ((at_ (listOf a) k) ≠ c2))) rfl (wanted_of (j := 4) (want := false) (d := 135) (b := false) rfl rfl (congrArg Value.bool (decide_eq_false hc157)) rfl) rfl (x_neq rfl rfl) ?_
          refine p_v (v := .bool (decide ((at_ (listOf a) k) ≠ c2))) rfl rfl rfl (x_pick_f (congrArg Value.bool (decide_eq_false hc157)) rfl) ?_
          refine run_region_end ?_
          have hc159 : ¬ ((at_ (listOf a) k) ≠ c2) := by
            rw [hI154.2.2, (list_place a hI154.1 (by omega) (by assumption)).2]; simp
          refine run_cond (b := false) (congrArg Value.bool (decide_eq_false hc159)) ?_
          simp only [if_true, if_false, Bool.false_eq_true]
          refine run_skip ?_
          refine run_reg (l := [0, 1, 2]) rfl ?_
          refine p_v (v := .int .i64 k) rfl rfl rfl (x_move r154_21) ?_
          refine p_v (v := .int .i64 (k + 1)) rfl rfl rfl (x_add rfl rfl (in_i64 (by first | omega | (simp; omega) | assumption) (by first | omega | (simp; omega) | assumption))) ?_
          refine p_v (v := .int .i64 (k + 1)) rfl rfl rfl (x_assign rfl) ?_
          refine run_region_end ?_
          refine run_inBlock ?_
          refine run_reg (l := [0, 1, 2]) rfl ?_
          refine p_v (v := .int .i64 c2) rfl rfl rfl (x_move r154_22) ?_
          refine p_v (v := .int .i64 (c2 + 1)) rfl rfl rfl (x_add rfl rfl (in_i64 (by first | omega | (simp; omega) | assumption) (by first | omega | (simp; omega) | assumption))) ?_
          refine p_v (v := .int .i64 (c2 + 1)) rfl rfl rfl (x_assign rfl) ?_
          refine run_region_end ?_
          refine ih154 (k + 1, c2 + 1) _ _ (by dsimp only; omega) ⟨h154, le154, S154.sub [0, 1, 2, 3, 4, 5, 6] (by decide) rfl _ rfl, r154_2, r154_3, r154_4, r154_5, r154_9, r154_11, r154_12, r154_13, r154_14, r154_20, rfl, rfl, (in_i64 (by first | omega | (simp; omega) | assumption) (by first | omega | (simp; omega) | assumption)), (in_i64 (by first | omega | (simp; omega) | assumption) (by first | omega | (simp; omega) | assumption)), (by exact ⟨by omega, by omega, by first | (rw [num_T a hI154.1 (by omega) (by assumption), ← hI154.2.2]) | (rw [num_F a hI154.1 (by omega) (by assumption), ← hI154.2.2])⟩)⟩
        · skip
          refine run_skip ?_
          refine run_inBlock ?_
          refine run_reg (l := [0, 1, 2]) rfl ?_
          refine p_v (v := .int .i64 c2) rfl rfl rfl (x_move r154_22) ?_
          refine p_v (v := .int .i64 (c2 + 1)) rfl rfl rfl (x_add rfl rfl (in_i64 (by first | omega | (simp; omega) | assumption) (by first | omega | (simp; omega) | assumption))) ?_
          refine p_v (v := .int .i64 (c2 + 1)) rfl rfl rfl (x_assign rfl) ?_
          refine run_region_end ?_
          refine ih154 (k, c2 + 1) _ _ (by dsimp only; omega) ⟨h154, le154, S154.sub [0, 1, 2, 3, 4, 5, 6] (by decide) rfl _ rfl, r154_2, r154_3, r154_4, r154_5, r154_9, r154_11, r154_12, r154_13, r154_14, r154_20, r154_21, rfl, f154_0, (in_i64 (by first | omega | (simp; omega) | assumption) (by first | omega | (simp; omega) | assumption)), (by exact ⟨by omega, by omega, by first | (rw [num_T a hI154.1 (by omega) (by assumption), ← hI154.2.2]) | (rw [num_F a hI154.1 (by omega) (by assumption), ← hI154.2.2])⟩)⟩
      · skip
        refine run_exit rfl ?_
        refine run_seq ?_
        refine run_seq ?_
        refine run_reg (l := [0, 1, 2, 3]) rfl ?_
        refine p_v (v := .int .i64 k) rfl rfl rfl (x_move r154_21) ?_
        refine p_v (v := .slice A152 (listOf a).length c152) rfl rfl rfl (x_move r154_20) ?_
        refine p_v (v := .int .i64 ((listOf a).length : Int)) rfl rfl rfl (x_len_slice u22 rfl) ?_
        refine p_v (v := .bool (decide (k ≠ ((listOf a).length : Int)))) rfl rfl rfl (x_neq rfl rfl) ?_
        refine run_region_end ?_
        have hc160 : ¬ (k ≠ ((listOf a).length : Int)) := by
          rw [hI154.2.2, num_end a (by omega), list_len]; simp
        refine run_cond (b := false) (congrArg Value.bool (decide_eq_false hc160)) ?_
        simp only [if_true, if_false, Bool.false_eq_true]
        refine run_skip ?_
        refine run_seq ?_
        obtain ⟨_, _, _, _, _, _, _, ok162_0⟩ := calls_some (pack_calls w154 both f25_0)
        have hc163 : ((a &&& b) = (ofWords (pack both))) := by
          exact pack_pred hI25.2.2.1 (by omega) fun i hi => by simp
        obtain ⟨_, _, _, _, _, _, _, ok165_0⟩ := calls_some (pack_calls w154 one f25_1)
        have hc166 : ((a ||| b) = (ofWords (pack one))) := by
          exact pack_pred hI25.2.2.2.1 (by omega) fun i hi => by simp
        obtain ⟨_, _, _, _, _, _, _, ok168_0⟩ := calls_some (pack_calls w154 not f25_2)
        have hc169 : ((~~~ a) = (ofWords (pack not))) := by
          exact pack_pred hI25.2.2.2.2.1 (by omega) fun i hi => by simp [hi]
        obtain ⟨_, _, _, _, _, _, _, ok171_0⟩ := calls_some (pack_calls w154 part f25_3)
        have hc172 : ((setRange xfrom xto) = (ofWords (pack part))) := by
          exact pack_pred hI25.2.2.2.2.2.1 (by omega) fun i hi => by unfold setRange; exact pred_bit _ hi
        have hf174 : (CFs ⟨b1, 0, none⟩ (encSet a)).1 w154 := (CF.box (m := 4) (S154.box_at (j := 0) rfl) (cs := (encSet a)) rfl)
        have hf175 : (CFs ⟨b3, 0, none⟩ (encSet b)).1 w154 := (CF.box (m := 4) (S154.box_at (j := 1) rfl) (cs := (encSet b)) rfl)
        have hf176 : (CFs ⟨b17, 0, none⟩ (encBools both)).1 w154 := (CF.box (m := 256) (S154.box_at (j := 3) rfl) (cs := (encBools both)) (encBools_full f25_0))
        have hf177 : (CFs ⟨b1, 0, none⟩ (encSet a)).1 w154 := (CF.box (m := 4) (S154.box_at (j := 0) rfl) (cs := (encSet a)) rfl)
        have hf178 : (CFs ⟨b3, 0, none⟩ (encSet b)).1 w154 := (CF.box (m := 4) (S154.box_at (j := 1) rfl) (cs := (encSet b)) rfl)
        have hf179 : (CFs ⟨b19, 0, none⟩ (encBools one)).1 w154 := (CF.box (m := 256) (S154.box_at (j := 4) rfl) (cs := (encBools one)) (encBools_full f25_1))
        have hf180 : (CFs ⟨b1, 0, none⟩ (encSet a)).1 w154 := (CF.box (m := 4) (S154.box_at (j := 0) rfl) (cs := (encSet a)) rfl)
        have hf181 : (CFs ⟨b21, 0, none⟩ (encBools not)).1 w154 := (CF.box (m := 256) (S154.box_at (j := 5) rfl) (cs := (encBools not)) (encBools_full f25_2))
        have hf182 : (CFs ⟨b23, 0, none⟩ (encBools part)).1 w154 := (CF.box (m := 256) (S154.box_at (j := 6) rfl) (cs := (encBools part)) (encBools_full f25_3))
        have hf183 : (BlockS 0 tzTab).1 w154 := (Block.st S154 tb)
        refine da_start [(0, CFs ⟨b1, 0, none⟩ (encSet a)), (1, CFs ⟨b3, 0, none⟩ (encSet b)), (3, CFs ⟨b17, 0, none⟩ (encBools both)), (7, CFs ⟨b1, 0, none⟩ (encSet a)), (8, CFs ⟨b3, 0, none⟩ (encSet b)), (10, CFs ⟨b19, 0, none⟩ (encBools one)), (15, CFs ⟨b1, 0, none⟩ (encSet a)), (17, CFs ⟨b21, 0, none⟩ (encBools not)), (25, CFs ⟨b23, 0, none⟩ (encBools part)), (30, BlockS 0 tzTab)] 33 rfl mixed ?_
        intro wd184 gd184 hd184
        have S185 : St w.heap.size w h154 wd184 [box b1 27 (encSet a), box b3 27 (encSet b), box b7 24 (encBools (members (words a))), box b17 24 (encBools both), box b19 24 (encBools one), box b21 24 (encBools not), box b23 24 (encBools part)] := S154.keep gd184
        have hf186 := (CFs ⟨b1, 0, none⟩ (encSet a)).2 _ _ gd184 hf174
        have hf187 := (CFs ⟨b3, 0, none⟩ (encSet b)).2 _ _ gd184 hf175
        have hf188 := (CFs ⟨b17, 0, none⟩ (encBools both)).2 _ _ gd184 hf176
        have hf189 := (CFs ⟨b1, 0, none⟩ (encSet a)).2 _ _ gd184 hf177
        have hf190 := (CFs ⟨b3, 0, none⟩ (encSet b)).2 _ _ gd184 hf178
        have hf191 := (CFs ⟨b19, 0, none⟩ (encBools one)).2 _ _ gd184 hf179
        have hf192 := (CFs ⟨b1, 0, none⟩ (encSet a)).2 _ _ gd184 hf180
        have hf193 := (CFs ⟨b21, 0, none⟩ (encBools not)).2 _ _ gd184 hf181
        have hf194 := (CFs ⟨b23, 0, none⟩ (encBools part)).2 _ _ gd184 hf182
        have hf195 := (BlockS 0 tzTab).2 _ _ gd184 hf183
        refine d_q (i := 0) (v := .agg (encSet a).toArray) (CF ⟨b1, 0, none⟩ (encSet a)) (fun _ ho => ho _ (List.mem_of_getElem? (i := 0) rfl) rfl) rfl (by decide +kernel) (by decide +kernel) (by decide +kernel) rfl rfl (fun wq hq => (x_load (seg := (encSet a)) t27 rfl (by simp) r154_4 hq)) (of_eq hf186 (of_ne rfl (of_ne rfl (of_ne rfl (of_ne rfl (of_ne rfl (of_ne rfl (of_ne rfl (of_ne rfl (of_ne rfl (of_nil _ _))))))))))) ?_
        refine d_q (i := 1) (v := .agg (encSet b).toArray) (CF ⟨b3, 0, none⟩ (encSet b)) (fun _ ho => ho _ (List.mem_of_getElem? (i := 1) rfl) rfl) rfl (by decide +kernel) (by decide +kernel) (by decide +kernel) rfl rfl (fun wq hq => (x_load (seg := (encSet b)) t27 rfl (by simp) r154_5 hq)) (of_ne rfl (of_eq hf187 (of_ne rfl (of_ne rfl (of_ne rfl (of_ne rfl (of_ne rfl (of_ne rfl (of_ne rfl (of_ne rfl (of_nil _ _))))))))))) ?_
        refine d_m (i := 2) (v := .agg (encSet (a &&& b)).toArray) (fun _ => True) (fun _ ho => trivial) rfl (by decide +kernel) (by decide +kernel) (by decide +kernel) rfl rfl (fun wq => (y_call (args := [.agg (encSet a).toArray, .agg (encSet b).toArray]) c24 rfl rfl)) (fun wq hq => (and_calls wq a b).mono fun e w2 he => by obtain ⟨_, rfl, _, T, rfl⟩ := he; exact ⟨rfl, Chg.of_below T.below⟩) (of_ne rfl (of_ne rfl (of_ne rfl (of_ne rfl (of_ne rfl (of_ne rfl (of_ne rfl (of_ne rfl (of_ne rfl (of_ne rfl (of_nil _ _))))))))))) ?_
        refine d_q (i := 3) (v := .agg (encBools both).toArray) (CF ⟨b17, 0, none⟩ (encBools both)) (fun _ ho => ho _ (List.mem_of_getElem? (i := 2) rfl) rfl) rfl (by decide +kernel) (by decide +kernel) (by decide +kernel) rfl rfl (fun wq hq => (x_load (seg := (encBools both)) t24 (encBools_len f25_0) (by simp) r154_11 hq)) (of_ne rfl (of_ne rfl (of_eq hf188 (of_ne rfl (of_ne rfl (of_ne rfl (of_ne rfl (of_ne rfl (of_ne rfl (of_ne rfl (of_nil _ _))))))))))) ?_
        refine d_m (i := 4) (v := .agg (encInts .u64 (pack both)).toArray) (fun _ => True) (fun _ ho => trivial) rfl (by decide +kernel) (by decide +kernel) (by decide +kernel) rfl rfl (fun wq => (y_call (args := [.agg (encBools both).toArray]) c15 rfl rfl)) (fun wq hq => (pack_calls wq both f25_0).mono fun e w2 he => by obtain ⟨_, rfl, _, T, rfl, _⟩ := he; exact ⟨rfl, Chg.of_below T.below⟩) (of_ne rfl (of_ne rfl (of_ne rfl (of_ne rfl (of_ne rfl (of_ne rfl (of_ne rfl (of_ne rfl (of_ne rfl (of_ne rfl (of_nil _ _))))))))))) ?_
        refine d_q (i := 5) (v := .bool (decide ((a &&& b) = (ofWords (pack both))))) (fun _ => True) (fun _ ho => trivial) rfl (by decide +kernel) (by decide +kernel) (by decide +kernel) rfl rfl (fun wq hq => (x_eql_set u27 u25 t25 q27 rfl (Eq.trans (b := .agg (encInts .u64 (pack both)).toArray) rfl (congrArg (fun z : List Value => Value.agg z.toArray) (encSet_of ok162_0))))) (of_ne rfl (of_ne rfl (of_ne rfl (of_ne rfl (of_ne rfl (of_ne rfl (of_ne rfl (of_ne rfl (of_ne rfl (of_ne rfl (of_nil _ _))))))))))) ?_
        refine d_q (i := 6) (v := .bool (decide ((a &&& b) = (ofWords (pack both))))) (fun _ => True) (fun _ ho => trivial) rfl (by decide +kernel) (by decide +kernel) (by decide +kernel) rfl rfl (fun wq hq => (x_move rfl)) (of_ne rfl (of_ne rfl (of_ne rfl (of_ne rfl (of_ne rfl (of_ne rfl (of_ne rfl (of_ne rfl (of_ne rfl (of_ne rfl (of_nil _ _))))))))))) ?_
        refine d_q (i := 7) (v := .agg (encSet a).toArray) (CF ⟨b1, 0, none⟩ (encSet a)) (fun _ ho => ho _ (List.mem_of_getElem? (i := 3) rfl) rfl) rfl (by decide +kernel) (by decide +kernel) (by decide +kernel) (wanted_of (j := 6) (want := true) (d := 156) (b := true) rfl rfl (congrArg Value.bool (decide_eq_true hc163)) rfl) rfl (fun wq hq => (x_load (seg := (encSet a)) t27 rfl (by simp) r154_4 hq)) (of_ne rfl (of_ne rfl (of_ne rfl (of_eq hf189 (of_ne rfl (of_ne rfl (of_ne rfl (of_ne rfl (of_ne rfl (of_ne rfl (of_nil _ _))))))))))) ?_
        refine d_q (i := 8) (v := .agg (encSet b).toArray) (CF ⟨b3, 0, none⟩ (encSet b)) (fun _ ho => ho _ (List.mem_of_getElem? (i := 4) rfl) rfl) rfl (by decide +kernel) (by decide +kernel) (by decide +kernel) (wanted_of (j := 6) (want := true) (d := 156) (b := true) rfl rfl (congrArg Value.bool (decide_eq_true hc163)) rfl) rfl (fun wq hq => (x_load (seg := (encSet b)) t27 rfl (by simp) r154_5 hq)) (of_ne rfl (of_ne rfl (of_ne rfl (of_ne rfl (of_eq hf190 (of_ne rfl (of_ne rfl (of_ne rfl (of_ne rfl (of_ne rfl (of_nil _ _))))))))))) ?_
        refine d_m (i := 9) (v := .agg (encSet (a ||| b)).toArray) (fun _ => True) (fun _ ho => trivial) rfl (by decide +kernel) (by decide +kernel) (by decide +kernel) (wanted_of (j := 6) (want := true) (d := 156) (b := true) rfl rfl (congrArg Value.bool (decide_eq_true hc163)) rfl) rfl (fun wq => (y_call (args := [.agg (encSet a).toArray, .agg (encSet b).toArray]) c25 rfl rfl)) (fun wq hq => (or_calls wq a b).mono fun e w2 he => by obtain ⟨_, rfl, _, T, rfl⟩ := he; exact ⟨rfl, Chg.of_below T.below⟩) (of_ne rfl (of_ne rfl (of_ne rfl (of_ne rfl (of_ne rfl (of_ne rfl (of_ne rfl (of_ne rfl (of_ne rfl (of_ne rfl (of_nil _ _))))))))))) ?_
        refine d_q (i := 10) (v := .agg (encBools one).toArray) (CF ⟨b19, 0, none⟩ (encBools one)) (fun _ ho => ho _ (List.mem_of_getElem? (i := 5) rfl) rfl) rfl (by decide +kernel) (by decide +kernel) (by decide +kernel) (wanted_of (j := 6) (want := true) (d := 156) (b := true) rfl rfl (congrArg Value.bool (decide_eq_true hc163)) rfl) rfl (fun wq hq => (x_load (seg := (encBools one)) t24 (encBools_len f25_1) (by simp) r154_12 hq)) (of_ne rfl (of_ne rfl (of_ne rfl (of_ne rfl (of_ne rfl (of_eq hf191 (of_ne rfl (of_ne rfl (of_ne rfl (of_ne rfl (of_nil _ _))))))))))) ?_
        refine d_m (i := 11) (v := .agg (encInts .u64 (pack one)).toArray) (fun _ => True) (fun _ ho => trivial) rfl (by decide +kernel) (by decide +kernel) (by decide +kernel) (wanted_of (j := 6) (want := true) (d := 156) (b := true) rfl rfl (congrArg Value.bool (decide_eq_true hc163)) rfl) rfl (fun wq => (y_call (args := [.agg (encBools one).toArray]) c15 rfl rfl)) (fun wq hq => (pack_calls wq one f25_1).mono fun e w2 he => by obtain ⟨_, rfl, _, T, rfl, _⟩ := he; exact ⟨rfl, Chg.of_below T.below⟩) (of_ne rfl (of_ne rfl (of_ne rfl (of_ne rfl (of_ne rfl (of_ne rfl (of_ne rfl (of_ne rfl (of_ne rfl (of_ne rfl (of_nil _ _))))))))))) ?_
        refine d_q (i := 12) (v := .bool (decide ((a ||| b) = (ofWords (pack one))))) (fun _ => True) (fun _ ho => trivial) rfl (by decide +kernel) (by decide +kernel) (by decide +kernel) (wanted_of (j := 6) (want := true) (d := 156) (b := true) rfl rfl (congrArg Value.bool (decide_eq_true hc163)) rfl) rfl (fun wq hq => (x_eql_set u27 u25 t25 q27 rfl (Eq.trans (b := .agg (encInts .u64 (pack one)).toArray) rfl (congrArg (fun z : List Value => Value.agg z.toArray) (encSet_of ok165_0))))) (of_ne rfl (of_ne rfl (of_ne rfl (of_ne rfl (of_ne rfl (of_ne rfl (of_ne rfl (of_ne rfl (of_ne rfl (of_ne rfl (of_nil _ _))))))))))) ?_
        refine d_q (i := 13) (v := .bool (decide ((a ||| b) = (ofWords (pack one))))) (fun _ => True) (fun _ ho => trivial) rfl (by decide +kernel) (by decide +kernel) (by decide +kernel) rfl rfl (fun wq hq => (x_pick_t (congrArg Value.bool (decide_eq_true hc163)) rfl)) (of_ne rfl (of_ne rfl (of_ne rfl (of_ne rfl (of_ne rfl (of_ne rfl (of_ne rfl (of_ne rfl (of_ne rfl (of_ne rfl (of_nil _ _))))))))))) ?_
        refine d_q (i := 14) (v := .bool (decide ((a ||| b) = (ofWords (pack one))))) (fun _ => True) (fun _ ho => trivial) rfl (by decide +kernel) (by decide +kernel) (by decide +kernel) rfl rfl (fun wq hq => (x_move rfl)) (of_ne rfl (of_ne rfl (of_ne rfl (of_ne rfl (of_ne rfl (of_ne rfl (of_ne rfl (of_ne rfl (of_ne rfl (of_ne rfl (of_nil _ _))))))))))) ?_
        refine d_q (i := 15) (v := .agg (encSet a).toArray) (CF ⟨b1, 0, none⟩ (encSet a)) (fun _ ho => ho _ (List.mem_of_getElem? (i := 6) rfl) rfl) rfl (by decide +kernel) (by decide +kernel) (by decide +kernel) (wanted_of (j := 14) (want := true) (d := 164) (b := true) rfl rfl (congrArg Value.bool (decide_eq_true hc166)) rfl) rfl (fun wq hq => (x_load (seg := (encSet a)) t27 rfl (by simp) r154_4 hq)) (of_ne rfl (of_ne rfl (of_ne rfl (of_ne rfl (of_ne rfl (of_ne rfl (of_eq hf192 (of_ne rfl (of_ne rfl (of_ne rfl (of_nil _ _))))))))))) ?_
        refine d_m (i := 16) (v := .agg (encSet (~~~ a)).toArray) (fun _ => True) (fun _ ho => trivial) rfl (by decide +kernel) (by decide +kernel) (by decide +kernel) (wanted_of (j := 14) (want := true) (d := 164) (b := true) rfl rfl (congrArg Value.bool (decide_eq_true hc166)) rfl) rfl (fun wq => (y_call (args := [.agg (encSet a).toArray]) c21 rfl rfl)) (fun wq hq => (not_calls wq a).mono fun e w2 he => by obtain ⟨_, rfl, _, T, rfl⟩ := he; exact ⟨rfl, Chg.of_below T.below⟩) (of_ne rfl (of_ne rfl (of_ne rfl (of_ne rfl (of_ne rfl (of_ne rfl (of_ne rfl (of_ne rfl (of_ne rfl (of_ne rfl (of_nil _ _))))))))))) ?_
        refine d_q (i := 17) (v := .agg (encBools not).toArray) (CF ⟨b21, 0, none⟩ (encBools not)) (fun _ ho => ho _ (List.mem_of_getElem? (i := 7) rfl) rfl) rfl (by decide +kernel) (by decide +kernel) (by decide +kernel) (wanted_of (j := 14) (want := true) (d := 164) (b := true) rfl rfl (congrArg Value.bool (decide_eq_true hc166)) rfl) rfl (fun wq hq => (x_load (seg := (encBools not)) t24 (encBools_len f25_2) (by simp) r154_13 hq)) (of_ne rfl (of_ne rfl (of_ne rfl (of_ne rfl (of_ne rfl (of_ne rfl (of_ne rfl (of_eq hf193 (of_ne rfl (of_ne rfl (of_nil _ _))))))))))) ?_
        refine d_m (i := 18) (v := .agg (encInts .u64 (pack not)).toArray) (fun _ => True) (fun _ ho => trivial) rfl (by decide +kernel) (by decide +kernel) (by decide +kernel) (wanted_of (j := 14) (want := true) (d := 164) (b := true) rfl rfl (congrArg Value.bool (decide_eq_true hc166)) rfl) rfl (fun wq => (y_call (args := [.agg (encBools not).toArray]) c15 rfl rfl)) (fun wq hq => (pack_calls wq not f25_2).mono fun e w2 he => by obtain ⟨_, rfl, _, T, rfl, _⟩ := he; exact ⟨rfl, Chg.of_below T.below⟩) (of_ne rfl (of_ne rfl (of_ne rfl (of_ne rfl (of_ne rfl (of_ne rfl (of_ne rfl (of_ne rfl (of_ne rfl (of_ne rfl (of_nil _ _))))))))))) ?_
        refine d_q (i := 19) (v := .bool (decide ((~~~ a) = (ofWords (pack not))))) (fun _ => True) (fun _ ho => trivial) rfl (by decide +kernel) (by decide +kernel) (by decide +kernel) (wanted_of (j := 14) (want := true) (d := 164) (b := true) rfl rfl (congrArg Value.bool (decide_eq_true hc166)) rfl) rfl (fun wq hq => (x_eql_set u27 u25 t25 q27 rfl (Eq.trans (b := .agg (encInts .u64 (pack not)).toArray) rfl (congrArg (fun z : List Value => Value.agg z.toArray) (encSet_of ok168_0))))) (of_ne rfl (of_ne rfl (of_ne rfl (of_ne rfl (of_ne rfl (of_ne rfl (of_ne rfl (of_ne rfl (of_ne rfl (of_ne rfl (of_nil _ _))))))))))) ?_
        refine d_q (i := 20) (v := .bool (decide ((~~~ a) = (ofWords (pack not))))) (fun _ => True) (fun _ ho => trivial) rfl (by decide +kernel) (by decide +kernel) (by decide +kernel) rfl rfl (fun wq hq => (x_pick_t (congrArg Value.bool (decide_eq_true hc166)) rfl)) (of_ne rfl (of_ne rfl (of_ne rfl (of_ne rfl (of_ne rfl (of_ne rfl (of_ne rfl (of_ne rfl (of_ne rfl (of_ne rfl (of_nil _ _))))))))))) ?_
        refine d_q (i := 21) (v := .bool (decide ((~~~ a) = (ofWords (pack not))))) (fun _ => True) (fun _ ho => trivial) rfl (by decide +kernel) (by decide +kernel) (by decide +kernel) rfl rfl (fun wq hq => (x_move rfl)) (of_ne rfl (of_ne rfl (of_ne rfl (of_ne rfl (of_ne rfl (of_ne rfl (of_ne rfl (of_ne rfl (of_ne rfl (of_ne rfl (of_nil _ _))))))))))) ?_
        refine d_q (i := 22) (v := .int .u8 xfrom) (fun _ => True) (fun _ ho => trivial) rfl (by decide +kernel) (by decide +kernel) (by decide +kernel) (wanted_of (j := 21) (want := true) (d := 171) (b := true) rfl rfl (congrArg Value.bool (decide_eq_true hc169)) rfl) rfl (fun wq hq => (x_move r154_2)) (of_ne rfl (of_ne rfl (of_ne rfl (of_ne rfl (of_ne rfl (of_ne rfl (of_ne rfl (of_ne rfl (of_ne rfl (of_ne rfl (of_nil _ _))))))))))) ?_
        refine d_q (i := 23) (v := .int .u8 xto) (fun _ => True) (fun _ ho => trivial) rfl (by decide +kernel) (by decide +kernel) (by decide +kernel) (wanted_of (j := 21) (want := true) (d := 171) (b := true) rfl rfl (congrArg Value.bool (decide_eq_true hc169)) rfl) rfl (fun wq hq => (x_move r154_3)) (of_ne rfl (of_ne rfl (of_ne rfl (of_ne rfl (of_ne rfl (of_ne rfl (of_ne rfl (of_ne rfl (of_ne rfl (of_ne rfl (of_nil _ _))))))))))) ?_
        refine d_m (i := 24) (v := .agg (encSet (setRange xfrom xto)).toArray) (fun _ => True) (fun _ ho => trivial) rfl (by decide +kernel) (by decide +kernel) (by decide +kernel) (wanted_of (j := 21) (want := true) (d := 171) (b := true) rfl rfl (congrArg Value.bool (decide_eq_true hc169)) rfl) rfl (fun wq => (y_call (args := [.int .u8 xfrom, .int .u8 xto]) c20 rfl rfl)) (fun wq hq => (range_calls wq xfrom (in_u8 (by first | omega | (simp; omega) | assumption) (by first | omega | (simp; omega) | assumption)) xto (in_u8 (by first | omega | (simp; omega) | assumption) (by first | omega | (simp; omega) | assumption))).mono fun e w2 he => by obtain ⟨_, rfl, _, T, rfl⟩ := he; exact ⟨rfl, Chg.of_below T.below⟩) (of_ne rfl (of_ne rfl (of_ne rfl (of_ne rfl (of_ne rfl (of_ne rfl (of_ne rfl (of_ne rfl (of_ne rfl (of_ne rfl (of_nil _ _))))))))))) ?_
        refine d_q (i := 25) (v := .agg (encBools part).toArray) (CF ⟨b23, 0, none⟩ (encBools part)) (fun _ ho => ho _ (List.mem_of_getElem? (i := 8) rfl) rfl) rfl (by decide +kernel) (by decide +kernel) (by decide +kernel) (wanted_of (j := 21) (want := true) (d := 171) (b := true) rfl rfl (congrArg Value.bool (decide_eq_true hc169)) rfl) rfl (fun wq hq => (x_load (seg := (encBools part)) t24 (encBools_len f25_3) (by simp) r154_14 hq)) (of_ne rfl (of_ne rfl (of_ne rfl (of_ne rfl (of_ne rfl (of_ne rfl (of_ne rfl (of_ne rfl (of_eq hf194 (of_ne rfl (of_nil _ _))))))))))) ?_
        refine d_m (i := 26) (v := .agg (encInts .u64 (pack part)).toArray) (fun _ => True) (fun _ ho => trivial) rfl (by decide +kernel) (by decide +kernel) (by decide +kernel) (wanted_of (j := 21) (want := true) (d := 171) (b := true) rfl rfl (congrArg Value.bool (decide_eq_true hc169)) rfl) rfl (fun wq => (y_call (args := [.agg (encBools part).toArray]) c15 rfl rfl)) (fun wq hq => (pack_calls wq part f25_3).mono fun e w2 he => by obtain ⟨_, rfl, _, T, rfl, _⟩ := he; exact ⟨rfl, Chg.of_below T.below⟩) (of_ne rfl (of_ne rfl (of_ne rfl (of_ne rfl (of_ne rfl (of_ne rfl (of_ne rfl (of_ne rfl (of_ne rfl (of_ne rfl (of_nil _ _))))))))))) ?_
        refine d_q (i := 27) (v := .bool (decide ((setRange xfrom xto) = (ofWords (pack part))))) (fun _ => True) (fun _ ho => trivial) rfl (by decide +kernel) (by decide +kernel) (by decide +kernel) (wanted_of (j := 21) (want := true) (d := 171) (b := true) rfl rfl (congrArg Value.bool (decide_eq_true hc169)) rfl) rfl (fun wq hq => (x_eql_set u27 u25 t25 q27 rfl (Eq.trans (b := .agg (encInts .u64 (pack part)).toArray) rfl (congrArg (fun z : List Value => Value.agg z.toArray) (encSet_of ok171_0))))) (of_ne rfl (of_ne rfl (of_ne rfl (of_ne rfl (of_ne rfl (of_ne rfl (of_ne rfl (of_ne rfl (of_ne rfl (of_ne rfl (of_nil _ _))))))))))) ?_
        refine d_q (i := 28) (v := .bool (decide ((setRange xfrom xto) = (ofWords (pack part))))) (fun _ => True) (fun _ ho => trivial) rfl (by decide +kernel) (by decide +kernel) (by decide +kernel) rfl rfl (fun wq hq => (x_pick_t (congrArg Value.bool (decide_eq_true hc169)) rfl)) (of_ne rfl (of_ne rfl (of_ne rfl (of_ne rfl (of_ne rfl (of_ne rfl (of_ne rfl (of_ne rfl (of_ne rfl (of_ne rfl (of_nil _ _))))))))))) ?_
        refine d_q (i := 29) (v := .bool (decide ((setRange xfrom xto) = (ofWords (pack part))))) (fun _ => True) (fun _ ho => trivial) rfl (by decide +kernel) (by decide +kernel) (by decide +kernel) rfl rfl (fun wq hq => (x_move rfl)) (of_ne rfl (of_ne rfl (of_ne rfl (of_ne rfl (of_ne rfl (of_ne rfl (of_ne rfl (of_ne rfl (of_ne rfl (of_ne rfl (of_nil _ _))))))))))) ?_
        refine d_m (i := 30) (v := .bool true) (fun wf => Block 0 tzTab wf) (fun _ ho => ho _ (List.mem_of_getElem? (i := 9) rfl) rfl) rfl (by decide +kernel) (by decide +kernel) (by decide +kernel) (wanted_of (j := 29) (want := true) (d := 179) (b := true) rfl rfl (congrArg Value.bool (decide_eq_true hc172)) rfl) rfl (fun wq => (y_call (args := []) c13 rfl rfl)) (fun wq hq => (awake_calls wq hq).mono fun e w2 he => by obtain ⟨_, rfl, _, T, rfl⟩ := he; exact ⟨rfl, Chg.of_below T.below⟩) (of_ne rfl (of_ne rfl (of_ne rfl (of_ne rfl (of_ne rfl (of_ne rfl (of_ne rfl (of_ne rfl (of_ne rfl (of_eq hf195 (of_nil _ _))))))))))) ?_
        refine d_q (i := 31) (v := .bool true) (fun _ => True) (fun _ ho => trivial) rfl (by decide +kernel) (by decide +kernel) (by decide +kernel) rfl rfl (fun wq hq => (x_pick_t (congrArg Value.bool (decide_eq_true hc172)) rfl)) (of_ne rfl (of_ne rfl (of_ne rfl (of_ne rfl (of_ne rfl (of_ne rfl (of_ne rfl (of_ne rfl (of_ne rfl (of_ne rfl (of_nil _ _))))))))))) ?_
        refine d_q (i := 32) (v := .bool true) (fun _ => True) (fun _ ho => trivial) rfl (by decide +kernel) (by decide +kernel) (by decide +kernel) rfl rfl (fun wq hq => (x_assign rfl)) (of_ne rfl (of_ne rfl (of_ne rfl (of_ne rfl (of_ne rfl (of_ne rfl (of_ne rfl (of_ne rfl (of_ne rfl (of_ne rfl (of_nil _ _))))))))))) ?_
        refine ra_done (by decide +kernel) ?_
        intro wd196 gd196
        have S197 : St w.heap.size w h154 wd196 [box b1 27 (encSet a), box b3 27 (encSet b), box b7 24 (encBools (members (words a))), box b17 24 (encBools both), box b19 24 (encBools one), box b21 24 (encBools not), box b23 24 (encBools part)] := S185.keep gd196
        refine run_ret Tryd.func6 (res1 rfl (res_tmp (v := .bool true) rfl)) ?_
        have q0 : (true : Bool) = true := rfl
        refine ⟨_, rfl, h154, ?_, ?_⟩
        · exact S197.sub [] (by decide) rfl _ rfl
        · rfl
end Go.Proofs.YtlcmimjdnhjeoaaDoor
