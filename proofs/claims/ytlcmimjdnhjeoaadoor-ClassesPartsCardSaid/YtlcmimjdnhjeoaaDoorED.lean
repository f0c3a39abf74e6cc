/- Functions of this translation, each walked once; no conditions but those that each contract tells. -/
import Derived.Test.YtlcmimjdnhjeoaaDoorTD
import Derived.Test.YtlcmimjdnhjeoaaDoorDD
namespace Go.Proofs.YtlcmimjdnhjeoaaDoor
open Go Go.RowKit Gx
set_option maxHeartbeats 1000000
set_option linter.unusedVariables false
set_option linter.unusedSimpArgs false
attribute [local irreducible] members pack listOf count first someIn has setOf setRange wbits Lib.ctz partOf refineP setsP leastP rightP splitsP splitP

theorem cut_calls (w : World) (x : BSet) (p1 : BSet) (a1 : Addr) (pc1 : ∀ j v, (encSet p1)[j]? = some v → gcell (hp w) (a1.add j) = some v) :
    Calls Tryd.prog 41 #[.agg (encSet x).toArray, .pointer (some a1)] w fun e w' => ∃ v, e = .returned v ∧ ∃ (hn : Ghost), St w.heap.size w hn w' [] ∧ v = .bool (cuts x p1) := by
  refine calls_of_run Tryd.func41 rfl Tryd.ntmps41 rfl ?_
  have S0 := St.init w
  refine run_seq ?_
  refine run_reg (l := [0, 1]) rfl ?_
  obtain ⟨b1, w1, r1, g1, T1⟩ := e_box (P := Tryd.prog) S0 27 (v := .agg (encSet x).toArray) (encSet x) rfl
  have S2 : St w.heap.size w (fun _ => none) w1 [box b1 27 (encSet x)] := T1
  refine p_v (v := .pointer (some ⟨b1, 0, none⟩)) rfl rfl rfl (x_box rfl r1) ?_
  refine p_v (v := .bool false) rfl rfl rfl (x_assign rfl) ?_
  refine run_region_end ?_
  refine run_seq ?_
  refine run_reg (l := [0, 1, 2, 3, 4]) rfl ?_
  refine p_v (v := .agg (encSet x).toArray) rfl rfl rfl (x_load (seg := (encSet x)) t27 rfl (by simp) rfl (CF.box (m := 4) (S2.box_at (j := 0) rfl) (cs := (encSet x)) rfl)) ?_
  refine p_v (v := .agg (encSet p1).toArray) rfl rfl rfl (x_load (seg := (encSet p1)) t27 rfl (by simp) rfl (CF.ghost pc1 (St.le0 S2))) ?_
  refine p_c rfl rfl rfl (y_call (args := [.agg (encSet x).toArray, .agg (encSet p1).toArray]) c24 rfl rfl) (and_calls w1 x p1) ?_
  rintro _ w3 ⟨h3, T3, rfl⟩
  have S4 : St w.heap.size w (fun _ => none) w3 [box b1 27 (encSet x)] := S2.keep (Chg.of_below T3.below)
  obtain ⟨b5, w5, r5, g5, T5⟩ := e_box (P := Tryd.prog) S4 27 (v := (.agg #[.int .u64 0, .int .u64 0, .int .u64 0, .int .u64 0])) (encSet (0 : BSet)) rfl
  have S6 : St w.heap.size w (fun _ => none) w5 [box b1 27 (encSet x), box b5 27 (encSet (0 : BSet))] := T5
  refine p_v (v := .pointer (some ⟨b5, 0, none⟩)) rfl rfl rfl (x_alloc t27 r5) ?_
  obtain ⟨w7, r7, g7, T7⟩ := e_store (P := Tryd.prog) (off := 0) (v := .agg (encSet (x &&& p1)).toArray) (vs := (encSet (x &&& p1))) S6 t27 rfl rfl (j := 1) rfl (by first | decide | exact Nat.le_of_ble_eq_true rfl) (encSet_one _)
  have S8 : St w.heap.size w (fun _ => none) w7 [box b1 27 (encSet x), box b5 27 (encSet (x &&& p1))] := T7
  refine p_s rfl rfl (x_store rfl rfl r7) ?_
  refine run_region_end ?_
  refine run_seq ?_
  refine run_reg (l := [0, 1, 2, 3, 4, 5, 6, 7, 8]) rfl ?_
  refine p_v (v := .agg (encSet (x &&& p1)).toArray) rfl rfl rfl (x_load (seg := (encSet (x &&& p1))) t27 rfl (by simp) rfl (CF.box (m := 4) (S8.box_at (j := 1) rfl) (cs := (encSet (x &&& p1))) rfl)) ?_
  refine p_v (v := .agg (encSet x).toArray) rfl rfl rfl (x_load (seg := (encSet x)) t27 rfl (by simp) rfl (CF.box (m := 4) (S8.box_at (j := 0) rfl) (cs := (encSet x)) rfl)) ?_
  refine p_v (v := .bool (decide ((x &&& p1) ≠ x))) rfl rfl rfl (x_neq_set u27 u25 t25 q27 rfl rfl) ?_
  refine p_v (v := .bool (decide ((x &&& p1) ≠ x))) rfl rfl rfl (x_move rfl) ?_
  by_cases hc9 : (x &&& p1) ≠ x
  · skip
    refine p_v (v := .agg (encSet (x &&& p1)).toArray) rfl (wanted_of (j := 3) (want := true) (d := 11) (b := true) rfl rfl (congrArg Value.bool (decide_eq_true hc9)) rfl) rfl (x_load (seg := (encSet (x &&& p1))) t27 rfl (by simp) rfl (CF.box (m := 4) (S8.box_at (j := 1) rfl) (cs := (encSet (x &&& p1))) rfl)) ?_
    refine p_v (v := .agg (encSet (0 : BSet)).toArray) rfl (wanted_of (j := 3) (want := true) (d := 11) (b := true) rfl rfl (congrArg Value.bool (decide_eq_true hc9)) rfl) rfl (y_build (pv := []) rfl (run_build_array u27 t25 t27 (cs := (encSet (0 : BSet))) (by rfl))) ?_
    refine p_v (v := .bool (decide ((x &&& p1) ≠ (0 : BSet)))) rfl (wanted_of (j := 3) (want := true) (d := 11) (b := true) rfl rfl (congrArg Value.bool (decide_eq_true hc9)) rfl) rfl (x_neq_set u27 u25 t25 q27 rfl rfl) ?_
    refine p_v (v := .bool (decide ((x &&& p1) ≠ (0 : BSet)))) rfl rfl rfl (x_pick_t (congrArg Value.bool (decide_eq_true hc9)) rfl) ?_
    refine p_v (v := .bool (decide ((x &&& p1) ≠ (0 : BSet)))) rfl rfl rfl (x_assign rfl) ?_
    refine run_region_end ?_
    refine run_ret Tryd.func41 (res1 rfl (res_tmp (v := .bool (decide ((x &&& p1) ≠ (0 : BSet)))) rfl)) ?_
    have q0 : (cuts x p1 : Bool) = decide ((x &&& p1) ≠ (0 : BSet)) := by
      unfold cuts; simp [*]
    refine ⟨_, rfl, (fun _ => none), ?_, ?_⟩
    · exact S8.sub [] (by decide) rfl _ rfl
    · first | rfl | (simp only [q0]; rfl) | (simp only [q0])
  · skip
    refine p_off rfl (wanted_of (j := 3) (want := true) (d := 11) (b := false) rfl rfl (congrArg Value.bool (decide_eq_false hc9)) rfl) rfl ?_
    refine p_off rfl (wanted_of (j := 3) (want := true) (d := 11) (b := false) rfl rfl (congrArg Value.bool (decide_eq_false hc9)) rfl) rfl ?_
    refine p_off rfl (wanted_of (j := 3) (want := true) (d := 11) (b := false) rfl rfl (congrArg Value.bool (decide_eq_false hc9)) rfl) rfl ?_
    refine p_v (v := .bool false) rfl rfl rfl (x_pick_f (congrArg Value.bool (decide_eq_false hc9)) rfl) ?_
    refine p_v (v := .bool false) rfl rfl rfl (x_assign rfl) ?_
    refine run_region_end ?_
    refine run_ret Tryd.func41 (res1 rfl (res_tmp (v := .bool false) rfl)) ?_
    have q0 : (cuts x p1 : Bool) = false := by
      unfold cuts; simp [*]
    refine ⟨_, rfl, (fun _ => none), ?_, ?_⟩
    · exact S8.sub [] (by decide) rfl _ rfl
    · first | rfl | (simp only [q0]; rfl) | (simp only [q0])
theorem index_calls (w : World) (s : List BSet) (A0 : Option Addr) (c0 : Nat) (b0 : s.length ≤ c0 ∧ c0 ≤ maxLen) (l0 : Leads kSet (hp w) A0 s) (f : BSet) (a1 : Addr) (pc1 : ∀ j v, (encSet f)[j]? = some v → gcell (hp w) (a1.add j) = some v) :
    Calls Tryd.prog 42 #[.slice A0 s.length c0, .func (.func 41) #[] #[.pointer (some a1)]] w fun e w' => ∃ v, e = .returned v ∧ ∃ (hn : Ghost), St w.heap.size w hn w' [] ∧ v = .int .i64 (place (fun x => cuts x f) s) ∧ inK .i64 (place (fun x => cuts x f) s) := by
  refine calls_of_run Tryd.func42 rfl Tryd.ntmps42 rfl ?_
  have S0 := St.init w
  have bb0 := b0.1; have bc0 := b0.2; simp only [maxLen] at bc0
  refine run_seq ?_
  refine run_reg (l := [0]) rfl ?_
  refine p_v (v := .int .i64 0) rfl rfl rfl (x_assign rfl) ?_
  refine run_region_end ?_
  refine run_seq ?_
  refine run_seq ?_
  refine run_reg (l := [0, 1, 2]) rfl ?_
  refine p_v (v := .slice A0 s.length c0) rfl rfl rfl (x_move rfl) ?_
  refine p_v (v := .int .i64 (s.length : Int)) rfl rfl rfl (x_len_slice u44 rfl) ?_
  refine p_v (v := .int .i64 0) rfl rfl rfl (x_move rfl) ?_
  refine run_region_end ?_
  refine run_block ?_
  refine run_loop (S := Int) (fun (q_ : Int) ρ w' => match q_ with | t8 => ∃ (h : Ghost), Le (fun _ => none) h ∧ St w.heap.size w h w' [] ∧ ρ 0 = .slice A0 s.length c0 ∧ ρ 1 = .func (.func 41) #[] #[.pointer (some a1)] ∧ ρ 7 = .int .i64 (s.length : Int) ∧ ρ 8 = .int .i64 t8 ∧ inK .i64 t8 ∧ (0 ≤ t8 ∧ t8 ≤ (s.length : Int) ∧ place (fun x => cuts x f) s = placeFrom (fun x => cuts x f) (s.drop t8.toNat) t8)) (fun q_ => match q_ with | t8 => (s.length - t8).toNat) (0) ⟨(fun _ => none), Le.refl _, S0.sub [] (by decide) rfl _ rfl, rfl, rfl, rfl, rfl, (in_i64 (by first | omega | (simp; omega) | assumption) (by first | omega | (simp; omega) | assumption)), (by exact ⟨by omega, by omega, rfl⟩)⟩ ?_
  rintro t8 ih1 ρ1 w1 ⟨h1, le1, S1, r1_0, r1_1, r1_7, r1_8, f1_0, hI1⟩
  have lf1_0 := i64_lo f1_0; have hf1_0 := i64_hi f1_0
  refine run_seq ?_
  refine run_reg (l := [0]) rfl ?_
  refine p_v (v := .bool (decide (t8 < (s.length : Int)))) rfl rfl rfl (x_lss r1_8 r1_7) ?_
  refine run_region_end ?_
  refine run_seq ?_
  refine run_cond_prop (p := t8 < (s.length : Int)) rfl (fun hc2 => ?_) (fun hc2 => ?_)
  · skip
    refine run_skip ?_
    refine run_seq ?_
    refine run_block ?_
    refine run_seq ?_
    refine run_reg (l := [0, 1]) rfl ?_
    refine p_v (v := .int .i64 t8) rfl rfl rfl (x_move r1_8) ?_
    refine p_v (v := .int .i64 t8) rfl rfl rfl (x_assign rfl) ?_
    refine run_region_end ?_
    refine run_seq ?_
    refine run_reg (l := [0, 1, 2, 3, 4, 5]) rfl ?_
    refine p_v (v := .func (.func 41) #[] #[.pointer (some a1)]) rfl rfl rfl (x_move r1_1) ?_
    refine p_v (v := .slice A0 s.length c0) rfl rfl rfl (x_move r1_0) ?_
    refine p_v (v := .int .i64 t8) rfl rfl rfl (x_move rfl) ?_
    obtain ⟨ad3, seg3, a3, rp3, ce3⟩ := e_index_ro (q := t8) (m := 4) l0 rfl (by first | omega | (simp; omega) | assumption) (by first | omega | (simp; omega) | assumption)
    refine p_v (v := .pointer (some ad3)) rfl rfl rfl (x_index_ro u44 t27 rfl rfl a3 (by first | omega | (simp; omega) | assumption) (by first | omega | (simp; omega) | assumption)) ?_
    obtain ⟨rfl, ok3⟩ := rp3
    refine p_v (v := .agg (encSet (at_ s t8)).toArray) rfl rfl rfl (x_load (seg := (encSet (at_ s t8))) t27 rfl (by simp) rfl (CF.ghost ce3 (St.le0 S1))) ?_
    refine p_c rfl rfl rfl (y_call (args := [.agg (encSet (at_ s t8)).toArray, .pointer (some a1)]) c41 rfl rfl) (cut_calls w1 (at_ s t8) f a1 (fun j v h => gcell_mono (St.le0 S1) (pc1 j v h))) ?_
    rintro _ w4 ⟨h4, T4, rfl⟩
    have S5 : St w.heap.size w h1 w4 [] := S1.keep (Chg.of_below T4.below)
    refine run_region_end ?_
    refine run_cond_split (b := cuts (at_ s t8) f) rfl (fun hc6 => ?_) (fun hc6 => ?_)
    · skip
      refine run_seq ?_
      refine run_reg (l := [0, 1]) rfl ?_
      refine p_v (v := .int .i64 t8) rfl rfl rfl (x_move rfl) ?_
      refine p_v (v := .int .i64 t8) rfl rfl rfl (x_assign rfl) ?_
      refine run_region_end ?_
      refine run_ret Tryd.func42 (res1 rfl (res_tmp (v := .int .i64 t8) rfl)) ?_
      have q0 : (place (fun x => cuts x f) s : Int) = t8 := by
        rw [hI1.2.2, placeFrom_drop _ _ hI1.1 (by omega), if_pos (by assumption)]
      refine ⟨_, rfl, h1, ?_, ?_, ?_⟩
      · exact S5.sub [] (by decide) rfl _ rfl
      · first | rfl | (simp only [q0]; rfl) | (simp only [q0])
      · rw [q0]; exact f1_0
    · skip
      refine run_skip ?_
      refine run_inBlock ?_
      refine run_reg (l := [0, 1]) rfl ?_
      refine p_v (v := .int .i64 (t8 + 1)) rfl rfl rfl (x_add r1_8 rfl (in_i64 (by first | omega | (simp; omega) | assumption) (by first | omega | (simp; omega) | assumption))) ?_
      refine p_v (v := .int .i64 (t8 + 1)) rfl rfl rfl (x_move rfl) ?_
      refine run_region_end ?_
      refine ih1 (t8 + 1) _ _ (by dsimp only; omega) ⟨h1, le1, S5.sub [] (by decide) rfl _ rfl, r1_0, r1_1, r1_7, rfl, (in_i64 (by first | omega | (simp; omega) | assumption) (by first | omega | (simp; omega) | assumption)), (by exact ⟨by omega, by omega, by rw [hI1.2.2, placeFrom_drop _ _ hI1.1 (by omega), if_neg (by simp [*])]⟩)⟩
  · skip
    refine run_exit rfl ?_
    refine run_seq ?_
    refine run_reg (l := [0]) rfl ?_
    refine p_v (v := .int .i64 (-1)) rfl rfl rfl (x_assign rfl) ?_
    refine run_region_end ?_
    refine run_ret Tryd.func42 (res1 rfl (res_tmp (v := .int .i64 (-1)) rfl)) ?_
    have q0 : (place (fun x => cuts x f) s : Int) = (-1) := by
      rw [hI1.2.2, List.drop_of_length_le (by omega)]; rfl
    refine ⟨_, rfl, h1, ?_, ?_, ?_⟩
    · exact S1.sub [] (by decide) rfl _ rfl
    · first | rfl | (simp only [q0]; rfl) | (simp only [q0])
    · rw [q0]; exact (in_i64 (by first | omega | (simp; omega) | assumption) (by first | omega | (simp; omega) | assumption))
theorem contains_calls (w : World) (s : List BSet) (A0 : Option Addr) (c0 : Nat) (b0 : s.length ≤ c0 ∧ c0 ≤ maxLen) (l0 : Leads kSet (hp w) A0 s) (f : BSet) (a1 : Addr) (pc1 : ∀ j v, (encSet f)[j]? = some v → gcell (hp w) (a1.add j) = some v) :
    Calls Tryd.prog 40 #[.slice A0 s.length c0, .func (.func 41) #[] #[.pointer (some a1)]] w fun e w' => ∃ v, e = .returned v ∧ ∃ (hn : Ghost), St w.heap.size w hn w' [] ∧ v = .bool (s.any fun x => cuts x f) := by
  refine calls_of_run Tryd.func40 rfl Tryd.ntmps40 rfl ?_
  have S0 := St.init w
  have bb0 := b0.1; have bc0 := b0.2; simp only [maxLen] at bc0
  refine run_seq ?_
  refine run_reg (l := [0]) rfl ?_
  refine p_v (v := .bool false) rfl rfl rfl (x_assign rfl) ?_
  refine run_region_end ?_
  refine run_seq ?_
  refine run_reg (l := [0, 1, 2, 3, 4]) rfl ?_
  refine p_v (v := .slice A0 s.length c0) rfl rfl rfl (x_move rfl) ?_
  refine p_v (v := .func (.func 41) #[] #[.pointer (some a1)]) rfl rfl rfl (x_move rfl) ?_
  refine p_c rfl rfl rfl (y_call (args := [.slice A0 s.length c0, .func (.func 41) #[] #[.pointer (some a1)]]) c42 rfl rfl) (index_calls w s A0 c0 b0 (l0.mono (St.le0 S0)) f a1 (fun j v h => gcell_mono (St.le0 S0) (pc1 j v h))) ?_
  rintro _ w1 ⟨h1, T1, rfl, in1_0⟩
  have S2 : St w.heap.size w (fun _ => none) w1 [] := S0.keep (Chg.of_below T1.below)
  have lo_in1_0 := i64_lo in1_0; have hi_in1_0 := i64_hi in1_0
  refine p_v (v := .bool (decide (0 ≤ (place (fun x => cuts x f) s)))) rfl rfl rfl (x_geq rfl rfl) ?_
  refine p_v (v := .bool (decide (0 ≤ (place (fun x => cuts x f) s)))) rfl rfl rfl (x_assign rfl) ?_
  refine run_region_end ?_
  refine run_ret Tryd.func40 (res1 rfl (res_tmp (v := .bool (decide (0 ≤ (place (fun x => cuts x f) s)))) rfl)) ?_
  have q0 : (s.any fun x => cuts x f : Bool) = decide (0 ≤ (place (fun x => cuts x f) s)) := by
    exact (place_any _ _).symm
  refine ⟨_, rfl, (fun _ => none), ?_, ?_⟩
  · exact S2.sub [] (by decide) rfl _ rfl
  · first | rfl | (simp only [q0]; rfl) | (simp only [q0])
theorem splits_calls (w : World) (p : PartM) (o0 : okPart p) (s : BSet) :
    Calls Tryd.prog 32 #[.agg (encPart p).toArray, .agg (encSet s).toArray] w fun e w' => ∃ v, e = .returned v ∧ ∃ (hn : Ghost), St w.heap.size w hn w' [] ∧ v = .bool (splitsP p s) := by
  refine calls_of_run Tryd.func32 rfl Tryd.ntmps32 rfl ?_
  have S0 := St.init w
  have ploo0 := i64_lo o0.2; have phio0 := i64_hi o0.2
  refine run_seq ?_
  refine run_reg (l := [0, 1, 2]) rfl ?_
  obtain ⟨b1, w1, r1, g1, T1⟩ := e_box (P := Tryd.prog) S0 48 (v := .agg (encPart p).toArray) (encPart p) rfl
  have S2 : St w.heap.size w (fun _ => none) w1 [box b1 48 (encPart p)] := T1
  refine p_v (v := .pointer (some ⟨b1, 0, none⟩)) rfl rfl rfl (x_box rfl r1) ?_
  obtain ⟨b3, w3, r3, g3, T3⟩ := e_box (P := Tryd.prog) S2 27 (v := .agg (encSet s).toArray) (encSet s) rfl
  have S4 : St w.heap.size w (fun _ => none) w3 [box b1 48 (encPart p), box b3 27 (encSet s)] := T3
  refine p_v (v := .pointer (some ⟨b3, 0, none⟩)) rfl rfl rfl (x_box rfl r3) ?_
  refine p_v (v := .bool false) rfl rfl rfl (x_assign rfl) ?_
  refine run_region_end ?_
  refine run_seq ?_
  refine run_reg (l := [0, 1, 2, 3, 4]) rfl ?_
  refine p_v (v := .agg (encPart p).toArray) rfl rfl rfl (x_load (seg := (encPart p)) t48 (encPart_len o0) (by simp) rfl (CF.box (m := 257) (S4.box_at (j := 0) rfl) (cs := (encPart p)) (by rw [List.drop_zero, List.take_of_length_le (by rw [encPart_len o0]; exact Nat.le_refl _)]))) ?_
  refine p_c rfl rfl rfl (y_call (args := [.agg (encPart p).toArray]) c31 rfl rfl) (sets_calls w3 p o0) ?_
  rintro v5_0 w5 ⟨h5, _, T5, rfl⟩
  obtain ⟨k5, lk5, ll5, U5⟩ := call_joins S4 T5
  have S6 : St w.heap.size w k5 w5 [box b1 48 (encPart p), box b3 27 (encSet s), row 27 kSet v5_0 (setsP p)] := U5
  obtain ⟨h7, le7, T7, rp7⟩ := S6.freeze (i := 2) rfl
  have lf7_0 := (lk5).trans le7
  have S8 : St w.heap.size w h7 w5 [box b1 48 (encPart p), box b3 27 (encSet s), emp] := T7
  obtain ⟨A7, c7, e7, lc7, cm7, ld7⟩ := rp7
  injection e7 with e7 _; subst e7
  have cn7 := cm7; simp only [maxLen] at cn7
  refine p_v (v := .func (.func 41) #[] #[.pointer (some ⟨b3, 0, none⟩)]) rfl rfl rfl (y_makeFunc (fv := []) (cv := [.pointer (some ⟨b3, 0, none⟩)]) rfl rfl) ?_
  refine p_c rfl rfl rfl (y_call (args := [.slice A7 (setsP p).length c7, .func (.func 41) #[] #[.pointer (some ⟨b3, 0, none⟩)]]) c40 rfl rfl) (contains_calls w5 (setsP p) A7 c7 (And.intro lc7 cm7) (ld7.mono ((Le.refl _).trans S8.ghost)) s ⟨b3, 0, none⟩ (box_gcell (S8.box_at (j := 1) rfl))) ?_
  rintro _ w9 ⟨h9, T9, rfl⟩
  have S10 : St w.heap.size w h7 w9 [box b1 48 (encPart p), box b3 27 (encSet s), emp] := S8.keep (Chg.of_below T9.below)
  refine p_v (v := .bool ((setsP p).any fun x => cuts x s)) rfl rfl rfl (x_assign rfl) ?_
  refine run_region_end ?_
  refine run_ret Tryd.func32 (res1 rfl (res_tmp (v := .bool ((setsP p).any fun x => cuts x s)) rfl)) ?_
  have q0 : (splitsP p s : Bool) = (setsP p).any fun x => cuts x s := by
    unfold splitsP; rfl
  refine ⟨_, rfl, h7, ?_, ?_⟩
  · exact S10.sub [] (by decide) rfl _ rfl
  · first | rfl | (simp only [q0]; rfl) | (simp only [q0])
theorem apart_calls (w : World) (sets : List (List Bool)) (A0 : Option Addr) (c0 : Nat) (b0 : sets.length ≤ c0 ∧ c0 ≤ maxLen) (l0 : Leads (kBools 256 (by decide)) (hp w) A0 sets) (a : Int) (i1 : inK .i64 a) (b : Int) (i2 : inK .i64 b) (pre0 : 0 ≤ a ∧ a < 256 ∧ 0 ≤ b ∧ b < 256) :
    Calls Tryd.prog 38 #[.slice A0 sets.length c0, .int .i64 a, .int .i64 b] w fun e w' => ∃ v, e = .returned v ∧ ∃ (hn : Ghost), St w.heap.size w hn w' [] ∧ v = .bool (apartOf sets a b) := by
  refine calls_of_run Tryd.func38 rfl Tryd.ntmps38 rfl ?_
  have S0 := St.init w
  have bb0 := b0.1; have bc0 := b0.2; simp only [maxLen] at bc0
  have lo1 := i64_lo i1; have hi1 := i64_hi i1
  have lo2 := i64_lo i2; have hi2 := i64_hi i2
  refine run_seq ?_
  refine run_reg (l := [0]) rfl ?_
  refine p_v (v := .bool false) rfl rfl rfl (x_assign rfl) ?_
  refine run_region_end ?_
  refine run_seq ?_
  refine run_seq ?_
  refine run_reg (l := [0]) rfl ?_
  refine p_v (v := .int .i64 0) rfl rfl rfl (x_assign rfl) ?_
  refine run_region_end ?_
  refine run_block ?_
  refine run_loop (S := Int) (fun (q_ : Int) ρ w' => match q_ with | i => ∃ (h : Ghost), Le (fun _ => none) h ∧ St w.heap.size w h w' [] ∧ ρ 0 = .slice A0 sets.length c0 ∧ ρ 1 = .int .i64 a ∧ ρ 2 = .int .i64 b ∧ ρ 7 = .int .i64 i ∧ inK .i64 i ∧ (0 ≤ i ∧ i ≤ (sets.length : Int) ∧ apartOf sets a b = apartOf (sets.drop i.toNat) a b)) (fun q_ => match q_ with | i => (sets.length - i).toNat) (0) ⟨(fun _ => none), Le.refl _, S0.sub [] (by decide) rfl _ rfl, rfl, rfl, rfl, rfl, (in_i64 (by first | omega | (simp; omega) | assumption) (by first | omega | (simp; omega) | assumption)), (by exact ⟨by omega, by omega, rfl⟩)⟩ ?_
  rintro i ih1 ρ1 w1 ⟨h1, le1, S1, r1_0, r1_1, r1_2, r1_7, f1_0, hI1⟩
  have lf1_0 := i64_lo f1_0; have hf1_0 := i64_hi f1_0
  refine run_seq ?_
  refine run_seq ?_
  refine run_reg (l := [0, 1, 2, 3]) rfl ?_
  refine p_v (v := .int .i64 i) rfl rfl rfl (x_move r1_7) ?_
  refine p_v (v := .slice A0 sets.length c0) rfl rfl rfl (x_move r1_0) ?_
  refine p_v (v := .int .i64 (sets.length : Int)) rfl rfl rfl (x_len_slice u64 rfl) ?_
  refine p_v (v := .bool (decide (i < (sets.length : Int)))) rfl rfl rfl (x_lss rfl rfl) ?_
  refine run_region_end ?_
  refine run_cond_prop (p := i < (sets.length : Int)) rfl (fun hc2 => ?_) (fun hc2 => ?_)
  · skip
    refine run_skip ?_
    refine run_seq ?_
    refine run_block ?_
    refine run_seq ?_
    obtain ⟨ad3, seg3, a3, rp3, ce3⟩ := e_index_ro (q := i) (m := 256) l0 rfl (by first | omega | (simp; omega) | assumption) (by first | omega | (simp; omega) | assumption)
    obtain ⟨rfl, ok3⟩ := rp3
    obtain ⟨ad5, seg5, a5, rp5, ce5⟩ := e_index_ro (q := i) (m := 256) l0 rfl (by first | omega | (simp; omega) | assumption) (by first | omega | (simp; omega) | assumption)
    obtain ⟨rfl, ok5⟩ := rp5
    have hf7 : (CFs (ad3.add (a.toNat * 1)) [.bool (at_ (at_ sets i) a)]).1 w1 := (CF.ghost (sub_cells ce3 (encBools_get ok3 (by first | omega | (simp; omega) | assumption) (by first | omega | (simp; omega) | assumption))) (St.le0 S1))
    have hf8 : (CFs (ad5.add (b.toNat * 1)) [.bool (at_ (at_ sets i) b)]).1 w1 := (CF.ghost (sub_cells ce5 (encBools_get ok5 (by first | omega | (simp; omega) | assumption) (by first | omega | (simp; omega) | assumption))) (St.le0 S1))
    refine da_start [(5, CFs (ad3.add (a.toNat * 1)) [.bool (at_ (at_ sets i) a)]), (11, CFs (ad5.add (b.toNat * 1)) [.bool (at_ (at_ sets i) b)])] 13 rfl mixed ?_
    intro wd9 gd9 hd9
    have S10 : St w.heap.size w h1 wd9 [] := S1.keep gd9
    have hf11 := (CFs (ad3.add (a.toNat * 1)) [.bool (at_ (at_ sets i) a)]).2 _ _ gd9 hf7
    have hf12 := (CFs (ad5.add (b.toNat * 1)) [.bool (at_ (at_ sets i) b)]).2 _ _ gd9 hf8
    refine d_q (i := 0) (v := .slice A0 sets.length c0) (fun _ => True) (fun _ ho => trivial) rfl (by decide +kernel) (by decide +kernel) (by decide +kernel) rfl rfl (fun wq hq => (x_move r1_0)) (of_ne rfl (of_ne rfl (of_nil _ _))) ?_
    refine d_q (i := 1) (v := .int .i64 i) (fun _ => True) (fun _ ho => trivial) rfl (by decide +kernel) (by decide +kernel) (by decide +kernel) rfl rfl (fun wq hq => (x_move r1_7)) (of_ne rfl (of_ne rfl (of_nil _ _))) ?_
    refine d_q (i := 2) (v := .int .i64 a) (fun _ => True) (fun _ ho => trivial) rfl (by decide +kernel) (by decide +kernel) (by decide +kernel) rfl rfl (fun wq hq => (x_move r1_1)) (of_ne rfl (of_ne rfl (of_nil _ _))) ?_
    refine d_q (i := 3) (v := .pointer (some ad3)) (fun _ => True) (fun _ ho => trivial) rfl (by decide +kernel) (by decide +kernel) (by decide +kernel) rfl rfl (fun wq hq => (x_index_ro u64 t24 rfl rfl a3 (by first | omega | (simp; omega) | assumption) (by first | omega | (simp; omega) | assumption))) (of_ne rfl (of_ne rfl (of_nil _ _))) ?_
    refine d_q (i := 4) (v := .pointer (some (ad3.add (a.toNat * 1)))) (fun _ => True) (fun _ ho => trivial) rfl (by decide +kernel) (by decide +kernel) (by decide +kernel) rfl rfl (fun wq hq => (x_indexAddr_ad u24 t4 rfl rfl (by first | omega | (simp; omega) | assumption) (by first | omega | (simp; omega) | assumption))) (of_ne rfl (of_ne rfl (of_nil _ _))) ?_
    refine d_q (i := 5) (v := .bool (at_ (at_ sets i) a)) (CF (ad3.add (a.toNat * 1)) [.bool (at_ (at_ sets i) a)]) (fun _ ho => ho _ (List.mem_of_getElem? (i := 0) rfl) rfl) rfl (by decide +kernel) (by decide +kernel) (by decide +kernel) rfl rfl (fun wq hq => (x_load (seg := [.bool (at_ (at_ sets i) a)]) t4 rfl (by simp) rfl hq)) (of_eq hf11 (of_ne rfl (of_nil _ _))) ?_
    refine d_q (i := 6) (v := .slice A0 sets.length c0) (fun _ => True) (fun _ ho => trivial) rfl (by decide +kernel) (by decide +kernel) (by decide +kernel) rfl rfl (fun wq hq => (x_move r1_0)) (of_ne rfl (of_ne rfl (of_nil _ _))) ?_
    refine d_q (i := 7) (v := .int .i64 i) (fun _ => True) (fun _ ho => trivial) rfl (by decide +kernel) (by decide +kernel) (by decide +kernel) rfl rfl (fun wq hq => (x_move r1_7)) (of_ne rfl (of_ne rfl (of_nil _ _))) ?_
    refine d_q (i := 8) (v := .int .i64 b) (fun _ => True) (fun _ ho => trivial) rfl (by decide +kernel) (by decide +kernel) (by decide +kernel) rfl rfl (fun wq hq => (x_move r1_2)) (of_ne rfl (of_ne rfl (of_nil _ _))) ?_
    refine d_q (i := 9) (v := .pointer (some ad5)) (fun _ => True) (fun _ ho => trivial) rfl (by decide +kernel) (by decide +kernel) (by decide +kernel) rfl rfl (fun wq hq => (x_index_ro u64 t24 rfl rfl a5 (by first | omega | (simp; omega) | assumption) (by first | omega | (simp; omega) | assumption))) (of_ne rfl (of_ne rfl (of_nil _ _))) ?_
    refine d_q (i := 10) (v := .pointer (some (ad5.add (b.toNat * 1)))) (fun _ => True) (fun _ ho => trivial) rfl (by decide +kernel) (by decide +kernel) (by decide +kernel) rfl rfl (fun wq hq => (x_indexAddr_ad u24 t4 rfl rfl (by first | omega | (simp; omega) | assumption) (by first | omega | (simp; omega) | assumption))) (of_ne rfl (of_ne rfl (of_nil _ _))) ?_
    refine d_q (i := 11) (v := .bool (at_ (at_ sets i) b)) (CF (ad5.add (b.toNat * 1)) [.bool (at_ (at_ sets i) b)]) (fun _ ho => ho _ (List.mem_of_getElem? (i := 1) rfl) rfl) rfl (by decide +kernel) (by decide +kernel) (by decide +kernel) rfl rfl (fun wq hq => (x_load (seg := [.bool (at_ (at_ sets i) b)]) t4 rfl (by simp) rfl hq)) (of_ne rfl (of_eq hf12 (of_nil _ _))) ?_
    refine d_q (i := 12) (v := .bool (decide ((at_ (at_ sets i) a) ≠ (at_ (at_ sets i) b)))) (fun _ => True) (fun _ ho => trivial) rfl (by decide +kernel) (by decide +kernel) (by decide +kernel) rfl rfl (fun wq hq => (x_neq_bool u4 rfl rfl)) (of_ne rfl (of_ne rfl (of_nil _ _))) ?_
    refine ra_done (by decide +kernel) ?_
    intro wd13 gd13
    have S14 : St w.heap.size w h1 wd13 [] := S10.keep gd13
    refine run_cond_prop (p := (at_ (at_ sets i) a) ≠ (at_ (at_ sets i) b)) rfl (fun hc15 => ?_) (fun hc15 => ?_)
    · skip
      refine run_seq ?_
      refine run_reg (l := [0]) rfl ?_
      refine p_v (v := .bool true) rfl rfl rfl (x_assign rfl) ?_
      refine run_region_end ?_
      refine run_ret Tryd.func38 (res1 rfl (res_tmp (v := .bool true) rfl)) ?_
      have q0 : (apartOf sets a b : Bool) = true := by
        rw [hI1.2.2, apart_drop sets a b hI1.1 (by omega)]; simp [*]
      refine ⟨_, rfl, h1, ?_, ?_⟩
      · exact S14.sub [] (by decide) rfl _ rfl
      · first | rfl | (simp only [q0]; rfl) | (simp only [q0])
    · skip
      refine run_skip ?_
      refine run_inBlock ?_
      refine run_reg (l := [0, 1, 2]) rfl ?_
      refine p_v (v := .int .i64 i) rfl rfl rfl (x_move r1_7) ?_
      refine p_v (v := .int .i64 (i + 1)) rfl rfl rfl (x_add rfl rfl (in_i64 (by first | omega | (simp; omega) | assumption) (by first | omega | (simp; omega) | assumption))) ?_
      refine p_v (v := .int .i64 (i + 1)) rfl rfl rfl (x_assign rfl) ?_
      refine run_region_end ?_
      refine ih1 (i + 1) _ _ (by dsimp only; omega) ⟨h1, le1, S14.sub [] (by decide) rfl _ rfl, r1_0, r1_1, r1_2, rfl, (in_i64 (by first | omega | (simp; omega) | assumption) (by first | omega | (simp; omega) | assumption)), (by exact ⟨by omega, by omega, by rw [hI1.2.2, apart_drop sets a b hI1.1 (by omega)]; simp [*]⟩)⟩
  · skip
    refine run_exit rfl ?_
    refine run_seq ?_
    refine run_reg (l := [0]) rfl ?_
    refine p_v (v := .bool false) rfl rfl rfl (x_assign rfl) ?_
    refine run_region_end ?_
    refine run_ret Tryd.func38 (res1 rfl (res_tmp (v := .bool false) rfl)) ?_
    have q0 : (apartOf sets a b : Bool) = false := by
      rw [hI1.2.2, List.drop_of_length_le (by omega)]; rfl
    refine ⟨_, rfl, h1, ?_, ?_⟩
    · exact S1.sub [] (by decide) rfl _ rfl
    · first | rfl | (simp only [q0]; rfl) | (simp only [q0])
theorem doc_calls (w : World) (sets : List (List Int)) (A0 : Option Addr) (c0 : Nat) (b0 : sets.length ≤ c0 ∧ c0 ≤ maxLen) (l0 : Leads (kInts .u64 4 (by decide)) (hp w) A0 sets) (pre0 : sets.length ≤ 1000) :
    Calls Tryd.prog 28 #[.slice A0 sets.length c0] w fun e w' => ∃ v, e = .returned v ∧ ∃ (hn : Ghost), St w.heap.size w hn w' [] ∧ v = .tuple #[.agg (encInts .i64 ((partOf (docKey sets)).of)).toArray, .int .i64 ((partOf (docKey sets)).n)] ∧ okInts .i64 256 ((partOf (docKey sets)).of) ∧ inK .i64 ((partOf (docKey sets)).n) := by
  refine calls_of_run Tryd.func28 rfl Tryd.ntmps28 rfl ?_
  have S0 := St.init w
  have bb0 := b0.1; have bc0 := b0.2; simp only [maxLen] at bc0
  refine run_seq ?_
  refine run_reg (l := [0, 1]) rfl ?_
  obtain ⟨b1, w1, r1, g1, T1⟩ := e_box (P := Tryd.prog) S0 50 (v := (.agg #[.int .i64 0, .int .i64 0, .int .i64 0, .int .i64 0, .int .i64 0, .int .i64 0, .int .i64 0, .int .i64 0, .int .i64 0, .int .i64 0, .int .i64 0, .int .i64 0, .int .i64 0, .int .i64 0, .int .i64 0, .int .i64 0, .int .i64 0, .int .i64 0, .int .i64 0, .int .i64 0, .int .i64 0, .int .i64 0, .int .i64 0, .int .i64 0, .int .i64 0, .int .i64 0, .int .i64 0, .int .i64 0, .int .i64 0, .int .i64 0, .int .i64 0, .int .i64 0, .int .i64 0, .int .i64 0, .int .i64 0, .int .i64 0, .int .i64 0, .int .i64 0, .int .i64 0, .int .i64 0, .int .i64 0, .int .i64 0, .int .i64 0, .int .i64 0, .int .i64 0, .int .i64 0, .int .i64 0, .int .i64 0, .int .i64 0, .int .i64 0, .int .i64 0, .int .i64 0, .int .i64 0, .int .i64 0, .int .i64 0, .int .i64 0, .int .i64 0, .int .i64 0, .int .i64 0, .int .i64 0, .int .i64 0, .int .i64 0, .int .i64 0, .int .i64 0, .int .i64 0, .int .i64 0, .int .i64 0, .int .i64 0, .int .i64 0, .int .i64 0, .int .i64 0, .int .i64 0, .int .i64 0, .int .i64 0, .int .i64 0, .int .i64 0, .int .i64 0, .int .i64 0, .int .i64 0, .int .i64 0, .int .i64 0, .int .i64 0, .int .i64 0, .int .i64 0, .int .i64 0, .int .i64 0, .int .i64 0, .int .i64 0, .int .i64 0, .int .i64 0, .int .i64 0, .int .i64 0, .int .i64 0, .int .i64 0, .int .i64 0, .int .i64 0, .int .i64 0, .int .i64 0, .int .i64 0, .int .i64 0, .int .i64 0, .int .i64 0, .int .i64 0, .int .i64 0, .int .i64 0, .int .i64 0, .int .i64 0, .int .i64 0, .int .i64 0, .int .i64 0, .int .i64 0, .int .i64 0, .int .i64 0, .int .i64 0, .int .i64 0, .int .i64 0, .int .i64 0, .int .i64 0, .int .i64 0, .int .i64 0, .int .i64 0, .int .i64 0, .int .i64 0, .int .i64 0, .int .i64 0, .int .i64 0, .int .i64 0, .int .i64 0, .int .i64 0, .int .i64 0, .int .i64 0, .int .i64 0, .int .i64 0, .int .i64 0, .int .i64 0, .int .i64 0, .int .i64 0, .int .i64 0, .int .i64 0, .int .i64 0, .int .i64 0, .int .i64 0, .int .i64 0, .int .i64 0, .int .i64 0, .int .i64 0, .int .i64 0, .int .i64 0, .int .i64 0, .int .i64 0, .int .i64 0, .int .i64 0, .int .i64 0, .int .i64 0, .int .i64 0, .int .i64 0, .int .i64 0, .int .i64 0, .int .i64 0, .int .i64 0, .int .i64 0, .int .i64 0, .int .i64 0, .int .i64 0, .int .i64 0, .int .i64 0, .int .i64 0, .int .i64 0, .int .i64 0, .int .i64 0, .int .i64 0, .int .i64 0, .int .i64 0, .int .i64 0, .int .i64 0, .int .i64 0, .int .i64 0, .int .i64 0, .int .i64 0, .int .i64 0, .int .i64 0, .int .i64 0, .int .i64 0, .int .i64 0, .int .i64 0, .int .i64 0, .int .i64 0, .int .i64 0, .int .i64 0, .int .i64 0, .int .i64 0, .int .i64 0, .int .i64 0, .int .i64 0, .int .i64 0, .int .i64 0, .int .i64 0, .int .i64 0, .int .i64 0, .int .i64 0, .int .i64 0, .int .i64 0, .int .i64 0, .int .i64 0, .int .i64 0, .int .i64 0, .int .i64 0, .int .i64 0, .int .i64 0, .int .i64 0, .int .i64 0, .int .i64 0, .int .i64 0, .int .i64 0, .int .i64 0, .int .i64 0, .int .i64 0, .int .i64 0, .int .i64 0, .int .i64 0, .int .i64 0, .int .i64 0, .int .i64 0, .int .i64 0, .int .i64 0, .int .i64 0, .int .i64 0, .int .i64 0, .int .i64 0, .int .i64 0, .int .i64 0, .int .i64 0, .int .i64 0, .int .i64 0, .int .i64 0, .int .i64 0, .int .i64 0, .int .i64 0, .int .i64 0, .int .i64 0, .int .i64 0, .int .i64 0, .int .i64 0, .int .i64 0, .int .i64 0, .int .i64 0, .int .i64 0, .int .i64 0, .int .i64 0, .int .i64 0, .int .i64 0, .int .i64 0, .int .i64 0, .int .i64 0, .int .i64 0, .int .i64 0])) (encInts .i64 (List.replicate 256 (0 : Int))) (by kernel_rfl)
  have S2 : St w.heap.size w (fun _ => none) w1 [box b1 50 (encInts .i64 (List.replicate 256 (0 : Int)))] := T1
  refine p_v (v := .pointer (some ⟨b1, 0, none⟩)) rfl rfl rfl (x_alloc t50 r1) ?_
  refine p_v (v := .int .i64 0) rfl rfl rfl (x_assign rfl) ?_
  refine run_region_end ?_
  refine run_seq ?_
  refine run_reg (l := [0]) rfl ?_
  refine p_v (v := .slice none 0 0) rfl rfl rfl (x_assign rfl) ?_
  refine run_region_end ?_
  refine run_seq ?_
  refine run_seq ?_
  refine run_reg (l := [0]) rfl ?_
  refine p_v (v := .int .i64 0) rfl rfl rfl (x_assign rfl) ?_
  refine run_region_end ?_
  refine run_block ?_
  have T3 := S2.row_nil 24 (kBools 256 (by decide))
  obtain ⟨vn3, ev3, T3⟩ : ∃ v, v = (.slice none 0 0 : Value) ∧ St w.heap.size w (fun _ => none) w1 ([box b1 50 (encInts .i64 (List.replicate 256 (0 : Int)))] ++ [row 24 (kBools 256 (by decide)) v []]) := ⟨_, rfl, T3⟩
  have S4 : St w.heap.size w (fun _ => none) w1 [box b1 50 (encInts .i64 (List.replicate 256 (0 : Int))), row 24 (kBools 256 (by decide)) vn3 ([] : List (List Bool))] := T3
  refine run_loop (S := (List (List Bool)) × Int) (fun (q_ : (List (List Bool)) × Int) ρ w' => match q_ with | (m, i) => ∃ (h : Ghost) (v_m : Value), Le (fun _ => none) h ∧ St w.heap.size w h w' [box b1 50 (encInts .i64 (List.replicate 256 (0 : Int))), row 24 (kBools 256 (by decide)) v_m m] ∧ ρ 0 = .slice A0 sets.length c0 ∧ ρ 2 = .pointer (some ⟨b1, 0, none⟩) ∧ ρ 4 = v_m ∧ ρ 5 = .int .i64 i ∧ inK .i64 i ∧ (0 ≤ i ∧ i ≤ (sets.length : Int) ∧ m = (sets.take i.toNat).map members)) (fun q_ => match q_ with | (m, i) => (sets.length - i).toNat) (([] : List (List Bool)), 0) ⟨(fun _ => none), vn3, Le.refl _, S4.sub [0, 1] (by decide) rfl _ rfl, rfl, rfl, (ev3.symm), rfl, (in_i64 (by first | omega | (simp; omega) | assumption) (by first | omega | (simp; omega) | assumption)), (by exact ⟨by omega, by omega, rfl⟩)⟩ ?_
  rintro ⟨m, i⟩ ih5 ρ5 w5 ⟨h5, v_m, le5, S5, r5_0, r5_2, r5_4, r5_5, f5_0, hI5⟩
  have lf5_0 := i64_lo f5_0; have hf5_0 := i64_hi f5_0
  have rl5_1 := S5.row_le (j := 1) rfl; simp only [maxLen] at rl5_1
  have hml_ : (m.length : Int) ≤ 1000 := by rw [hI5.2.2]; simp; omega
  refine run_seq ?_
  refine run_seq ?_
  refine run_reg (l := [0, 1, 2, 3]) rfl ?_
  refine p_v (v := .int .i64 i) rfl rfl rfl (x_move r5_5) ?_
  refine p_v (v := .slice A0 sets.length c0) rfl rfl rfl (x_move r5_0) ?_
  refine p_v (v := .int .i64 (sets.length : Int)) rfl rfl rfl (x_len_slice u45 rfl) ?_
  refine p_v (v := .bool (decide (i < (sets.length : Int)))) rfl rfl rfl (x_lss rfl rfl) ?_
  refine run_region_end ?_
  refine run_cond_prop (p := i < (sets.length : Int)) rfl (fun hc6 => ?_) (fun hc6 => ?_)
  · skip
    refine run_skip ?_
    refine run_seq ?_
    refine run_block ?_
    refine run_reg (l := [0, 1, 2, 3, 4, 5, 6, 7, 8]) rfl ?_
    refine p_v (v := v_m) rfl rfl rfl (x_move r5_4) ?_
    refine p_v (v := .slice A0 sets.length c0) rfl rfl rfl (x_move r5_0) ?_
    refine p_v (v := .int .i64 i) rfl rfl rfl (x_move r5_5) ?_
    obtain ⟨ad7, seg7, a7, rp7, ce7⟩ := e_index_ro (q := i) (m := 4) l0 rfl (by first | omega | (simp; omega) | assumption) (by first | omega | (simp; omega) | assumption)
    refine p_v (v := .pointer (some ad7)) rfl rfl rfl (x_index_ro u45 t26 rfl rfl a7 (by first | omega | (simp; omega) | assumption) (by first | omega | (simp; omega) | assumption)) ?_
    obtain ⟨rfl, ok7⟩ := rp7
    refine p_v (v := .agg (encInts .u64 (at_ sets i)).toArray) rfl rfl rfl (x_load (seg := (encInts .u64 (at_ sets i))) t26 (encInts_len ok7) (by simp) rfl (CF.ghost ce7 (St.le0 S5))) ?_
    refine p_c rfl rfl rfl (y_call (args := [.agg (encInts .u64 (at_ sets i)).toArray]) c23 rfl rfl) (members_calls w5 (at_ sets i) ok7) ?_
    rintro _ w8 ⟨h8, T8, rfl, ok8_0⟩
    have S9 : St w.heap.size w h5 w8 [box b1 50 (encInts .i64 (List.replicate 256 (0 : Int))), row 24 (kBools 256 (by decide)) v_m m] := S5.keep (Chg.of_below T8.below)
    obtain ⟨v10, w10, r10, g10, T10⟩ := e_build_segs (kd := (kBools 256 (by decide))) (xs := ([members (at_ sets i)] : List (List Bool))) (len := 1) (m := 256) [(.agg (encBools (members (at_ sets i))).toArray, (encBools (members (at_ sets i))))] S9 u64 t24 rfl rfl rfl rfl (segs_cons rfl (encBools_len ok8_0) segs_nil) (cs := (encBools (members (at_ sets i)))) (Elems.single (k := (kBools 256 (by decide))) (h := h5) (x := members (at_ sets i)) (cs := (encBools (members (at_ sets i)))) ⟨rfl, ok8_0⟩) (by simp)
    have S11 : St w.heap.size w h5 w10 [box b1 50 (encInts .i64 (List.replicate 256 (0 : Int))), row 24 (kBools 256 (by decide)) v_m m, row 24 (kBools 256 (by decide)) v10 ([members (at_ sets i)] : List (List Bool))] := T10
    refine p_v (v := v10) rfl rfl rfl (y_build_slice (pv := [(0, .agg (encBools (members (at_ sets i))).toArray)]) rfl r10) ?_
    obtain ⟨A13, c13, ev13, lc13, cm13⟩ := S11.row_val (j := 2) rfl
    obtain ⟨v14, w14, r14, g14, T14⟩ := e_append (kd := (kBools 256 (by decide))) (A := A13) (c := c13) (ys := ([members (at_ sets i)] : List (List Bool))) (len := ([members (at_ sets i)] : List (List Bool)).length) 64 S11 u64 t24 rfl (by kernel_rfl) (j := 1) rfl rfl (news_own S11 (j := 2) rfl ev13) (by first | omega | (simp; omega) | assumption) (by first | omega | (simp; omega) | assumption)
    have S15 : St w.heap.size w h5 w14 [box b1 50 (encInts .i64 (List.replicate 256 (0 : Int))), row 24 (kBools 256 (by decide)) v14 (m ++ ([members (at_ sets i)] : List (List Bool))), row 24 (kBools 256 (by decide)) v10 ([members (at_ sets i)] : List (List Bool))] := T14
    refine p_v (v := v14) rfl rfl rfl (x_append rfl ev13 r14) ?_
    refine p_v (v := v14) rfl rfl rfl (x_assign rfl) ?_
    refine run_region_end ?_
    refine run_inBlock ?_
    refine run_reg (l := [0, 1, 2]) rfl ?_
    refine p_v (v := .int .i64 i) rfl rfl rfl (x_move r5_5) ?_
    refine p_v (v := .int .i64 (i + 1)) rfl rfl rfl (x_add rfl rfl (in_i64 (by first | omega | (simp; omega) | assumption) (by first | omega | (simp; omega) | assumption))) ?_
    refine p_v (v := .int .i64 (i + 1)) rfl rfl rfl (x_assign rfl) ?_
    refine run_region_end ?_
    refine ih5 (m ++ ([members (at_ sets i)] : List (List Bool)), i + 1) _ _ (by dsimp only; omega) ⟨h5, v14, le5, S15.sub [0, 1] (by decide) rfl _ rfl, r5_0, r5_2, rfl, rfl, (in_i64 (by first | omega | (simp; omega) | assumption) (by first | omega | (simp; omega) | assumption)), (by exact ⟨by omega, by omega, by rw [hI5.2.2, take_next sets hI5.1 (by omega)]; simp⟩)⟩
  · skip
    refine run_exit rfl ?_
    refine run_seq ?_
    refine run_reg (l := [0]) rfl ?_
    obtain ⟨b16, w16, r16, g16, T16⟩ := e_box (P := Tryd.prog) S5 50 (v := (.agg #[.int .i64 0, .int .i64 0, .int .i64 0, .int .i64 0, .int .i64 0, .int .i64 0, .int .i64 0, .int .i64 0, .int .i64 0, .int .i64 0, .int .i64 0, .int .i64 0, .int .i64 0, .int .i64 0, .int .i64 0, .int .i64 0, .int .i64 0, .int .i64 0, .int .i64 0, .int .i64 0, .int .i64 0, .int .i64 0, .int .i64 0, .int .i64 0, .int .i64 0, .int .i64 0, .int .i64 0, .int .i64 0, .int .i64 0, .int .i64 0, .int .i64 0, .int .i64 0, .int .i64 0, .int .i64 0, .int .i64 0, .int .i64 0, .int .i64 0, .int .i64 0, .int .i64 0, .int .i64 0, .int .i64 0, .int .i64 0, .int .i64 0, .int .i64 0, .int .i64 0, .int .i64 0, .int .i64 0, .int .i64 0, .int .i64 0, .int .i64 0, .int .i64 0, .int .i64 0, .int .i64 0, .int .i64 0, .int .i64 0, .int .i64 0, .int .i64 0, .int .i64 0, .int .i64 0, .int .i64 0, .int .i64 0, .int .i64 0, .int .i64 0, .int .i64 0, .int .i64 0, .int .i64 0, .int .i64 0, .int .i64 0, .int .i64 0, .int .i64 0, .int .i64 0, .int .i64 0, .int .i64 0, .int .i64 0, .int .i64 0, .int .i64 0, .int .i64 0, .int .i64 0, .int .i64 0, .int .i64 0, .int .i64 0, .int .i64 0, .int .i64 0, .int .i64 0, .int .i64 0, .int .i64 0, .int .i64 0, .int .i64 0, .int .i64 0, .int .i64 0, .int .i64 0, .int .i64 0, .int .i64 0, .int .i64 0, .int .i64 0, .int .i64 0, .int .i64 0, .int .i64 0, .int .i64 0, .int .i64 0, .int .i64 0, .int .i64 0, .int .i64 0, .int .i64 0, .int .i64 0, .int .i64 0, .int .i64 0, .int .i64 0, .int .i64 0, .int .i64 0, .int .i64 0, .int .i64 0, .int .i64 0, .int .i64 0, .int .i64 0, .int .i64 0, .int .i64 0, .int .i64 0, .int .i64 0, .int .i64 0, .int .i64 0, .int .i64 0, .int .i64 0, .int .i64 0, .int .i64 0, .int .i64 0, .int .i64 0, .int .i64 0, .int .i64 0, .int .i64 0, .int .i64 0, .int .i64 0, .int .i64 0, .int .i64 0, .int .i64 0, .int .i64 0, .int .i64 0, .int .i64 0, .int .i64 0, .int .i64 0, .int .i64 0, .int .i64 0, .int .i64 0, .int .i64 0, .int .i64 0, .int .i64 0, .int .i64 0, .int .i64 0, .int .i64 0, .int .i64 0, .int .i64 0, .int .i64 0, .int .i64 0, .int .i64 0, .int .i64 0, .int .i64 0, .int .i64 0, .int .i64 0, .int .i64 0, .int .i64 0, .int .i64 0, .int .i64 0, .int .i64 0, .int .i64 0, .int .i64 0, .int .i64 0, .int .i64 0, .int .i64 0, .int .i64 0, .int .i64 0, .int .i64 0, .int .i64 0, .int .i64 0, .int .i64 0, .int .i64 0, .int .i64 0, .int .i64 0, .int .i64 0, .int .i64 0, .int .i64 0, .int .i64 0, .int .i64 0, .int .i64 0, .int .i64 0, .int .i64 0, .int .i64 0, .int .i64 0, .int .i64 0, .int .i64 0, .int .i64 0, .int .i64 0, .int .i64 0, .int .i64 0, .int .i64 0, .int .i64 0, .int .i64 0, .int .i64 0, .int .i64 0, .int .i64 0, .int .i64 0, .int .i64 0, .int .i64 0, .int .i64 0, .int .i64 0, .int .i64 0, .int .i64 0, .int .i64 0, .int .i64 0, .int .i64 0, .int .i64 0, .int .i64 0, .int .i64 0, .int .i64 0, .int .i64 0, .int .i64 0, .int .i64 0, .int .i64 0, .int .i64 0, .int .i64 0, .int .i64 0, .int .i64 0, .int .i64 0, .int .i64 0, .int .i64 0, .int .i64 0, .int .i64 0, .int .i64 0, .int .i64 0, .int .i64 0, .int .i64 0, .int .i64 0, .int .i64 0, .int .i64 0, .int .i64 0, .int .i64 0, .int .i64 0, .int .i64 0, .int .i64 0, .int .i64 0, .int .i64 0, .int .i64 0, .int .i64 0, .int .i64 0, .int .i64 0, .int .i64 0, .int .i64 0, .int .i64 0, .int .i64 0, .int .i64 0, .int .i64 0, .int .i64 0, .int .i64 0, .int .i64 0, .int .i64 0, .int .i64 0, .int .i64 0])) (encInts .i64 (List.replicate 256 (0 : Int))) (by kernel_rfl)
    have S17 : St w.heap.size w h5 w16 [box b1 50 (encInts .i64 (List.replicate 256 (0 : Int))), row 24 (kBools 256 (by decide)) v_m m, box b16 50 (encInts .i64 (List.replicate 256 (0 : Int)))] := T16
    refine p_v (v := .pointer (some ⟨b16, 0, none⟩)) rfl rfl rfl (x_alloc t50 r16) ?_
    refine run_region_end ?_
    refine run_seq ?_
    refine run_reg (l := [0]) rfl ?_
    refine p_v (v := .slice none 0 0) rfl rfl rfl (x_assign rfl) ?_
    refine run_region_end ?_
    refine run_seq ?_
    refine run_seq ?_
    refine run_reg (l := [0]) rfl ?_
    refine p_v (v := .int .i64 0) rfl rfl rfl (x_assign rfl) ?_
    refine run_region_end ?_
    refine run_block ?_
    have T18 := S17.row_nil 3 (Kd.int .i64)
    obtain ⟨vn18, ev18, T18⟩ : ∃ v, v = (.slice none 0 0 : Value) ∧ St w.heap.size w h5 w16 ([box b1 50 (encInts .i64 (List.replicate 256 (0 : Int))), row 24 (kBools 256 (by decide)) v_m m, box b16 50 (encInts .i64 (List.replicate 256 (0 : Int)))] ++ [row 3 (Kd.int .i64) v []]) := ⟨_, rfl, T18⟩
    have S19 : St w.heap.size w h5 w16 [box b1 50 (encInts .i64 (List.replicate 256 (0 : Int))), row 24 (kBools 256 (by decide)) v_m m, box b16 50 (encInts .i64 (List.replicate 256 (0 : Int))), row 3 (Kd.int .i64) vn18 ([] : List Int)] := T18
    refine run_loop (S := (List Int) × (List Int) × Int) (fun (q_ : (List Int) × (List Int) × Int) ρ w' => match q_ with | (least, of, c) => ∃ (h : Ghost) (v_least : Value), Le h5 h ∧ St w.heap.size w h w' [box b1 50 (encInts .i64 (List.replicate 256 (0 : Int))), row 24 (kBools 256 (by decide)) v_m m, box b16 50 (encInts .i64 of), row 3 (Kd.int .i64) v_least least] ∧ ρ 2 = .pointer (some ⟨b1, 0, none⟩) ∧ ρ 4 = v_m ∧ ρ 6 = .pointer (some ⟨b16, 0, none⟩) ∧ ρ 7 = v_least ∧ ρ 8 = .int .i64 c ∧ okInts .i64 256 of ∧ inK .i64 c ∧ (0 ≤ c ∧ c ≤ 256 ∧ of = ofTo (docKey sets) c ∧ least = ints (reps (docKey sets) c.toNat))) (fun q_ => match q_ with | (least, of, c) => (256 - c).toNat) (([] : List Int), (List.replicate 256 (0 : Int)), 0) ⟨h5, vn18, Le.refl _, S19.sub [0, 1, 2, 3] (by decide) rfl _ rfl, r5_2, r5_4, rfl, (ev18.symm), rfl, (okInts_rep (by constructor <;> decide) _), (in_i64 (by first | omega | (simp; omega) | assumption) (by first | omega | (simp; omega) | assumption)), (by exact ⟨by omega, by omega, ofTo_0 _, rfl⟩)⟩ ?_
    rintro ⟨least, of, c⟩ ih20 ρ20 w20 ⟨h20, v_least, le20, S20, r20_2, r20_4, r20_6, r20_7, r20_8, f20_0, f20_1, hI20⟩
    have lf20_1 := i64_lo f20_1; have hf20_1 := i64_hi f20_1
    have rl20_1 := S20.row_le (j := 1) rfl; simp only [maxLen] at rl20_1
    have rl20_3 := S20.row_le (j := 3) rfl; simp only [maxLen] at rl20_3
    have hll_ : (least.length : Int) ≤ 256 := by rw [hI20.2.2.2, ints_len]; have := reps_le (docKey sets) c.toNat; omega
    have hm_ : m = sets.map members := by rw [hI5.2.2, List.take_of_length_le (by omega)]
    refine run_seq ?_
    refine run_seq ?_
    refine run_reg (l := [0, 1]) rfl ?_
    refine p_v (v := .int .i64 c) rfl rfl rfl (x_move r20_8) ?_
    refine p_v (v := .bool (decide (c < 256))) rfl rfl rfl (x_lss rfl rfl) ?_
    refine run_region_end ?_
    refine run_cond_prop (p := c < 256) rfl (fun hc21 => ?_) (fun hc21 => ?_)
    · skip
      refine run_skip ?_
      refine run_seq ?_
      refine run_block ?_
      refine run_seq ?_
      refine run_reg (l := [0, 1, 2]) rfl ?_
      refine p_v (v := .int .i64 c) rfl rfl rfl (x_move r20_8) ?_
      refine p_v (v := .pointer (some ⟨b16, 0 + c.toNat * 1, none⟩)) rfl rfl rfl (x_indexAddr_arr u50 t3 r20_6 rfl (by first | omega | (simp; omega) | assumption) (by first | omega | (simp; omega) | assumption)) ?_
      obtain ⟨w22, r22, g22, T22⟩ := e_store (P := Tryd.prog) (off := 0 + c.toNat * 1) (v := .int .i64 (-1)) (vs := [.int .i64 (-1)]) S20 t3 rfl rfl (j := 2) rfl (by rw [encInts_len f20_0]; first | omega | (simp; omega) | assumption) (by simp [Value.oneCell'])
      rw [encInts_put] at T22
      have ok22 : okInts .i64 256 (of.set c.toNat (-1)) := okInts_set f20_0 _ (in_i64 (by first | omega | (simp; omega) | assumption) (by first | omega | (simp; omega) | assumption))
      have S23 : St w.heap.size w h20 w22 [box b1 50 (encInts .i64 (List.replicate 256 (0 : Int))), row 24 (kBools 256 (by decide)) v_m m, box b16 50 (encInts .i64 (of.set c.toNat (-1))), row 3 (Kd.int .i64) v_least least] := T22
      refine p_s rfl rfl (x_store rfl rfl r22) ?_
      refine run_region_end ?_
      refine run_seq ?_
      refine run_seq ?_
      refine run_reg (l := [0]) rfl ?_
      refine p_v (v := .int .i64 0) rfl rfl rfl (x_assign rfl) ?_
      refine run_region_end ?_
      refine run_block ?_
      refine run_loop (S := (List Int) × Int) (fun (q_ : (List Int) × Int) ρ w' => match q_ with | (of2, k) => ∃ (h : Ghost), Le h20 h ∧ St w.heap.size w h w' [box b1 50 (encInts .i64 (List.replicate 256 (0 : Int))), row 24 (kBools 256 (by decide)) v_m m, box b16 50 (encInts .i64 of2), row 3 (Kd.int .i64) v_least least] ∧ ρ 2 = .pointer (some ⟨b1, 0, none⟩) ∧ ρ 4 = v_m ∧ ρ 6 = .pointer (some ⟨b16, 0, none⟩) ∧ ρ 7 = v_least ∧ ρ 8 = .int .i64 c ∧ ρ 9 = .int .i64 k ∧ okInts .i64 256 of2 ∧ inK .i64 k ∧ (0 ≤ k ∧ k ≤ (least.length : Int) ∧ of2 = (ofTo (docKey sets) c).set c.toNat (hitTo (docKey sets) c.toNat k.toNat))) (fun q_ => match q_ with | (of2, k) => (least.length - k).toNat) (of.set c.toNat (-1), 0) ⟨h20, Le.refl _, S23.sub [0, 1, 2, 3] (by decide) rfl _ rfl, r20_2, r20_4, r20_6, r20_7, r20_8, rfl, ok22, (in_i64 (by first | omega | (simp; omega) | assumption) (by first | omega | (simp; omega) | assumption)), (by exact ⟨by omega, by omega, by rw [hI20.2.2.1]; rfl⟩)⟩ ?_
      rintro ⟨of2, k⟩ ih24 ρ24 w24 ⟨h24, le24, S24, r24_2, r24_4, r24_6, r24_7, r24_8, r24_9, f24_0, f24_1, hI24⟩
      have lf24_1 := i64_lo f24_1; have hf24_1 := i64_hi f24_1
      have rl24_1 := S24.row_le (j := 1) rfl; simp only [maxLen] at rl24_1
      have rl24_3 := S24.row_le (j := 3) rfl; simp only [maxLen] at rl24_3
      have hr_ : k < (least.length : Int) → 0 ≤ at_ least k ∧ at_ least k < 256 := fun h => doc_bound hI20.2.2.2 (by omega) hI24.1 h
      refine run_seq ?_
      refine run_seq ?_
      refine run_reg (l := [0, 1, 2, 3]) rfl ?_
      refine p_v (v := .int .i64 k) rfl rfl rfl (x_move r24_9) ?_
      refine p_v (v := v_least) rfl rfl rfl (x_move r24_7) ?_
      have lb25 := S24.row_le (j := 3) rfl; simp only [maxLen] at lb25
      refine p_v (v := .int .i64 (least.length : Int)) rfl rfl rfl (x_len_own u65 rfl (e_len_own S24 (j := 3) rfl)) ?_
      refine p_v (v := .bool (decide (k < (least.length : Int)))) rfl rfl rfl (x_lss rfl rfl) ?_
      refine run_region_end ?_
      refine run_cond_prop (p := k < (least.length : Int)) rfl (fun hc26 => ?_) (fun hc26 => ?_)
      · skip
        refine run_skip ?_
        refine run_seq ?_
        refine run_block ?_
        refine run_seq ?_
        refine run_reg (l := [0, 1, 2, 3, 4, 5, 6, 7]) rfl ?_
        refine p_v (v := v_m) rfl rfl rfl (x_move r24_4) ?_
        refine p_v (v := v_least) rfl rfl rfl (x_move r24_7) ?_
        refine p_v (v := .int .i64 k) rfl rfl rfl (x_move r24_9) ?_
        obtain ⟨ad27, a27, at27⟩ := e_index_own (q := k) (m := 1) S24 (j := 3) rfl rfl (by first | omega | (simp; omega) | assumption) (by first | omega | (simp; omega) | assumption)
        refine p_v (v := .pointer (some ad27)) rfl rfl rfl (x_index_own u65 t3 rfl rfl a27 (by first | omega | (simp; omega) | assumption) (by first | omega | (simp; omega) | assumption)) ?_
        obtain ⟨seg28, rp28, cf28⟩ := e_load_own (q := k) S24 (j := 3) rfl rfl at27 (by first | omega | (simp; omega) | assumption) (by first | omega | (simp; omega) | assumption)
        obtain ⟨rfl, in28⟩ := rp28
        have lo28 := i64_lo in28; have hi28 := i64_hi in28
        refine p_v (v := .int .i64 (at_ least k)) rfl rfl rfl (x_load (seg := [.int .i64 (at_ least k)]) t3 rfl (by simp) rfl cf28) ?_
        refine p_v (v := .int .i64 c) rfl rfl rfl (x_move r24_8) ?_
        obtain ⟨A29, c29, ev29, lc29, cm29⟩ := S24.row_val (j := 1) rfl
        refine p_c rfl rfl rfl (y_call (args := [.slice A29 m.length c29, .int .i64 (at_ least k), .int .i64 c]) c38 rfl (cons_eq ev29 (cons_eq rfl (cons_eq rfl rfl)))) (apart_calls w24 m A29 c29 (And.intro lc29 cm29) (row_leads_eq S24 (j := 1) rfl ev29) (at_ least k) (in_i64 (by first | omega | (simp; omega) | assumption) (by first | omega | (simp; omega) | assumption)) c f20_1 (by omega)) ?_
        rintro _ w30 ⟨h30, T30, rfl⟩
        have S31 : St w.heap.size w h24 w30 [box b1 50 (encInts .i64 (List.replicate 256 (0 : Int))), row 24 (kBools 256 (by decide)) v_m m, box b16 50 (encInts .i64 of2), row 3 (Kd.int .i64) v_least least] := S24.keep (Chg.of_below T30.below)
        refine p_v (v := .bool (!(apartOf m (at_ least k) c))) rfl rfl rfl (x_not rfl) ?_
        refine run_region_end ?_
        refine run_cond_nsplit (b := apartOf m (at_ least k) c) rfl (fun hc32 => ?_) (fun hc32 => ?_)
        · skip
          refine run_reg (l := [0, 1, 2, 3]) rfl ?_
          refine p_v (v := .int .i64 c) rfl rfl rfl (x_move r24_8) ?_
          refine p_v (v := .int .i64 k) rfl rfl rfl (x_move r24_9) ?_
          refine p_v (v := .pointer (some ⟨b16, 0 + c.toNat * 1, none⟩)) rfl rfl rfl (x_indexAddr_arr u50 t3 r24_6 rfl (by first | omega | (simp; omega) | assumption) (by first | omega | (simp; omega) | assumption)) ?_
          obtain ⟨w33, r33, g33, T33⟩ := e_store (P := Tryd.prog) (off := 0 + c.toNat * 1) (v := .int .i64 k) (vs := [.int .i64 k]) S31 t3 rfl rfl (j := 2) rfl (by rw [encInts_len f24_0]; first | omega | (simp; omega) | assumption) (by simp [Value.oneCell'])
          rw [encInts_put] at T33
          have ok33 : okInts .i64 256 (of2.set c.toNat k) := okInts_set f24_0 _ f24_1
          have S34 : St w.heap.size w h24 w33 [box b1 50 (encInts .i64 (List.replicate 256 (0 : Int))), row 24 (kBools 256 (by decide)) v_m m, box b16 50 (encInts .i64 (of2.set c.toNat k)), row 3 (Kd.int .i64) v_least least] := T33
          refine p_s rfl rfl (x_store rfl rfl r33) ?_
          refine run_region_end ?_
          refine run_inBlock ?_
          refine run_reg (l := [0, 1, 2]) rfl ?_
          refine p_v (v := .int .i64 k) rfl rfl rfl (x_move r24_9) ?_
          refine p_v (v := .int .i64 (k + 1)) rfl rfl rfl (x_add rfl rfl (in_i64 (by first | omega | (simp; omega) | assumption) (by first | omega | (simp; omega) | assumption))) ?_
          refine p_v (v := .int .i64 (k + 1)) rfl rfl rfl (x_assign rfl) ?_
          refine run_region_end ?_
          refine ih24 (of2.set c.toNat k, k + 1) _ _ (by dsimp only; omega) ⟨h24, le24, S34.sub [0, 1, 2, 3] (by decide) rfl _ rfl, r24_2, r24_4, r24_6, r24_7, r24_8, rfl, ok33, (in_i64 (by first | omega | (simp; omega) | assumption) (by first | omega | (simp; omega) | assumption)), (by first | exact ⟨by omega, by omega, by rw [hI24.2.2]; exact doc_hit hI24.1 (doc_same hI20.2.2.2 hm_ hI20.1 (by omega) hI24.1 (by omega) (by assumption))⟩ | exact ⟨by omega, by omega, by rw [hI24.2.2]; exact doc_miss hI24.1 (doc_diff hI20.2.2.2 hm_ hI20.1 (by omega) hI24.1 (by omega) (by assumption))⟩)⟩
        · skip
          refine run_skip ?_
          refine run_inBlock ?_
          refine run_reg (l := [0, 1, 2]) rfl ?_
          refine p_v (v := .int .i64 k) rfl rfl rfl (x_move r24_9) ?_
          refine p_v (v := .int .i64 (k + 1)) rfl rfl rfl (x_add rfl rfl (in_i64 (by first | omega | (simp; omega) | assumption) (by first | omega | (simp; omega) | assumption))) ?_
          refine p_v (v := .int .i64 (k + 1)) rfl rfl rfl (x_assign rfl) ?_
          refine run_region_end ?_
          refine ih24 (of2, k + 1) _ _ (by dsimp only; omega) ⟨h24, le24, S31.sub [0, 1, 2, 3] (by decide) rfl _ rfl, r24_2, r24_4, r24_6, r24_7, r24_8, rfl, f24_0, (in_i64 (by first | omega | (simp; omega) | assumption) (by first | omega | (simp; omega) | assumption)), (by first | exact ⟨by omega, by omega, by rw [hI24.2.2]; exact doc_hit hI24.1 (doc_same hI20.2.2.2 hm_ hI20.1 (by omega) hI24.1 (by omega) (by assumption))⟩ | exact ⟨by omega, by omega, by rw [hI24.2.2]; exact doc_miss hI24.1 (doc_diff hI20.2.2.2 hm_ hI20.1 (by omega) hI24.1 (by omega) (by assumption))⟩)⟩
      · skip
        refine run_exit rfl ?_
        refine run_seq ?_
        refine run_reg (l := [0, 1, 2, 3]) rfl ?_
        refine p_v (v := .int .i64 c) rfl rfl rfl (x_move r24_8) ?_
        refine p_v (v := .pointer (some ⟨b16, 0 + c.toNat * 1, none⟩)) rfl rfl rfl (x_indexAddr_arr u50 t3 r24_6 rfl (by first | omega | (simp; omega) | assumption) (by first | omega | (simp; omega) | assumption)) ?_
        have in35 := okInts_at f24_0 (i := c) (by first | omega | (simp; omega) | assumption) (by first | omega | (simp; omega) | assumption)
        have lo35 := i64_lo in35; have hi35 := i64_hi in35
        refine p_v (v := .int .i64 (at_ of2 c)) rfl rfl rfl (x_load (seg := [.int .i64 (at_ of2 c)]) t3 rfl (by simp) rfl (CF.box (m := 1) (S24.box_at (j := 2) rfl) (cs := (encInts .i64 of2)) (encInts_at f24_0 (by first | omega | (simp; omega) | assumption) (by first | omega | (simp; omega) | assumption)))) ?_
        refine p_v (v := .bool (decide ((at_ of2 c) < 0))) rfl rfl rfl (x_lss rfl rfl) ?_
        refine run_region_end ?_
        refine run_cond_prop (p := (at_ of2 c) < 0) rfl (fun hc36 => ?_) (fun hc36 => ?_)
        · skip
          refine run_seq ?_
          refine run_reg (l := [0, 1, 2, 3, 4]) rfl ?_
          refine p_v (v := .int .i64 c) rfl rfl rfl (x_move r24_8) ?_
          refine p_v (v := v_least) rfl rfl rfl (x_move r24_7) ?_
          have lb37 := S24.row_le (j := 3) rfl; simp only [maxLen] at lb37
          refine p_v (v := .int .i64 (least.length : Int)) rfl rfl rfl (x_len_own u65 rfl (e_len_own S24 (j := 3) rfl)) ?_
          refine p_v (v := .pointer (some ⟨b16, 0 + c.toNat * 1, none⟩)) rfl rfl rfl (x_indexAddr_arr u50 t3 r24_6 rfl (by first | omega | (simp; omega) | assumption) (by first | omega | (simp; omega) | assumption)) ?_
          obtain ⟨w38, r38, g38, T38⟩ := e_store (P := Tryd.prog) (off := 0 + c.toNat * 1) (v := .int .i64 (least.length : Int)) (vs := [.int .i64 (least.length : Int)]) S24 t3 rfl rfl (j := 2) rfl (by rw [encInts_len f24_0]; first | omega | (simp; omega) | assumption) (by simp [Value.oneCell'])
          rw [encInts_put] at T38
          have ok38 : okInts .i64 256 (of2.set c.toNat (least.length : Int)) := okInts_set f24_0 _ (in_i64 (by first | omega | (simp; omega) | assumption) (by first | omega | (simp; omega) | assumption))
          have S39 : St w.heap.size w h24 w38 [box b1 50 (encInts .i64 (List.replicate 256 (0 : Int))), row 24 (kBools 256 (by decide)) v_m m, box b16 50 (encInts .i64 (of2.set c.toNat (least.length : Int))), row 3 (Kd.int .i64) v_least least] := T38
          refine p_s rfl rfl (x_store rfl rfl r38) ?_
          refine run_region_end ?_
          refine run_reg (l := [0, 1, 2, 3, 4]) rfl ?_
          refine p_v (v := v_least) rfl rfl rfl (x_move r24_7) ?_
          refine p_v (v := .int .i64 c) rfl rfl rfl (x_move r24_8) ?_
          obtain ⟨v40, w40, r40, g40, T40⟩ := e_build_ones (kd := (Kd.int .i64)) (xs := ([c] : List Int)) (len := 1) [.int .i64 c] S39 u65 t3 rfl rfl rfl rfl rfl (ones_cons rfl ones_nil) [.int .i64 c] (Elems.single (k := (Kd.int .i64)) (h := h24) (x := c) (cs := [.int .i64 c]) ⟨rfl, f20_1⟩) rfl
          have S41 : St w.heap.size w h24 w40 [box b1 50 (encInts .i64 (List.replicate 256 (0 : Int))), row 24 (kBools 256 (by decide)) v_m m, box b16 50 (encInts .i64 (of2.set c.toNat (least.length : Int))), row 3 (Kd.int .i64) v_least least, row 3 (Kd.int .i64) v40 ([c] : List Int)] := T40
          refine p_v (v := v40) rfl rfl rfl (y_build_slice (pv := [(0, .int .i64 c)]) rfl r40) ?_
          obtain ⟨A43, c43, ev43, lc43, cm43⟩ := S41.row_val (j := 4) rfl
          obtain ⟨v44, w44, r44, g44, T44⟩ := e_append (kd := (Kd.int .i64)) (A := A43) (c := c43) (ys := ([c] : List Int)) (len := ([c] : List Int).length) 65 S41 u65 t3 rfl rfl (j := 3) rfl rfl (news_own S41 (j := 4) rfl ev43) (by first | omega | (simp; omega) | assumption) (by first | omega | (simp; omega) | assumption)
          have S45 : St w.heap.size w h24 w44 [box b1 50 (encInts .i64 (List.replicate 256 (0 : Int))), row 24 (kBools 256 (by decide)) v_m m, box b16 50 (encInts .i64 (of2.set c.toNat (least.length : Int))), row 3 (Kd.int .i64) v44 (least ++ ([c] : List Int)), row 3 (Kd.int .i64) v40 ([c] : List Int)] := T44
          refine p_v (v := v44) rfl rfl rfl (x_append rfl ev43 r44) ?_
          refine p_v (v := v44) rfl rfl rfl (x_assign rfl) ?_
          refine run_region_end ?_
          refine run_inBlock ?_
          refine run_reg (l := [0, 1, 2]) rfl ?_
          refine p_v (v := .int .i64 c) rfl rfl rfl (x_move r24_8) ?_
          refine p_v (v := .int .i64 (c + 1)) rfl rfl rfl (x_add rfl rfl (in_i64 (by first | omega | (simp; omega) | assumption) (by first | omega | (simp; omega) | assumption))) ?_
          refine p_v (v := .int .i64 (c + 1)) rfl rfl rfl (x_assign rfl) ?_
          refine run_region_end ?_
          refine ih20 (least ++ ([c] : List Int), of2.set c.toNat (least.length : Int), c + 1) _ _ (by dsimp only; omega) ⟨h24, v44, ((le20).trans le24), S45.sub [0, 1, 2, 3] (by decide) rfl _ rfl, r24_2, r24_4, r24_6, rfl, rfl, ok38, (in_i64 (by first | omega | (simp; omega) | assumption) (by first | omega | (simp; omega) | assumption)), (by first | exact ⟨by omega, by omega, (by rw [congrArg List.length hI20.2.2.2]; exact (doc_new hI20.1 (by omega) (by have hq_ := congrArg List.length hI20.2.2.2; rw [ints_len] at hq_; omega) hI24.2.2 (by omega)).1), by rw [hI20.2.2.2]; exact (doc_new hI20.1 (by omega) (by have hq_ := congrArg List.length hI20.2.2.2; rw [ints_len] at hq_; omega) hI24.2.2 (by omega)).2⟩ | exact ⟨by omega, by omega, (doc_old hI20.1 (by omega) (by have hq_ := congrArg List.length hI20.2.2.2; rw [ints_len] at hq_; omega) hI24.2.2 (by omega)).1, by rw [hI20.2.2.2]; exact (doc_old hI20.1 (by omega) (by have hq_ := congrArg List.length hI20.2.2.2; rw [ints_len] at hq_; omega) hI24.2.2 (by omega)).2⟩)⟩
        · skip
          refine run_skip ?_
          refine run_inBlock ?_
          refine run_reg (l := [0, 1, 2]) rfl ?_
          refine p_v (v := .int .i64 c) rfl rfl rfl (x_move r24_8) ?_
          refine p_v (v := .int .i64 (c + 1)) rfl rfl rfl (x_add rfl rfl (in_i64 (by first | omega | (simp; omega) | assumption) (by first | omega | (simp; omega) | assumption))) ?_
          refine p_v (v := .int .i64 (c + 1)) rfl rfl rfl (x_assign rfl) ?_
          refine run_region_end ?_
          refine ih20 (least, of2, c + 1) _ _ (by dsimp only; omega) ⟨h24, v_least, ((le20).trans le24), S24.sub [0, 1, 2, 3] (by decide) rfl _ rfl, r24_2, r24_4, r24_6, r24_7, rfl, f24_0, (in_i64 (by first | omega | (simp; omega) | assumption) (by first | omega | (simp; omega) | assumption)), (by first | exact ⟨by omega, by omega, (by rw [congrArg List.length hI20.2.2.2]; exact (doc_new hI20.1 (by omega) (by have hq_ := congrArg List.length hI20.2.2.2; rw [ints_len] at hq_; omega) hI24.2.2 (by omega)).1), by rw [hI20.2.2.2]; exact (doc_new hI20.1 (by omega) (by have hq_ := congrArg List.length hI20.2.2.2; rw [ints_len] at hq_; omega) hI24.2.2 (by omega)).2⟩ | exact ⟨by omega, by omega, (doc_old hI20.1 (by omega) (by have hq_ := congrArg List.length hI20.2.2.2; rw [ints_len] at hq_; omega) hI24.2.2 (by omega)).1, by rw [hI20.2.2.2]; exact (doc_old hI20.1 (by omega) (by have hq_ := congrArg List.length hI20.2.2.2; rw [ints_len] at hq_; omega) hI24.2.2 (by omega)).2⟩)⟩
    · skip
      refine run_exit rfl ?_
      refine run_seq ?_
      refine run_reg (l := [0, 1, 2, 3, 4]) rfl ?_
      refine p_v (v := .agg (encInts .i64 of).toArray) rfl rfl rfl (x_load (seg := (encInts .i64 of)) t50 (encInts_len f20_0) (by simp) r20_6 (CF.box (m := 256) (S20.box_at (j := 2) rfl) (cs := (encInts .i64 of)) (encInts_full f20_0))) ?_
      refine p_v (v := v_least) rfl rfl rfl (x_move r20_7) ?_
      have lb46 := S20.row_le (j := 3) rfl; simp only [maxLen] at lb46
      refine p_v (v := .int .i64 (least.length : Int)) rfl rfl rfl (x_len_own u65 rfl (e_len_own S20 (j := 3) rfl)) ?_
      obtain ⟨w47, r47, g47, T47⟩ := e_store (P := Tryd.prog) (off := 0) (v := .agg (encInts .i64 of).toArray) (vs := (encInts .i64 of)) S20 t50 rfl (encInts_len f20_0) (j := 0) rfl (by rw [encInts_len (okInts_rep (by constructor <;> decide) _)]; decide) (encInts_one _ _)
      rw [lput_all (by rw [encInts_len f20_0, encInts_len (okInts_rep (by constructor <;> decide) _)])] at T47
      have S48 : St w.heap.size w h20 w47 [box b1 50 (encInts .i64 of), row 24 (kBools 256 (by decide)) v_m m, box b16 50 (encInts .i64 of), row 3 (Kd.int .i64) v_least least] := T47
      refine p_s rfl rfl (x_store r20_2 rfl r47) ?_
      refine p_v (v := .int .i64 (least.length : Int)) rfl rfl rfl (x_assign rfl) ?_
      refine run_region_end ?_
      refine run_ret Tryd.func28 (res2 rfl (res_cell S48 t50 r20_2 (j := 0) rfl (encInts_len f20_0) (by simp) rfl) (res_tmp (v := .int .i64 (least.length : Int)) rfl)) ?_
      have q0 : ((partOf (docKey sets)).of : List Int) = of := by
        rw [hI20.2.2.1]; exact (ofTo_end _ (by omega)).symm
      have q1 : ((partOf (docKey sets)).n : Int) = (least.length : Int) := by
        rw [congrArg List.length hI20.2.2.2, ints_len, show c = 256 by omega]; unfold partOf; rfl
      refine ⟨_, rfl, h20, ?_, ?_, ?_, ?_⟩
      · exact S48.sub [] (by decide) rfl _ rfl
      · first | rfl | (simp only [q0, q1]; rfl) | (simp only [q0, q1])
      · rw [q0]; assumption
      · rw [q1]; exact (in_i64 (by first | omega | (simp; omega) | assumption) (by first | omega | (simp; omega) | assumption))
end Go.Proofs.YtlcmimjdnhjeoaaDoor
