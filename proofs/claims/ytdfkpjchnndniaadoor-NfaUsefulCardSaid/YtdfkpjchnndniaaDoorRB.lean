/- Functions of this translation, each walked once; no conditions but those that each contract tells. -/
import Derived.Test.YtdfkpjchnndniaaDoorTB
import Derived.Test.YtdfkpjchnndniaaDoorM6
import Derived.Test.YtdfkpjchnndniaaDoorM7
import Derived.Test.YtdfkpjchnndniaaDoorQB
import Derived.Test.YtdfkpjchnndniaaDoorTzB
import Derived.Test.YtdfkpjchnndniaaDoorN2
import Derived.Test.YtdfkpjchnndniaaDoorK1B
import Derived.Test.YtdfkpjchnndniaaDoorN3
import Derived.Test.YtdfkpjchnndniaaDoorM11
import Derived.Test.YtdfkpjchnndniaaDoorN5
import Derived.Test.YtdfkpjchnndniaaDoorN6
import Derived.Test.YtdfkpjchnndniaaDoorPB
namespace Go.Proofs.YtdfkpjchnndniaaDoor
open Go Go.RowKit Gx
set_option maxHeartbeats 1000000
set_option linter.unusedVariables false
set_option linter.unusedSimpArgs false
attribute [local irreducible] members pack listOf count first someIn has setOf setRange wbits Lib.ctz rises rightM rowOk tab markP intoP intoTo behindP behindTo behindIn runTo endsIn endTo runM posTo mayP stepIf stepP mayTo atP lastTo greatM greatTo docAt anyTo allTo numAt numsL numsIn leftN kept lefts spotsTo lastTp followTo trimM errM comeM goesM keepM lfp seekN seekB fullS placeF okC okG clC clG clC2 clG2 firstC lastG andTo useN trues

theorem useful1_calls (w : World) (n : Int) (i0 : inK .i64 n) (p1 : List Bool) (A1 : Option Addr) (c1 : Nat) (b1 : p1.length ≤ c1 ∧ c1 ≤ maxLen) (l1 : Leads Kd.bool (hp w) A1 p1) (a1 : Addr) (pc1 : ∀ j v, [.slice A1 p1.length c1][j]? = some v → gcell (hp w) (a1.add j) = some v) (pre0 : 0 ≤ n ∧ n < (p1.length : Int)) :
    Calls Tryd.prog 36 #[.int .i64 n, .pointer (some a1)] w fun e w' => ∃ v, e = .returned v ∧ ∃ (hn : Ghost), St w.heap.size w hn w' [] ∧ v = .bool (at_ p1 n) := by
  refine calls_of_run Tryd.func36 rfl Tryd.ntmps36 rfl ?_
  have S0 := St.init w
  have lo0 := i64_lo i0; have hi0 := i64_hi i0
  have bb1 := b1.1; have bc1 := b1.2; simp only [maxLen] at bc1
  have hp0_ := pre0.1; have hp1_ := pre0.2
  refine run_seq ?_
  refine run_reg (l := [0]) rfl ?_
  refine p_v (v := .bool false) rfl rfl rfl (x_assign rfl) ?_
  refine run_region_end ?_
  refine run_seq ?_
  refine run_reg (l := [0, 1, 2, 3, 4]) rfl ?_
  refine p_v (v := .slice A1 p1.length c1) rfl rfl rfl (x_load (seg := [.slice A1 p1.length c1]) ty25 rfl (by simp) rfl (CF.ghost pc1 (St.le0 S0))) ?_
  refine p_v (v := .int .i64 n) rfl rfl rfl (x_move rfl) ?_
  obtain ⟨ad1, seg1, a1, rp1, ce1⟩ := e_index_ro (q := n) (m := 1) l1 rfl (by first|omega|(simp;omega)|assumption) (by first|omega|(simp;omega)|assumption)
  refine p_v (v := .pointer (some ad1)) rfl rfl rfl (x_index_ro u25 ty4 rfl rfl a1 (by first|omega|(simp;omega)|assumption) (by first|omega|(simp;omega)|assumption)) ?_
  obtain ⟨rfl, _⟩ := rp1
  refine p_v (v := .bool (at_ p1 n)) rfl rfl rfl (x_load (seg := [.bool (at_ p1 n)]) ty4 rfl (by simp) rfl (CF.ghost ce1 (St.le0 S0))) ?_
  refine p_v (v := .bool (at_ p1 n)) rfl rfl rfl (x_assign rfl) ?_
  refine run_region_end ?_
  refine run_ret Tryd.func36 (res1 rfl (res_tmp (v := .bool (at_ p1 n)) rfl)) ?_
  have q0 : (at_ p1 n : Bool) = at_ p1 n := rfl
  refine ⟨_, rfl, (fun _ => none), ?_, ?_⟩
  · exact S0.sub [] (by decide) rfl _ rfl
  · rfl
theorem indexI_calls (w : World) (s : List Int) (A0 : Option Addr) (c0 : Nat) (b0 : s.length ≤ c0 ∧ c0 ≤ maxLen) (l0 : Leads (Kd.int .i64) (hp w) A0 s) (f : List Bool) (A1 : Option Addr) (c1 : Nat) (b1 : f.length ≤ c1 ∧ c1 ≤ maxLen) (l1 : Leads Kd.bool (hp w) A1 f) (a1 : Addr) (pc1 : ∀ j v, [.slice A1 f.length c1][j]? = some v → gcell (hp w) (a1.add j) = some v) (pre0 : ∀ x ∈ s, 0 ≤ x ∧ x < (f.length : Int)) :
    Calls Tryd.prog 42 #[.slice A0 s.length c0, .func (.func 36) #[] #[.pointer (some a1)]] w fun e w' => ∃ v, e = .returned v ∧ ∃ (hn : Ghost), St w.heap.size w hn w' [] ∧ v = .int .i64 (placeF (fun x => at_ f x) s 0) ∧ inK .i64 (placeF (fun x => at_ f x) s 0) := by
  refine calls_of_run Tryd.func42 rfl Tryd.ntmps42 rfl ?_
  have S0 := St.init w
  have bb0 := b0.1; have bc0 := b0.2; simp only [maxLen] at bc0
  have bb1 := b1.1; have bc1 := b1.2; simp only [maxLen] at bc1
  refine run_seq ?_
  refine run_reg (l := [0]) rfl ?_
  refine p_v (v := .int .i64 0) rfl rfl rfl (x_assign rfl) ?_
  refine run_region_end ?_
  refine run_seq ?_
  refine run_seq ?_
  refine run_reg (l := [0, 1, 2]) rfl ?_
  refine p_v (v := .slice A0 s.length c0) rfl rfl rfl (x_move rfl) ?_
  refine p_v (v := .int .i64 (s.length : Int)) rfl rfl rfl (x_len_slice u23 rfl) ?_
  refine p_v (v := .int .i64 0) rfl rfl rfl (x_move rfl) ?_
  refine run_region_end ?_
  refine run_block ?_
  refine run_loop (S := Int) (fun (q_ : Int) ρ w' => match q_ with | t8 => ∃ (h : Ghost), Le (fun _ => none) h ∧ St w.heap.size w h w' [] ∧ ρ 0 = .slice A0 s.length c0 ∧ ρ 1 = .func (.func 36) #[] #[.pointer (some a1)] ∧ ρ 7 = .int .i64 (s.length : Int) ∧ ρ 8 = .int .i64 t8 ∧ inK .i64 t8 ∧ (0 ≤ t8 ∧ t8 ≤ (s.length : Int) ∧ placeF (fun x => at_ f x) s 0 = placeF (fun x => at_ f x) (s.drop t8.toNat) t8)) (fun q_ => match q_ with | t8 => (s.length - t8).toNat) (0) ⟨(fun _ => none), Le.refl _, S0.sub [] (by decide) rfl _ rfl, rfl, rfl, rfl, rfl, (in_i64 (by first|omega|(simp;omega)|assumption) (by first|omega|(simp;omega)|assumption)), (by exact ⟨by omega, by omega, rfl⟩)⟩ ?_
  rintro t8 ih1 ρ1 w1 ⟨h1, le1, S1, r1_0, r1_1, r1_7, r1_8, f1_0, hI1⟩
  have lf1_0 := i64_lo f1_0; have hf1_0 := i64_hi f1_0
  refine run_seq ?_
  refine run_reg (l := [0]) rfl ?_
  refine p_v (v := .bool (decide (t8 < (s.length : Int)))) rfl rfl rfl (x_lss r1_8 r1_7) ?_
  refine run_region_end ?_
  refine run_seq ?_
  refine run_cond_prop (p := t8 < (s.length : Int)) rfl (fun hc2 => ?_) (fun hc2 => ?_)
  · skip
    refine run_skip ?_
    refine run_seq ?_
    refine run_block ?_
    refine run_seq ?_
    refine run_reg (l := [0, 1]) rfl ?_
    refine p_v (v := .int .i64 t8) rfl rfl rfl (x_move r1_8) ?_
    refine p_v (v := .int .i64 t8) rfl rfl rfl (x_assign rfl) ?_
    refine run_region_end ?_
    refine run_seq ?_
    refine run_reg (l := [0, 1, 2, 3, 4, 5]) rfl ?_
    refine p_v (v := .func (.func 36) #[] #[.pointer (some a1)]) rfl rfl rfl (x_move r1_1) ?_
    refine p_v (v := .slice A0 s.length c0) rfl rfl rfl (x_move r1_0) ?_
    refine p_v (v := .int .i64 t8) rfl rfl rfl (x_move rfl) ?_
    obtain ⟨ad3, seg3, a3, rp3, ce3⟩ := e_index_ro (q := t8) (m := 1) l0 rfl (by first|omega|(simp;omega)|assumption) (by first|omega|(simp;omega)|assumption)
    refine p_v (v := .pointer (some ad3)) rfl rfl rfl (x_index_ro u23 ty3 rfl rfl a3 (by first|omega|(simp;omega)|assumption) (by first|omega|(simp;omega)|assumption)) ?_
    obtain ⟨rfl, in3⟩ := rp3
    have lo3 := i64_lo in3; have hi3 := i64_hi in3
    refine p_v (v := .int .i64 (at_ s t8)) rfl rfl rfl (x_load (seg := [.int .i64 (at_ s t8)]) ty3 rfl (by simp) rfl (CF.ghost ce3 (St.le0 S1))) ?_
    refine p_c rfl rfl rfl (y_call (args := [.int .i64 (at_ s t8), .pointer (some a1)]) ca36 rfl rfl) (useful1_calls w1 (at_ s t8) (in_i64 (by first|omega|(simp;omega)|assumption) (by first|omega|(simp;omega)|assumption)) f A1 c1 b1 (l1.mono (St.le0 S1)) a1 (fun j v h => gcell_mono (St.le0 S1) (pc1 j v h)) (by first | assumption | omega | exact pre0 _ (at_mem (by omega) (by omega)))) ?_
    rintro _ w4 ⟨h4, T4, rfl⟩
    have S5 := S1.keep (Chg.of_below T4.below)
    refine run_region_end ?_
    refine run_cond_split (b := at_ f (at_ s t8)) rfl (fun hc6 => ?_) (fun hc6 => ?_)
    · skip
      refine run_seq ?_
      refine run_reg (l := [0, 1]) rfl ?_
      refine p_v (v := .int .i64 t8) rfl rfl rfl (x_move rfl) ?_
      refine p_v (v := .int .i64 t8) rfl rfl rfl (x_assign rfl) ?_
      refine run_region_end ?_
      refine run_ret Tryd.func42 (res1 rfl (res_tmp (v := .int .i64 t8) rfl)) ?_
      have q0 : (placeF (fun x => at_ f x) s 0 : Int) = t8 := by
        rw [hI1.2.2, placeF_drop _ _ hI1.1 (by omega), if_pos (by assumption)]
      refine ⟨_, rfl, h1, ?_, ?_, ?_⟩
      · exact S5.sub [] (by decide) rfl _ rfl
      · first | rfl | (simp only [q0]; rfl) | (simp only [q0])
      · rw [q0]; exact f1_0
    · skip
      refine run_skip ?_
      refine run_inBlock ?_
      refine run_reg (l := [0, 1]) rfl ?_
      refine p_v (v := .int .i64 (t8 + 1)) rfl rfl rfl (x_add r1_8 rfl (in_i64 (by first|omega|(simp;omega)|assumption) (by first|omega|(simp;omega)|assumption))) ?_
      refine p_v (v := .int .i64 (t8 + 1)) rfl rfl rfl (x_move rfl) ?_
      refine run_region_end ?_
      refine ih1 (t8 + 1) _ _ (by dsimp only; omega) ⟨h1, le1, S5.sub [] (by decide) rfl _ rfl, r1_0, r1_1, r1_7, rfl, (in_i64 (by first|omega|(simp;omega)|assumption) (by first|omega|(simp;omega)|assumption)), (by exact ⟨by omega, by omega, by rw [hI1.2.2, placeF_drop _ _ hI1.1 (by omega), if_neg (by simp [*])]⟩)⟩
  · skip
    refine run_exit rfl ?_
    refine run_seq ?_
    refine run_reg (l := [0]) rfl ?_
    refine p_v (v := .int .i64 (-1)) rfl rfl rfl (x_assign rfl) ?_
    refine run_region_end ?_
    refine run_ret Tryd.func42 (res1 rfl (res_tmp (v := .int .i64 (-1)) rfl)) ?_
    have q0 : (placeF (fun x => at_ f x) s 0 : Int) = (-1) := by
      rw [hI1.2.2, List.drop_of_length_le (by omega)]; exact placeF_nil _ _
    refine ⟨_, rfl, h1, ?_, ?_, ?_⟩
    · exact S1.sub [] (by decide) rfl _ rfl
    · first | rfl | (simp only [q0]; rfl) | (simp only [q0])
    · rw [q0]; exact (in_i64 (by first|omega|(simp;omega)|assumption) (by first|omega|(simp;omega)|assumption))
theorem containsI_calls (w : World) (s : List Int) (A0 : Option Addr) (c0 : Nat) (b0 : s.length ≤ c0 ∧ c0 ≤ maxLen) (l0 : Leads (Kd.int .i64) (hp w) A0 s) (f : List Bool) (A1 : Option Addr) (c1 : Nat) (b1 : f.length ≤ c1 ∧ c1 ≤ maxLen) (l1 : Leads Kd.bool (hp w) A1 f) (a1 : Addr) (pc1 : ∀ j v, [.slice A1 f.length c1][j]? = some v → gcell (hp w) (a1.add j) = some v) (pre0 : ∀ x ∈ s, 0 ≤ x ∧ x < (f.length : Int)) :
    Calls Tryd.prog 35 #[.slice A0 s.length c0, .func (.func 36) #[] #[.pointer (some a1)]] w fun e w' => ∃ v, e = .returned v ∧ ∃ (hn : Ghost), St w.heap.size w hn w' [] ∧ v = .bool (s.any fun x => at_ f x) := by
  refine calls_of_run Tryd.func35 rfl Tryd.ntmps35 rfl ?_
  have S0 := St.init w
  have bb0 := b0.1; have bc0 := b0.2; simp only [maxLen] at bc0
  have bb1 := b1.1; have bc1 := b1.2; simp only [maxLen] at bc1
  refine run_seq ?_
  refine run_reg (l := [0]) rfl ?_
  refine p_v (v := .bool false) rfl rfl rfl (x_assign rfl) ?_
  refine run_region_end ?_
  refine run_seq ?_
  refine run_reg (l := [0, 1, 2, 3, 4]) rfl ?_
  refine p_v (v := .slice A0 s.length c0) rfl rfl rfl (x_move rfl) ?_
  refine p_v (v := .func (.func 36) #[] #[.pointer (some a1)]) rfl rfl rfl (x_move rfl) ?_
  refine p_c rfl rfl rfl (y_call (args := [.slice A0 s.length c0, .func (.func 36) #[] #[.pointer (some a1)]]) ca42 rfl rfl) (indexI_calls w s A0 c0 b0 (l0.mono (St.le0 S0)) f A1 c1 b1 (l1.mono (St.le0 S0)) a1 (fun j v h => gcell_mono (St.le0 S0) (pc1 j v h)) (by first | assumption | (intro x hx; have := hR_.rows (by assumption) (by omega) x hx; omega))) ?_
  rintro _ w1 ⟨h1, T1, rfl, in1_0⟩
  have S2 := S0.keep (Chg.of_below T1.below)
  have lo_in1_0 := i64_lo in1_0; have hi_in1_0 := i64_hi in1_0
  refine p_v (v := .bool (decide (0 ≤ (placeF (fun x => at_ f x) s 0)))) rfl rfl rfl (x_geq rfl rfl) ?_
  refine p_v (v := .bool (decide (0 ≤ (placeF (fun x => at_ f x) s 0)))) rfl rfl rfl (x_assign rfl) ?_
  refine run_region_end ?_
  refine run_ret Tryd.func35 (res1 rfl (res_tmp (v := .bool (decide (0 ≤ (placeF (fun x => at_ f x) s 0)))) rfl)) ?_
  have q0 : (s.any fun x => at_ f x : Bool) = decide (0 ≤ (placeF (fun x => at_ f x) s 0)) := by
    exact (placeF_any _ _ _ (by omega)).symm
  refine ⟨_, rfl, (fun _ => none), ?_, ?_⟩
  · exact S2.sub [] (by decide) rfl _ rfl
  · first | rfl | (simp only [q0]; rfl) | (simp only [q0])
theorem useful_calls (w : World) (m : Mach) (A0_0 : Option Addr) (c0_0 : Nat) (b0_0 : m.spots.length ≤ c0_0 ∧ c0_0 ≤ maxLen) (l0_0 : Leads kSpot (hp w) A0_0 m.spots) (A0_1 : Option Addr) (c0_1 : Nat) (b0_1 : m.first.length ≤ c0_1 ∧ c0_1 ≤ maxLen) (l0_1 : Leads (Kd.int .i64) (hp w) A0_1 m.first) (A0_2 : Option Addr) (c0_2 : Nat) (b0_2 : m.follow.length ≤ c0_2 ∧ c0_2 ≤ maxLen) (l0_2 : Leads (Kd.int .i64).slice (hp w) A0_2 m.follow) (A0_3 : Option Addr) (c0_3 : Nat) (b0_3 : m.last.length ≤ c0_3 ∧ c0_3 ≤ maxLen) (l0_3 : Leads Kd.bool (hp w) A0_3 m.last) (pre0 : Right m) :
    Calls Tryd.prog 18 #[.agg #[.slice A0_0 m.spots.length c0_0, .slice A0_1 m.first.length c0_1, .slice A0_2 m.follow.length c0_2, .slice A0_3 m.last.length c0_3, .bool m.empty]] w fun e w' => ∃ v, e = .returned v ∧ ∃ (hn : Ghost) (r0 : Value), St w.heap.size w hn w' [row 4 Kd.bool r0 (keepM m)] ∧ v = r0 := by
  refine calls_of_run Tryd.func18 rfl Tryd.ntmps18 rfl ?_
  have S0 := St.init w
  have bb0_0 := b0_0.1; have bc0_0 := b0_0.2; simp only [maxLen] at bc0_0
  have bb0_1 := b0_1.1; have bc0_1 := b0_1.2; simp only [maxLen] at bc0_1
  have bb0_2 := b0_2.1; have bc0_2 := b0_2.2; simp only [maxLen] at bc0_2
  have bb0_3 := b0_3.1; have bc0_3 := b0_3.2; simp only [maxLen] at bc0_3
  have hsm_ := pre0.small; have hfo_ := pre0.follow; have hla_ := pre0.last; have hss_ := pre0.small'; have hfi_ := hss_.first; have hcl_ := comeM_len m; have hR_ := pre0
  refine run_seq ?_
  refine run_reg (l := [0, 1]) rfl ?_
  obtain ⟨b1, w1, r1, g1, T1⟩ := e_box (P := Tryd.prog) S0 27 (v := .agg #[.slice A0_0 m.spots.length c0_0, .slice A0_1 m.first.length c0_1, .slice A0_2 m.follow.length c0_2, .slice A0_3 m.last.length c0_3, .bool m.empty]) [.slice A0_0 m.spots.length c0_0, .slice A0_1 m.first.length c0_1, .slice A0_2 m.follow.length c0_2, .slice A0_3 m.last.length c0_3, .bool m.empty] rfl
  have S2 : St w.heap.size w (fun _ => none) w1 [box b1 27 [.slice A0_0 m.spots.length c0_0, .slice A0_1 m.first.length c0_1, .slice A0_2 m.follow.length c0_2, .slice A0_3 m.last.length c0_3, .bool m.empty]] := T1
  refine p_v (v := .pointer (some ⟨b1, 0, none⟩)) rfl rfl rfl (x_box rfl r1) ?_
  refine p_v (v := .slice none 0 0) rfl rfl rfl (x_assign rfl) ?_
  refine run_region_end ?_
  refine run_seq ?_
  refine run_reg (l := [0, 1, 2]) rfl ?_
  refine p_v (v := .agg #[.slice A0_0 m.spots.length c0_0, .slice A0_1 m.first.length c0_1, .slice A0_2 m.follow.length c0_2, .slice A0_3 m.last.length c0_3, .bool m.empty]) rfl rfl rfl (x_load (seg := [.slice A0_0 m.spots.length c0_0, .slice A0_1 m.first.length c0_1, .slice A0_2 m.follow.length c0_2, .slice A0_3 m.last.length c0_3, .bool m.empty]) ty27 rfl (by simp) rfl (CF.box (m := 5) (S2.box_at (j := 0) rfl) rfl)) ?_
  refine p_c rfl rfl rfl (y_call (args := [.agg #[.slice A0_0 m.spots.length c0_0, .slice A0_1 m.first.length c0_1, .slice A0_2 m.follow.length c0_2, .slice A0_3 m.last.length c0_3, .bool m.empty]]) ca34 rfl rfl) (reached_calls w1 m A0_0 c0_0 b0_0 (l0_0.mono (St.le0 S2)) A0_1 c0_1 b0_1 (l0_1.mono (St.le0 S2)) A0_2 c0_2 b0_2 (l0_2.mono (St.le0 S2)) A0_3 c0_3 b0_3 (l0_3.mono (St.le0 S2)) (by assumption)) ?_
  rintro v3_0 w3 ⟨h3, _, T3, rfl⟩
  obtain ⟨k3, lk3, ll3, U3⟩ := call_joins S2 T3
  have S4 : St w.heap.size w k3 w3 [box b1 27 [.slice A0_0 m.spots.length c0_0, .slice A0_1 m.first.length c0_1, .slice A0_2 m.follow.length c0_2, .slice A0_3 m.last.length c0_3, .bool m.empty], row 4 Kd.bool v3_0 (comeM m)] := U3
  refine p_v (v := v3_0) rfl rfl rfl (x_assign rfl) ?_
  refine run_region_end ?_
  refine run_seq ?_
  refine run_reg (l := [0, 1, 2, 3, 4, 5]) rfl ?_
  refine p_v (v := .pointer (some ⟨b1, 0, none⟩)) rfl rfl rfl (x_fieldAt fd27_0 ty22 rfl rfl) ?_
  refine p_v (v := .slice A0_0 m.spots.length c0_0) rfl rfl rfl (x_load (seg := [.slice A0_0 m.spots.length c0_0]) ty22 rfl (by simp) rfl (CF.box (m := 1) (S4.box_at (j := 0) rfl) rfl)) ?_
  refine p_v (v := .int .i64 (m.spots.length : Int)) rfl rfl rfl (x_len_slice u22 rfl) ?_
  obtain ⟨v5, w5, r5, g5, T5⟩ := e_make (kk := .i64) (kk' := .i64) (kd := Kd.bool) (q := (m.spots.length : Int)) (z := false) (zc := [.bool false]) S4 u25 ty4 rfl rfl ⟨rfl, trivial⟩ (by first|omega|(simp;omega)|assumption) (by first|omega|(simp;omega)|assumption) (by first|omega|(simp;omega)|assumption)
  have S6 : St w.heap.size w k3 w5 [box b1 27 [.slice A0_0 m.spots.length c0_0, .slice A0_1 m.first.length c0_1, .slice A0_2 m.follow.length c0_2, .slice A0_3 m.last.length c0_3, .bool m.empty], row 4 Kd.bool v3_0 (comeM m), row 4 Kd.bool v5 (List.replicate ((m.spots.length : Int)).toNat false)] := T5
  refine p_v (v := v5) rfl rfl rfl (x_make rfl rfl r5) ?_
  obtain ⟨b7, w7, r7, g7, T7⟩ := e_box (P := Tryd.prog) S6 25 (v := (.slice none 0 0)) [.slice none 0 0] rfl
  have S8 : St w.heap.size w k3 w7 [box b1 27 [.slice A0_0 m.spots.length c0_0, .slice A0_1 m.first.length c0_1, .slice A0_2 m.follow.length c0_2, .slice A0_3 m.last.length c0_3, .bool m.empty], row 4 Kd.bool v3_0 (comeM m), row 4 Kd.bool v5 (List.replicate ((m.spots.length : Int)).toNat false), box b7 25 [.slice none 0 0]] := T7
  refine p_v (v := .pointer (some ⟨b7, 0, none⟩)) rfl rfl rfl (x_alloc ty25 r7) ?_
  have oc10 := row_one S8 (j := 2) rfl
  obtain ⟨w9, r9, g9, T9⟩ := e_store (P := Tryd.prog) (off := 0) (v := v5) (vs := [v5]) S8 ty25 (row_cells S8 (j := 2) rfl) rfl (j := 3) rfl (by first | decide | exact Nat.le_of_ble_eq_true rfl) (one_cons oc10 one_nil)
  have S11 : St w.heap.size w k3 w9 [box b1 27 [.slice A0_0 m.spots.length c0_0, .slice A0_1 m.first.length c0_1, .slice A0_2 m.follow.length c0_2, .slice A0_3 m.last.length c0_3, .bool m.empty], row 4 Kd.bool v3_0 (comeM m), row 4 Kd.bool v5 (List.replicate ((m.spots.length : Int)).toNat false), box b7 25 [v5]] := T9
  refine p_s rfl rfl (x_store rfl rfl r9) ?_
  refine run_region_end ?_
  refine run_seq ?_
  refine run_seq ?_
  refine run_reg (l := [0]) rfl ?_
  refine p_v (v := .bool true) rfl rfl rfl (x_assign rfl) ?_
  refine run_region_end ?_
  refine run_block ?_
  refine run_loop (S := (List Bool) × Bool) (fun (q_ : (List Bool) × Bool) ρ w' => match q_ with | (out, more) => ∃ (h : Ghost) (v_out : Value), Le k3 h ∧ St w.heap.size w h w' [box b1 27 [.slice A0_0 m.spots.length c0_0, .slice A0_1 m.first.length c0_1, .slice A0_2 m.follow.length c0_2, .slice A0_3 m.last.length c0_3, .bool m.empty], row 4 Kd.bool v3_0 (comeM m), row 4 Kd.bool v_out out, box b7 25 [v_out]] ∧ ρ 1 = .pointer (some ⟨b1, 0, none⟩) ∧ ρ 3 = v3_0 ∧ ρ 4 = .pointer (some ⟨b7, 0, none⟩) ∧ ρ 5 = .bool more ∧ (UseI m out more)) (fun q_ => match q_ with | (out, more) => useN m out more) (List.replicate ((m.spots.length : Int)).toNat false, true) ⟨k3, v5, Le.refl _, S11.sub [0, 1, 2, 3] (by decide) rfl _ rfl, rfl, rfl, rfl, rfl, (by exact use_0 m)⟩ ?_
  rintro ⟨out, more⟩ ih12 ρ12 w12 ⟨h12, v_out, le12, S12, r12_1, r12_3, r12_4, r12_5, hI12⟩
  have rl12_1 := S12.row_le (j := 1) rfl; simp only [maxLen] at rl12_1
  have rl12_2 := S12.row_le (j := 2) rfl; simp only [maxLen] at rl12_2
  have hol_ := hI12.len
  refine run_seq ?_
  refine run_seq ?_
  refine run_reg (l := [0]) rfl ?_
  refine p_v (v := .bool more) rfl rfl rfl (x_move r12_5) ?_
  refine run_region_end ?_
  refine run_cond_split (b := more) rfl (fun hc13 => ?_) (fun hc13 => ?_)
  · skip
    refine run_skip ?_
    refine run_block ?_
    refine run_seq ?_
    refine run_reg (l := [0]) rfl ?_
    refine p_v (v := .bool false) rfl rfl rfl (x_assign rfl) ?_
    refine run_region_end ?_
    refine run_seq ?_
    refine run_reg (l := [0, 1, 2]) rfl ?_
    refine p_v (v := v_out) rfl rfl rfl (x_load (seg := [v_out]) ty25 rfl (by simp) r12_4 (CF.box (m := 1) (S12.box_at (j := 3) rfl) rfl)) ?_
    have lb14 := S12.row_le (j := 2) rfl; simp only [maxLen] at lb14
    refine p_v (v := .int .i64 (out.length : Int)) rfl rfl rfl (x_len_own u25 rfl (e_len_own S12 (j := 2) rfl)) ?_
    refine p_v (v := .int .i64 0) rfl rfl rfl (x_move rfl) ?_
    refine run_region_end ?_
    refine run_block ?_
    refine run_loop (S := (List Bool) × Bool × Int) (fun (q_ : (List Bool) × Bool × Int) ρ w' => match q_ with | (out2, more2, t16) => ∃ (h : Ghost) (v_out2 : Value), Le h12 h ∧ St w.heap.size w h w' [box b1 27 [.slice A0_0 m.spots.length c0_0, .slice A0_1 m.first.length c0_1, .slice A0_2 m.follow.length c0_2, .slice A0_3 m.last.length c0_3, .bool m.empty], row 4 Kd.bool v3_0 (comeM m), row 4 Kd.bool v_out2 out2, box b7 25 [v_out2]] ∧ ρ 1 = .pointer (some ⟨b1, 0, none⟩) ∧ ρ 3 = v3_0 ∧ ρ 4 = .pointer (some ⟨b7, 0, none⟩) ∧ ρ 5 = .bool more2 ∧ ρ 15 = .int .i64 (out.length : Int) ∧ ρ 16 = .int .i64 t16 ∧ inK .i64 t16 ∧ (0 ≤ t16 ∧ t16 ≤ (m.spots.length : Int) ∧ UseJ m out out2 more2 t16)) (fun q_ => match q_ with | (out2, more2, t16) => (m.spots.length - t16).toNat) (out, false, 0) ⟨h12, v_out, Le.refl _, S12.sub [0, 1, 2, 3] (by decide) rfl _ rfl, r12_1, r12_3, r12_4, rfl, rfl, rfl, (in_i64 (by first|omega|(simp;omega)|assumption) (by first|omega|(simp;omega)|assumption)), (by exact ⟨by omega, by omega, use_j0 hI12⟩)⟩ ?_
    rintro ⟨out2, more2, t16⟩ ih15 ρ15 w15 ⟨h15, v_out2, le15, S15, r15_1, r15_3, r15_4, r15_5, r15_15, r15_16, f15_0, hI15⟩
    have lf15_0 := i64_lo f15_0; have hf15_0 := i64_hi f15_0
    have rl15_1 := S15.row_le (j := 1) rfl; simp only [maxLen] at rl15_1
    have rl15_2 := S15.row_le (j := 2) rfl; simp only [maxLen] at rl15_2
    have hol2_ := hI15.2.2.len; have hi0_ : 0 ≤ t16 := hI15.1
    refine run_seq ?_
    refine run_reg (l := [0]) rfl ?_
    refine p_v (v := .bool (decide (t16 < (out.length : Int)))) rfl rfl rfl (x_lss r15_16 r15_15) ?_
    refine run_region_end ?_
    refine run_seq ?_
    refine run_cond_prop (p := t16 < (out.length : Int)) rfl (fun hc16 => ?_) (fun hc16 => ?_)
    · skip
      refine run_skip ?_
      refine run_seq ?_
      refine run_block ?_
      refine run_seq ?_
      refine run_reg (l := [0, 1]) rfl ?_
      refine p_v (v := .int .i64 t16) rfl rfl rfl (x_move r15_16) ?_
      refine p_v (v := .int .i64 t16) rfl rfl rfl (x_assign rfl) ?_
      refine run_region_end ?_
      refine run_seq ?_
      refine run_seq ?_
      refine run_reg (l := [0, 1, 2, 3, 4, 5, 6, 7, 8, 9, 10]) rfl ?_
      refine p_v (v := v_out2) rfl rfl rfl (x_load (seg := [v_out2]) ty25 rfl (by simp) r15_4 (CF.box (m := 1) (S15.box_at (j := 3) rfl) rfl)) ?_
      refine p_v (v := .int .i64 t16) rfl rfl rfl (x_move rfl) ?_
      obtain ⟨ad17, a17, at17⟩ := e_index_own (q := t16) (m := 1) S15 (j := 2) rfl rfl (by first|omega|(simp;omega)|assumption) (by first|omega|(simp;omega)|assumption)
      refine p_v (v := .pointer (some ad17)) rfl rfl rfl (x_index_own u25 ty4 rfl rfl a17 (by first|omega|(simp;omega)|assumption) (by first|omega|(simp;omega)|assumption)) ?_
      obtain ⟨seg18, rp18, cf18⟩ := e_load_own (q := t16) S15 (j := 2) rfl rfl at17 (by first|omega|(simp;omega)|assumption) (by first|omega|(simp;omega)|assumption)
      obtain ⟨rfl, _⟩ := rp18
      refine p_v (v := .bool (at_ out2 t16)) rfl rfl rfl (x_load (seg := [.bool (at_ out2 t16)]) ty4 rfl (by simp) rfl cf18) ?_
      refine p_v (v := .bool (at_ out2 t16)) rfl rfl rfl (x_move rfl) ?_
      rcases Bool.eq_false_or_eq_true (at_ out2 t16) with hc19 | hc19
      · skip
        refine p_off rfl (wanted_of (j := 4) (want := false) (d := 23) (b := true) rfl rfl (congrArg Value.bool hc19) rfl) rfl ?_
        refine p_off rfl (wanted_of (j := 4) (want := false) (d := 23) (b := true) rfl rfl (congrArg Value.bool hc19) rfl) rfl ?_
        refine p_off rfl (wanted_of (j := 4) (want := false) (d := 23) (b := true) rfl rfl (congrArg Value.bool hc19) rfl) rfl ?_
        refine p_off rfl (wanted_of (j := 4) (want := false) (d := 23) (b := true) rfl rfl (congrArg Value.bool hc19) rfl) rfl ?_
        refine p_off rfl (wanted_of (j := 4) (want := false) (d := 23) (b := true) rfl rfl (congrArg Value.bool hc19) rfl) rfl ?_
        refine p_v (v := .bool true) rfl rfl rfl (x_pick_t (congrArg Value.bool hc19) rfl) ?_
        refine run_region_end ?_
        refine run_cond (b := true) rfl ?_
        simp only [if_true, if_false, Bool.false_eq_true]
        refine run_exit rfl ?_
        refine run_reg (l := [0, 1]) rfl ?_
        refine p_v (v := .int .i64 (t16 + 1)) rfl rfl rfl (x_add r15_16 rfl (in_i64 (by first|omega|(simp;omega)|assumption) (by first|omega|(simp;omega)|assumption))) ?_
        refine p_v (v := .int .i64 (t16 + 1)) rfl rfl rfl (x_move rfl) ?_
        refine run_region_end ?_
        refine ih15 (out2, more2, t16 + 1) _ _ (by dsimp only; omega) ⟨h15, v_out2, le15, S15.sub [0, 1, 2, 3] (by decide) rfl _ rfl, r15_1, r15_3, r15_4, r15_5, r15_15, rfl, (in_i64 (by first|omega|(simp;omega)|assumption) (by first|omega|(simp;omega)|assumption)), (by first | exact ⟨by omega, by omega, use_old hI15.2.2 hI15.1 (.inl (by assumption))⟩ | exact ⟨by omega, by omega, use_old hI15.2.2 hI15.1 (.inr (by assumption))⟩ | exact ⟨by omega, by omega, use_no hI15.2.2 hI15.1 (by assumption) (by assumption)⟩ | exact ⟨by omega, by omega, use_new hR_ hI15.2.2 hI15.1 (by omega) (by assumption) (by assumption) (.inl (by assumption))⟩ | exact ⟨by omega, by omega, use_new hR_ hI15.2.2 hI15.1 (by omega) (by assumption) (by assumption) (.inr (by assumption))⟩)⟩
      · skip
        refine p_v (v := v3_0) rfl (wanted_of (j := 4) (want := false) (d := 23) (b := false) rfl rfl (congrArg Value.bool hc19) rfl) rfl (x_move r15_3) ?_
        refine p_v (v := .int .i64 t16) rfl (wanted_of (j := 4) (want := false) (d := 23) (b := false) rfl rfl (congrArg Value.bool hc19) rfl) rfl (x_move rfl) ?_
        obtain ⟨ad20, a20, at20⟩ := e_index_own (q := t16) (m := 1) S15 (j := 1) rfl rfl (by first|omega|(simp;omega)|assumption) (by first|omega|(simp;omega)|assumption)
        refine p_v (v := .pointer (some ad20)) rfl (wanted_of (j := 4) (want := false) (d := 23) (b := false) rfl rfl (congrArg Value.bool hc19) rfl) rfl (x_index_own u25 ty4 rfl rfl a20 (by first|omega|(simp;omega)|assumption) (by first|omega|(simp;omega)|assumption)) ?_
        obtain ⟨seg21, rp21, cf21⟩ := e_load_own (q := t16) S15 (j := 1) rfl rfl at20 (by first|omega|(simp;omega)|assumption) (by first|omega|(simp;omega)|assumption)
        obtain ⟨rfl, _⟩ := rp21
        refine p_v (v := .bool (at_ (comeM m) t16)) rfl (wanted_of (j := 4) (want := false) (d := 23) (b := false) rfl rfl (congrArg Value.bool hc19) rfl) rfl (x_load (seg := [.bool (at_ (comeM m) t16)]) ty4 rfl (by simp) rfl cf21) ?_
        refine p_v (v := .bool (!(at_ (comeM m) t16))) rfl (wanted_of (j := 4) (want := false) (d := 23) (b := false) rfl rfl (congrArg Value.bool hc19) rfl) rfl (x_not rfl) ?_
        refine p_v (v := .bool (!(at_ (comeM m) t16))) rfl rfl rfl (x_pick_f (congrArg Value.bool hc19) rfl) ?_
        refine run_region_end ?_
        refine run_cond_nsplit (b := at_ (comeM m) t16) rfl (fun hc22 => ?_) (fun hc22 => ?_)
        · skip
          refine run_exit rfl ?_
          refine run_reg (l := [0, 1]) rfl ?_
          refine p_v (v := .int .i64 (t16 + 1)) rfl rfl rfl (x_add r15_16 rfl (in_i64 (by first|omega|(simp;omega)|assumption) (by first|omega|(simp;omega)|assumption))) ?_
          refine p_v (v := .int .i64 (t16 + 1)) rfl rfl rfl (x_move rfl) ?_
          refine run_region_end ?_
          refine ih15 (out2, more2, t16 + 1) _ _ (by dsimp only; omega) ⟨h15, v_out2, le15, S15.sub [0, 1, 2, 3] (by decide) rfl _ rfl, r15_1, r15_3, r15_4, r15_5, r15_15, rfl, (in_i64 (by first|omega|(simp;omega)|assumption) (by first|omega|(simp;omega)|assumption)), (by first | exact ⟨by omega, by omega, use_old hI15.2.2 hI15.1 (.inl (by assumption))⟩ | exact ⟨by omega, by omega, use_old hI15.2.2 hI15.1 (.inr (by assumption))⟩ | exact ⟨by omega, by omega, use_no hI15.2.2 hI15.1 (by assumption) (by assumption)⟩ | exact ⟨by omega, by omega, use_new hR_ hI15.2.2 hI15.1 (by omega) (by assumption) (by assumption) (.inl (by assumption))⟩ | exact ⟨by omega, by omega, use_new hR_ hI15.2.2 hI15.1 (by omega) (by assumption) (by assumption) (.inr (by assumption))⟩)⟩
        · skip
          refine run_skip ?_
          refine run_seq ?_
          refine run_reg (l := [0, 1, 2, 3, 4, 5, 6, 7, 8, 9, 10, 11, 12, 13]) rfl ?_
          refine p_v (v := .pointer (some ⟨b1, 3, none⟩)) rfl rfl rfl (x_fieldAt fd27_3 ty25 rfl r15_1) ?_
          refine p_v (v := .slice A0_3 m.last.length c0_3) rfl rfl rfl (x_load (seg := [.slice A0_3 m.last.length c0_3]) ty25 rfl (by simp) rfl (CF.box (m := 1) (S15.box_at (j := 0) rfl) rfl)) ?_
          refine p_v (v := .int .i64 t16) rfl rfl rfl (x_move rfl) ?_
          obtain ⟨ad23, seg23, a23, rp23, ce23⟩ := e_index_ro (q := t16) (m := 1) l0_3 rfl (by first|omega|(simp;omega)|assumption) (by first|omega|(simp;omega)|assumption)
          refine p_v (v := .pointer (some ad23)) rfl rfl rfl (x_index_ro u25 ty4 rfl rfl a23 (by first|omega|(simp;omega)|assumption) (by first|omega|(simp;omega)|assumption)) ?_
          obtain ⟨rfl, _⟩ := rp23
          refine p_v (v := .bool (at_ m.last t16)) rfl rfl rfl (x_load (seg := [.bool (at_ m.last t16)]) ty4 rfl (by simp) rfl (CF.ghost ce23 (St.le0 S15))) ?_
          refine p_v (v := .bool (at_ m.last t16)) rfl rfl rfl (x_move rfl) ?_
          rcases Bool.eq_false_or_eq_true (at_ m.last t16) with hc24 | hc24
          · skip
            refine p_off rfl (wanted_of (j := 5) (want := false) (d := 35) (b := true) rfl rfl (congrArg Value.bool hc24) rfl) rfl ?_
            refine p_off rfl (wanted_of (j := 5) (want := false) (d := 35) (b := true) rfl rfl (congrArg Value.bool hc24) rfl) rfl ?_
            refine p_off rfl (wanted_of (j := 5) (want := false) (d := 35) (b := true) rfl rfl (congrArg Value.bool hc24) rfl) rfl ?_
            refine p_off rfl (wanted_of (j := 5) (want := false) (d := 35) (b := true) rfl rfl (congrArg Value.bool hc24) rfl) rfl ?_
            refine p_off rfl (wanted_of (j := 5) (want := false) (d := 35) (b := true) rfl rfl (congrArg Value.bool hc24) rfl) rfl ?_
            refine p_off rfl (wanted_of (j := 5) (want := false) (d := 35) (b := true) rfl rfl (congrArg Value.bool hc24) rfl) rfl ?_
            refine p_off rfl (wanted_of (j := 5) (want := false) (d := 35) (b := true) rfl rfl (congrArg Value.bool hc24) rfl) rfl ?_
            refine p_v (v := .bool true) rfl rfl rfl (x_pick_t (congrArg Value.bool hc24) rfl) ?_
            refine run_region_end ?_
            refine run_cond (b := true) rfl ?_
            simp only [if_true, if_false, Bool.false_eq_true]
            refine run_reg (l := [0, 1, 2, 3, 4]) rfl ?_
            refine p_v (v := v_out2) rfl rfl rfl (x_load (seg := [v_out2]) ty25 rfl (by simp) r15_4 (CF.box (m := 1) (S15.box_at (j := 3) rfl) rfl)) ?_
            refine p_v (v := .int .i64 t16) rfl rfl rfl (x_move rfl) ?_
            obtain ⟨ad25, a25, at25⟩ := e_index_own (q := t16) (m := 1) S15 (j := 2) rfl rfl (by first|omega|(simp;omega)|assumption) (by first|omega|(simp;omega)|assumption)
            refine p_v (v := .pointer (some ad25)) rfl rfl rfl (x_index_own u25 ty4 rfl rfl a25 (by first|omega|(simp;omega)|assumption) (by first|omega|(simp;omega)|assumption)) ?_
            obtain ⟨w26, r26, g26, T26⟩ := e_store_own (u := .bool true) (q := t16) true (vs := [.bool true]) S15 ty4 rfl (j := 2) rfl rfl ⟨rfl, trivial⟩ at25 (by first|omega|(simp;omega)|assumption) (by first|omega|(simp;omega)|assumption)
            have S27 : St w.heap.size w h15 w26 [box b1 27 [.slice A0_0 m.spots.length c0_0, .slice A0_1 m.first.length c0_1, .slice A0_2 m.follow.length c0_2, .slice A0_3 m.last.length c0_3, .bool m.empty], row 4 Kd.bool v3_0 (comeM m), row 4 Kd.bool v_out2 (out2.set (t16).toNat true), box b7 25 [v_out2]] := T26
            refine p_s rfl rfl (x_store rfl rfl r26) ?_
            refine p_v (v := .bool true) rfl rfl rfl (x_assign rfl) ?_
            refine run_region_end ?_
            refine run_inBlock ?_
            refine run_reg (l := [0, 1]) rfl ?_
            refine p_v (v := .int .i64 (t16 + 1)) rfl rfl rfl (x_add r15_16 rfl (in_i64 (by first|omega|(simp;omega)|assumption) (by first|omega|(simp;omega)|assumption))) ?_
            refine p_v (v := .int .i64 (t16 + 1)) rfl rfl rfl (x_move rfl) ?_
            refine run_region_end ?_
            refine ih15 (out2.set (t16).toNat true, true, t16 + 1) _ _ (by dsimp only; omega) ⟨h15, v_out2, le15, S27.sub [0, 1, 2, 3] (by decide) rfl _ rfl, r15_1, r15_3, r15_4, rfl, r15_15, rfl, (in_i64 (by first|omega|(simp;omega)|assumption) (by first|omega|(simp;omega)|assumption)), (by first | exact ⟨by omega, by omega, use_old hI15.2.2 hI15.1 (.inl (by assumption))⟩ | exact ⟨by omega, by omega, use_old hI15.2.2 hI15.1 (.inr (by assumption))⟩ | exact ⟨by omega, by omega, use_no hI15.2.2 hI15.1 (by assumption) (by assumption)⟩ | exact ⟨by omega, by omega, use_new hR_ hI15.2.2 hI15.1 (by omega) (by assumption) (by assumption) (.inl (by assumption))⟩ | exact ⟨by omega, by omega, use_new hR_ hI15.2.2 hI15.1 (by omega) (by assumption) (by assumption) (.inr (by assumption))⟩)⟩
          · skip
            refine p_v (v := .pointer (some ⟨b1, 2, none⟩)) rfl (wanted_of (j := 5) (want := false) (d := 35) (b := false) rfl rfl (congrArg Value.bool hc24) rfl) rfl (x_fieldAt fd27_2 ty24 rfl r15_1) ?_
            refine p_v (v := .slice A0_2 m.follow.length c0_2) rfl (wanted_of (j := 5) (want := false) (d := 35) (b := false) rfl rfl (congrArg Value.bool hc24) rfl) rfl (x_load (seg := [.slice A0_2 m.follow.length c0_2]) ty24 rfl (by simp) rfl (CF.box (m := 1) (S15.box_at (j := 0) rfl) rfl)) ?_
            refine p_v (v := .int .i64 t16) rfl (wanted_of (j := 5) (want := false) (d := 35) (b := false) rfl rfl (congrArg Value.bool hc24) rfl) rfl (x_move rfl) ?_
            obtain ⟨ad28, seg28, a28, rp28, ce28⟩ := e_index_ro (q := t16) (m := 1) l0_2 rfl (by first|omega|(simp;omega)|assumption) (by first|omega|(simp;omega)|assumption)
            refine p_v (v := .pointer (some ad28)) rfl (wanted_of (j := 5) (want := false) (d := 35) (b := false) rfl rfl (congrArg Value.bool hc24) rfl) rfl (x_index_ro u24 ty23 rfl rfl a28 (by first|omega|(simp;omega)|assumption) (by first|omega|(simp;omega)|assumption)) ?_
            obtain ⟨A28, c28, rfl, lc28, cm28, ld28⟩ := rp28
            have cn28 := cm28; simp only [maxLen] at cn28
            refine p_v (v := .slice A28 (at_ m.follow t16).length c28) rfl (wanted_of (j := 5) (want := false) (d := 35) (b := false) rfl rfl (congrArg Value.bool hc24) rfl) rfl (x_load (seg := [.slice A28 (at_ m.follow t16).length c28]) ty23 rfl (by simp) rfl (CF.ghost ce28 (St.le0 S15))) ?_
            refine p_v (v := .func (.func 36) #[] #[.pointer (some ⟨b7, 0, none⟩)]) rfl (wanted_of (j := 5) (want := false) (d := 35) (b := false) rfl rfl (congrArg Value.bool hc24) rfl) rfl (y_makeFunc (fv := []) (cv := [.pointer (some ⟨b7, 0, none⟩)]) rfl (cons_eq r15_4 rfl)) ?_
            obtain ⟨A29, c29, ev29, lc29, cm29⟩ := S15.row_val (j := 2) rfl
            refine p_c rfl (wanted_of (j := 5) (want := false) (d := 35) (b := false) rfl rfl (congrArg Value.bool hc24) rfl) rfl (y_call (args := [.slice A28 (at_ m.follow t16).length c28, .func (.func 36) #[] #[.pointer (some ⟨b7, 0, none⟩)]]) ca35 rfl rfl) (containsI_calls w15 (at_ m.follow t16) A28 c28 (And.intro lc28 cm28) (ld28.mono (St.le0 S15)) out2 A29 c29 (And.intro lc29 cm29) (row_leads_eq S15 (j := 2) rfl ev29) ⟨b7, 0, none⟩ (by rw [← ev29]; exact (box_gcell (S15.box_at (j := 3) rfl))) (by first | assumption | (intro x hx; have := hR_.rows (by assumption) (by omega) x hx; omega))) ?_
            rintro _ w30 ⟨h30, T30, rfl⟩
            have S31 := S15.keep (Chg.of_below T30.below)
            refine p_v (v := .bool ((at_ m.follow t16).any fun x => at_ out2 x)) rfl rfl rfl (x_pick_f (congrArg Value.bool hc24) rfl) ?_
            refine run_region_end ?_
            refine run_cond_split (b := (at_ m.follow t16).any fun x => at_ out2 x) rfl (fun hc32 => ?_) (fun hc32 => ?_)
            · skip
              refine run_reg (l := [0, 1, 2, 3, 4]) rfl ?_
              refine p_v (v := v_out2) rfl rfl rfl (x_load (seg := [v_out2]) ty25 rfl (by simp) r15_4 (CF.box (m := 1) (S31.box_at (j := 3) rfl) rfl)) ?_
              refine p_v (v := .int .i64 t16) rfl rfl rfl (x_move rfl) ?_
              obtain ⟨ad33, a33, at33⟩ := e_index_own (q := t16) (m := 1) S31 (j := 2) rfl rfl (by first|omega|(simp;omega)|assumption) (by first|omega|(simp;omega)|assumption)
              refine p_v (v := .pointer (some ad33)) rfl rfl rfl (x_index_own u25 ty4 rfl rfl a33 (by first|omega|(simp;omega)|assumption) (by first|omega|(simp;omega)|assumption)) ?_
              obtain ⟨w34, r34, g34, T34⟩ := e_store_own (u := .bool true) (q := t16) true (vs := [.bool true]) S31 ty4 rfl (j := 2) rfl rfl ⟨rfl, trivial⟩ at33 (by first|omega|(simp;omega)|assumption) (by first|omega|(simp;omega)|assumption)
              have S35 : St w.heap.size w h15 w34 [box b1 27 [.slice A0_0 m.spots.length c0_0, .slice A0_1 m.first.length c0_1, .slice A0_2 m.follow.length c0_2, .slice A0_3 m.last.length c0_3, .bool m.empty], row 4 Kd.bool v3_0 (comeM m), row 4 Kd.bool v_out2 (out2.set (t16).toNat true), box b7 25 [v_out2]] := T34
              refine p_s rfl rfl (x_store rfl rfl r34) ?_
              refine p_v (v := .bool true) rfl rfl rfl (x_assign rfl) ?_
              refine run_region_end ?_
              refine run_inBlock ?_
              refine run_reg (l := [0, 1]) rfl ?_
              refine p_v (v := .int .i64 (t16 + 1)) rfl rfl rfl (x_add r15_16 rfl (in_i64 (by first|omega|(simp;omega)|assumption) (by first|omega|(simp;omega)|assumption))) ?_
              refine p_v (v := .int .i64 (t16 + 1)) rfl rfl rfl (x_move rfl) ?_
              refine run_region_end ?_
              refine ih15 (out2.set (t16).toNat true, true, t16 + 1) _ _ (by dsimp only; omega) ⟨h15, v_out2, le15, S35.sub [0, 1, 2, 3] (by decide) rfl _ rfl, r15_1, r15_3, r15_4, rfl, r15_15, rfl, (in_i64 (by first|omega|(simp;omega)|assumption) (by first|omega|(simp;omega)|assumption)), (by first | exact ⟨by omega, by omega, use_old hI15.2.2 hI15.1 (.inl (by assumption))⟩ | exact ⟨by omega, by omega, use_old hI15.2.2 hI15.1 (.inr (by assumption))⟩ | exact ⟨by omega, by omega, use_no hI15.2.2 hI15.1 (by assumption) (by assumption)⟩ | exact ⟨by omega, by omega, use_new hR_ hI15.2.2 hI15.1 (by omega) (by assumption) (by assumption) (.inl (by assumption))⟩ | exact ⟨by omega, by omega, use_new hR_ hI15.2.2 hI15.1 (by omega) (by assumption) (by assumption) (.inr (by assumption))⟩)⟩
            · skip
              refine run_skip ?_
              refine run_inBlock ?_
              refine run_reg (l := [0, 1]) rfl ?_
              refine p_v (v := .int .i64 (t16 + 1)) rfl rfl rfl (x_add r15_16 rfl (in_i64 (by first|omega|(simp;omega)|assumption) (by first|omega|(simp;omega)|assumption))) ?_
              refine p_v (v := .int .i64 (t16 + 1)) rfl rfl rfl (x_move rfl) ?_
              refine run_region_end ?_
              refine ih15 (out2, more2, t16 + 1) _ _ (by dsimp only; omega) ⟨h15, v_out2, le15, S31.sub [0, 1, 2, 3] (by decide) rfl _ rfl, r15_1, r15_3, r15_4, r15_5, r15_15, rfl, (in_i64 (by first|omega|(simp;omega)|assumption) (by first|omega|(simp;omega)|assumption)), (by first | exact ⟨by omega, by omega, use_old hI15.2.2 hI15.1 (.inl (by assumption))⟩ | exact ⟨by omega, by omega, use_old hI15.2.2 hI15.1 (.inr (by assumption))⟩ | exact ⟨by omega, by omega, use_no hI15.2.2 hI15.1 (by assumption) (by assumption)⟩ | exact ⟨by omega, by omega, use_new hR_ hI15.2.2 hI15.1 (by omega) (by assumption) (by assumption) (.inl (by assumption))⟩ | exact ⟨by omega, by omega, use_new hR_ hI15.2.2 hI15.1 (by omega) (by assumption) (by assumption) (.inr (by assumption))⟩)⟩
    · skip
      refine run_exit rfl ?_
      refine run_inBlock ?_
      refine ih12 (out2, more2) _ _ (by exact use_dec hI15.2.2 (by assumption)) ⟨h15, v_out2, ((le12).trans le15), S15.sub [0, 1, 2, 3] (by decide) rfl _ rfl, r15_1, r15_3, r15_4, r15_5, (by exact use_i hI15.2.2 (by omega))⟩
  · skip
    refine run_exit rfl ?_
    refine run_seq ?_
    refine run_reg (l := [0, 1]) rfl ?_
    refine p_v (v := v_out) rfl rfl rfl (x_load (seg := [v_out]) ty25 rfl (by simp) r12_4 (CF.box (m := 1) (S12.box_at (j := 3) rfl) rfl)) ?_
    refine p_v (v := v_out) rfl rfl rfl (x_assign rfl) ?_
    refine run_region_end ?_
    refine run_ret Tryd.func18 (res1 rfl (res_tmp (v := v_out) rfl)) ?_
    have q0 : (keepM m : List Bool) = out := by
      exact use_end pre0 hI12 (by assumption)
    refine ⟨_, rfl, h12, v_out, ?_, ?_⟩
    · rw [q0]; exact S12.sub [2] (by decide) rfl _ rfl
    · first | rfl | (simp only [q0]; rfl) | (simp only [q0])
theorem left_calls (w : World) (l : List Int) (A0 : Option Addr) (c0 : Nat) (b0 : l.length ≤ c0 ∧ c0 ≤ maxLen) (l0 : Leads (Kd.int .i64) (hp w) A0 l) (keep : List Bool) (A1 : Option Addr) (c1 : Nat) (b1 : keep.length ≤ c1 ∧ c1 ≤ maxLen) (l1 : Leads Kd.bool (hp w) A1 keep) (a1 : Addr) (pc1 : ∀ j v, [.slice A1 keep.length c1][j]? = some v → gcell (hp w) (a1.add j) = some v) (number : List Int) (A2 : Option Addr) (c2 : Nat) (b2 : number.length ≤ c2 ∧ c2 ≤ maxLen) (l2 : Leads (Kd.int .i64) (hp w) A2 number) (a2 : Addr) (pc2 : ∀ j v, [.slice A2 number.length c2][j]? = some v → gcell (hp w) (a2.add j) = some v) (pre0 : (l.length : Int) ≤ 250 ∧ ∀ x ∈ l, 0 ≤ x ∧ x < (keep.length : Int) ∧ x < (number.length : Int)) :
    Calls Tryd.prog 19 #[.slice A0 l.length c0, .pointer (some a1), .pointer (some a2)] w fun e w' => ∃ v, e = .returned v ∧ ∃ (hn : Ghost) (r0 : Value), St w.heap.size w hn w' [row 3 (Kd.int .i64) r0 (leftN keep number l)] ∧ v = r0 := by
  refine calls_of_run Tryd.func19 rfl Tryd.ntmps19 rfl ?_
  have S0 := St.init w
  have bb0 := b0.1; have bc0 := b0.2; simp only [maxLen] at bc0
  have bb1 := b1.1; have bc1 := b1.2; simp only [maxLen] at bc1
  have bb2 := b2.1; have bc2 := b2.2; simp only [maxLen] at bc2
  have hp0_ := pre0.1
  refine run_seq ?_
  refine run_reg (l := [0]) rfl ?_
  refine p_v (v := .slice none 0 0) rfl rfl rfl (x_assign rfl) ?_
  refine run_region_end ?_
  refine run_seq ?_
  refine run_reg (l := [0]) rfl ?_
  refine p_v (v := .slice none 0 0) rfl rfl rfl (x_assign rfl) ?_
  refine run_region_end ?_
  refine run_seq ?_
  refine run_seq ?_
  refine run_reg (l := [0, 1, 2]) rfl ?_
  refine p_v (v := .slice A0 l.length c0) rfl rfl rfl (x_move rfl) ?_
  refine p_v (v := .int .i64 (l.length : Int)) rfl rfl rfl (x_len_slice u23 rfl) ?_
  refine p_v (v := .int .i64 0) rfl rfl rfl (x_move rfl) ?_
  refine run_region_end ?_
  refine run_block ?_
  have T1 := S0.row_nil 3 (Kd.int .i64)
  obtain ⟨vn1, ev1, T1⟩ : ∃ v, v = (.slice none 0 0 : Value) ∧ St w.heap.size w (fun _ => none) w ([] ++ [row 3 (Kd.int .i64) v []]) := ⟨_, rfl, T1⟩
  have S2 : St w.heap.size w (fun _ => none) w [row 3 (Kd.int .i64) vn1 ([] : List Int)] := T1
  refine run_loop (S := (List Int) × Int) (fun (q_ : (List Int) × Int) ρ w' => match q_ with | (out, t10) => ∃ (h : Ghost) (v_out : Value), Le (fun _ => none) h ∧ St w.heap.size w h w' [row 3 (Kd.int .i64) v_out out] ∧ ρ 1 = .pointer (some a1) ∧ ρ 2 = .pointer (some a2) ∧ ρ 5 = v_out ∧ ρ 8 = .slice A0 l.length c0 ∧ ρ 9 = .int .i64 (l.length : Int) ∧ ρ 10 = .int .i64 t10 ∧ inK .i64 t10 ∧ (0 ≤ t10 ∧ t10 ≤ (l.length : Int) ∧ out = leftN keep number (l.take t10.toNat))) (fun q_ => match q_ with | (out, t10) => (l.length - t10).toNat) (([] : List Int), 0) ⟨(fun _ => none), vn1, Le.refl _, S2.sub [0] (by decide) rfl _ rfl, rfl, rfl, (ev1.symm), rfl, rfl, rfl, (in_i64 (by first|omega|(simp;omega)|assumption) (by first|omega|(simp;omega)|assumption)), (by exact ⟨by omega, by omega, left_0 _ _ _⟩)⟩ ?_
  rintro ⟨out, t10⟩ ih3 ρ3 w3 ⟨h3, v_out, le3, S3, r3_1, r3_2, r3_5, r3_8, r3_9, r3_10, f3_0, hI3⟩
  have lf3_0 := i64_lo f3_0; have hf3_0 := i64_hi f3_0
  have rl3_0 := S3.row_le (j := 0) rfl; simp only [maxLen] at rl3_0
  have hx_ : t10 < (l.length : Int) → 0 ≤ at_ l t10 ∧ at_ l t10 < (keep.length : Int) ∧ at_ l t10 < (number.length : Int) := fun h => pre0.2 _ (at_mem hI3.1 h)
  have hl_ : (out.length : Int) ≤ 250 := by rw [hI3.2.2]; have := left_take keep number l t10; omega
  refine run_seq ?_
  refine run_reg (l := [0]) rfl ?_
  refine p_v (v := .bool (decide (t10 < (l.length : Int)))) rfl rfl rfl (x_lss r3_10 r3_9) ?_
  refine run_region_end ?_
  refine run_seq ?_
  refine run_cond_prop (p := t10 < (l.length : Int)) rfl (fun hc4 => ?_) (fun hc4 => ?_)
  · skip
    refine run_skip ?_
    refine run_seq ?_
    refine run_block ?_
    refine run_seq ?_
    refine run_reg (l := [0, 1, 2]) rfl ?_
    obtain ⟨ad5, seg5, a5, rp5, ce5⟩ := e_index_ro (q := t10) (m := 1) l0 rfl (by first|omega|(simp;omega)|assumption) (by first|omega|(simp;omega)|assumption)
    refine p_v (v := .pointer (some ad5)) rfl rfl rfl (x_index_ro u23 ty3 r3_8 r3_10 a5 (by first|omega|(simp;omega)|assumption) (by first|omega|(simp;omega)|assumption)) ?_
    obtain ⟨rfl, in5⟩ := rp5
    have lo5 := i64_lo in5; have hi5 := i64_hi in5
    refine p_v (v := .int .i64 (at_ l t10)) rfl rfl rfl (x_load (seg := [.int .i64 (at_ l t10)]) ty3 rfl (by simp) rfl (CF.ghost ce5 (St.le0 S3))) ?_
    refine p_v (v := .int .i64 (at_ l t10)) rfl rfl rfl (x_assign rfl) ?_
    refine run_region_end ?_
    refine run_seq ?_
    refine run_reg (l := [0, 1, 2, 3]) rfl ?_
    refine p_v (v := .slice A1 keep.length c1) rfl rfl rfl (x_load (seg := [.slice A1 keep.length c1]) ty25 rfl (by simp) r3_1 (CF.ghost pc1 (St.le0 S3))) ?_
    refine p_v (v := .int .i64 (at_ l t10)) rfl rfl rfl (x_move rfl) ?_
    obtain ⟨ad6, seg6, a6, rp6, ce6⟩ := e_index_ro (q := at_ l t10) (m := 1) l1 rfl (by first|omega|(simp;omega)|assumption) (by first|omega|(simp;omega)|assumption)
    refine p_v (v := .pointer (some ad6)) rfl rfl rfl (x_index_ro u25 ty4 rfl rfl a6 (by first|omega|(simp;omega)|assumption) (by first|omega|(simp;omega)|assumption)) ?_
    obtain ⟨rfl, _⟩ := rp6
    refine p_v (v := .bool (at_ keep (at_ l t10))) rfl rfl rfl (x_load (seg := [.bool (at_ keep (at_ l t10))]) ty4 rfl (by simp) rfl (CF.ghost ce6 (St.le0 S3))) ?_
    refine run_region_end ?_
    refine run_cond_split (b := at_ keep (at_ l t10)) rfl (fun hc7 => ?_) (fun hc7 => ?_)
    · skip
      refine run_reg (l := [0, 1, 2, 3, 4, 5, 6, 7]) rfl ?_
      refine p_v (v := v_out) rfl rfl rfl (x_move r3_5) ?_
      refine p_v (v := .slice A2 number.length c2) rfl rfl rfl (x_load (seg := [.slice A2 number.length c2]) ty23 rfl (by simp) r3_2 (CF.ghost pc2 (St.le0 S3))) ?_
      refine p_v (v := .int .i64 (at_ l t10)) rfl rfl rfl (x_move rfl) ?_
      obtain ⟨ad8, seg8, a8, rp8, ce8⟩ := e_index_ro (q := at_ l t10) (m := 1) l2 rfl (by first|omega|(simp;omega)|assumption) (by first|omega|(simp;omega)|assumption)
      refine p_v (v := .pointer (some ad8)) rfl rfl rfl (x_index_ro u23 ty3 rfl rfl a8 (by first|omega|(simp;omega)|assumption) (by first|omega|(simp;omega)|assumption)) ?_
      obtain ⟨rfl, in8⟩ := rp8
      have lo8 := i64_lo in8; have hi8 := i64_hi in8
      refine p_v (v := .int .i64 (at_ number (at_ l t10))) rfl rfl rfl (x_load (seg := [.int .i64 (at_ number (at_ l t10))]) ty3 rfl (by simp) rfl (CF.ghost ce8 (St.le0 S3))) ?_
      obtain ⟨v9, w9, r9, g9, T9⟩ := e_build_ones (kd := (Kd.int .i64)) (xs := ([at_ number (at_ l t10)] : List Int)) (len := 1) [.int .i64 (at_ number (at_ l t10))] S3 u23 ty3 rfl rfl rfl rfl rfl (ones_cons rfl ones_nil) [.int .i64 (at_ number (at_ l t10))] (Elems.single (k := (Kd.int .i64)) (h := h3) (x := at_ number (at_ l t10)) (cs := [.int .i64 (at_ number (at_ l t10))]) ⟨rfl, (in_i64 (by first|omega|(simp;omega)|assumption) (by first|omega|(simp;omega)|assumption))⟩) rfl
      have S10 : St w.heap.size w h3 w9 [row 3 (Kd.int .i64) v_out out, row 3 (Kd.int .i64) v9 ([at_ number (at_ l t10)] : List Int)] := T9
      refine p_v (v := v9) rfl rfl rfl (y_build_slice (pv := [(0, .int .i64 (at_ number (at_ l t10)))]) rfl r9) ?_
      obtain ⟨A12, c12, ev12, lc12, cm12⟩ := S10.row_val (j := 1) rfl
      obtain ⟨v13, w13, r13, g13, T13⟩ := e_append (kd := (Kd.int .i64)) (A := A12) (c := c12) (ys := ([at_ number (at_ l t10)] : List Int)) (len := ([at_ number (at_ l t10)] : List Int).length) 23 S10 u23 ty3 rfl rfl (j := 0) rfl rfl (news_own S10 (j := 1) rfl ev12) (by first|omega|(simp;omega)|assumption) (by first|omega|(simp;omega)|assumption)
      have S14 : St w.heap.size w h3 w13 [row 3 (Kd.int .i64) v13 (out ++ ([at_ number (at_ l t10)] : List Int)), row 3 (Kd.int .i64) v9 ([at_ number (at_ l t10)] : List Int)] := T13
      refine p_v (v := v13) rfl rfl rfl (x_append rfl ev12 r13) ?_
      refine p_v (v := v13) rfl rfl rfl (x_assign rfl) ?_
      refine run_region_end ?_
      refine run_inBlock ?_
      refine run_reg (l := [0, 1]) rfl ?_
      refine p_v (v := .int .i64 (t10 + 1)) rfl rfl rfl (x_add r3_10 rfl (in_i64 (by first|omega|(simp;omega)|assumption) (by first|omega|(simp;omega)|assumption))) ?_
      refine p_v (v := .int .i64 (t10 + 1)) rfl rfl rfl (x_move rfl) ?_
      refine run_region_end ?_
      refine ih3 (out ++ ([at_ number (at_ l t10)] : List Int), t10 + 1) _ _ (by dsimp only; omega) ⟨h3, v13, le3, S14.sub [0] (by decide) rfl _ rfl, r3_1, r3_2, rfl, r3_8, r3_9, rfl, (in_i64 (by first|omega|(simp;omega)|assumption) (by first|omega|(simp;omega)|assumption)), (by first | exact ⟨by omega, by omega, by rw [hI3.2.2]; exact left_yes _ _ _ hI3.1 (by omega) (by assumption)⟩ | exact ⟨by omega, by omega, by rw [hI3.2.2]; exact left_no _ _ _ hI3.1 (by omega) (by assumption)⟩)⟩
    · skip
      refine run_skip ?_
      refine run_inBlock ?_
      refine run_reg (l := [0, 1]) rfl ?_
      refine p_v (v := .int .i64 (t10 + 1)) rfl rfl rfl (x_add r3_10 rfl (in_i64 (by first|omega|(simp;omega)|assumption) (by first|omega|(simp;omega)|assumption))) ?_
      refine p_v (v := .int .i64 (t10 + 1)) rfl rfl rfl (x_move rfl) ?_
      refine run_region_end ?_
      refine ih3 (out, t10 + 1) _ _ (by dsimp only; omega) ⟨h3, v_out, le3, S3.sub [0] (by decide) rfl _ rfl, r3_1, r3_2, r3_5, r3_8, r3_9, rfl, (in_i64 (by first|omega|(simp;omega)|assumption) (by first|omega|(simp;omega)|assumption)), (by first | exact ⟨by omega, by omega, by rw [hI3.2.2]; exact left_yes _ _ _ hI3.1 (by omega) (by assumption)⟩ | exact ⟨by omega, by omega, by rw [hI3.2.2]; exact left_no _ _ _ hI3.1 (by omega) (by assumption)⟩)⟩
  · skip
    refine run_exit rfl ?_
    refine run_seq ?_
    refine run_reg (l := [0, 1]) rfl ?_
    refine p_v (v := v_out) rfl rfl rfl (x_move r3_5) ?_
    refine p_v (v := v_out) rfl rfl rfl (x_assign rfl) ?_
    refine run_region_end ?_
    refine run_ret Tryd.func19 (res1 rfl (res_tmp (v := v_out) rfl)) ?_
    have q0 : (leftN keep number l : List Int) = out := by
      rw [hI3.2.2]; exact left_end _ _ _ (by omega)
    refine ⟨_, rfl, h3, v_out, ?_, ?_⟩
    · rw [q0]; exact S3.sub [0] (by decide) rfl _ rfl
    · first | rfl | (simp only [q0]; rfl) | (simp only [q0])
theorem trimN_calls (w : World) (m : Mach) (A0_0 : Option Addr) (c0_0 : Nat) (b0_0 : m.spots.length ≤ c0_0 ∧ c0_0 ≤ maxLen) (l0_0 : Leads kSpot (hp w) A0_0 m.spots) (A0_1 : Option Addr) (c0_1 : Nat) (b0_1 : m.first.length ≤ c0_1 ∧ c0_1 ≤ maxLen) (l0_1 : Leads (Kd.int .i64) (hp w) A0_1 m.first) (A0_2 : Option Addr) (c0_2 : Nat) (b0_2 : m.follow.length ≤ c0_2 ∧ c0_2 ≤ maxLen) (l0_2 : Leads (Kd.int .i64).slice (hp w) A0_2 m.follow) (A0_3 : Option Addr) (c0_3 : Nat) (b0_3 : m.last.length ≤ c0_3 ∧ c0_3 ≤ maxLen) (l0_3 : Leads Kd.bool (hp w) A0_3 m.last) :
    Calls Tryd.prog 7 #[.agg #[.slice A0_0 m.spots.length c0_0, .slice A0_1 m.first.length c0_1, .slice A0_2 m.follow.length c0_2, .slice A0_3 m.last.length c0_3, .bool m.empty]] w fun e w' => ∃ v, e = .returned v ∧ ∃ (hn : Ghost) (r0 : Value) (r1 : Value) (r2 : Value) (r3 : Value), St w.heap.size w hn w' [row 55 kSpot r0 ((trimM m).spots), row 3 (Kd.int .i64) r1 ((trimM m).first), row 23 (Kd.int .i64).slice r2 ((trimM m).follow), row 4 Kd.bool r3 ((trimM m).last)] ∧ v = .tuple #[.agg #[r0, r1, r2, r3, .bool ((trimM m).empty)], .int .i64 (errM m)] ∧ inK .i64 (errM m) := by
  refine calls_of_run Tryd.func7 rfl Tryd.ntmps7 rfl ?_
  have S0 := St.init w
  have bb0_0 := b0_0.1; have bc0_0 := b0_0.2; simp only [maxLen] at bc0_0
  have bb0_1 := b0_1.1; have bc0_1 := b0_1.2; simp only [maxLen] at bc0_1
  have bb0_2 := b0_2.1; have bc0_2 := b0_2.2; simp only [maxLen] at bc0_2
  have bb0_3 := b0_3.1; have bc0_3 := b0_3.2; simp only [maxLen] at bc0_3
  refine run_seq ?_
  refine run_reg (l := [0, 1, 2]) rfl ?_
  obtain ⟨b1, w1, r1, g1, T1⟩ := e_box (P := Tryd.prog) S0 27 (v := .agg #[.slice A0_0 m.spots.length c0_0, .slice A0_1 m.first.length c0_1, .slice A0_2 m.follow.length c0_2, .slice A0_3 m.last.length c0_3, .bool m.empty]) [.slice A0_0 m.spots.length c0_0, .slice A0_1 m.first.length c0_1, .slice A0_2 m.follow.length c0_2, .slice A0_3 m.last.length c0_3, .bool m.empty] rfl
  have S2 : St w.heap.size w (fun _ => none) w1 [box b1 27 [.slice A0_0 m.spots.length c0_0, .slice A0_1 m.first.length c0_1, .slice A0_2 m.follow.length c0_2, .slice A0_3 m.last.length c0_3, .bool m.empty]] := T1
  refine p_v (v := .pointer (some ⟨b1, 0, none⟩)) rfl rfl rfl (x_box rfl r1) ?_
  obtain ⟨b3, w3, r3, g3, T3⟩ := e_box (P := Tryd.prog) S2 27 (v := (.agg #[.slice none 0 0, .slice none 0 0, .slice none 0 0, .slice none 0 0, .bool false])) [.slice none 0 0, .slice none 0 0, .slice none 0 0, .slice none 0 0, .bool false] rfl
  have S4 : St w.heap.size w (fun _ => none) w3 [box b1 27 [.slice A0_0 m.spots.length c0_0, .slice A0_1 m.first.length c0_1, .slice A0_2 m.follow.length c0_2, .slice A0_3 m.last.length c0_3, .bool m.empty], box b3 27 [.slice none 0 0, .slice none 0 0, .slice none 0 0, .slice none 0 0, .bool false]] := T3
  refine p_v (v := .pointer (some ⟨b3, 0, none⟩)) rfl rfl rfl (x_alloc ty27 r3) ?_
  refine p_v (v := .int .i64 0) rfl rfl rfl (x_assign rfl) ?_
  refine run_region_end ?_
  refine run_seq ?_
  refine run_seq ?_
  refine run_reg (l := [0, 1, 2]) rfl ?_
  refine p_v (v := .agg #[.slice A0_0 m.spots.length c0_0, .slice A0_1 m.first.length c0_1, .slice A0_2 m.follow.length c0_2, .slice A0_3 m.last.length c0_3, .bool m.empty]) rfl rfl rfl (x_load (seg := [.slice A0_0 m.spots.length c0_0, .slice A0_1 m.first.length c0_1, .slice A0_2 m.follow.length c0_2, .slice A0_3 m.last.length c0_3, .bool m.empty]) ty27 rfl (by simp) rfl (CF.box (m := 5) (S4.box_at (j := 0) rfl) rfl)) ?_
  refine p_c rfl rfl rfl (y_call (args := [.agg #[.slice A0_0 m.spots.length c0_0, .slice A0_1 m.first.length c0_1, .slice A0_2 m.follow.length c0_2, .slice A0_3 m.last.length c0_3, .bool m.empty]]) ca8 rfl rfl) (rightN_calls w3 m A0_0 c0_0 b0_0 (l0_0.mono (St.le0 S4)) A0_1 c0_1 b0_1 (l0_1.mono (St.le0 S4)) A0_2 c0_2 b0_2 (l0_2.mono (St.le0 S4)) A0_3 c0_3 b0_3 (l0_3.mono (St.le0 S4))) ?_
  rintro _ w5 ⟨h5, T5, rfl⟩
  have S6 := S4.keep (Chg.of_below T5.below)
  refine p_v (v := .bool (!(rightM m))) rfl rfl rfl (x_not rfl) ?_
  refine run_region_end ?_
  refine run_cond_nsplit (b := rightM m) rfl (fun hc7 => ?_) (fun hc7 => ?_)
  · skip
    refine run_seq ?_
    refine run_reg (l := [0, 1, 2]) rfl ?_
    refine p_v (v := .agg #[.slice none 0 0, .slice none 0 0, .slice none 0 0, .slice none 0 0, .bool false]) rfl rfl rfl (y_build (pv := []) rfl (run_build_struct pl27 ty27 rfl (cs := [.slice none 0 0, .slice none 0 0, .slice none 0 0, .slice none 0 0, .bool false]) rfl)) ?_
    obtain ⟨w8, r8, g8, T8⟩ := e_store (P := Tryd.prog) (off := 0) (v := .agg #[.slice none 0 0, .slice none 0 0, .slice none 0 0, .slice none 0 0, .bool false]) (vs := [.slice none 0 0, .slice none 0 0, .slice none 0 0, .slice none 0 0, .bool false]) S6 ty27 rfl rfl (j := 1) rfl (by first | decide | exact Nat.le_of_ble_eq_true rfl) (by simp [Value.oneCell'])
    have S9 : St w.heap.size w (fun _ => none) w8 [box b1 27 [.slice A0_0 m.spots.length c0_0, .slice A0_1 m.first.length c0_1, .slice A0_2 m.follow.length c0_2, .slice A0_3 m.last.length c0_3, .bool m.empty], box b3 27 [.slice none 0 0, .slice none 0 0, .slice none 0 0, .slice none 0 0, .bool false]] := T8
    refine p_s rfl rfl (x_store rfl rfl r8) ?_
    refine p_v (v := .int .i64 1) rfl rfl rfl (x_assign rfl) ?_
    refine run_region_end ?_
    have T10 := S9.row_nil 55 kSpot
    have S11 : St w.heap.size w (fun _ => none) w8 [box b1 27 [.slice A0_0 m.spots.length c0_0, .slice A0_1 m.first.length c0_1, .slice A0_2 m.follow.length c0_2, .slice A0_3 m.last.length c0_3, .bool m.empty], box b3 27 [.slice none 0 0, .slice none 0 0, .slice none 0 0, .slice none 0 0, .bool false], row 55 kSpot (.slice none 0 0) ([] : List Spot)] := T10
    have T12 := S11.row_nil 3 (Kd.int .i64)
    have S13 : St w.heap.size w (fun _ => none) w8 [box b1 27 [.slice A0_0 m.spots.length c0_0, .slice A0_1 m.first.length c0_1, .slice A0_2 m.follow.length c0_2, .slice A0_3 m.last.length c0_3, .bool m.empty], box b3 27 [.slice none 0 0, .slice none 0 0, .slice none 0 0, .slice none 0 0, .bool false], row 55 kSpot (.slice none 0 0) ([] : List Spot), row 3 (Kd.int .i64) (.slice none 0 0) ([] : List Int)] := T12
    have T14 := S13.row_nil 23 (Kd.int .i64).slice
    have S15 : St w.heap.size w (fun _ => none) w8 [box b1 27 [.slice A0_0 m.spots.length c0_0, .slice A0_1 m.first.length c0_1, .slice A0_2 m.follow.length c0_2, .slice A0_3 m.last.length c0_3, .bool m.empty], box b3 27 [.slice none 0 0, .slice none 0 0, .slice none 0 0, .slice none 0 0, .bool false], row 55 kSpot (.slice none 0 0) ([] : List Spot), row 3 (Kd.int .i64) (.slice none 0 0) ([] : List Int), row 23 (Kd.int .i64).slice (.slice none 0 0) ([] : List (List Int))] := T14
    have T16 := S15.row_nil 4 Kd.bool
    have S17 : St w.heap.size w (fun _ => none) w8 [box b1 27 [.slice A0_0 m.spots.length c0_0, .slice A0_1 m.first.length c0_1, .slice A0_2 m.follow.length c0_2, .slice A0_3 m.last.length c0_3, .bool m.empty], box b3 27 [.slice none 0 0, .slice none 0 0, .slice none 0 0, .slice none 0 0, .bool false], row 55 kSpot (.slice none 0 0) ([] : List Spot), row 3 (Kd.int .i64) (.slice none 0 0) ([] : List Int), row 23 (Kd.int .i64).slice (.slice none 0 0) ([] : List (List Int)), row 4 Kd.bool (.slice none 0 0) ([] : List Bool)] := T16
    refine run_ret Tryd.func7 (res2 rfl (res_cell S9 ty27 rfl (j := 1) rfl rfl (by simp) rfl) (res_tmp (v := .int .i64 1) rfl)) ?_
    have q0 : ((trimM m).spots : List Spot) = ([] : List Spot) := by
      first | (rw [trim_wrong (by assumption)]; done) | (rw [trim_wrong (by assumption)]) | exact err_wrong (by assumption) | exact err_right (by assumption) | (rw [trim_right (by assumption)]; done) | (rw [trim_right (by assumption)]; first | rfl | (rw [hI_.2.2.1, show t47 = (m.spots.length : Int) by omega]; done) | (rw [hI_.2.2.2.1, show t47 = (m.spots.length : Int) by omega]; done) | (rw [hI_.2.2.2.2, show t47 = (m.spots.length : Int) by omega]; done) | (rw [hnum_, lefts_eq]))
    have q1 : ((trimM m).first : List Int) = ([] : List Int) := by
      first | (rw [trim_wrong (by assumption)]; done) | (rw [trim_wrong (by assumption)]) | exact err_wrong (by assumption) | exact err_right (by assumption) | (rw [trim_right (by assumption)]; done) | (rw [trim_right (by assumption)]; first | rfl | (rw [hI_.2.2.1, show t47 = (m.spots.length : Int) by omega]; done) | (rw [hI_.2.2.2.1, show t47 = (m.spots.length : Int) by omega]; done) | (rw [hI_.2.2.2.2, show t47 = (m.spots.length : Int) by omega]; done) | (rw [hnum_, lefts_eq]))
    have q2 : ((trimM m).follow : List (List Int)) = ([] : List (List Int)) := by
      first | (rw [trim_wrong (by assumption)]; done) | (rw [trim_wrong (by assumption)]) | exact err_wrong (by assumption) | exact err_right (by assumption) | (rw [trim_right (by assumption)]; done) | (rw [trim_right (by assumption)]; first | rfl | (rw [hI_.2.2.1, show t47 = (m.spots.length : Int) by omega]; done) | (rw [hI_.2.2.2.1, show t47 = (m.spots.length : Int) by omega]; done) | (rw [hI_.2.2.2.2, show t47 = (m.spots.length : Int) by omega]; done) | (rw [hnum_, lefts_eq]))
    have q3 : ((trimM m).last : List Bool) = ([] : List Bool) := by
      first | (rw [trim_wrong (by assumption)]; done) | (rw [trim_wrong (by assumption)]) | exact err_wrong (by assumption) | exact err_right (by assumption) | (rw [trim_right (by assumption)]; done) | (rw [trim_right (by assumption)]; first | rfl | (rw [hI_.2.2.1, show t47 = (m.spots.length : Int) by omega]; done) | (rw [hI_.2.2.2.1, show t47 = (m.spots.length : Int) by omega]; done) | (rw [hI_.2.2.2.2, show t47 = (m.spots.length : Int) by omega]; done) | (rw [hnum_, lefts_eq]))
    have q4 : ((trimM m).empty : Bool) = false := by
      first | (rw [trim_wrong (by assumption)]; done) | (rw [trim_wrong (by assumption)]) | exact err_wrong (by assumption) | exact err_right (by assumption) | (rw [trim_right (by assumption)]; done) | (rw [trim_right (by assumption)]; first | rfl | (rw [hI_.2.2.1, show t47 = (m.spots.length : Int) by omega]; done) | (rw [hI_.2.2.2.1, show t47 = (m.spots.length : Int) by omega]; done) | (rw [hI_.2.2.2.2, show t47 = (m.spots.length : Int) by omega]; done) | (rw [hnum_, lefts_eq]))
    have q5 : (errM m : Int) = 1 := by
      first | (rw [trim_wrong (by assumption)]; done) | (rw [trim_wrong (by assumption)]) | exact err_wrong (by assumption) | exact err_right (by assumption) | (rw [trim_right (by assumption)]; done) | (rw [trim_right (by assumption)]; first | rfl | (rw [hI_.2.2.1, show t47 = (m.spots.length : Int) by omega]; done) | (rw [hI_.2.2.2.1, show t47 = (m.spots.length : Int) by omega]; done) | (rw [hI_.2.2.2.2, show t47 = (m.spots.length : Int) by omega]; done) | (rw [hnum_, lefts_eq]))
    refine ⟨_, rfl, (fun _ => none), (.slice none 0 0), (.slice none 0 0), (.slice none 0 0), (.slice none 0 0), ?_, ?_, ?_⟩
    · rw [q0]; rw [q1]; rw [q2]; rw [q3]; exact S17.sub [2, 3, 4, 5] (by decide) rfl _ rfl
    · first | rfl | (simp only [q0, q1, q2, q3, q4, q5]; rfl) | (simp only [q0, q1, q2, q3, q4, q5])
    · rw [q5]; exact (in_i64 (by first|omega|(simp;omega)|assumption) (by first|omega|(simp;omega)|assumption))
  · skip
    have hR_ := right_iff.1 hc7
    have hsm_ := hR_.small; have hfo_ := hR_.follow; have hla_ := hR_.last; have hkl_ := keepM_len m; have hss_ := hR_.small'; have hfi_ := hss_.first
    refine run_skip ?_
    refine run_seq ?_
    refine run_reg (l := [0, 1, 2, 3]) rfl ?_
    refine p_v (v := .agg #[.slice A0_0 m.spots.length c0_0, .slice A0_1 m.first.length c0_1, .slice A0_2 m.follow.length c0_2, .slice A0_3 m.last.length c0_3, .bool m.empty]) rfl rfl rfl (x_load (seg := [.slice A0_0 m.spots.length c0_0, .slice A0_1 m.first.length c0_1, .slice A0_2 m.follow.length c0_2, .slice A0_3 m.last.length c0_3, .bool m.empty]) ty27 rfl (by simp) rfl (CF.box (m := 5) (S6.box_at (j := 0) rfl) rfl)) ?_
    refine p_c rfl rfl rfl (y_call (args := [.agg #[.slice A0_0 m.spots.length c0_0, .slice A0_1 m.first.length c0_1, .slice A0_2 m.follow.length c0_2, .slice A0_3 m.last.length c0_3, .bool m.empty]]) ca18 rfl rfl) (useful_calls w5 m A0_0 c0_0 b0_0 (l0_0.mono (St.le0 S6)) A0_1 c0_1 b0_1 (l0_1.mono (St.le0 S6)) A0_2 c0_2 b0_2 (l0_2.mono (St.le0 S6)) A0_3 c0_3 b0_3 (l0_3.mono (St.le0 S6)) (by assumption)) ?_
    rintro v18_0 w18 ⟨h18, _, T18, rfl⟩
    obtain ⟨k18, lk18, ll18, U18⟩ := call_joins S6 T18
    have S19 : St w.heap.size w k18 w18 [box b1 27 [.slice A0_0 m.spots.length c0_0, .slice A0_1 m.first.length c0_1, .slice A0_2 m.follow.length c0_2, .slice A0_3 m.last.length c0_3, .bool m.empty], box b3 27 [.slice none 0 0, .slice none 0 0, .slice none 0 0, .slice none 0 0, .bool false], row 4 Kd.bool v18_0 (keepM m)] := U18
    obtain ⟨b20, w20, r20, g20, T20⟩ := e_box (P := Tryd.prog) S19 25 (v := (.slice none 0 0)) [.slice none 0 0] rfl
    have S21 : St w.heap.size w k18 w20 [box b1 27 [.slice A0_0 m.spots.length c0_0, .slice A0_1 m.first.length c0_1, .slice A0_2 m.follow.length c0_2, .slice A0_3 m.last.length c0_3, .bool m.empty], box b3 27 [.slice none 0 0, .slice none 0 0, .slice none 0 0, .slice none 0 0, .bool false], row 4 Kd.bool v18_0 (keepM m), box b20 25 [.slice none 0 0]] := T20
    refine p_v (v := .pointer (some ⟨b20, 0, none⟩)) rfl rfl rfl (x_alloc ty25 r20) ?_
    have oc23 := row_one S21 (j := 2) rfl
    obtain ⟨w22, r22, g22, T22⟩ := e_store (P := Tryd.prog) (off := 0) (v := v18_0) (vs := [v18_0]) S21 ty25 (row_cells S21 (j := 2) rfl) rfl (j := 3) rfl (by first | decide | exact Nat.le_of_ble_eq_true rfl) (one_cons oc23 one_nil)
    have S24 : St w.heap.size w k18 w22 [box b1 27 [.slice A0_0 m.spots.length c0_0, .slice A0_1 m.first.length c0_1, .slice A0_2 m.follow.length c0_2, .slice A0_3 m.last.length c0_3, .bool m.empty], box b3 27 [.slice none 0 0, .slice none 0 0, .slice none 0 0, .slice none 0 0, .bool false], row 4 Kd.bool v18_0 (keepM m), box b20 25 [v18_0]] := T22
    refine p_s rfl rfl (x_store rfl rfl r22) ?_
    refine run_region_end ?_
    refine run_seq ?_
    refine run_reg (l := [0, 1, 2, 3, 4]) rfl ?_
    refine p_v (v := v18_0) rfl rfl rfl (x_load (seg := [v18_0]) ty25 rfl (by simp) rfl (CF.box (m := 1) (S24.box_at (j := 3) rfl) rfl)) ?_
    have lb25 := S24.row_le (j := 2) rfl; simp only [maxLen] at lb25
    refine p_v (v := .int .i64 ((keepM m).length : Int)) rfl rfl rfl (x_len_own u25 rfl (e_len_own S24 (j := 2) rfl)) ?_
    obtain ⟨v26, w26, r26, g26, T26⟩ := e_make (kk := .i64) (kk' := .i64) (kd := (Kd.int .i64)) (q := ((keepM m).length : Int)) (z := (0 : Int)) (zc := [.int .i64 0]) S24 u23 ty3 rfl rfl ⟨rfl, by constructor <;> decide⟩ (by first|omega|(simp;omega)|assumption) (by first|omega|(simp;omega)|assumption) (by first|omega|(simp;omega)|assumption)
    have S27 : St w.heap.size w k18 w26 [box b1 27 [.slice A0_0 m.spots.length c0_0, .slice A0_1 m.first.length c0_1, .slice A0_2 m.follow.length c0_2, .slice A0_3 m.last.length c0_3, .bool m.empty], box b3 27 [.slice none 0 0, .slice none 0 0, .slice none 0 0, .slice none 0 0, .bool false], row 4 Kd.bool v18_0 (keepM m), box b20 25 [v18_0], row 3 (Kd.int .i64) v26 (List.replicate (((keepM m).length : Int)).toNat (0 : Int))] := T26
    refine p_v (v := v26) rfl rfl rfl (x_make rfl rfl r26) ?_
    obtain ⟨b28, w28, r28, g28, T28⟩ := e_box (P := Tryd.prog) S27 23 (v := (.slice none 0 0)) [.slice none 0 0] rfl
    have S29 : St w.heap.size w k18 w28 [box b1 27 [.slice A0_0 m.spots.length c0_0, .slice A0_1 m.first.length c0_1, .slice A0_2 m.follow.length c0_2, .slice A0_3 m.last.length c0_3, .bool m.empty], box b3 27 [.slice none 0 0, .slice none 0 0, .slice none 0 0, .slice none 0 0, .bool false], row 4 Kd.bool v18_0 (keepM m), box b20 25 [v18_0], row 3 (Kd.int .i64) v26 (List.replicate (((keepM m).length : Int)).toNat (0 : Int)), box b28 23 [.slice none 0 0]] := T28
    refine p_v (v := .pointer (some ⟨b28, 0, none⟩)) rfl rfl rfl (x_alloc ty23 r28) ?_
    have oc31 := row_one S29 (j := 4) rfl
    obtain ⟨w30, r30, g30, T30⟩ := e_store (P := Tryd.prog) (off := 0) (v := v26) (vs := [v26]) S29 ty23 (row_cells S29 (j := 4) rfl) rfl (j := 5) rfl (by first | decide | exact Nat.le_of_ble_eq_true rfl) (one_cons oc31 one_nil)
    have S32 : St w.heap.size w k18 w30 [box b1 27 [.slice A0_0 m.spots.length c0_0, .slice A0_1 m.first.length c0_1, .slice A0_2 m.follow.length c0_2, .slice A0_3 m.last.length c0_3, .bool m.empty], box b3 27 [.slice none 0 0, .slice none 0 0, .slice none 0 0, .slice none 0 0, .bool false], row 4 Kd.bool v18_0 (keepM m), box b20 25 [v18_0], row 3 (Kd.int .i64) v26 (List.replicate (((keepM m).length : Int)).toNat (0 : Int)), box b28 23 [v26]] := T30
    refine p_s rfl rfl (x_store rfl rfl r30) ?_
    refine run_region_end ?_
    refine run_seq ?_
    refine run_reg (l := [0]) rfl ?_
    refine p_v (v := .int .i64 0) rfl rfl rfl (x_assign rfl) ?_
    refine run_region_end ?_
    refine run_seq ?_
    refine run_seq ?_
    refine run_reg (l := [0, 1, 2]) rfl ?_
    refine p_v (v := v18_0) rfl rfl rfl (x_load (seg := [v18_0]) ty25 rfl (by simp) rfl (CF.box (m := 1) (S32.box_at (j := 3) rfl) rfl)) ?_
    have lb33 := S32.row_le (j := 2) rfl; simp only [maxLen] at lb33
    refine p_v (v := .int .i64 ((keepM m).length : Int)) rfl rfl rfl (x_len_own u25 rfl (e_len_own S32 (j := 2) rfl)) ?_
    refine p_v (v := .int .i64 0) rfl rfl rfl (x_move rfl) ?_
    refine run_region_end ?_
    refine run_block ?_
    refine run_loop (S := (List Int) × Int × Int) (fun (q_ : (List Int) × Int × Int) ρ w' => match q_ with | (number, n, t24) => ∃ (h : Ghost) (v_number : Value), Le k18 h ∧ St w.heap.size w h w' [box b1 27 [.slice A0_0 m.spots.length c0_0, .slice A0_1 m.first.length c0_1, .slice A0_2 m.follow.length c0_2, .slice A0_3 m.last.length c0_3, .bool m.empty], box b3 27 [.slice none 0 0, .slice none 0 0, .slice none 0 0, .slice none 0 0, .bool false], row 4 Kd.bool v18_0 (keepM m), box b20 25 [v18_0], row 3 (Kd.int .i64) v_number number, box b28 23 [v_number]] ∧ ρ 1 = .pointer (some ⟨b1, 0, none⟩) ∧ ρ 2 = .pointer (some ⟨b3, 0, none⟩) ∧ ρ 4 = .pointer (some ⟨b20, 0, none⟩) ∧ ρ 5 = .pointer (some ⟨b28, 0, none⟩) ∧ ρ 6 = .int .i64 n ∧ ρ 22 = v18_0 ∧ ρ 23 = .int .i64 ((keepM m).length : Int) ∧ ρ 24 = .int .i64 t24 ∧ inK .i64 n ∧ inK .i64 t24 ∧ (0 ≤ t24 ∧ t24 ≤ (m.spots.length : Int) ∧ n = numAt (keepM m) t24 ∧ number = numsIn (keepM m) m.spots.length t24)) (fun q_ => match q_ with | (number, n, t24) => (m.spots.length - t24).toNat) (List.replicate (((keepM m).length : Int)).toNat (0 : Int), 0, 0) ⟨k18, v26, Le.refl _, S32.sub [0, 1, 2, 3, 4, 5] (by decide) rfl _ rfl, rfl, rfl, rfl, rfl, rfl, rfl, rfl, rfl, (in_i64 (by first|omega|(simp;omega)|assumption) (by first|omega|(simp;omega)|assumption)), (in_i64 (by first|omega|(simp;omega)|assumption) (by first|omega|(simp;omega)|assumption)), (by exact ⟨by omega, by omega, (num_at0 _).symm, by rw [hkl_]; exact numsIn_0 _ _⟩)⟩ ?_
    rintro ⟨number, n, t24⟩ ih34 ρ34 w34 ⟨h34, v_number, le34, S34, r34_1, r34_2, r34_4, r34_5, r34_6, r34_22, r34_23, r34_24, f34_0, f34_1, hI34⟩
    have lf34_0 := i64_lo f34_0; have hf34_0 := i64_hi f34_0
    have lf34_1 := i64_lo f34_1; have hf34_1 := i64_hi f34_1
    have rl34_2 := S34.row_le (j := 2) rfl; simp only [maxLen] at rl34_2
    have rl34_4 := S34.row_le (j := 4) rfl; simp only [maxLen] at rl34_4
    have hn_ := num_at_le (keepM m) hI34.1; rw [← hI34.2.2.1] at hn_
    have hnl_ : (number.length : Int) = m.spots.length := by rw [hI34.2.2.2, numsIn_len]
    refine run_seq ?_
    refine run_reg (l := [0]) rfl ?_
    refine p_v (v := .bool (decide (t24 < ((keepM m).length : Int)))) rfl rfl rfl (x_lss r34_24 r34_23) ?_
    refine run_region_end ?_
    refine run_seq ?_
    refine run_cond_prop (p := t24 < ((keepM m).length : Int)) rfl (fun hc35 => ?_) (fun hc35 => ?_)
    · skip
      refine run_skip ?_
      refine run_seq ?_
      refine run_block ?_
      refine run_seq ?_
      refine run_reg (l := [0, 1, 2, 3, 4]) rfl ?_
      refine p_v (v := .int .i64 t24) rfl rfl rfl (x_move r34_24) ?_
      obtain ⟨ad36, a36, at36⟩ := e_index_own (q := t24) (m := 1) S34 (j := 2) rfl rfl (by first|omega|(simp;omega)|assumption) (by first|omega|(simp;omega)|assumption)
      refine p_v (v := .pointer (some ad36)) rfl rfl rfl (x_index_own u25 ty4 r34_22 r34_24 a36 (by first|omega|(simp;omega)|assumption) (by first|omega|(simp;omega)|assumption)) ?_
      obtain ⟨seg37, rp37, cf37⟩ := e_load_own (q := t24) S34 (j := 2) rfl rfl at36 (by first|omega|(simp;omega)|assumption) (by first|omega|(simp;omega)|assumption)
      obtain ⟨rfl, _⟩ := rp37
      refine p_v (v := .bool (at_ (keepM m) t24)) rfl rfl rfl (x_load (seg := [.bool (at_ (keepM m) t24)]) ty4 rfl (by simp) rfl cf37) ?_
      refine p_v (v := .int .i64 t24) rfl rfl rfl (x_assign rfl) ?_
      refine p_v (v := .bool (at_ (keepM m) t24)) rfl rfl rfl (x_assign rfl) ?_
      refine run_region_end ?_
      refine run_seq ?_
      refine run_reg (l := [0, 1, 2, 3, 4]) rfl ?_
      refine p_v (v := v_number) rfl rfl rfl (x_load (seg := [v_number]) ty23 rfl (by simp) r34_5 (CF.box (m := 1) (S34.box_at (j := 5) rfl) rfl)) ?_
      refine p_v (v := .int .i64 t24) rfl rfl rfl (x_move rfl) ?_
      refine p_v (v := .int .i64 n) rfl rfl rfl (x_move r34_6) ?_
      obtain ⟨ad38, a38, at38⟩ := e_index_own (q := t24) (m := 1) S34 (j := 4) rfl rfl (by first|omega|(simp;omega)|assumption) (by first|omega|(simp;omega)|assumption)
      refine p_v (v := .pointer (some ad38)) rfl rfl rfl (x_index_own u23 ty3 rfl rfl a38 (by first|omega|(simp;omega)|assumption) (by first|omega|(simp;omega)|assumption)) ?_
      obtain ⟨w39, r39, g39, T39⟩ := e_store_own (u := .int .i64 n) (q := t24) n (vs := [.int .i64 n]) S34 ty3 rfl (j := 4) rfl rfl ⟨rfl, f34_0⟩ at38 (by first|omega|(simp;omega)|assumption) (by first|omega|(simp;omega)|assumption)
      have S40 : St w.heap.size w h34 w39 [box b1 27 [.slice A0_0 m.spots.length c0_0, .slice A0_1 m.first.length c0_1, .slice A0_2 m.follow.length c0_2, .slice A0_3 m.last.length c0_3, .bool m.empty], box b3 27 [.slice none 0 0, .slice none 0 0, .slice none 0 0, .slice none 0 0, .bool false], row 4 Kd.bool v18_0 (keepM m), box b20 25 [v18_0], row 3 (Kd.int .i64) v_number (number.set (t24).toNat n), box b28 23 [v_number]] := T39
      refine p_s rfl rfl (x_store rfl rfl r39) ?_
      refine run_region_end ?_
      refine run_seq ?_
      refine run_reg (l := [0]) rfl ?_
      refine p_v (v := .bool (at_ (keepM m) t24)) rfl rfl rfl (x_move rfl) ?_
      refine run_region_end ?_
      refine run_cond_split (b := at_ (keepM m) t24) rfl (fun hc41 => ?_) (fun hc41 => ?_)
      · skip
        refine run_reg (l := [0, 1, 2]) rfl ?_
        refine p_v (v := .int .i64 n) rfl rfl rfl (x_move r34_6) ?_
        refine p_v (v := .int .i64 (n + 1)) rfl rfl rfl (x_add rfl rfl (in_i64 (by first|omega|(simp;omega)|assumption) (by first|omega|(simp;omega)|assumption))) ?_
        refine p_v (v := .int .i64 (n + 1)) rfl rfl rfl (x_assign rfl) ?_
        refine run_region_end ?_
        refine run_inBlock ?_
        refine run_reg (l := [0, 1]) rfl ?_
        refine p_v (v := .int .i64 (t24 + 1)) rfl rfl rfl (x_add r34_24 rfl (in_i64 (by first|omega|(simp;omega)|assumption) (by first|omega|(simp;omega)|assumption))) ?_
        refine p_v (v := .int .i64 (t24 + 1)) rfl rfl rfl (x_move rfl) ?_
        refine run_region_end ?_
        refine ih34 (number.set (t24).toNat n, n + 1, t24 + 1) _ _ (by dsimp only; omega) ⟨h34, v_number, le34, S40.sub [0, 1, 2, 3, 4, 5] (by decide) rfl _ rfl, r34_1, r34_2, r34_4, r34_5, rfl, r34_22, r34_23, rfl, (in_i64 (by first|omega|(simp;omega)|assumption) (by first|omega|(simp;omega)|assumption)), (in_i64 (by first|omega|(simp;omega)|assumption) (by first|omega|(simp;omega)|assumption)), (by first | exact ⟨by omega, by omega, by rw [hI34.2.2.1, num_at1 _ hI34.1 (by assumption)], by rw [hI34.2.2.1, hI34.2.2.2]; exact numsIn_step _ _ hI34.1 (by omega)⟩ | exact ⟨by omega, by omega, by rw [hI34.2.2.1, num_at2 _ hI34.1 (by assumption)], by rw [hI34.2.2.1, hI34.2.2.2]; exact numsIn_step _ _ hI34.1 (by omega)⟩)⟩
      · skip
        refine run_skip ?_
        refine run_inBlock ?_
        refine run_reg (l := [0, 1]) rfl ?_
        refine p_v (v := .int .i64 (t24 + 1)) rfl rfl rfl (x_add r34_24 rfl (in_i64 (by first|omega|(simp;omega)|assumption) (by first|omega|(simp;omega)|assumption))) ?_
        refine p_v (v := .int .i64 (t24 + 1)) rfl rfl rfl (x_move rfl) ?_
        refine run_region_end ?_
        refine ih34 (number.set (t24).toNat n, n, t24 + 1) _ _ (by dsimp only; omega) ⟨h34, v_number, le34, S40.sub [0, 1, 2, 3, 4, 5] (by decide) rfl _ rfl, r34_1, r34_2, r34_4, r34_5, r34_6, r34_22, r34_23, rfl, f34_0, (in_i64 (by first|omega|(simp;omega)|assumption) (by first|omega|(simp;omega)|assumption)), (by first | exact ⟨by omega, by omega, by rw [hI34.2.2.1, num_at1 _ hI34.1 (by assumption)], by rw [hI34.2.2.1, hI34.2.2.2]; exact numsIn_step _ _ hI34.1 (by omega)⟩ | exact ⟨by omega, by omega, by rw [hI34.2.2.1, num_at2 _ hI34.1 (by assumption)], by rw [hI34.2.2.1, hI34.2.2.2]; exact numsIn_step _ _ hI34.1 (by omega)⟩)⟩
    · skip
      have hnl2_ : (number.length : Int) = m.spots.length := hnl_
      have leftPre_ : ∀ l : List Int, ((l.length : Int) ≤ 250 ∧ ∀ x ∈ l, 0 ≤ x ∧ x < (m.spots.length : Int)) → ((l.length : Int) ≤ 250 ∧ ∀ x ∈ l, 0 ≤ x ∧ x < ((keepM m).length : Int) ∧ x < (number.length : Int)) := fun l h => ⟨h.1, fun x hx => by have := h.2 x hx; omega⟩
      have hnum_ : number = numsL (keepM m) m.spots.length := by rw [hI34.2.2.2]; exact numsIn_end _ (by omega)
      refine run_exit rfl ?_
      refine run_seq ?_
      refine run_reg (l := [0, 1]) rfl ?_
      obtain ⟨h42, le42, T42, rp42⟩ := S34.freeze (i := 2) rfl
      have lf42_0 := (((lk18).trans le34)).trans le42
      have lf42_1 := (le34).trans le42
      have S43 : St w.heap.size w h42 w34 [box b1 27 [.slice A0_0 m.spots.length c0_0, .slice A0_1 m.first.length c0_1, .slice A0_2 m.follow.length c0_2, .slice A0_3 m.last.length c0_3, .bool m.empty], box b3 27 [.slice none 0 0, .slice none 0 0, .slice none 0 0, .slice none 0 0, .bool false], emp, box b20 25 [v18_0], row 3 (Kd.int .i64) v_number number, box b28 23 [v_number]] := T42
      obtain ⟨A42, c42, e42, lc42, cm42, ld42⟩ := rp42
      injection e42 with e42 _; subst e42
      have cn42 := cm42; simp only [maxLen] at cn42
      obtain ⟨h44, le44, T44, rp44⟩ := S43.freeze (i := 4) rfl
      have lf44_0 := (lf42_0).trans le44
      have lf44_1 := (lf42_1).trans le44
      have lf44_2 := (le42).trans le44
      have S45 : St w.heap.size w h44 w34 [box b1 27 [.slice A0_0 m.spots.length c0_0, .slice A0_1 m.first.length c0_1, .slice A0_2 m.follow.length c0_2, .slice A0_3 m.last.length c0_3, .bool m.empty], box b3 27 [.slice none 0 0, .slice none 0 0, .slice none 0 0, .slice none 0 0, .bool false], emp, box b20 25 [.slice A42 (keepM m).length c42], emp, box b28 23 [v_number]] := T44
      obtain ⟨A44, c44, e44, lc44, cm44, ld44⟩ := rp44
      injection e44 with e44 _; subst e44
      have cn44 := cm44; simp only [maxLen] at cn44
      refine p_v (v := .func (.func 19) #[] #[.pointer (some ⟨b20, 0, none⟩), .pointer (some ⟨b28, 0, none⟩)]) rfl rfl rfl (y_makeFunc (fv := []) (cv := [.pointer (some ⟨b20, 0, none⟩), .pointer (some ⟨b28, 0, none⟩)]) rfl (cons_eq r34_4 (cons_eq r34_5 rfl))) ?_
      refine p_v (v := .func (.func 19) #[] #[.pointer (some ⟨b20, 0, none⟩), .pointer (some ⟨b28, 0, none⟩)]) rfl rfl rfl (x_assign rfl) ?_
      refine run_region_end ?_
      refine run_seq ?_
      have hf46 : (CFs ⟨b1, 1, none⟩ [.slice A0_1 m.first.length c0_1]).1 w34 := (CF.box (m := 1) (S45.box_at (j := 0) rfl) rfl)
      have hf47 : (CFs ⟨b1, 4, none⟩ [.bool m.empty]).1 w34 := (CF.box (m := 1) (S45.box_at (j := 0) rfl) rfl)
      refine da_start [(2, CFs ⟨b1, 1, none⟩ [.slice A0_1 m.first.length c0_1]), (5, CFs ⟨b1, 4, none⟩ [.bool m.empty])] 9 rfl mixed ?_
      intro wd48 gd48 hd48
      have S49 := S45.keep gd48
      have hf50 := (CFs ⟨b1, 1, none⟩ [.slice A0_1 m.first.length c0_1]).2 _ _ gd48 hf46
      have hf51 := (CFs ⟨b1, 4, none⟩ [.bool m.empty]).2 _ _ gd48 hf47
      refine d_q (i := 0) (v := .func (.func 19) #[] #[.pointer (some ⟨b20, 0, none⟩), .pointer (some ⟨b28, 0, none⟩)]) (fun _ => True) (fun _ ho => trivial) rfl (by decide +kernel) (by decide +kernel) (by decide +kernel) rfl rfl (fun wq hq => (x_move rfl)) (of_ne rfl (of_ne rfl (of_nil _ _))) ?_
      refine d_q (i := 1) (v := .pointer (some ⟨b1, 1, none⟩)) (fun _ => True) (fun _ ho => trivial) rfl (by decide +kernel) (by decide +kernel) (by decide +kernel) rfl rfl (fun wq hq => (x_fieldAt fd27_1 ty23 rfl r34_1)) (of_ne rfl (of_ne rfl (of_nil _ _))) ?_
      refine d_q (i := 2) (v := .slice A0_1 m.first.length c0_1) (CF ⟨b1, 1, none⟩ [.slice A0_1 m.first.length c0_1]) (fun _ ho => ho _ (List.mem_of_getElem? (i := 0) rfl) rfl) rfl (by decide +kernel) (by decide +kernel) (by decide +kernel) rfl rfl (fun wq hq => (x_load (seg := [.slice A0_1 m.first.length c0_1]) ty23 rfl (by simp) rfl hq)) (of_eq hf50 (of_ne rfl (of_nil _ _))) ?_
      refine d_q (i := 4) (v := .pointer (some ⟨b1, 4, none⟩)) (fun _ => True) (fun _ ho => trivial) rfl (by decide +kernel) (by decide +kernel) (by decide +kernel) rfl rfl (fun wq hq => (x_fieldAt fd27_4 ty4 rfl r34_1)) (of_ne rfl (of_ne rfl (of_nil _ _))) ?_
      refine d_q (i := 5) (v := .bool m.empty) (CF ⟨b1, 4, none⟩ [.bool m.empty]) (fun _ ho => ho _ (List.mem_of_getElem? (i := 1) rfl) rfl) rfl (by decide +kernel) (by decide +kernel) (by decide +kernel) rfl rfl (fun wq hq => (x_load (seg := [.bool m.empty]) ty4 rfl (by simp) rfl hq)) (of_ne rfl (of_eq hf51 (of_nil _ _))) ?_
      refine ra_join (fun ρ w' => ∃ (h : Ghost) (j79_b64 : Nat) (j79_v56_0 : Value), Le h44 h ∧ St w.heap.size w h w' [box b1 27 [.slice A0_0 m.spots.length c0_0, .slice A0_1 m.first.length c0_1, .slice A0_2 m.follow.length c0_2, .slice A0_3 m.last.length c0_3, .bool m.empty], box b3 27 [.slice none 0 0, .slice none 0 0, .slice none 0 0, .slice none 0 0, .bool false], box b20 25 [.slice A42 (keepM m).length c42], box b28 23 [.slice A44 number.length c44], row 3 (Kd.int .i64) j79_v56_0 (leftN (keepM m) number m.first), box j79_b64 27 [.slice none 0 0, j79_v56_0, .slice none 0 0, .slice none 0 0, .bool m.empty]] ∧ ρ 1 = .pointer (some ⟨b1, 0, none⟩) ∧ ρ 2 = .pointer (some ⟨b3, 0, none⟩) ∧ ρ 4 = .pointer (some ⟨b20, 0, none⟩) ∧ ρ 9 = .func (.func 19) #[] #[.pointer (some ⟨b20, 0, none⟩), .pointer (some ⟨b28, 0, none⟩)] ∧ ρ 10 = .pointer (some ⟨j79_b64, 0, none⟩)) ?_ (fun jn79 => ?_)
      · skip
        rintro ρj79 wj79 ⟨hj79, j79_b64, j79_v56_0, lej79, Sj79, rj79_1, rj79_2, rj79_4, rj79_9, rj79_10⟩
        have jr79_4 := Sj79.row_le (j := 4) rfl; simp only [maxLen] at jr79_4
        refine run_seq ?_
        refine run_seq ?_
        refine run_reg (l := [0, 1, 2]) rfl ?_
        refine p_v (v := .slice A42 (keepM m).length c42) rfl rfl rfl (x_load (seg := [.slice A42 (keepM m).length c42]) ty25 rfl (by simp) rj79_4 (CF.box (m := 1) (Sj79.box_at (j := 2) rfl) rfl)) ?_
        refine p_v (v := .int .i64 ((keepM m).length : Int)) rfl rfl rfl (x_len_slice u25 rfl) ?_
        refine p_v (v := .int .i64 0) rfl rfl rfl (x_move rfl) ?_
        refine run_region_end ?_
        refine run_block ?_
        have T80 := Sj79.row_nil 55 kSpot
        obtain ⟨vn80, ev80, T80⟩ : ∃ v, v = (.slice none 0 0 : Value) ∧ St w.heap.size w hj79 wj79 [box b1 27 [.slice A0_0 m.spots.length c0_0, .slice A0_1 m.first.length c0_1, .slice A0_2 m.follow.length c0_2, .slice A0_3 m.last.length c0_3, .bool m.empty], box b3 27 [.slice none 0 0, .slice none 0 0, .slice none 0 0, .slice none 0 0, .bool false], box b20 25 [.slice A42 (keepM m).length c42], box b28 23 [.slice A44 number.length c44], row 3 (Kd.int .i64) j79_v56_0 (leftN (keepM m) number m.first), box j79_b64 27 [v, j79_v56_0, .slice none 0 0, .slice none 0 0, .bool m.empty], row 55 kSpot v ([] : List Spot)] := ⟨_, rfl, T80⟩
        have S81 : St w.heap.size w hj79 wj79 [box b1 27 [.slice A0_0 m.spots.length c0_0, .slice A0_1 m.first.length c0_1, .slice A0_2 m.follow.length c0_2, .slice A0_3 m.last.length c0_3, .bool m.empty], box b3 27 [.slice none 0 0, .slice none 0 0, .slice none 0 0, .slice none 0 0, .bool false], box b20 25 [.slice A42 (keepM m).length c42], box b28 23 [.slice A44 number.length c44], row 3 (Kd.int .i64) j79_v56_0 (leftN (keepM m) number m.first), box j79_b64 27 [vn80, j79_v56_0, .slice none 0 0, .slice none 0 0, .bool m.empty], row 55 kSpot vn80 ([] : List Spot)] := T80
        have T82 := S81.row_nil 23 (Kd.int .i64).slice
        obtain ⟨vn82, ev82, T82⟩ : ∃ v, v = (.slice none 0 0 : Value) ∧ St w.heap.size w hj79 wj79 [box b1 27 [.slice A0_0 m.spots.length c0_0, .slice A0_1 m.first.length c0_1, .slice A0_2 m.follow.length c0_2, .slice A0_3 m.last.length c0_3, .bool m.empty], box b3 27 [.slice none 0 0, .slice none 0 0, .slice none 0 0, .slice none 0 0, .bool false], box b20 25 [.slice A42 (keepM m).length c42], box b28 23 [.slice A44 number.length c44], row 3 (Kd.int .i64) j79_v56_0 (leftN (keepM m) number m.first), box j79_b64 27 [vn80, j79_v56_0, v, .slice none 0 0, .bool m.empty], row 55 kSpot vn80 ([] : List Spot), row 23 (Kd.int .i64).slice v ([] : List (List Int))] := ⟨_, rfl, T82⟩
        have S83 : St w.heap.size w hj79 wj79 [box b1 27 [.slice A0_0 m.spots.length c0_0, .slice A0_1 m.first.length c0_1, .slice A0_2 m.follow.length c0_2, .slice A0_3 m.last.length c0_3, .bool m.empty], box b3 27 [.slice none 0 0, .slice none 0 0, .slice none 0 0, .slice none 0 0, .bool false], box b20 25 [.slice A42 (keepM m).length c42], box b28 23 [.slice A44 number.length c44], row 3 (Kd.int .i64) j79_v56_0 (leftN (keepM m) number m.first), box j79_b64 27 [vn80, j79_v56_0, vn82, .slice none 0 0, .bool m.empty], row 55 kSpot vn80 ([] : List Spot), row 23 (Kd.int .i64).slice vn82 ([] : List (List Int))] := T82
        have T84 := S83.row_nil 4 Kd.bool
        obtain ⟨vn84, ev84, T84⟩ : ∃ v, v = (.slice none 0 0 : Value) ∧ St w.heap.size w hj79 wj79 [box b1 27 [.slice A0_0 m.spots.length c0_0, .slice A0_1 m.first.length c0_1, .slice A0_2 m.follow.length c0_2, .slice A0_3 m.last.length c0_3, .bool m.empty], box b3 27 [.slice none 0 0, .slice none 0 0, .slice none 0 0, .slice none 0 0, .bool false], box b20 25 [.slice A42 (keepM m).length c42], box b28 23 [.slice A44 number.length c44], row 3 (Kd.int .i64) j79_v56_0 (leftN (keepM m) number m.first), box j79_b64 27 [vn80, j79_v56_0, vn82, v, .bool m.empty], row 55 kSpot vn80 ([] : List Spot), row 23 (Kd.int .i64).slice vn82 ([] : List (List Int)), row 4 Kd.bool v ([] : List Bool)] := ⟨_, rfl, T84⟩
        have S85 : St w.heap.size w hj79 wj79 [box b1 27 [.slice A0_0 m.spots.length c0_0, .slice A0_1 m.first.length c0_1, .slice A0_2 m.follow.length c0_2, .slice A0_3 m.last.length c0_3, .bool m.empty], box b3 27 [.slice none 0 0, .slice none 0 0, .slice none 0 0, .slice none 0 0, .bool false], box b20 25 [.slice A42 (keepM m).length c42], box b28 23 [.slice A44 number.length c44], row 3 (Kd.int .i64) j79_v56_0 (leftN (keepM m) number m.first), box j79_b64 27 [vn80, j79_v56_0, vn82, vn84, .bool m.empty], row 55 kSpot vn80 ([] : List Spot), row 23 (Kd.int .i64).slice vn82 ([] : List (List Int)), row 4 Kd.bool vn84 ([] : List Bool)] := T84
        refine run_loop (S := (List Spot) × (List (List Int)) × (List Bool) × Int) (fun (q_ : (List Spot) × (List (List Int)) × (List Bool) × Int) ρ w' => match q_ with | (t_0, t_2, t_3, t47) => ∃ (h : Ghost) (v_t_0 : Value) (v_t_2 : Value) (v_t_3 : Value), Le hj79 h ∧ St w.heap.size w h w' [box b1 27 [.slice A0_0 m.spots.length c0_0, .slice A0_1 m.first.length c0_1, .slice A0_2 m.follow.length c0_2, .slice A0_3 m.last.length c0_3, .bool m.empty], box b3 27 [.slice none 0 0, .slice none 0 0, .slice none 0 0, .slice none 0 0, .bool false], box b20 25 [.slice A42 (keepM m).length c42], box b28 23 [.slice A44 number.length c44], row 3 (Kd.int .i64) j79_v56_0 (leftN (keepM m) number m.first), box j79_b64 27 [v_t_0, j79_v56_0, v_t_2, v_t_3, .bool m.empty], row 55 kSpot v_t_0 t_0, row 23 (Kd.int .i64).slice v_t_2 t_2, row 4 Kd.bool v_t_3 t_3] ∧ ρ 1 = .pointer (some ⟨b1, 0, none⟩) ∧ ρ 2 = .pointer (some ⟨b3, 0, none⟩) ∧ ρ 9 = .func (.func 19) #[] #[.pointer (some ⟨b20, 0, none⟩), .pointer (some ⟨b28, 0, none⟩)] ∧ ρ 10 = .pointer (some ⟨j79_b64, 0, none⟩) ∧ ρ 45 = .slice A42 (keepM m).length c42 ∧ ρ 46 = .int .i64 ((keepM m).length : Int) ∧ ρ 47 = .int .i64 t47 ∧ inK .i64 t47 ∧ (0 ≤ t47 ∧ t47 ≤ (m.spots.length : Int) ∧ t_0 = spotsTo m t47 ∧ t_2 = followTo m t47 ∧ t_3 = lastTp m t47)) (fun q_ => match q_ with | (t_0, t_2, t_3, t47) => (m.spots.length - t47).toNat) (([] : List Spot), ([] : List (List Int)), ([] : List Bool), 0) ⟨hj79, vn80, vn82, vn84, Le.refl _, S85.sub [0, 1, 2, 3, 4, 5, 6, 7, 8] (by decide) rfl _ rfl, rj79_1, rj79_2, rj79_9, rj79_10, rfl, rfl, rfl, (in_i64 (by first|omega|(simp;omega)|assumption) (by first|omega|(simp;omega)|assumption)), (by exact ⟨by omega, by omega, spotsTo_0 m, followTo_0 m, lastTo_0 m⟩)⟩ ?_
        rintro ⟨t_0, t_2, t_3, t47⟩ ih86 ρ86 w86 ⟨h86, v_t_0, v_t_2, v_t_3, le86, S86, r86_1, r86_2, r86_9, r86_10, r86_45, r86_46, r86_47, f86_0, hI86⟩
        have lf86_0 := i64_lo f86_0; have hf86_0 := i64_hi f86_0
        have rl86_4 := S86.row_le (j := 4) rfl; simp only [maxLen] at rl86_4
        have rl86_6 := S86.row_le (j := 6) rfl; simp only [maxLen] at rl86_6
        have rl86_7 := S86.row_le (j := 7) rfl; simp only [maxLen] at rl86_7
        have rl86_8 := S86.row_le (j := 8) rfl; simp only [maxLen] at rl86_8
        have hq0_ : (t_0.length : Int) ≤ t47 := by rw [hI86.2.2.1]; exact spotsTo_len m hI86.1
        have hq2_ : (t_2.length : Int) ≤ t47 := by rw [hI86.2.2.2.1]; exact followTo_len m hI86.1
        have hq3_ : (t_3.length : Int) ≤ t47 := by rw [hI86.2.2.2.2]; exact lastTo_len m hI86.1
        have hi47_ := hI86.1
        refine run_seq ?_
        refine run_reg (l := [0]) rfl ?_
        refine p_v (v := .bool (decide (t47 < ((keepM m).length : Int)))) rfl rfl rfl (x_lss r86_47 r86_46) ?_
        refine run_region_end ?_
        refine run_seq ?_
        refine run_cond_prop (p := t47 < ((keepM m).length : Int)) rfl (fun hc87 => ?_) (fun hc87 => ?_)
        · skip
          refine run_skip ?_
          refine run_seq ?_
          refine run_block ?_
          refine run_seq ?_
          refine run_reg (l := [0, 1, 2, 3, 4]) rfl ?_
          refine p_v (v := .int .i64 t47) rfl rfl rfl (x_move r86_47) ?_
          obtain ⟨ad88, seg88, a88, rp88, ce88⟩ := e_index_ro (q := t47) (m := 1) ld42 rfl (by first|omega|(simp;omega)|assumption) (by first|omega|(simp;omega)|assumption)
          refine p_v (v := .pointer (some ad88)) rfl rfl rfl (x_index_ro u25 ty4 r86_45 r86_47 a88 (by first|omega|(simp;omega)|assumption) (by first|omega|(simp;omega)|assumption)) ?_
          obtain ⟨rfl, _⟩ := rp88
          refine p_v (v := .bool (at_ (keepM m) t47)) rfl rfl rfl (x_load (seg := [.bool (at_ (keepM m) t47)]) ty4 rfl (by simp) rfl (CF.ghost ce88 (((((le44).trans lej79)).trans le86).trans S86.ghost))) ?_
          refine p_v (v := .int .i64 t47) rfl rfl rfl (x_assign rfl) ?_
          refine p_v (v := .bool (at_ (keepM m) t47)) rfl rfl rfl (x_assign rfl) ?_
          refine run_region_end ?_
          refine run_seq ?_
          refine run_reg (l := [0]) rfl ?_
          refine p_v (v := .bool (at_ (keepM m) t47)) rfl rfl rfl (x_move rfl) ?_
          refine run_region_end ?_
          refine run_cond_split (b := at_ (keepM m) t47) rfl (fun hc89 => ?_) (fun hc89 => ?_)
          · skip
            refine run_seq ?_
            obtain ⟨ad90, seg90, a90, rp90, ce90⟩ := e_index_ro (q := t47) (m := 5) l0_0 rfl (by first|omega|(simp;omega)|assumption) (by first|omega|(simp;omega)|assumption)
            obtain ⟨rfl, ok90⟩ := rp90
            have slook90 := u8_lo ok90; have shiok90 := u8_hi ok90
            obtain ⟨ad91, seg91, a91, rp91, ce91⟩ := e_index_ro (q := t47) (m := 1) l0_3 rfl (by first|omega|(simp;omega)|assumption) (by first|omega|(simp;omega)|assumption)
            obtain ⟨rfl, _⟩ := rp91
            have hf92 : (CFs ⟨j79_b64, 0, none⟩ [v_t_0]).1 w86 := (CF.box (m := 1) (S86.box_at (j := 5) rfl) rfl)
            have hf93 : (CFs ⟨b1, 0, none⟩ [.slice A0_0 m.spots.length c0_0]).1 w86 := (CF.box (m := 1) (S86.box_at (j := 0) rfl) rfl)
            have hf94 : (CFs ad90 (encSpot (at_ m.spots t47))).1 w86 := (CF.ghost ce90 (St.le0 S86))
            have hf95 : (CFs ⟨j79_b64, 3, none⟩ [v_t_3]).1 w86 := (CF.box (m := 1) (S86.box_at (j := 5) rfl) rfl)
            have hf96 : (CFs ⟨b1, 3, none⟩ [.slice A0_3 m.last.length c0_3]).1 w86 := (CF.box (m := 1) (S86.box_at (j := 0) rfl) rfl)
            have hf97 : (CFs ad91 [.bool (at_ m.last t47)]).1 w86 := (CF.ghost ce91 (St.le0 S86))
            refine da_start [(1, CFs ⟨j79_b64, 0, none⟩ [v_t_0]), (3, CFs ⟨b1, 0, none⟩ [.slice A0_0 m.spots.length c0_0]), (6, CFs ad90 (encSpot (at_ m.spots t47))), (10, CFs ⟨j79_b64, 3, none⟩ [v_t_3]), (12, CFs ⟨b1, 3, none⟩ [.slice A0_3 m.last.length c0_3]), (15, CFs ad91 [.bool (at_ m.last t47)])] 22 rfl mixed ?_
            intro wd98 gd98 hd98
            have S99 := S86.keep gd98
            have hf100 := (CFs ⟨j79_b64, 0, none⟩ [v_t_0]).2 _ _ gd98 hf92
            have hf101 := (CFs ⟨b1, 0, none⟩ [.slice A0_0 m.spots.length c0_0]).2 _ _ gd98 hf93
            have hf102 := (CFs ad90 (encSpot (at_ m.spots t47))).2 _ _ gd98 hf94
            have hf103 := (CFs ⟨j79_b64, 3, none⟩ [v_t_3]).2 _ _ gd98 hf95
            have hf104 := (CFs ⟨b1, 3, none⟩ [.slice A0_3 m.last.length c0_3]).2 _ _ gd98 hf96
            have hf105 := (CFs ad91 [.bool (at_ m.last t47)]).2 _ _ gd98 hf97
            refine d_q (i := 0) (v := .pointer (some ⟨j79_b64, 0, none⟩)) (fun _ => True) (fun _ ho => trivial) rfl (by decide +kernel) (by decide +kernel) (by decide +kernel) rfl rfl (fun wq hq => (x_fieldAt fd27_0 ty22 rfl r86_10)) (of_ne rfl (of_ne rfl (of_ne rfl (of_ne rfl (of_ne rfl (of_ne rfl (of_nil _ _))))))) ?_
            refine d_q (i := 1) (v := v_t_0) (CF ⟨j79_b64, 0, none⟩ [v_t_0]) (fun _ ho => ho _ (List.mem_of_getElem? (i := 0) rfl) rfl) rfl (by decide +kernel) (by decide +kernel) (by decide +kernel) rfl rfl (fun wq hq => (x_load (seg := [v_t_0]) ty22 rfl (by simp) rfl hq)) (of_eq hf100 (of_ne rfl (of_ne rfl (of_ne rfl (of_ne rfl (of_ne rfl (of_nil _ _))))))) ?_
            refine d_q (i := 2) (v := .pointer (some ⟨b1, 0, none⟩)) (fun _ => True) (fun _ ho => trivial) rfl (by decide +kernel) (by decide +kernel) (by decide +kernel) rfl rfl (fun wq hq => (x_fieldAt fd27_0 ty22 rfl r86_1)) (of_ne rfl (of_ne rfl (of_ne rfl (of_ne rfl (of_ne rfl (of_ne rfl (of_nil _ _))))))) ?_
            refine d_q (i := 3) (v := .slice A0_0 m.spots.length c0_0) (CF ⟨b1, 0, none⟩ [.slice A0_0 m.spots.length c0_0]) (fun _ ho => ho _ (List.mem_of_getElem? (i := 1) rfl) rfl) rfl (by decide +kernel) (by decide +kernel) (by decide +kernel) rfl rfl (fun wq hq => (x_load (seg := [.slice A0_0 m.spots.length c0_0]) ty22 rfl (by simp) rfl hq)) (of_ne rfl (of_eq hf101 (of_ne rfl (of_ne rfl (of_ne rfl (of_ne rfl (of_nil _ _))))))) ?_
            refine d_q (i := 4) (v := .int .i64 t47) (fun _ => True) (fun _ ho => trivial) rfl (by decide +kernel) (by decide +kernel) (by decide +kernel) rfl rfl (fun wq hq => (x_move rfl)) (of_ne rfl (of_ne rfl (of_ne rfl (of_ne rfl (of_ne rfl (of_ne rfl (of_nil _ _))))))) ?_
            refine d_q (i := 5) (v := .pointer (some ad90)) (fun _ => True) (fun _ ho => trivial) rfl (by decide +kernel) (by decide +kernel) (by decide +kernel) rfl rfl (fun wq hq => (x_index_ro u22 ty55 rfl rfl a90 (by first|omega|(simp;omega)|assumption) (by first|omega|(simp;omega)|assumption))) (of_ne rfl (of_ne rfl (of_ne rfl (of_ne rfl (of_ne rfl (of_ne rfl (of_nil _ _))))))) ?_
            refine d_q (i := 6) (v := .agg (encSpot (at_ m.spots t47)).toArray) (CF ad90 (encSpot (at_ m.spots t47))) (fun _ ho => ho _ (List.mem_of_getElem? (i := 2) rfl) rfl) rfl (by decide +kernel) (by decide +kernel) (by decide +kernel) rfl rfl (fun wq hq => (x_load (seg := (encSpot (at_ m.spots t47))) ty55 rfl (by simp) rfl hq)) (of_ne rfl (of_ne rfl (of_eq hf102 (of_ne rfl (of_ne rfl (of_ne rfl (of_nil _ _))))))) ?_
            refine d_q (i := 9) (v := .pointer (some ⟨j79_b64, 3, none⟩)) (fun _ => True) (fun _ ho => trivial) rfl (by decide +kernel) (by decide +kernel) (by decide +kernel) rfl rfl (fun wq hq => (x_fieldAt fd27_3 ty25 rfl r86_10)) (of_ne rfl (of_ne rfl (of_ne rfl (of_ne rfl (of_ne rfl (of_ne rfl (of_nil _ _))))))) ?_
            refine d_q (i := 10) (v := v_t_3) (CF ⟨j79_b64, 3, none⟩ [v_t_3]) (fun _ ho => ho _ (List.mem_of_getElem? (i := 3) rfl) rfl) rfl (by decide +kernel) (by decide +kernel) (by decide +kernel) rfl rfl (fun wq hq => (x_load (seg := [v_t_3]) ty25 rfl (by simp) rfl hq)) (of_ne rfl (of_ne rfl (of_ne rfl (of_eq hf103 (of_ne rfl (of_ne rfl (of_nil _ _))))))) ?_
            refine d_q (i := 11) (v := .pointer (some ⟨b1, 3, none⟩)) (fun _ => True) (fun _ ho => trivial) rfl (by decide +kernel) (by decide +kernel) (by decide +kernel) rfl rfl (fun wq hq => (x_fieldAt fd27_3 ty25 rfl r86_1)) (of_ne rfl (of_ne rfl (of_ne rfl (of_ne rfl (of_ne rfl (of_ne rfl (of_nil _ _))))))) ?_
            refine d_q (i := 12) (v := .slice A0_3 m.last.length c0_3) (CF ⟨b1, 3, none⟩ [.slice A0_3 m.last.length c0_3]) (fun _ ho => ho _ (List.mem_of_getElem? (i := 4) rfl) rfl) rfl (by decide +kernel) (by decide +kernel) (by decide +kernel) rfl rfl (fun wq hq => (x_load (seg := [.slice A0_3 m.last.length c0_3]) ty25 rfl (by simp) rfl hq)) (of_ne rfl (of_ne rfl (of_ne rfl (of_ne rfl (of_eq hf104 (of_ne rfl (of_nil _ _))))))) ?_
            refine d_q (i := 13) (v := .int .i64 t47) (fun _ => True) (fun _ ho => trivial) rfl (by decide +kernel) (by decide +kernel) (by decide +kernel) rfl rfl (fun wq hq => (x_move rfl)) (of_ne rfl (of_ne rfl (of_ne rfl (of_ne rfl (of_ne rfl (of_ne rfl (of_nil _ _))))))) ?_
            refine d_q (i := 14) (v := .pointer (some ad91)) (fun _ => True) (fun _ ho => trivial) rfl (by decide +kernel) (by decide +kernel) (by decide +kernel) rfl rfl (fun wq hq => (x_index_ro u25 ty4 rfl rfl a91 (by first|omega|(simp;omega)|assumption) (by first|omega|(simp;omega)|assumption))) (of_ne rfl (of_ne rfl (of_ne rfl (of_ne rfl (of_ne rfl (of_ne rfl (of_nil _ _))))))) ?_
            refine d_q (i := 15) (v := .bool (at_ m.last t47)) (CF ad91 [.bool (at_ m.last t47)]) (fun _ ho => ho _ (List.mem_of_getElem? (i := 5) rfl) rfl) rfl (by decide +kernel) (by decide +kernel) (by decide +kernel) rfl rfl (fun wq hq => (x_load (seg := [.bool (at_ m.last t47)]) ty4 rfl (by simp) rfl hq)) (of_ne rfl (of_ne rfl (of_ne rfl (of_ne rfl (of_ne rfl (of_eq hf105 (of_nil _ _))))))) ?_
            refine ra_join (fun ρ w' => ∃ (h : Ghost) (j204_v132 : Value) (j204_v166 : Value), Le h86 h ∧ St w.heap.size w h w' [box b1 27 [.slice A0_0 m.spots.length c0_0, .slice A0_1 m.first.length c0_1, .slice A0_2 m.follow.length c0_2, .slice A0_3 m.last.length c0_3, .bool m.empty], box b3 27 [.slice none 0 0, .slice none 0 0, .slice none 0 0, .slice none 0 0, .bool false], box b20 25 [.slice A42 (keepM m).length c42], box b28 23 [.slice A44 number.length c44], row 3 (Kd.int .i64) j79_v56_0 (leftN (keepM m) number m.first), box j79_b64 27 [j204_v132, j79_v56_0, v_t_2, j204_v166, .bool m.empty], row 55 kSpot j204_v132 (t_0 ++ ([at_ m.spots t47] : List Spot)), row 23 (Kd.int .i64).slice v_t_2 t_2, row 4 Kd.bool j204_v166 (t_3 ++ ([at_ m.last t47] : List Bool))] ∧ ρ 1 = .pointer (some ⟨b1, 0, none⟩) ∧ ρ 2 = .pointer (some ⟨b3, 0, none⟩) ∧ ρ 9 = .func (.func 19) #[] #[.pointer (some ⟨b20, 0, none⟩), .pointer (some ⟨b28, 0, none⟩)] ∧ ρ 10 = .pointer (some ⟨j79_b64, 0, none⟩) ∧ ρ 11 = .int .i64 t47 ∧ ρ 45 = .slice A42 (keepM m).length c42 ∧ ρ 46 = .int .i64 ((keepM m).length : Int) ∧ ρ 47 = .int .i64 t47) ?_ (fun jn204 => ?_)
            · skip
              rintro ρj204 wj204 ⟨hj204, j204_v132, j204_v166, lej204, Sj204, rj204_1, rj204_2, rj204_9, rj204_10, rj204_11, rj204_45, rj204_46, rj204_47⟩
              have jr204_4 := Sj204.row_le (j := 4) rfl; simp only [maxLen] at jr204_4
              have jr204_6 := Sj204.row_le (j := 6) rfl; simp only [maxLen] at jr204_6
              have jr204_7 := Sj204.row_le (j := 7) rfl; simp only [maxLen] at jr204_7
              have jr204_8 := Sj204.row_le (j := 8) rfl; simp only [maxLen] at jr204_8
              obtain ⟨ad205, seg205, a205, rp205, ce205⟩ := e_index_ro (q := t47) (m := 1) l0_2 rfl (by first|omega|(simp;omega)|assumption) (by first|omega|(simp;omega)|assumption)
              obtain ⟨A205, c205, rfl, lc205, cm205, ld205⟩ := rp205
              have cn205 := cm205; simp only [maxLen] at cn205
              have hf206 : (CFs ⟨j79_b64, 2, none⟩ [v_t_2]).1 wj204 := (CF.box (m := 1) (Sj204.box_at (j := 5) rfl) rfl)
              have hf207 : (CFs ⟨b1, 2, none⟩ [.slice A0_2 m.follow.length c0_2]).1 wj204 := (CF.box (m := 1) (Sj204.box_at (j := 0) rfl) rfl)
              have hf208 : (CFs ad205 [.slice A205 (at_ m.follow t47).length c205]).1 wj204 := (CF.ghost ce205 (St.le0 Sj204))
              refine da_start [(1, CFs ⟨j79_b64, 2, none⟩ [v_t_2]), (4, CFs ⟨b1, 2, none⟩ [.slice A0_2 m.follow.length c0_2]), (7, CFs ad205 [.slice A205 (at_ m.follow t47).length c205])] 13 rfl mixed ?_
              intro wd209 gd209 hd209
              have S210 := Sj204.keep gd209
              have hf211 := (CFs ⟨j79_b64, 2, none⟩ [v_t_2]).2 _ _ gd209 hf206
              have hf212 := (CFs ⟨b1, 2, none⟩ [.slice A0_2 m.follow.length c0_2]).2 _ _ gd209 hf207
              have hf213 := (CFs ad205 [.slice A205 (at_ m.follow t47).length c205]).2 _ _ gd209 hf208
              refine d_q (i := 0) (v := .pointer (some ⟨j79_b64, 2, none⟩)) (fun _ => True) (fun _ ho => trivial) rfl (by decide +kernel) (by decide +kernel) (by decide +kernel) rfl rfl (fun wq hq => (x_fieldAt fd27_2 ty24 rfl rj204_10)) (of_ne rfl (of_ne rfl (of_ne rfl (of_nil _ _)))) ?_
              refine d_q (i := 1) (v := v_t_2) (CF ⟨j79_b64, 2, none⟩ [v_t_2]) (fun _ ho => ho _ (List.mem_of_getElem? (i := 0) rfl) rfl) rfl (by decide +kernel) (by decide +kernel) (by decide +kernel) rfl rfl (fun wq hq => (x_load (seg := [v_t_2]) ty24 rfl (by simp) rfl hq)) (of_eq hf211 (of_ne rfl (of_ne rfl (of_nil _ _)))) ?_
              refine d_q (i := 2) (v := .func (.func 19) #[] #[.pointer (some ⟨b20, 0, none⟩), .pointer (some ⟨b28, 0, none⟩)]) (fun _ => True) (fun _ ho => trivial) rfl (by decide +kernel) (by decide +kernel) (by decide +kernel) rfl rfl (fun wq hq => (x_move rj204_9)) (of_ne rfl (of_ne rfl (of_ne rfl (of_nil _ _)))) ?_
              refine d_q (i := 3) (v := .pointer (some ⟨b1, 2, none⟩)) (fun _ => True) (fun _ ho => trivial) rfl (by decide +kernel) (by decide +kernel) (by decide +kernel) rfl rfl (fun wq hq => (x_fieldAt fd27_2 ty24 rfl rj204_1)) (of_ne rfl (of_ne rfl (of_ne rfl (of_nil _ _)))) ?_
              refine d_q (i := 4) (v := .slice A0_2 m.follow.length c0_2) (CF ⟨b1, 2, none⟩ [.slice A0_2 m.follow.length c0_2]) (fun _ ho => ho _ (List.mem_of_getElem? (i := 1) rfl) rfl) rfl (by decide +kernel) (by decide +kernel) (by decide +kernel) rfl rfl (fun wq hq => (x_load (seg := [.slice A0_2 m.follow.length c0_2]) ty24 rfl (by simp) rfl hq)) (of_ne rfl (of_eq hf212 (of_ne rfl (of_nil _ _)))) ?_
              refine d_q (i := 5) (v := .int .i64 t47) (fun _ => True) (fun _ ho => trivial) rfl (by decide +kernel) (by decide +kernel) (by decide +kernel) rfl rfl (fun wq hq => (x_move rj204_11)) (of_ne rfl (of_ne rfl (of_ne rfl (of_nil _ _)))) ?_
              refine d_q (i := 6) (v := .pointer (some ad205)) (fun _ => True) (fun _ ho => trivial) rfl (by decide +kernel) (by decide +kernel) (by decide +kernel) rfl rfl (fun wq hq => (x_index_ro u24 ty23 rfl rfl a205 (by first|omega|(simp;omega)|assumption) (by first|omega|(simp;omega)|assumption))) (of_ne rfl (of_ne rfl (of_ne rfl (of_nil _ _)))) ?_
              refine d_q (i := 7) (v := .slice A205 (at_ m.follow t47).length c205) (CF ad205 [.slice A205 (at_ m.follow t47).length c205]) (fun _ ho => ho _ (List.mem_of_getElem? (i := 2) rfl) rfl) rfl (by decide +kernel) (by decide +kernel) (by decide +kernel) rfl rfl (fun wq hq => (x_load (seg := [.slice A205 (at_ m.follow t47).length c205]) ty23 rfl (by simp) rfl hq)) (of_ne rfl (of_ne rfl (of_eq hf213 (of_nil _ _)))) ?_
              refine ra_one (i := 8) (by decide +kernel) ?_
              intro wd214 gd214
              have S215 := S210.keep gd214
              have hf216 := (CFs ⟨j79_b64, 2, none⟩ [v_t_2]).2 _ _ gd214 hf211
              have hf217 := (CFs ⟨b1, 2, none⟩ [.slice A0_2 m.follow.length c0_2]).2 _ _ gd214 hf212
              have hf218 := (CFs ad205 [.slice A205 (at_ m.follow t47).length c205]).2 _ _ gd214 hf213
              refine d_c rfl rfl rfl (y_call (args := [.slice A205 (at_ m.follow t47).length c205, .pointer (some ⟨b20, 0, none⟩), .pointer (some ⟨b28, 0, none⟩)]) ca19 rfl rfl) (left_calls wd214 (at_ m.follow t47) A205 c205 (And.intro lc205 cm205) (ld205.mono (St.le0 S215)) (keepM m) A42 c42 (And.intro lc42 cm42) (ld42.mono (((((((le44).trans lej79)).trans le86)).trans lej204).trans S215.ghost)) ⟨b20, 0, none⟩ (box_gcell (S215.box_at (j := 2) rfl)) number A44 c44 (And.intro lc44 cm44) (ld44.mono (((((lej79).trans le86)).trans lej204).trans S215.ghost)) ⟨b28, 0, none⟩ (box_gcell (S215.box_at (j := 3) rfl)) (by first | assumption | exact leftPre_ _ ⟨by omega, hR_.firsts⟩ | exact leftPre_ _ ⟨hss_.row _ (by assumption) (by omega), hR_.rows (by assumption) (by omega)⟩)) ?_
              rintro v219_0 w219 ⟨h219, _, T219, rfl⟩
              obtain ⟨k219, lk219, ll219, U219⟩ := call_joins S215 T219
              have lc219_0 := (((((((lf44_0).trans lej79)).trans le86)).trans lej204)).trans lk219
              have lc219_1 := (((((((lf44_1).trans lej79)).trans le86)).trans lej204)).trans lk219
              have lc219_2 := (((((((lf44_2).trans lej79)).trans le86)).trans lej204)).trans lk219
              have lc219_3 := (((((((le44).trans lej79)).trans le86)).trans lej204)).trans lk219
              have lc219_4 := (((((lej79).trans le86)).trans lej204)).trans lk219
              have lc219_5 := (((le86).trans lej204)).trans lk219
              have lc219_6 := (lej204).trans lk219
              have S220 : St w.heap.size w k219 w219 [box b1 27 [.slice A0_0 m.spots.length c0_0, .slice A0_1 m.first.length c0_1, .slice A0_2 m.follow.length c0_2, .slice A0_3 m.last.length c0_3, .bool m.empty], box b3 27 [.slice none 0 0, .slice none 0 0, .slice none 0 0, .slice none 0 0, .bool false], box b20 25 [.slice A42 (keepM m).length c42], box b28 23 [.slice A44 number.length c44], row 3 (Kd.int .i64) j79_v56_0 (leftN (keepM m) number m.first), box j79_b64 27 [j204_v132, j79_v56_0, v_t_2, j204_v166, .bool m.empty], row 55 kSpot j204_v132 (t_0 ++ ([at_ m.spots t47] : List Spot)), row 23 (Kd.int .i64).slice v_t_2 t_2, row 4 Kd.bool j204_v166 (t_3 ++ ([at_ m.last t47] : List Bool)), row 3 (Kd.int .i64) v219_0 (leftN (keepM m) number (at_ m.follow t47))] := U219
              have hf221 := (CFs ⟨j79_b64, 2, none⟩ [v_t_2]).2 _ _ (Chg.of_below T219.below) hf216
              have hf222 := (CFs ⟨b1, 2, none⟩ [.slice A0_2 m.follow.length c0_2]).2 _ _ (Chg.of_below T219.below) hf217
              have hf223 := (CFs ad205 [.slice A205 (at_ m.follow t47).length c205]).2 _ _ (Chg.of_below T219.below) hf218
              refine ⟨.inl (Chg.of_below T219.below), ?_⟩
              refine ra_one (i := 9) (by decide +kernel) ?_
              intro wd224 gd224
              have S225 := S220.keep gd224
              have hf226 := (CFs ⟨j79_b64, 2, none⟩ [v_t_2]).2 _ _ gd224 hf221
              have hf227 := (CFs ⟨b1, 2, none⟩ [.slice A0_2 m.follow.length c0_2]).2 _ _ gd224 hf222
              have hf228 := (CFs ad205 [.slice A205 (at_ m.follow t47).length c205]).2 _ _ gd224 hf223
              obtain ⟨h230, le230, T230, rp230⟩ := S225.freeze (i := 9) rfl
              have lf230_0 := (lc219_0).trans le230
              have lf230_1 := (lc219_1).trans le230
              have lf230_2 := (lc219_2).trans le230
              have lf230_3 := (lc219_3).trans le230
              have lf230_4 := (lc219_4).trans le230
              have lf230_5 := (lc219_5).trans le230
              have lf230_6 := (lc219_6).trans le230
              have lf230_7 := (lk219).trans le230
              have S231 : St w.heap.size w h230 wd224 [box b1 27 [.slice A0_0 m.spots.length c0_0, .slice A0_1 m.first.length c0_1, .slice A0_2 m.follow.length c0_2, .slice A0_3 m.last.length c0_3, .bool m.empty], box b3 27 [.slice none 0 0, .slice none 0 0, .slice none 0 0, .slice none 0 0, .bool false], box b20 25 [.slice A42 (keepM m).length c42], box b28 23 [.slice A44 number.length c44], row 3 (Kd.int .i64) j79_v56_0 (leftN (keepM m) number m.first), box j79_b64 27 [j204_v132, j79_v56_0, v_t_2, j204_v166, .bool m.empty], row 55 kSpot j204_v132 (t_0 ++ ([at_ m.spots t47] : List Spot)), row 23 (Kd.int .i64).slice v_t_2 t_2, row 4 Kd.bool j204_v166 (t_3 ++ ([at_ m.last t47] : List Bool)), emp] := T230
              obtain ⟨A230, c230, e230, lc230, cm230, ld230⟩ := rp230
              injection e230 with e230 _; subst e230
              have cn230 := cm230; simp only [maxLen] at cn230
              obtain ⟨v229, w229, r229, g229, T229⟩ := e_build_ones (kd := (Kd.int .i64).slice) (xs := ([leftN (keepM m) number (at_ m.follow t47)] : List (List Int))) (len := 1) [.slice A230 (leftN (keepM m) number (at_ m.follow t47)).length c230] S231 u24 ty23 rfl rfl rfl rfl rfl (ones_cons rfl ones_nil) [.slice A230 (leftN (keepM m) number (at_ m.follow t47)).length c230] (Elems.single (k := (Kd.int .i64).slice) (h := h230) (x := leftN (keepM m) number (at_ m.follow t47)) (cs := [.slice A230 (leftN (keepM m) number (at_ m.follow t47)).length c230]) ⟨_, _, rfl, (And.intro lc230 cm230).1, (And.intro lc230 cm230).2, ld230.mono (Le.refl _)⟩) rfl
              have S232 : St w.heap.size w h230 w229 [box b1 27 [.slice A0_0 m.spots.length c0_0, .slice A0_1 m.first.length c0_1, .slice A0_2 m.follow.length c0_2, .slice A0_3 m.last.length c0_3, .bool m.empty], box b3 27 [.slice none 0 0, .slice none 0 0, .slice none 0 0, .slice none 0 0, .bool false], box b20 25 [.slice A42 (keepM m).length c42], box b28 23 [.slice A44 number.length c44], row 3 (Kd.int .i64) j79_v56_0 (leftN (keepM m) number m.first), box j79_b64 27 [j204_v132, j79_v56_0, v_t_2, j204_v166, .bool m.empty], row 55 kSpot j204_v132 (t_0 ++ ([at_ m.spots t47] : List Spot)), row 23 (Kd.int .i64).slice v_t_2 t_2, row 4 Kd.bool j204_v166 (t_3 ++ ([at_ m.last t47] : List Bool)), emp, row 23 (Kd.int .i64).slice v229 ([leftN (keepM m) number (at_ m.follow t47)] : List (List Int))] := T229
              have hf233 := (CFs ⟨j79_b64, 2, none⟩ [v_t_2]).2 _ _ g229 hf226
              have hf234 := (CFs ⟨b1, 2, none⟩ [.slice A0_2 m.follow.length c0_2]).2 _ _ g229 hf227
              have hf235 := (CFs ad205 [.slice A205 (at_ m.follow t47).length c205]).2 _ _ g229 hf228
              refine d_v (v := v229) rfl rfl rfl (y_build_slice (pv := [(0, .slice A230 (leftN (keepM m) number (at_ m.follow t47)).length c230)]) rfl r229) (.inl g229) ?_
              refine ra_one (i := 10) (by decide +kernel) ?_
              intro wd236 gd236
              have S237 := S232.keep gd236
              have hf238 := (CFs ⟨j79_b64, 2, none⟩ [v_t_2]).2 _ _ gd236 hf233
              have hf239 := (CFs ⟨b1, 2, none⟩ [.slice A0_2 m.follow.length c0_2]).2 _ _ gd236 hf234
              have hf240 := (CFs ad205 [.slice A205 (at_ m.follow t47).length c205]).2 _ _ gd236 hf235
              obtain ⟨A242, c242, ev242, lc242, cm242⟩ := S237.row_val (j := 10) rfl
              obtain ⟨v243, w243, r243, g243, T243⟩ := e_append (kd := (Kd.int .i64).slice) (A := A242) (c := c242) (ys := ([leftN (keepM m) number (at_ m.follow t47)] : List (List Int))) (len := ([leftN (keepM m) number (at_ m.follow t47)] : List (List Int)).length) 24 S237 u24 ty23 rfl rfl (j := 7) rfl rfl (news_own S237 (j := 10) rfl ev242) (by first|omega|(simp;omega)|assumption) (by first|omega|(simp;omega)|assumption)
              have S244 : St w.heap.size w h230 w243 [box b1 27 [.slice A0_0 m.spots.length c0_0, .slice A0_1 m.first.length c0_1, .slice A0_2 m.follow.length c0_2, .slice A0_3 m.last.length c0_3, .bool m.empty], box b3 27 [.slice none 0 0, .slice none 0 0, .slice none 0 0, .slice none 0 0, .bool false], box b20 25 [.slice A42 (keepM m).length c42], box b28 23 [.slice A44 number.length c44], row 3 (Kd.int .i64) j79_v56_0 (leftN (keepM m) number m.first), box j79_b64 27 [j204_v132, j79_v56_0, v_t_2, j204_v166, .bool m.empty], row 55 kSpot j204_v132 (t_0 ++ ([at_ m.spots t47] : List Spot)), row 23 (Kd.int .i64).slice v243 (t_2 ++ ([leftN (keepM m) number (at_ m.follow t47)] : List (List Int))), row 4 Kd.bool j204_v166 (t_3 ++ ([at_ m.last t47] : List Bool)), emp, row 23 (Kd.int .i64).slice v229 ([leftN (keepM m) number (at_ m.follow t47)] : List (List Int))] := T243
              have hf245 : (CFs ⟨j79_b64, 2, none⟩ [v_t_2]).1 w243 := (CF.box (m := 1) (S244.box_at (j := 5) rfl) rfl)
              have hf246 : (CFs ⟨b1, 2, none⟩ [.slice A0_2 m.follow.length c0_2]).1 w243 := (CF.box (m := 1) (S244.box_at (j := 0) rfl) rfl)
              have hf247 : (CFs ad205 [.slice A205 (at_ m.follow t47).length c205]).1 w243 := (CF.ghost ce205 (St.le0 S244))
              refine d_v (v := v243) rfl rfl rfl (x_append rfl ev242 r243) (.inr (keep_w (by decide +kernel) (keep_v hf246 (keep_v hf247 trivial)))) ?_
              refine d_q (i := 11) (v := .pointer (some ⟨j79_b64, 2, none⟩)) (fun _ => True) (fun _ ho => trivial) rfl (by decide +kernel) (by decide +kernel) (by decide +kernel) rfl rfl (fun wq hq => (x_fieldAt fd27_2 ty24 rfl rj204_10)) (of_ne rfl (of_ne rfl (of_ne rfl (of_nil _ _)))) ?_
              refine ra_one (i := 12) (by decide +kernel) ?_
              intro wd248 gd248
              have S249 := S244.keep gd248
              have hf250 := (CFs ⟨j79_b64, 2, none⟩ [v_t_2]).2 _ _ gd248 hf245
              have hf251 := (CFs ⟨b1, 2, none⟩ [.slice A0_2 m.follow.length c0_2]).2 _ _ gd248 hf246
              have hf252 := (CFs ad205 [.slice A205 (at_ m.follow t47).length c205]).2 _ _ gd248 hf247
              have oc254 := row_one S249 (j := 7) rfl
              obtain ⟨w253, r253, g253, T253⟩ := e_store (P := Tryd.prog) (off := 2) (v := v243) (vs := [v243]) S249 ty24 (row_cells S249 (j := 7) rfl) rfl (j := 5) rfl (by first | decide | exact Nat.le_of_ble_eq_true rfl) (one_cons oc254 one_nil)
              have S255 : St w.heap.size w h230 w253 [box b1 27 [.slice A0_0 m.spots.length c0_0, .slice A0_1 m.first.length c0_1, .slice A0_2 m.follow.length c0_2, .slice A0_3 m.last.length c0_3, .bool m.empty], box b3 27 [.slice none 0 0, .slice none 0 0, .slice none 0 0, .slice none 0 0, .bool false], box b20 25 [.slice A42 (keepM m).length c42], box b28 23 [.slice A44 number.length c44], row 3 (Kd.int .i64) j79_v56_0 (leftN (keepM m) number m.first), box j79_b64 27 [j204_v132, j79_v56_0, v243, j204_v166, .bool m.empty], row 55 kSpot j204_v132 (t_0 ++ ([at_ m.spots t47] : List Spot)), row 23 (Kd.int .i64).slice v243 (t_2 ++ ([leftN (keepM m) number (at_ m.follow t47)] : List (List Int))), row 4 Kd.bool j204_v166 (t_3 ++ ([at_ m.last t47] : List Bool)), emp, row 23 (Kd.int .i64).slice v229 ([leftN (keepM m) number (at_ m.follow t47)] : List (List Int))] := T253
              have hf256 : (CFs ⟨b1, 2, none⟩ [.slice A0_2 m.follow.length c0_2]).1 w253 := (CF.box (m := 1) (S255.box_at (j := 0) rfl) rfl)
              have hf257 : (CFs ad205 [.slice A205 (at_ m.follow t47).length c205]).1 w253 := (CF.ghost ce205 (St.le0 S255))
              refine d_s rfl rfl (x_store rfl rfl r253) (.inr (keep_w (by decide +kernel) (keep_w (by decide +kernel) (keep_w (by decide +kernel) trivial)))) ?_
              refine ra_done (by decide +kernel) ?_
              intro wd258 gd258
              have S259 := S255.keep gd258
              refine run_inBlock ?_
              refine run_reg (l := [0, 1]) rfl ?_
              refine p_v (v := .int .i64 (t47 + 1)) rfl rfl rfl (x_add rj204_47 rfl (in_i64 (by first|omega|(simp;omega)|assumption) (by first|omega|(simp;omega)|assumption))) ?_
              refine p_v (v := .int .i64 (t47 + 1)) rfl rfl rfl (x_move rfl) ?_
              refine run_region_end ?_
              refine ih86 (t_0 ++ ([at_ m.spots t47] : List Spot), t_2 ++ ([leftN (keepM m) number (at_ m.follow t47)] : List (List Int)), t_3 ++ ([at_ m.last t47] : List Bool), t47 + 1) _ _ (by dsimp only; omega) ⟨h230, j204_v132, v243, j204_v166, lf230_5, S259.sub [0, 1, 2, 3, 4, 5, 6, 7, 8] (by decide) rfl _ rfl, rj204_1, rj204_2, rj204_9, rj204_10, rj204_45, rj204_46, rfl, (in_i64 (by first|omega|(simp;omega)|assumption) (by first|omega|(simp;omega)|assumption)), (by first | exact ⟨by omega, by omega, by rw [hI86.2.2.1]; exact spotsTo_yes m hI86.1 (by assumption), by rw [hI86.2.2.2.1, hnum_, lefts_eq]; exact followTo_yes m hI86.1 (by assumption), by rw [hI86.2.2.2.2]; exact lastTo_yes m hI86.1 (by assumption)⟩ | exact ⟨by omega, by omega, by rw [hI86.2.2.1]; exact spotsTo_no m hI86.1 (by assumption), by rw [hI86.2.2.2.1]; exact followTo_no m hI86.1 (by assumption), by rw [hI86.2.2.2.2]; exact lastTo_no m hI86.1 (by assumption)⟩)⟩
            · skip
              refine ra_two (i := 7) (i2 := 16) (by decide +kernel) ?_ ?_
              · skip
                intro wd260 gd260
                have S261 := S99.keep gd260
                have hf262 := (CFs ⟨j79_b64, 0, none⟩ [v_t_0]).2 _ _ gd260 hf100
                have hf263 := (CFs ⟨b1, 0, none⟩ [.slice A0_0 m.spots.length c0_0]).2 _ _ gd260 hf101
                have hf264 := (CFs ad90 (encSpot (at_ m.spots t47))).2 _ _ gd260 hf102
                have hf265 := (CFs ⟨j79_b64, 3, none⟩ [v_t_3]).2 _ _ gd260 hf103
                have hf266 := (CFs ⟨b1, 3, none⟩ [.slice A0_3 m.last.length c0_3]).2 _ _ gd260 hf104
                have hf267 := (CFs ad91 [.bool (at_ m.last t47)]).2 _ _ gd260 hf105
                obtain ⟨v268, w268, r268, g268, T268⟩ := e_build_segs (kd := kSpot) (xs := ([at_ m.spots t47] : List Spot)) (len := 1) (m := 5) [(.agg (encSpot (at_ m.spots t47)).toArray, (encSpot (at_ m.spots t47)))] S261 u22 ty55 rfl rfl rfl rfl (segs_cons rfl rfl segs_nil) (cs := (encSpot (at_ m.spots t47))) (Elems.single (k := kSpot) (h := h86) (x := at_ m.spots t47) (cs := (encSpot (at_ m.spots t47))) ⟨rfl, ok90⟩) (by simp)
                have S269 : St w.heap.size w h86 w268 [box b1 27 [.slice A0_0 m.spots.length c0_0, .slice A0_1 m.first.length c0_1, .slice A0_2 m.follow.length c0_2, .slice A0_3 m.last.length c0_3, .bool m.empty], box b3 27 [.slice none 0 0, .slice none 0 0, .slice none 0 0, .slice none 0 0, .bool false], box b20 25 [.slice A42 (keepM m).length c42], box b28 23 [.slice A44 number.length c44], row 3 (Kd.int .i64) j79_v56_0 (leftN (keepM m) number m.first), box j79_b64 27 [v_t_0, j79_v56_0, v_t_2, v_t_3, .bool m.empty], row 55 kSpot v_t_0 t_0, row 23 (Kd.int .i64).slice v_t_2 t_2, row 4 Kd.bool v_t_3 t_3, row 55 kSpot v268 ([at_ m.spots t47] : List Spot)] := T268
                have hf270 := (CFs ⟨j79_b64, 0, none⟩ [v_t_0]).2 _ _ g268 hf262
                have hf271 := (CFs ⟨b1, 0, none⟩ [.slice A0_0 m.spots.length c0_0]).2 _ _ g268 hf263
                have hf272 := (CFs ad90 (encSpot (at_ m.spots t47))).2 _ _ g268 hf264
                have hf273 := (CFs ⟨j79_b64, 3, none⟩ [v_t_3]).2 _ _ g268 hf265
                have hf274 := (CFs ⟨b1, 3, none⟩ [.slice A0_3 m.last.length c0_3]).2 _ _ g268 hf266
                have hf275 := (CFs ad91 [.bool (at_ m.last t47)]).2 _ _ g268 hf267
                refine d_v (v := v268) rfl rfl rfl (y_build_slice (pv := [(0, .agg (encSpot (at_ m.spots t47)).toArray)]) rfl r268) (.inl g268) ?_
                refine ra_two (i := 8) (i2 := 16) (by decide +kernel) ?_ ?_
                · skip
                  intro wd276 gd276
                  have S277 := S269.keep gd276
                  have hf278 := (CFs ⟨j79_b64, 0, none⟩ [v_t_0]).2 _ _ gd276 hf270
                  have hf279 := (CFs ⟨b1, 0, none⟩ [.slice A0_0 m.spots.length c0_0]).2 _ _ gd276 hf271
                  have hf280 := (CFs ad90 (encSpot (at_ m.spots t47))).2 _ _ gd276 hf272
                  have hf281 := (CFs ⟨j79_b64, 3, none⟩ [v_t_3]).2 _ _ gd276 hf273
                  have hf282 := (CFs ⟨b1, 3, none⟩ [.slice A0_3 m.last.length c0_3]).2 _ _ gd276 hf274
                  have hf283 := (CFs ad91 [.bool (at_ m.last t47)]).2 _ _ gd276 hf275
                  obtain ⟨A285, c285, ev285, lc285, cm285⟩ := S277.row_val (j := 9) rfl
                  obtain ⟨v286, w286, r286, g286, T286⟩ := e_append (kd := kSpot) (A := A285) (c := c285) (ys := ([at_ m.spots t47] : List Spot)) (len := ([at_ m.spots t47] : List Spot).length) 22 S277 u22 ty55 rfl rfl (j := 6) rfl rfl (news_own S277 (j := 9) rfl ev285) (by first|omega|(simp;omega)|assumption) (by first|omega|(simp;omega)|assumption)
                  have S287 : St w.heap.size w h86 w286 [box b1 27 [.slice A0_0 m.spots.length c0_0, .slice A0_1 m.first.length c0_1, .slice A0_2 m.follow.length c0_2, .slice A0_3 m.last.length c0_3, .bool m.empty], box b3 27 [.slice none 0 0, .slice none 0 0, .slice none 0 0, .slice none 0 0, .bool false], box b20 25 [.slice A42 (keepM m).length c42], box b28 23 [.slice A44 number.length c44], row 3 (Kd.int .i64) j79_v56_0 (leftN (keepM m) number m.first), box j79_b64 27 [v_t_0, j79_v56_0, v_t_2, v_t_3, .bool m.empty], row 55 kSpot v286 (t_0 ++ ([at_ m.spots t47] : List Spot)), row 23 (Kd.int .i64).slice v_t_2 t_2, row 4 Kd.bool v_t_3 t_3, row 55 kSpot v268 ([at_ m.spots t47] : List Spot)] := T286
                  have hf288 : (CFs ⟨j79_b64, 0, none⟩ [v_t_0]).1 w286 := (CF.box (m := 1) (S287.box_at (j := 5) rfl) rfl)
                  have hf289 : (CFs ⟨b1, 0, none⟩ [.slice A0_0 m.spots.length c0_0]).1 w286 := (CF.box (m := 1) (S287.box_at (j := 0) rfl) rfl)
                  have hf290 : (CFs ad90 (encSpot (at_ m.spots t47))).1 w286 := (CF.ghost ce90 (St.le0 S287))
                  have hf291 : (CFs ⟨j79_b64, 3, none⟩ [v_t_3]).1 w286 := (CF.box (m := 1) (S287.box_at (j := 5) rfl) rfl)
                  have hf292 : (CFs ⟨b1, 3, none⟩ [.slice A0_3 m.last.length c0_3]).1 w286 := (CF.box (m := 1) (S287.box_at (j := 0) rfl) rfl)
                  have hf293 : (CFs ad91 [.bool (at_ m.last t47)]).1 w286 := (CF.ghost ce91 (St.le0 S287))
                  refine d_v (v := v286) rfl rfl rfl (x_append rfl ev285 r286) (.inr (keep_w (by decide +kernel) (keep_v hf289 (keep_v hf290 (keep_v hf291 (keep_v hf292 (keep_v hf293 trivial))))))) ?_
                  refine d_q (i := 18) (v := .pointer (some ⟨j79_b64, 0, none⟩)) (fun _ => True) (fun _ ho => trivial) rfl (by decide +kernel) (by decide +kernel) (by decide +kernel) rfl rfl (fun wq hq => (x_fieldAt fd27_0 ty22 rfl r86_10)) (of_ne rfl (of_ne rfl (of_ne rfl (of_ne rfl (of_ne rfl (of_ne rfl (of_nil _ _))))))) ?_
                  refine ra_one (i := 16) (by decide +kernel) ?_
                  intro wd294 gd294
                  have S295 := S287.keep gd294
                  have hf296 := (CFs ⟨j79_b64, 0, none⟩ [v_t_0]).2 _ _ gd294 hf288
                  have hf297 := (CFs ⟨b1, 0, none⟩ [.slice A0_0 m.spots.length c0_0]).2 _ _ gd294 hf289
                  have hf298 := (CFs ad90 (encSpot (at_ m.spots t47))).2 _ _ gd294 hf290
                  have hf299 := (CFs ⟨j79_b64, 3, none⟩ [v_t_3]).2 _ _ gd294 hf291
                  have hf300 := (CFs ⟨b1, 3, none⟩ [.slice A0_3 m.last.length c0_3]).2 _ _ gd294 hf292
                  have hf301 := (CFs ad91 [.bool (at_ m.last t47)]).2 _ _ gd294 hf293
                  obtain ⟨v302, w302, r302, g302, T302⟩ := e_build_ones (kd := Kd.bool) (xs := ([at_ m.last t47] : List Bool)) (len := 1) [.bool (at_ m.last t47)] S295 u25 ty4 rfl rfl rfl rfl rfl (ones_cons rfl ones_nil) [.bool (at_ m.last t47)] (Elems.single (k := Kd.bool) (h := h86) (x := at_ m.last t47) (cs := [.bool (at_ m.last t47)]) ⟨rfl, trivial⟩) rfl
                  have S303 : St w.heap.size w h86 w302 [box b1 27 [.slice A0_0 m.spots.length c0_0, .slice A0_1 m.first.length c0_1, .slice A0_2 m.follow.length c0_2, .slice A0_3 m.last.length c0_3, .bool m.empty], box b3 27 [.slice none 0 0, .slice none 0 0, .slice none 0 0, .slice none 0 0, .bool false], box b20 25 [.slice A42 (keepM m).length c42], box b28 23 [.slice A44 number.length c44], row 3 (Kd.int .i64) j79_v56_0 (leftN (keepM m) number m.first), box j79_b64 27 [v_t_0, j79_v56_0, v_t_2, v_t_3, .bool m.empty], row 55 kSpot v286 (t_0 ++ ([at_ m.spots t47] : List Spot)), row 23 (Kd.int .i64).slice v_t_2 t_2, row 4 Kd.bool v_t_3 t_3, row 55 kSpot v268 ([at_ m.spots t47] : List Spot), row 4 Kd.bool v302 ([at_ m.last t47] : List Bool)] := T302
                  have hf304 := (CFs ⟨j79_b64, 0, none⟩ [v_t_0]).2 _ _ g302 hf296
                  have hf305 := (CFs ⟨b1, 0, none⟩ [.slice A0_0 m.spots.length c0_0]).2 _ _ g302 hf297
                  have hf306 := (CFs ad90 (encSpot (at_ m.spots t47))).2 _ _ g302 hf298
                  have hf307 := (CFs ⟨j79_b64, 3, none⟩ [v_t_3]).2 _ _ g302 hf299
                  have hf308 := (CFs ⟨b1, 3, none⟩ [.slice A0_3 m.last.length c0_3]).2 _ _ g302 hf300
                  have hf309 := (CFs ad91 [.bool (at_ m.last t47)]).2 _ _ g302 hf301
                  refine d_v (v := v302) rfl rfl rfl (y_build_slice (pv := [(0, .bool (at_ m.last t47))]) rfl r302) (.inl g302) ?_
                  refine ra_one (i := 17) (by decide +kernel) ?_
                  intro wd310 gd310
                  have S311 := S303.keep gd310
                  have hf312 := (CFs ⟨j79_b64, 0, none⟩ [v_t_0]).2 _ _ gd310 hf304
                  have hf313 := (CFs ⟨b1, 0, none⟩ [.slice A0_0 m.spots.length c0_0]).2 _ _ gd310 hf305
                  have hf314 := (CFs ad90 (encSpot (at_ m.spots t47))).2 _ _ gd310 hf306
                  have hf315 := (CFs ⟨j79_b64, 3, none⟩ [v_t_3]).2 _ _ gd310 hf307
                  have hf316 := (CFs ⟨b1, 3, none⟩ [.slice A0_3 m.last.length c0_3]).2 _ _ gd310 hf308
                  have hf317 := (CFs ad91 [.bool (at_ m.last t47)]).2 _ _ gd310 hf309
                  obtain ⟨A319, c319, ev319, lc319, cm319⟩ := S311.row_val (j := 10) rfl
                  obtain ⟨v320, w320, r320, g320, T320⟩ := e_append (kd := Kd.bool) (A := A319) (c := c319) (ys := ([at_ m.last t47] : List Bool)) (len := ([at_ m.last t47] : List Bool).length) 25 S311 u25 ty4 rfl rfl (j := 8) rfl rfl (news_own S311 (j := 10) rfl ev319) (by first|omega|(simp;omega)|assumption) (by first|omega|(simp;omega)|assumption)
                  have S321 : St w.heap.size w h86 w320 [box b1 27 [.slice A0_0 m.spots.length c0_0, .slice A0_1 m.first.length c0_1, .slice A0_2 m.follow.length c0_2, .slice A0_3 m.last.length c0_3, .bool m.empty], box b3 27 [.slice none 0 0, .slice none 0 0, .slice none 0 0, .slice none 0 0, .bool false], box b20 25 [.slice A42 (keepM m).length c42], box b28 23 [.slice A44 number.length c44], row 3 (Kd.int .i64) j79_v56_0 (leftN (keepM m) number m.first), box j79_b64 27 [v_t_0, j79_v56_0, v_t_2, v_t_3, .bool m.empty], row 55 kSpot v286 (t_0 ++ ([at_ m.spots t47] : List Spot)), row 23 (Kd.int .i64).slice v_t_2 t_2, row 4 Kd.bool v320 (t_3 ++ ([at_ m.last t47] : List Bool)), row 55 kSpot v268 ([at_ m.spots t47] : List Spot), row 4 Kd.bool v302 ([at_ m.last t47] : List Bool)] := T320
                  have hf322 : (CFs ⟨j79_b64, 0, none⟩ [v_t_0]).1 w320 := (CF.box (m := 1) (S321.box_at (j := 5) rfl) rfl)
                  have hf323 : (CFs ⟨b1, 0, none⟩ [.slice A0_0 m.spots.length c0_0]).1 w320 := (CF.box (m := 1) (S321.box_at (j := 0) rfl) rfl)
                  have hf324 : (CFs ad90 (encSpot (at_ m.spots t47))).1 w320 := (CF.ghost ce90 (St.le0 S321))
                  have hf325 : (CFs ⟨j79_b64, 3, none⟩ [v_t_3]).1 w320 := (CF.box (m := 1) (S321.box_at (j := 5) rfl) rfl)
                  have hf326 : (CFs ⟨b1, 3, none⟩ [.slice A0_3 m.last.length c0_3]).1 w320 := (CF.box (m := 1) (S321.box_at (j := 0) rfl) rfl)
                  have hf327 : (CFs ad91 [.bool (at_ m.last t47)]).1 w320 := (CF.ghost ce91 (St.le0 S321))
                  refine d_v (v := v320) rfl rfl rfl (x_append rfl ev319 r320) (.inr (keep_v hf322 (keep_v hf323 (keep_v hf324 (keep_w (by decide +kernel) (keep_v hf326 (keep_v hf327 trivial))))))) ?_
                  refine ra_one (i := 19) (by decide +kernel) ?_
                  intro wd328 gd328
                  have S329 := S321.keep gd328
                  have hf330 := (CFs ⟨j79_b64, 0, none⟩ [v_t_0]).2 _ _ gd328 hf322
                  have hf331 := (CFs ⟨b1, 0, none⟩ [.slice A0_0 m.spots.length c0_0]).2 _ _ gd328 hf323
                  have hf332 := (CFs ad90 (encSpot (at_ m.spots t47))).2 _ _ gd328 hf324
                  have hf333 := (CFs ⟨j79_b64, 3, none⟩ [v_t_3]).2 _ _ gd328 hf325
                  have hf334 := (CFs ⟨b1, 3, none⟩ [.slice A0_3 m.last.length c0_3]).2 _ _ gd328 hf326
                  have hf335 := (CFs ad91 [.bool (at_ m.last t47)]).2 _ _ gd328 hf327
                  have oc337 := row_one S329 (j := 6) rfl
                  obtain ⟨w336, r336, g336, T336⟩ := e_store (P := Tryd.prog) (off := 0) (v := v286) (vs := [v286]) S329 ty22 (row_cells S329 (j := 6) rfl) rfl (j := 5) rfl (by first | decide | exact Nat.le_of_ble_eq_true rfl) (one_cons oc337 one_nil)
                  have S338 : St w.heap.size w h86 w336 [box b1 27 [.slice A0_0 m.spots.length c0_0, .slice A0_1 m.first.length c0_1, .slice A0_2 m.follow.length c0_2, .slice A0_3 m.last.length c0_3, .bool m.empty], box b3 27 [.slice none 0 0, .slice none 0 0, .slice none 0 0, .slice none 0 0, .bool false], box b20 25 [.slice A42 (keepM m).length c42], box b28 23 [.slice A44 number.length c44], row 3 (Kd.int .i64) j79_v56_0 (leftN (keepM m) number m.first), box j79_b64 27 [v286, j79_v56_0, v_t_2, v_t_3, .bool m.empty], row 55 kSpot v286 (t_0 ++ ([at_ m.spots t47] : List Spot)), row 23 (Kd.int .i64).slice v_t_2 t_2, row 4 Kd.bool v320 (t_3 ++ ([at_ m.last t47] : List Bool)), row 55 kSpot v268 ([at_ m.spots t47] : List Spot), row 4 Kd.bool v302 ([at_ m.last t47] : List Bool)] := T336
                  have hf339 : (CFs ⟨b1, 0, none⟩ [.slice A0_0 m.spots.length c0_0]).1 w336 := (CF.box (m := 1) (S338.box_at (j := 0) rfl) rfl)
                  have hf340 : (CFs ad90 (encSpot (at_ m.spots t47))).1 w336 := (CF.ghost ce90 (St.le0 S338))
                  have hf341 : (CFs ⟨b1, 3, none⟩ [.slice A0_3 m.last.length c0_3]).1 w336 := (CF.box (m := 1) (S338.box_at (j := 0) rfl) rfl)
                  have hf342 : (CFs ad91 [.bool (at_ m.last t47)]).1 w336 := (CF.ghost ce91 (St.le0 S338))
                  refine d_s rfl rfl (x_store rfl rfl r336) (.inr (keep_w (by decide +kernel) (keep_w (by decide +kernel) (keep_w (by decide +kernel) (keep_w (by decide +kernel) (keep_v hf341 (keep_v hf342 trivial))))))) ?_
                  refine d_q (i := 20) (v := .pointer (some ⟨j79_b64, 3, none⟩)) (fun _ => True) (fun _ ho => trivial) rfl (by decide +kernel) (by decide +kernel) (by decide +kernel) rfl rfl (fun wq hq => (x_fieldAt fd27_3 ty25 rfl r86_10)) (of_ne rfl (of_ne rfl (of_ne rfl (of_ne rfl (of_ne rfl (of_ne rfl (of_nil _ _))))))) ?_
                  refine ra_one (i := 21) (by decide +kernel) ?_
                  intro wd343 gd343
                  have S344 := S338.keep gd343
                  have hf345 := (CFs ⟨b1, 0, none⟩ [.slice A0_0 m.spots.length c0_0]).2 _ _ gd343 hf339
                  have hf346 := (CFs ad90 (encSpot (at_ m.spots t47))).2 _ _ gd343 hf340
                  have hf347 := (CFs ⟨b1, 3, none⟩ [.slice A0_3 m.last.length c0_3]).2 _ _ gd343 hf341
                  have hf348 := (CFs ad91 [.bool (at_ m.last t47)]).2 _ _ gd343 hf342
                  have oc350 := row_one S344 (j := 8) rfl
                  obtain ⟨w349, r349, g349, T349⟩ := e_store (P := Tryd.prog) (off := 3) (v := v320) (vs := [v320]) S344 ty25 (row_cells S344 (j := 8) rfl) rfl (j := 5) rfl (by first | decide | exact Nat.le_of_ble_eq_true rfl) (one_cons oc350 one_nil)
                  have S351 : St w.heap.size w h86 w349 [box b1 27 [.slice A0_0 m.spots.length c0_0, .slice A0_1 m.first.length c0_1, .slice A0_2 m.follow.length c0_2, .slice A0_3 m.last.length c0_3, .bool m.empty], box b3 27 [.slice none 0 0, .slice none 0 0, .slice none 0 0, .slice none 0 0, .bool false], box b20 25 [.slice A42 (keepM m).length c42], box b28 23 [.slice A44 number.length c44], row 3 (Kd.int .i64) j79_v56_0 (leftN (keepM m) number m.first), box j79_b64 27 [v286, j79_v56_0, v_t_2, v320, .bool m.empty], row 55 kSpot v286 (t_0 ++ ([at_ m.spots t47] : List Spot)), row 23 (Kd.int .i64).slice v_t_2 t_2, row 4 Kd.bool v320 (t_3 ++ ([at_ m.last t47] : List Bool)), row 55 kSpot v268 ([at_ m.spots t47] : List Spot), row 4 Kd.bool v302 ([at_ m.last t47] : List Bool)] := T349
                  have hf352 : (CFs ⟨b1, 0, none⟩ [.slice A0_0 m.spots.length c0_0]).1 w349 := (CF.box (m := 1) (S351.box_at (j := 0) rfl) rfl)
                  have hf353 : (CFs ad90 (encSpot (at_ m.spots t47))).1 w349 := (CF.ghost ce90 (St.le0 S351))
                  have hf354 : (CFs ⟨b1, 3, none⟩ [.slice A0_3 m.last.length c0_3]).1 w349 := (CF.box (m := 1) (S351.box_at (j := 0) rfl) rfl)
                  have hf355 : (CFs ad91 [.bool (at_ m.last t47)]).1 w349 := (CF.ghost ce91 (St.le0 S351))
                  refine d_s rfl rfl (x_store rfl rfl r349) (.inr (keep_w (by decide +kernel) (keep_w (by decide +kernel) (keep_w (by decide +kernel) (keep_w (by decide +kernel) (keep_w (by decide +kernel) (keep_w (by decide +kernel) trivial))))))) ?_
                  refine ra_done (by decide +kernel) ?_
                  intro wd356 gd356
                  have S357 := S351.keep gd356
                  exact jn204 _ _ ⟨h86, v286, v320, (Le.refl _), S357.sub [0, 1, 2, 3, 4, 5, 6, 7, 8] (by decide) rfl _ rfl, r86_1, r86_2, r86_9, r86_10, rfl, r86_45, r86_46, r86_47⟩
                · skip
                  intro wd358 gd358
                  have S359 := S269.keep gd358
                  have hf360 := (CFs ⟨j79_b64, 0, none⟩ [v_t_0]).2 _ _ gd358 hf270
                  have hf361 := (CFs ⟨b1, 0, none⟩ [.slice A0_0 m.spots.length c0_0]).2 _ _ gd358 hf271
                  have hf362 := (CFs ad90 (encSpot (at_ m.spots t47))).2 _ _ gd358 hf272
                  have hf363 := (CFs ⟨j79_b64, 3, none⟩ [v_t_3]).2 _ _ gd358 hf273
                  have hf364 := (CFs ⟨b1, 3, none⟩ [.slice A0_3 m.last.length c0_3]).2 _ _ gd358 hf274
                  have hf365 := (CFs ad91 [.bool (at_ m.last t47)]).2 _ _ gd358 hf275
                  obtain ⟨v366, w366, r366, g366, T366⟩ := e_build_ones (kd := Kd.bool) (xs := ([at_ m.last t47] : List Bool)) (len := 1) [.bool (at_ m.last t47)] S359 u25 ty4 rfl rfl rfl rfl rfl (ones_cons rfl ones_nil) [.bool (at_ m.last t47)] (Elems.single (k := Kd.bool) (h := h86) (x := at_ m.last t47) (cs := [.bool (at_ m.last t47)]) ⟨rfl, trivial⟩) rfl
                  have S367 : St w.heap.size w h86 w366 [box b1 27 [.slice A0_0 m.spots.length c0_0, .slice A0_1 m.first.length c0_1, .slice A0_2 m.follow.length c0_2, .slice A0_3 m.last.length c0_3, .bool m.empty], box b3 27 [.slice none 0 0, .slice none 0 0, .slice none 0 0, .slice none 0 0, .bool false], box b20 25 [.slice A42 (keepM m).length c42], box b28 23 [.slice A44 number.length c44], row 3 (Kd.int .i64) j79_v56_0 (leftN (keepM m) number m.first), box j79_b64 27 [v_t_0, j79_v56_0, v_t_2, v_t_3, .bool m.empty], row 55 kSpot v_t_0 t_0, row 23 (Kd.int .i64).slice v_t_2 t_2, row 4 Kd.bool v_t_3 t_3, row 55 kSpot v268 ([at_ m.spots t47] : List Spot), row 4 Kd.bool v366 ([at_ m.last t47] : List Bool)] := T366
                  have hf368 := (CFs ⟨j79_b64, 0, none⟩ [v_t_0]).2 _ _ g366 hf360
                  have hf369 := (CFs ⟨b1, 0, none⟩ [.slice A0_0 m.spots.length c0_0]).2 _ _ g366 hf361
                  have hf370 := (CFs ad90 (encSpot (at_ m.spots t47))).2 _ _ g366 hf362
                  have hf371 := (CFs ⟨j79_b64, 3, none⟩ [v_t_3]).2 _ _ g366 hf363
                  have hf372 := (CFs ⟨b1, 3, none⟩ [.slice A0_3 m.last.length c0_3]).2 _ _ g366 hf364
                  have hf373 := (CFs ad91 [.bool (at_ m.last t47)]).2 _ _ g366 hf365
                  refine d_v (v := v366) rfl rfl rfl (y_build_slice (pv := [(0, .bool (at_ m.last t47))]) rfl r366) (.inl g366) ?_
                  refine ra_one (i := 8) (by decide +kernel) ?_
                  intro wd374 gd374
                  have S375 := S367.keep gd374
                  have hf376 := (CFs ⟨j79_b64, 0, none⟩ [v_t_0]).2 _ _ gd374 hf368
                  have hf377 := (CFs ⟨b1, 0, none⟩ [.slice A0_0 m.spots.length c0_0]).2 _ _ gd374 hf369
                  have hf378 := (CFs ad90 (encSpot (at_ m.spots t47))).2 _ _ gd374 hf370
                  have hf379 := (CFs ⟨j79_b64, 3, none⟩ [v_t_3]).2 _ _ gd374 hf371
                  have hf380 := (CFs ⟨b1, 3, none⟩ [.slice A0_3 m.last.length c0_3]).2 _ _ gd374 hf372
                  have hf381 := (CFs ad91 [.bool (at_ m.last t47)]).2 _ _ gd374 hf373
                  obtain ⟨A383, c383, ev383, lc383, cm383⟩ := S375.row_val (j := 9) rfl
                  obtain ⟨v384, w384, r384, g384, T384⟩ := e_append (kd := kSpot) (A := A383) (c := c383) (ys := ([at_ m.spots t47] : List Spot)) (len := ([at_ m.spots t47] : List Spot).length) 22 S375 u22 ty55 rfl rfl (j := 6) rfl rfl (news_own S375 (j := 9) rfl ev383) (by first|omega|(simp;omega)|assumption) (by first|omega|(simp;omega)|assumption)
                  have S385 : St w.heap.size w h86 w384 [box b1 27 [.slice A0_0 m.spots.length c0_0, .slice A0_1 m.first.length c0_1, .slice A0_2 m.follow.length c0_2, .slice A0_3 m.last.length c0_3, .bool m.empty], box b3 27 [.slice none 0 0, .slice none 0 0, .slice none 0 0, .slice none 0 0, .bool false], box b20 25 [.slice A42 (keepM m).length c42], box b28 23 [.slice A44 number.length c44], row 3 (Kd.int .i64) j79_v56_0 (leftN (keepM m) number m.first), box j79_b64 27 [v_t_0, j79_v56_0, v_t_2, v_t_3, .bool m.empty], row 55 kSpot v384 (t_0 ++ ([at_ m.spots t47] : List Spot)), row 23 (Kd.int .i64).slice v_t_2 t_2, row 4 Kd.bool v_t_3 t_3, row 55 kSpot v268 ([at_ m.spots t47] : List Spot), row 4 Kd.bool v366 ([at_ m.last t47] : List Bool)] := T384
                  have hf386 : (CFs ⟨j79_b64, 0, none⟩ [v_t_0]).1 w384 := (CF.box (m := 1) (S385.box_at (j := 5) rfl) rfl)
                  have hf387 : (CFs ⟨b1, 0, none⟩ [.slice A0_0 m.spots.length c0_0]).1 w384 := (CF.box (m := 1) (S385.box_at (j := 0) rfl) rfl)
                  have hf388 : (CFs ad90 (encSpot (at_ m.spots t47))).1 w384 := (CF.ghost ce90 (St.le0 S385))
                  have hf389 : (CFs ⟨j79_b64, 3, none⟩ [v_t_3]).1 w384 := (CF.box (m := 1) (S385.box_at (j := 5) rfl) rfl)
                  have hf390 : (CFs ⟨b1, 3, none⟩ [.slice A0_3 m.last.length c0_3]).1 w384 := (CF.box (m := 1) (S385.box_at (j := 0) rfl) rfl)
                  have hf391 : (CFs ad91 [.bool (at_ m.last t47)]).1 w384 := (CF.ghost ce91 (St.le0 S385))
                  refine d_v (v := v384) rfl rfl rfl (x_append rfl ev383 r384) (.inr (keep_w (by decide +kernel) (keep_v hf387 (keep_v hf388 (keep_v hf389 (keep_v hf390 (keep_v hf391 trivial))))))) ?_
                  refine d_q (i := 18) (v := .pointer (some ⟨j79_b64, 0, none⟩)) (fun _ => True) (fun _ ho => trivial) rfl (by decide +kernel) (by decide +kernel) (by decide +kernel) rfl rfl (fun wq hq => (x_fieldAt fd27_0 ty22 rfl r86_10)) (of_ne rfl (of_ne rfl (of_ne rfl (of_ne rfl (of_ne rfl (of_ne rfl (of_nil _ _))))))) ?_
                  refine ra_one (i := 17) (by decide +kernel) ?_
                  intro wd392 gd392
                  have S393 := S385.keep gd392
                  have hf394 := (CFs ⟨j79_b64, 0, none⟩ [v_t_0]).2 _ _ gd392 hf386
                  have hf395 := (CFs ⟨b1, 0, none⟩ [.slice A0_0 m.spots.length c0_0]).2 _ _ gd392 hf387
                  have hf396 := (CFs ad90 (encSpot (at_ m.spots t47))).2 _ _ gd392 hf388
                  have hf397 := (CFs ⟨j79_b64, 3, none⟩ [v_t_3]).2 _ _ gd392 hf389
                  have hf398 := (CFs ⟨b1, 3, none⟩ [.slice A0_3 m.last.length c0_3]).2 _ _ gd392 hf390
                  have hf399 := (CFs ad91 [.bool (at_ m.last t47)]).2 _ _ gd392 hf391
                  obtain ⟨A401, c401, ev401, lc401, cm401⟩ := S393.row_val (j := 10) rfl
                  obtain ⟨v402, w402, r402, g402, T402⟩ := e_append (kd := Kd.bool) (A := A401) (c := c401) (ys := ([at_ m.last t47] : List Bool)) (len := ([at_ m.last t47] : List Bool).length) 25 S393 u25 ty4 rfl rfl (j := 8) rfl rfl (news_own S393 (j := 10) rfl ev401) (by first|omega|(simp;omega)|assumption) (by first|omega|(simp;omega)|assumption)
                  have S403 : St w.heap.size w h86 w402 [box b1 27 [.slice A0_0 m.spots.length c0_0, .slice A0_1 m.first.length c0_1, .slice A0_2 m.follow.length c0_2, .slice A0_3 m.last.length c0_3, .bool m.empty], box b3 27 [.slice none 0 0, .slice none 0 0, .slice none 0 0, .slice none 0 0, .bool false], box b20 25 [.slice A42 (keepM m).length c42], box b28 23 [.slice A44 number.length c44], row 3 (Kd.int .i64) j79_v56_0 (leftN (keepM m) number m.first), box j79_b64 27 [v_t_0, j79_v56_0, v_t_2, v_t_3, .bool m.empty], row 55 kSpot v384 (t_0 ++ ([at_ m.spots t47] : List Spot)), row 23 (Kd.int .i64).slice v_t_2 t_2, row 4 Kd.bool v402 (t_3 ++ ([at_ m.last t47] : List Bool)), row 55 kSpot v268 ([at_ m.spots t47] : List Spot), row 4 Kd.bool v366 ([at_ m.last t47] : List Bool)] := T402
                  have hf404 : (CFs ⟨j79_b64, 0, none⟩ [v_t_0]).1 w402 := (CF.box (m := 1) (S403.box_at (j := 5) rfl) rfl)
                  have hf405 : (CFs ⟨b1, 0, none⟩ [.slice A0_0 m.spots.length c0_0]).1 w402 := (CF.box (m := 1) (S403.box_at (j := 0) rfl) rfl)
                  have hf406 : (CFs ad90 (encSpot (at_ m.spots t47))).1 w402 := (CF.ghost ce90 (St.le0 S403))
                  have hf407 : (CFs ⟨j79_b64, 3, none⟩ [v_t_3]).1 w402 := (CF.box (m := 1) (S403.box_at (j := 5) rfl) rfl)
                  have hf408 : (CFs ⟨b1, 3, none⟩ [.slice A0_3 m.last.length c0_3]).1 w402 := (CF.box (m := 1) (S403.box_at (j := 0) rfl) rfl)
                  have hf409 : (CFs ad91 [.bool (at_ m.last t47)]).1 w402 := (CF.ghost ce91 (St.le0 S403))
                  refine d_v (v := v402) rfl rfl rfl (x_append rfl ev401 r402) (.inr (keep_v hf404 (keep_v hf405 (keep_v hf406 (keep_w (by decide +kernel) (keep_v hf408 (keep_v hf409 trivial))))))) ?_
                  refine ra_one (i := 19) (by decide +kernel) ?_
                  intro wd410 gd410
                  have S411 := S403.keep gd410
                  have hf412 := (CFs ⟨j79_b64, 0, none⟩ [v_t_0]).2 _ _ gd410 hf404
                  have hf413 := (CFs ⟨b1, 0, none⟩ [.slice A0_0 m.spots.length c0_0]).2 _ _ gd410 hf405
                  have hf414 := (CFs ad90 (encSpot (at_ m.spots t47))).2 _ _ gd410 hf406
                  have hf415 := (CFs ⟨j79_b64, 3, none⟩ [v_t_3]).2 _ _ gd410 hf407
                  have hf416 := (CFs ⟨b1, 3, none⟩ [.slice A0_3 m.last.length c0_3]).2 _ _ gd410 hf408
                  have hf417 := (CFs ad91 [.bool (at_ m.last t47)]).2 _ _ gd410 hf409
                  have oc419 := row_one S411 (j := 6) rfl
                  obtain ⟨w418, r418, g418, T418⟩ := e_store (P := Tryd.prog) (off := 0) (v := v384) (vs := [v384]) S411 ty22 (row_cells S411 (j := 6) rfl) rfl (j := 5) rfl (by first | decide | exact Nat.le_of_ble_eq_true rfl) (one_cons oc419 one_nil)
                  have S420 : St w.heap.size w h86 w418 [box b1 27 [.slice A0_0 m.spots.length c0_0, .slice A0_1 m.first.length c0_1, .slice A0_2 m.follow.length c0_2, .slice A0_3 m.last.length c0_3, .bool m.empty], box b3 27 [.slice none 0 0, .slice none 0 0, .slice none 0 0, .slice none 0 0, .bool false], box b20 25 [.slice A42 (keepM m).length c42], box b28 23 [.slice A44 number.length c44], row 3 (Kd.int .i64) j79_v56_0 (leftN (keepM m) number m.first), box j79_b64 27 [v384, j79_v56_0, v_t_2, v_t_3, .bool m.empty], row 55 kSpot v384 (t_0 ++ ([at_ m.spots t47] : List Spot)), row 23 (Kd.int .i64).slice v_t_2 t_2, row 4 Kd.bool v402 (t_3 ++ ([at_ m.last t47] : List Bool)), row 55 kSpot v268 ([at_ m.spots t47] : List Spot), row 4 Kd.bool v366 ([at_ m.last t47] : List Bool)] := T418
                  have hf421 : (CFs ⟨b1, 0, none⟩ [.slice A0_0 m.spots.length c0_0]).1 w418 := (CF.box (m := 1) (S420.box_at (j := 0) rfl) rfl)
                  have hf422 : (CFs ad90 (encSpot (at_ m.spots t47))).1 w418 := (CF.ghost ce90 (St.le0 S420))
                  have hf423 : (CFs ⟨b1, 3, none⟩ [.slice A0_3 m.last.length c0_3]).1 w418 := (CF.box (m := 1) (S420.box_at (j := 0) rfl) rfl)
                  have hf424 : (CFs ad91 [.bool (at_ m.last t47)]).1 w418 := (CF.ghost ce91 (St.le0 S420))
                  refine d_s rfl rfl (x_store rfl rfl r418) (.inr (keep_w (by decide +kernel) (keep_w (by decide +kernel) (keep_w (by decide +kernel) (keep_w (by decide +kernel) (keep_v hf423 (keep_v hf424 trivial))))))) ?_
                  refine d_q (i := 20) (v := .pointer (some ⟨j79_b64, 3, none⟩)) (fun _ => True) (fun _ ho => trivial) rfl (by decide +kernel) (by decide +kernel) (by decide +kernel) rfl rfl (fun wq hq => (x_fieldAt fd27_3 ty25 rfl r86_10)) (of_ne rfl (of_ne rfl (of_ne rfl (of_ne rfl (of_ne rfl (of_ne rfl (of_nil _ _))))))) ?_
                  refine ra_one (i := 21) (by decide +kernel) ?_
                  intro wd425 gd425
                  have S426 := S420.keep gd425
                  have hf427 := (CFs ⟨b1, 0, none⟩ [.slice A0_0 m.spots.length c0_0]).2 _ _ gd425 hf421
                  have hf428 := (CFs ad90 (encSpot (at_ m.spots t47))).2 _ _ gd425 hf422
                  have hf429 := (CFs ⟨b1, 3, none⟩ [.slice A0_3 m.last.length c0_3]).2 _ _ gd425 hf423
                  have hf430 := (CFs ad91 [.bool (at_ m.last t47)]).2 _ _ gd425 hf424
                  have oc432 := row_one S426 (j := 8) rfl
                  obtain ⟨w431, r431, g431, T431⟩ := e_store (P := Tryd.prog) (off := 3) (v := v402) (vs := [v402]) S426 ty25 (row_cells S426 (j := 8) rfl) rfl (j := 5) rfl (by first | decide | exact Nat.le_of_ble_eq_true rfl) (one_cons oc432 one_nil)
                  have S433 : St w.heap.size w h86 w431 [box b1 27 [.slice A0_0 m.spots.length c0_0, .slice A0_1 m.first.length c0_1, .slice A0_2 m.follow.length c0_2, .slice A0_3 m.last.length c0_3, .bool m.empty], box b3 27 [.slice none 0 0, .slice none 0 0, .slice none 0 0, .slice none 0 0, .bool false], box b20 25 [.slice A42 (keepM m).length c42], box b28 23 [.slice A44 number.length c44], row 3 (Kd.int .i64) j79_v56_0 (leftN (keepM m) number m.first), box j79_b64 27 [v384, j79_v56_0, v_t_2, v402, .bool m.empty], row 55 kSpot v384 (t_0 ++ ([at_ m.spots t47] : List Spot)), row 23 (Kd.int .i64).slice v_t_2 t_2, row 4 Kd.bool v402 (t_3 ++ ([at_ m.last t47] : List Bool)), row 55 kSpot v268 ([at_ m.spots t47] : List Spot), row 4 Kd.bool v366 ([at_ m.last t47] : List Bool)] := T431
                  have hf434 : (CFs ⟨b1, 0, none⟩ [.slice A0_0 m.spots.length c0_0]).1 w431 := (CF.box (m := 1) (S433.box_at (j := 0) rfl) rfl)
                  have hf435 : (CFs ad90 (encSpot (at_ m.spots t47))).1 w431 := (CF.ghost ce90 (St.le0 S433))
                  have hf436 : (CFs ⟨b1, 3, none⟩ [.slice A0_3 m.last.length c0_3]).1 w431 := (CF.box (m := 1) (S433.box_at (j := 0) rfl) rfl)
                  have hf437 : (CFs ad91 [.bool (at_ m.last t47)]).1 w431 := (CF.ghost ce91 (St.le0 S433))
                  refine d_s rfl rfl (x_store rfl rfl r431) (.inr (keep_w (by decide +kernel) (keep_w (by decide +kernel) (keep_w (by decide +kernel) (keep_w (by decide +kernel) (keep_w (by decide +kernel) (keep_w (by decide +kernel) trivial))))))) ?_
                  refine ra_done (by decide +kernel) ?_
                  intro wd438 gd438
                  have S439 := S433.keep gd438
                  exact jn204 _ _ ⟨h86, v384, v402, (Le.refl _), S439.sub [0, 1, 2, 3, 4, 5, 6, 7, 8] (by decide) rfl _ rfl, r86_1, r86_2, r86_9, r86_10, rfl, r86_45, r86_46, r86_47⟩
              · skip
                intro wd440 gd440
                have S441 := S99.keep gd440
                have hf442 := (CFs ⟨j79_b64, 0, none⟩ [v_t_0]).2 _ _ gd440 hf100
                have hf443 := (CFs ⟨b1, 0, none⟩ [.slice A0_0 m.spots.length c0_0]).2 _ _ gd440 hf101
                have hf444 := (CFs ad90 (encSpot (at_ m.spots t47))).2 _ _ gd440 hf102
                have hf445 := (CFs ⟨j79_b64, 3, none⟩ [v_t_3]).2 _ _ gd440 hf103
                have hf446 := (CFs ⟨b1, 3, none⟩ [.slice A0_3 m.last.length c0_3]).2 _ _ gd440 hf104
                have hf447 := (CFs ad91 [.bool (at_ m.last t47)]).2 _ _ gd440 hf105
                obtain ⟨v448, w448, r448, g448, T448⟩ := e_build_ones (kd := Kd.bool) (xs := ([at_ m.last t47] : List Bool)) (len := 1) [.bool (at_ m.last t47)] S441 u25 ty4 rfl rfl rfl rfl rfl (ones_cons rfl ones_nil) [.bool (at_ m.last t47)] (Elems.single (k := Kd.bool) (h := h86) (x := at_ m.last t47) (cs := [.bool (at_ m.last t47)]) ⟨rfl, trivial⟩) rfl
                have S449 : St w.heap.size w h86 w448 [box b1 27 [.slice A0_0 m.spots.length c0_0, .slice A0_1 m.first.length c0_1, .slice A0_2 m.follow.length c0_2, .slice A0_3 m.last.length c0_3, .bool m.empty], box b3 27 [.slice none 0 0, .slice none 0 0, .slice none 0 0, .slice none 0 0, .bool false], box b20 25 [.slice A42 (keepM m).length c42], box b28 23 [.slice A44 number.length c44], row 3 (Kd.int .i64) j79_v56_0 (leftN (keepM m) number m.first), box j79_b64 27 [v_t_0, j79_v56_0, v_t_2, v_t_3, .bool m.empty], row 55 kSpot v_t_0 t_0, row 23 (Kd.int .i64).slice v_t_2 t_2, row 4 Kd.bool v_t_3 t_3, row 4 Kd.bool v448 ([at_ m.last t47] : List Bool)] := T448
                have hf450 := (CFs ⟨j79_b64, 0, none⟩ [v_t_0]).2 _ _ g448 hf442
                have hf451 := (CFs ⟨b1, 0, none⟩ [.slice A0_0 m.spots.length c0_0]).2 _ _ g448 hf443
                have hf452 := (CFs ad90 (encSpot (at_ m.spots t47))).2 _ _ g448 hf444
                have hf453 := (CFs ⟨j79_b64, 3, none⟩ [v_t_3]).2 _ _ g448 hf445
                have hf454 := (CFs ⟨b1, 3, none⟩ [.slice A0_3 m.last.length c0_3]).2 _ _ g448 hf446
                have hf455 := (CFs ad91 [.bool (at_ m.last t47)]).2 _ _ g448 hf447
                refine d_v (v := v448) rfl rfl rfl (y_build_slice (pv := [(0, .bool (at_ m.last t47))]) rfl r448) (.inl g448) ?_
                refine ra_one (i := 7) (by decide +kernel) ?_
                intro wd456 gd456
                have S457 := S449.keep gd456
                have hf458 := (CFs ⟨j79_b64, 0, none⟩ [v_t_0]).2 _ _ gd456 hf450
                have hf459 := (CFs ⟨b1, 0, none⟩ [.slice A0_0 m.spots.length c0_0]).2 _ _ gd456 hf451
                have hf460 := (CFs ad90 (encSpot (at_ m.spots t47))).2 _ _ gd456 hf452
                have hf461 := (CFs ⟨j79_b64, 3, none⟩ [v_t_3]).2 _ _ gd456 hf453
                have hf462 := (CFs ⟨b1, 3, none⟩ [.slice A0_3 m.last.length c0_3]).2 _ _ gd456 hf454
                have hf463 := (CFs ad91 [.bool (at_ m.last t47)]).2 _ _ gd456 hf455
                obtain ⟨v464, w464, r464, g464, T464⟩ := e_build_segs (kd := kSpot) (xs := ([at_ m.spots t47] : List Spot)) (len := 1) (m := 5) [(.agg (encSpot (at_ m.spots t47)).toArray, (encSpot (at_ m.spots t47)))] S457 u22 ty55 rfl rfl rfl rfl (segs_cons rfl rfl segs_nil) (cs := (encSpot (at_ m.spots t47))) (Elems.single (k := kSpot) (h := h86) (x := at_ m.spots t47) (cs := (encSpot (at_ m.spots t47))) ⟨rfl, ok90⟩) (by simp)
                have S465 : St w.heap.size w h86 w464 [box b1 27 [.slice A0_0 m.spots.length c0_0, .slice A0_1 m.first.length c0_1, .slice A0_2 m.follow.length c0_2, .slice A0_3 m.last.length c0_3, .bool m.empty], box b3 27 [.slice none 0 0, .slice none 0 0, .slice none 0 0, .slice none 0 0, .bool false], box b20 25 [.slice A42 (keepM m).length c42], box b28 23 [.slice A44 number.length c44], row 3 (Kd.int .i64) j79_v56_0 (leftN (keepM m) number m.first), box j79_b64 27 [v_t_0, j79_v56_0, v_t_2, v_t_3, .bool m.empty], row 55 kSpot v_t_0 t_0, row 23 (Kd.int .i64).slice v_t_2 t_2, row 4 Kd.bool v_t_3 t_3, row 4 Kd.bool v448 ([at_ m.last t47] : List Bool), row 55 kSpot v464 ([at_ m.spots t47] : List Spot)] := T464
                have hf466 := (CFs ⟨j79_b64, 0, none⟩ [v_t_0]).2 _ _ g464 hf458
                have hf467 := (CFs ⟨b1, 0, none⟩ [.slice A0_0 m.spots.length c0_0]).2 _ _ g464 hf459
                have hf468 := (CFs ad90 (encSpot (at_ m.spots t47))).2 _ _ g464 hf460
                have hf469 := (CFs ⟨j79_b64, 3, none⟩ [v_t_3]).2 _ _ g464 hf461
                have hf470 := (CFs ⟨b1, 3, none⟩ [.slice A0_3 m.last.length c0_3]).2 _ _ g464 hf462
                have hf471 := (CFs ad91 [.bool (at_ m.last t47)]).2 _ _ g464 hf463
                refine d_v (v := v464) rfl rfl rfl (y_build_slice (pv := [(0, .agg (encSpot (at_ m.spots t47)).toArray)]) rfl r464) (.inl g464) ?_
                refine ra_one (i := 8) (by decide +kernel) ?_
                intro wd472 gd472
                have S473 := S465.keep gd472
                have hf474 := (CFs ⟨j79_b64, 0, none⟩ [v_t_0]).2 _ _ gd472 hf466
                have hf475 := (CFs ⟨b1, 0, none⟩ [.slice A0_0 m.spots.length c0_0]).2 _ _ gd472 hf467
                have hf476 := (CFs ad90 (encSpot (at_ m.spots t47))).2 _ _ gd472 hf468
                have hf477 := (CFs ⟨j79_b64, 3, none⟩ [v_t_3]).2 _ _ gd472 hf469
                have hf478 := (CFs ⟨b1, 3, none⟩ [.slice A0_3 m.last.length c0_3]).2 _ _ gd472 hf470
                have hf479 := (CFs ad91 [.bool (at_ m.last t47)]).2 _ _ gd472 hf471
                obtain ⟨A481, c481, ev481, lc481, cm481⟩ := S473.row_val (j := 10) rfl
                obtain ⟨v482, w482, r482, g482, T482⟩ := e_append (kd := kSpot) (A := A481) (c := c481) (ys := ([at_ m.spots t47] : List Spot)) (len := ([at_ m.spots t47] : List Spot).length) 22 S473 u22 ty55 rfl rfl (j := 6) rfl rfl (news_own S473 (j := 10) rfl ev481) (by first|omega|(simp;omega)|assumption) (by first|omega|(simp;omega)|assumption)
                have S483 : St w.heap.size w h86 w482 [box b1 27 [.slice A0_0 m.spots.length c0_0, .slice A0_1 m.first.length c0_1, .slice A0_2 m.follow.length c0_2, .slice A0_3 m.last.length c0_3, .bool m.empty], box b3 27 [.slice none 0 0, .slice none 0 0, .slice none 0 0, .slice none 0 0, .bool false], box b20 25 [.slice A42 (keepM m).length c42], box b28 23 [.slice A44 number.length c44], row 3 (Kd.int .i64) j79_v56_0 (leftN (keepM m) number m.first), box j79_b64 27 [v_t_0, j79_v56_0, v_t_2, v_t_3, .bool m.empty], row 55 kSpot v482 (t_0 ++ ([at_ m.spots t47] : List Spot)), row 23 (Kd.int .i64).slice v_t_2 t_2, row 4 Kd.bool v_t_3 t_3, row 4 Kd.bool v448 ([at_ m.last t47] : List Bool), row 55 kSpot v464 ([at_ m.spots t47] : List Spot)] := T482
                have hf484 : (CFs ⟨j79_b64, 0, none⟩ [v_t_0]).1 w482 := (CF.box (m := 1) (S483.box_at (j := 5) rfl) rfl)
                have hf485 : (CFs ⟨b1, 0, none⟩ [.slice A0_0 m.spots.length c0_0]).1 w482 := (CF.box (m := 1) (S483.box_at (j := 0) rfl) rfl)
                have hf486 : (CFs ad90 (encSpot (at_ m.spots t47))).1 w482 := (CF.ghost ce90 (St.le0 S483))
                have hf487 : (CFs ⟨j79_b64, 3, none⟩ [v_t_3]).1 w482 := (CF.box (m := 1) (S483.box_at (j := 5) rfl) rfl)
                have hf488 : (CFs ⟨b1, 3, none⟩ [.slice A0_3 m.last.length c0_3]).1 w482 := (CF.box (m := 1) (S483.box_at (j := 0) rfl) rfl)
                have hf489 : (CFs ad91 [.bool (at_ m.last t47)]).1 w482 := (CF.ghost ce91 (St.le0 S483))
                refine d_v (v := v482) rfl rfl rfl (x_append rfl ev481 r482) (.inr (keep_w (by decide +kernel) (keep_v hf485 (keep_v hf486 (keep_v hf487 (keep_v hf488 (keep_v hf489 trivial))))))) ?_
                refine d_q (i := 18) (v := .pointer (some ⟨j79_b64, 0, none⟩)) (fun _ => True) (fun _ ho => trivial) rfl (by decide +kernel) (by decide +kernel) (by decide +kernel) rfl rfl (fun wq hq => (x_fieldAt fd27_0 ty22 rfl r86_10)) (of_ne rfl (of_ne rfl (of_ne rfl (of_ne rfl (of_ne rfl (of_ne rfl (of_nil _ _))))))) ?_
                refine ra_one (i := 17) (by decide +kernel) ?_
                intro wd490 gd490
                have S491 := S483.keep gd490
                have hf492 := (CFs ⟨j79_b64, 0, none⟩ [v_t_0]).2 _ _ gd490 hf484
                have hf493 := (CFs ⟨b1, 0, none⟩ [.slice A0_0 m.spots.length c0_0]).2 _ _ gd490 hf485
                have hf494 := (CFs ad90 (encSpot (at_ m.spots t47))).2 _ _ gd490 hf486
                have hf495 := (CFs ⟨j79_b64, 3, none⟩ [v_t_3]).2 _ _ gd490 hf487
                have hf496 := (CFs ⟨b1, 3, none⟩ [.slice A0_3 m.last.length c0_3]).2 _ _ gd490 hf488
                have hf497 := (CFs ad91 [.bool (at_ m.last t47)]).2 _ _ gd490 hf489
                obtain ⟨A499, c499, ev499, lc499, cm499⟩ := S491.row_val (j := 9) rfl
                obtain ⟨v500, w500, r500, g500, T500⟩ := e_append (kd := Kd.bool) (A := A499) (c := c499) (ys := ([at_ m.last t47] : List Bool)) (len := ([at_ m.last t47] : List Bool).length) 25 S491 u25 ty4 rfl rfl (j := 8) rfl rfl (news_own S491 (j := 9) rfl ev499) (by first|omega|(simp;omega)|assumption) (by first|omega|(simp;omega)|assumption)
                have S501 : St w.heap.size w h86 w500 [box b1 27 [.slice A0_0 m.spots.length c0_0, .slice A0_1 m.first.length c0_1, .slice A0_2 m.follow.length c0_2, .slice A0_3 m.last.length c0_3, .bool m.empty], box b3 27 [.slice none 0 0, .slice none 0 0, .slice none 0 0, .slice none 0 0, .bool false], box b20 25 [.slice A42 (keepM m).length c42], box b28 23 [.slice A44 number.length c44], row 3 (Kd.int .i64) j79_v56_0 (leftN (keepM m) number m.first), box j79_b64 27 [v_t_0, j79_v56_0, v_t_2, v_t_3, .bool m.empty], row 55 kSpot v482 (t_0 ++ ([at_ m.spots t47] : List Spot)), row 23 (Kd.int .i64).slice v_t_2 t_2, row 4 Kd.bool v500 (t_3 ++ ([at_ m.last t47] : List Bool)), row 4 Kd.bool v448 ([at_ m.last t47] : List Bool), row 55 kSpot v464 ([at_ m.spots t47] : List Spot)] := T500
                have hf502 : (CFs ⟨j79_b64, 0, none⟩ [v_t_0]).1 w500 := (CF.box (m := 1) (S501.box_at (j := 5) rfl) rfl)
                have hf503 : (CFs ⟨b1, 0, none⟩ [.slice A0_0 m.spots.length c0_0]).1 w500 := (CF.box (m := 1) (S501.box_at (j := 0) rfl) rfl)
                have hf504 : (CFs ad90 (encSpot (at_ m.spots t47))).1 w500 := (CF.ghost ce90 (St.le0 S501))
                have hf505 : (CFs ⟨j79_b64, 3, none⟩ [v_t_3]).1 w500 := (CF.box (m := 1) (S501.box_at (j := 5) rfl) rfl)
                have hf506 : (CFs ⟨b1, 3, none⟩ [.slice A0_3 m.last.length c0_3]).1 w500 := (CF.box (m := 1) (S501.box_at (j := 0) rfl) rfl)
                have hf507 : (CFs ad91 [.bool (at_ m.last t47)]).1 w500 := (CF.ghost ce91 (St.le0 S501))
                refine d_v (v := v500) rfl rfl rfl (x_append rfl ev499 r500) (.inr (keep_v hf502 (keep_v hf503 (keep_v hf504 (keep_w (by decide +kernel) (keep_v hf506 (keep_v hf507 trivial))))))) ?_
                refine ra_one (i := 19) (by decide +kernel) ?_
                intro wd508 gd508
                have S509 := S501.keep gd508
                have hf510 := (CFs ⟨j79_b64, 0, none⟩ [v_t_0]).2 _ _ gd508 hf502
                have hf511 := (CFs ⟨b1, 0, none⟩ [.slice A0_0 m.spots.length c0_0]).2 _ _ gd508 hf503
                have hf512 := (CFs ad90 (encSpot (at_ m.spots t47))).2 _ _ gd508 hf504
                have hf513 := (CFs ⟨j79_b64, 3, none⟩ [v_t_3]).2 _ _ gd508 hf505
                have hf514 := (CFs ⟨b1, 3, none⟩ [.slice A0_3 m.last.length c0_3]).2 _ _ gd508 hf506
                have hf515 := (CFs ad91 [.bool (at_ m.last t47)]).2 _ _ gd508 hf507
                have oc517 := row_one S509 (j := 6) rfl
                obtain ⟨w516, r516, g516, T516⟩ := e_store (P := Tryd.prog) (off := 0) (v := v482) (vs := [v482]) S509 ty22 (row_cells S509 (j := 6) rfl) rfl (j := 5) rfl (by first | decide | exact Nat.le_of_ble_eq_true rfl) (one_cons oc517 one_nil)
                have S518 : St w.heap.size w h86 w516 [box b1 27 [.slice A0_0 m.spots.length c0_0, .slice A0_1 m.first.length c0_1, .slice A0_2 m.follow.length c0_2, .slice A0_3 m.last.length c0_3, .bool m.empty], box b3 27 [.slice none 0 0, .slice none 0 0, .slice none 0 0, .slice none 0 0, .bool false], box b20 25 [.slice A42 (keepM m).length c42], box b28 23 [.slice A44 number.length c44], row 3 (Kd.int .i64) j79_v56_0 (leftN (keepM m) number m.first), box j79_b64 27 [v482, j79_v56_0, v_t_2, v_t_3, .bool m.empty], row 55 kSpot v482 (t_0 ++ ([at_ m.spots t47] : List Spot)), row 23 (Kd.int .i64).slice v_t_2 t_2, row 4 Kd.bool v500 (t_3 ++ ([at_ m.last t47] : List Bool)), row 4 Kd.bool v448 ([at_ m.last t47] : List Bool), row 55 kSpot v464 ([at_ m.spots t47] : List Spot)] := T516
                have hf519 : (CFs ⟨b1, 0, none⟩ [.slice A0_0 m.spots.length c0_0]).1 w516 := (CF.box (m := 1) (S518.box_at (j := 0) rfl) rfl)
                have hf520 : (CFs ad90 (encSpot (at_ m.spots t47))).1 w516 := (CF.ghost ce90 (St.le0 S518))
                have hf521 : (CFs ⟨b1, 3, none⟩ [.slice A0_3 m.last.length c0_3]).1 w516 := (CF.box (m := 1) (S518.box_at (j := 0) rfl) rfl)
                have hf522 : (CFs ad91 [.bool (at_ m.last t47)]).1 w516 := (CF.ghost ce91 (St.le0 S518))
                refine d_s rfl rfl (x_store rfl rfl r516) (.inr (keep_w (by decide +kernel) (keep_w (by decide +kernel) (keep_w (by decide +kernel) (keep_w (by decide +kernel) (keep_v hf521 (keep_v hf522 trivial))))))) ?_
                refine d_q (i := 20) (v := .pointer (some ⟨j79_b64, 3, none⟩)) (fun _ => True) (fun _ ho => trivial) rfl (by decide +kernel) (by decide +kernel) (by decide +kernel) rfl rfl (fun wq hq => (x_fieldAt fd27_3 ty25 rfl r86_10)) (of_ne rfl (of_ne rfl (of_ne rfl (of_ne rfl (of_ne rfl (of_ne rfl (of_nil _ _))))))) ?_
                refine ra_one (i := 21) (by decide +kernel) ?_
                intro wd523 gd523
                have S524 := S518.keep gd523
                have hf525 := (CFs ⟨b1, 0, none⟩ [.slice A0_0 m.spots.length c0_0]).2 _ _ gd523 hf519
                have hf526 := (CFs ad90 (encSpot (at_ m.spots t47))).2 _ _ gd523 hf520
                have hf527 := (CFs ⟨b1, 3, none⟩ [.slice A0_3 m.last.length c0_3]).2 _ _ gd523 hf521
                have hf528 := (CFs ad91 [.bool (at_ m.last t47)]).2 _ _ gd523 hf522
                have oc530 := row_one S524 (j := 8) rfl
                obtain ⟨w529, r529, g529, T529⟩ := e_store (P := Tryd.prog) (off := 3) (v := v500) (vs := [v500]) S524 ty25 (row_cells S524 (j := 8) rfl) rfl (j := 5) rfl (by first | decide | exact Nat.le_of_ble_eq_true rfl) (one_cons oc530 one_nil)
                have S531 : St w.heap.size w h86 w529 [box b1 27 [.slice A0_0 m.spots.length c0_0, .slice A0_1 m.first.length c0_1, .slice A0_2 m.follow.length c0_2, .slice A0_3 m.last.length c0_3, .bool m.empty], box b3 27 [.slice none 0 0, .slice none 0 0, .slice none 0 0, .slice none 0 0, .bool false], box b20 25 [.slice A42 (keepM m).length c42], box b28 23 [.slice A44 number.length c44], row 3 (Kd.int .i64) j79_v56_0 (leftN (keepM m) number m.first), box j79_b64 27 [v482, j79_v56_0, v_t_2, v500, .bool m.empty], row 55 kSpot v482 (t_0 ++ ([at_ m.spots t47] : List Spot)), row 23 (Kd.int .i64).slice v_t_2 t_2, row 4 Kd.bool v500 (t_3 ++ ([at_ m.last t47] : List Bool)), row 4 Kd.bool v448 ([at_ m.last t47] : List Bool), row 55 kSpot v464 ([at_ m.spots t47] : List Spot)] := T529
                have hf532 : (CFs ⟨b1, 0, none⟩ [.slice A0_0 m.spots.length c0_0]).1 w529 := (CF.box (m := 1) (S531.box_at (j := 0) rfl) rfl)
                have hf533 : (CFs ad90 (encSpot (at_ m.spots t47))).1 w529 := (CF.ghost ce90 (St.le0 S531))
                have hf534 : (CFs ⟨b1, 3, none⟩ [.slice A0_3 m.last.length c0_3]).1 w529 := (CF.box (m := 1) (S531.box_at (j := 0) rfl) rfl)
                have hf535 : (CFs ad91 [.bool (at_ m.last t47)]).1 w529 := (CF.ghost ce91 (St.le0 S531))
                refine d_s rfl rfl (x_store rfl rfl r529) (.inr (keep_w (by decide +kernel) (keep_w (by decide +kernel) (keep_w (by decide +kernel) (keep_w (by decide +kernel) (keep_w (by decide +kernel) (keep_w (by decide +kernel) trivial))))))) ?_
                refine ra_done (by decide +kernel) ?_
                intro wd536 gd536
                have S537 := S531.keep gd536
                exact jn204 _ _ ⟨h86, v482, v500, (Le.refl _), S537.sub [0, 1, 2, 3, 4, 5, 6, 7, 8] (by decide) rfl _ rfl, r86_1, r86_2, r86_9, r86_10, rfl, r86_45, r86_46, r86_47⟩
          · skip
            refine run_skip ?_
            refine run_inBlock ?_
            refine run_reg (l := [0, 1]) rfl ?_
            refine p_v (v := .int .i64 (t47 + 1)) rfl rfl rfl (x_add r86_47 rfl (in_i64 (by first|omega|(simp;omega)|assumption) (by first|omega|(simp;omega)|assumption))) ?_
            refine p_v (v := .int .i64 (t47 + 1)) rfl rfl rfl (x_move rfl) ?_
            refine run_region_end ?_
            refine ih86 (t_0, t_2, t_3, t47 + 1) _ _ (by dsimp only; omega) ⟨h86, v_t_0, v_t_2, v_t_3, le86, S86.sub [0, 1, 2, 3, 4, 5, 6, 7, 8] (by decide) rfl _ rfl, r86_1, r86_2, r86_9, r86_10, r86_45, r86_46, rfl, (in_i64 (by first|omega|(simp;omega)|assumption) (by first|omega|(simp;omega)|assumption)), (by first | exact ⟨by omega, by omega, by rw [hI86.2.2.1]; exact spotsTo_yes m hI86.1 (by assumption), by rw [hI86.2.2.2.1, hnum_, lefts_eq]; exact followTo_yes m hI86.1 (by assumption), by rw [hI86.2.2.2.2]; exact lastTo_yes m hI86.1 (by assumption)⟩ | exact ⟨by omega, by omega, by rw [hI86.2.2.1]; exact spotsTo_no m hI86.1 (by assumption), by rw [hI86.2.2.2.1]; exact followTo_no m hI86.1 (by assumption), by rw [hI86.2.2.2.2]; exact lastTo_no m hI86.1 (by assumption)⟩)⟩
        · skip
          refine run_exit rfl ?_
          refine run_seq ?_
          refine run_reg (l := [0, 1, 2]) rfl ?_
          refine p_v (v := .agg #[v_t_0, j79_v56_0, v_t_2, v_t_3, .bool m.empty]) rfl rfl rfl (x_load (seg := [v_t_0, j79_v56_0, v_t_2, v_t_3, .bool m.empty]) ty27 rfl (by simp) r86_10 (CF.box (m := 5) (S86.box_at (j := 5) rfl) rfl)) ?_
          have oc539 := row_one S86 (j := 6) rfl
          have oc540 := row_one S86 (j := 4) rfl
          have oc541 := row_one S86 (j := 7) rfl
          have oc542 := row_one S86 (j := 8) rfl
          obtain ⟨w538, r538, g538, T538⟩ := e_store (P := Tryd.prog) (off := 0) (v := .agg #[v_t_0, j79_v56_0, v_t_2, v_t_3, .bool m.empty]) (vs := [v_t_0, j79_v56_0, v_t_2, v_t_3, .bool m.empty]) S86 ty27 rfl rfl (j := 1) rfl (by first | decide | exact Nat.le_of_ble_eq_true rfl) (one_cons oc539 (one_cons oc540 (one_cons oc541 (one_cons oc542 (one_cons rfl one_nil)))))
          have S543 : St w.heap.size w h86 w538 [box b1 27 [.slice A0_0 m.spots.length c0_0, .slice A0_1 m.first.length c0_1, .slice A0_2 m.follow.length c0_2, .slice A0_3 m.last.length c0_3, .bool m.empty], box b3 27 [v_t_0, j79_v56_0, v_t_2, v_t_3, .bool m.empty], box b20 25 [.slice A42 (keepM m).length c42], box b28 23 [.slice A44 number.length c44], row 3 (Kd.int .i64) j79_v56_0 (leftN (keepM m) number m.first), box j79_b64 27 [v_t_0, j79_v56_0, v_t_2, v_t_3, .bool m.empty], row 55 kSpot v_t_0 t_0, row 23 (Kd.int .i64).slice v_t_2 t_2, row 4 Kd.bool v_t_3 t_3] := T538
          refine p_s rfl rfl (x_store r86_2 rfl r538) ?_
          refine p_v (v := .int .i64 0) rfl rfl rfl (x_assign rfl) ?_
          refine run_region_end ?_
          refine run_ret Tryd.func7 (res2 rfl (res_cell S543 ty27 r86_2 (j := 1) rfl rfl (by simp) rfl) (res_tmp (v := .int .i64 0) rfl)) ?_
          have q0 : ((trimM m).spots : List Spot) = t_0 := by
            first | (rw [trim_wrong (by assumption)]; done) | (rw [trim_wrong (by assumption)]) | exact err_wrong (by assumption) | exact err_right (by assumption) | (rw [trim_right (by assumption)]; done) | (rw [trim_right (by assumption)]; first | rfl | (rw [hI86.2.2.1, show t47 = (m.spots.length : Int) by omega]; done) | (rw [hI86.2.2.2.1, show t47 = (m.spots.length : Int) by omega]; done) | (rw [hI86.2.2.2.2, show t47 = (m.spots.length : Int) by omega]; done) | (rw [hnum_, lefts_eq]))
          have q1 : ((trimM m).first : List Int) = leftN (keepM m) number m.first := by
            first | (rw [trim_wrong (by assumption)]; done) | (rw [trim_wrong (by assumption)]) | exact err_wrong (by assumption) | exact err_right (by assumption) | (rw [trim_right (by assumption)]; done) | (rw [trim_right (by assumption)]; first | rfl | (rw [hI86.2.2.1, show t47 = (m.spots.length : Int) by omega]; done) | (rw [hI86.2.2.2.1, show t47 = (m.spots.length : Int) by omega]; done) | (rw [hI86.2.2.2.2, show t47 = (m.spots.length : Int) by omega]; done) | (rw [hnum_, lefts_eq]))
          have q2 : ((trimM m).follow : List (List Int)) = t_2 := by
            first | (rw [trim_wrong (by assumption)]; done) | (rw [trim_wrong (by assumption)]) | exact err_wrong (by assumption) | exact err_right (by assumption) | (rw [trim_right (by assumption)]; done) | (rw [trim_right (by assumption)]; first | rfl | (rw [hI86.2.2.1, show t47 = (m.spots.length : Int) by omega]; done) | (rw [hI86.2.2.2.1, show t47 = (m.spots.length : Int) by omega]; done) | (rw [hI86.2.2.2.2, show t47 = (m.spots.length : Int) by omega]; done) | (rw [hnum_, lefts_eq]))
          have q3 : ((trimM m).last : List Bool) = t_3 := by
            first | (rw [trim_wrong (by assumption)]; done) | (rw [trim_wrong (by assumption)]) | exact err_wrong (by assumption) | exact err_right (by assumption) | (rw [trim_right (by assumption)]; done) | (rw [trim_right (by assumption)]; first | rfl | (rw [hI86.2.2.1, show t47 = (m.spots.length : Int) by omega]; done) | (rw [hI86.2.2.2.1, show t47 = (m.spots.length : Int) by omega]; done) | (rw [hI86.2.2.2.2, show t47 = (m.spots.length : Int) by omega]; done) | (rw [hnum_, lefts_eq]))
          have q4 : ((trimM m).empty : Bool) = m.empty := by
            first | (rw [trim_wrong (by assumption)]; done) | (rw [trim_wrong (by assumption)]) | exact err_wrong (by assumption) | exact err_right (by assumption) | (rw [trim_right (by assumption)]; done) | (rw [trim_right (by assumption)]; first | rfl | (rw [hI86.2.2.1, show t47 = (m.spots.length : Int) by omega]; done) | (rw [hI86.2.2.2.1, show t47 = (m.spots.length : Int) by omega]; done) | (rw [hI86.2.2.2.2, show t47 = (m.spots.length : Int) by omega]; done) | (rw [hnum_, lefts_eq]))
          have q5 : (errM m : Int) = 0 := by
            first | (rw [trim_wrong (by assumption)]; done) | (rw [trim_wrong (by assumption)]) | exact err_wrong (by assumption) | exact err_right (by assumption) | (rw [trim_right (by assumption)]; done) | (rw [trim_right (by assumption)]; first | rfl | (rw [hI86.2.2.1, show t47 = (m.spots.length : Int) by omega]; done) | (rw [hI86.2.2.2.1, show t47 = (m.spots.length : Int) by omega]; done) | (rw [hI86.2.2.2.2, show t47 = (m.spots.length : Int) by omega]; done) | (rw [hnum_, lefts_eq]))
          refine ⟨_, rfl, h86, v_t_0, j79_v56_0, v_t_2, v_t_3, ?_, ?_, ?_⟩
          · rw [q0]; rw [q1]; rw [q2]; rw [q3]; exact S543.sub [6, 4, 7, 8] (by decide) rfl _ rfl
          · first | rfl | (simp only [q0, q1, q2, q3, q4, q5]; rfl) | (simp only [q0, q1, q2, q3, q4, q5])
          · rw [q5]; exact (in_i64 (by first|omega|(simp;omega)|assumption) (by first|omega|(simp;omega)|assumption))
      · skip
        refine ra_two (i := 3) (i2 := 7) (by decide +kernel) ?_ ?_
        · skip
          intro wd544 gd544
          have S545 := S49.keep gd544
          have hf546 := (CFs ⟨b1, 1, none⟩ [.slice A0_1 m.first.length c0_1]).2 _ _ gd544 hf50
          have hf547 := (CFs ⟨b1, 4, none⟩ [.bool m.empty]).2 _ _ gd544 hf51
          refine d_c rfl rfl rfl (y_call (args := [.slice A0_1 m.first.length c0_1, .pointer (some ⟨b20, 0, none⟩), .pointer (some ⟨b28, 0, none⟩)]) ca19 rfl rfl) (left_calls wd544 m.first A0_1 c0_1 b0_1 (l0_1.mono (St.le0 S545)) (keepM m) A42 c42 (And.intro lc42 cm42) (ld42.mono (le44.trans S545.ghost)) ⟨b20, 0, none⟩ (box_gcell (S545.box_at (j := 3) rfl)) number A44 c44 (And.intro lc44 cm44) (ld44.mono ((Le.refl _).trans S545.ghost)) ⟨b28, 0, none⟩ (box_gcell (S545.box_at (j := 5) rfl)) (by first | assumption | exact leftPre_ _ ⟨by omega, hR_.firsts⟩ | exact leftPre_ _ ⟨hss_.row _ (by assumption) (by omega), hR_.rows (by assumption) (by omega)⟩)) ?_
          rintro v548_0 w548 ⟨h548, _, T548, rfl⟩
          obtain ⟨k548, lk548, ll548, U548⟩ := call_joins S545 T548
          have lc548_0 := (lf44_0).trans lk548
          have lc548_1 := (lf44_1).trans lk548
          have lc548_2 := (lf44_2).trans lk548
          have lc548_3 := (le44).trans lk548
          have S549 : St w.heap.size w k548 w548 [box b1 27 [.slice A0_0 m.spots.length c0_0, .slice A0_1 m.first.length c0_1, .slice A0_2 m.follow.length c0_2, .slice A0_3 m.last.length c0_3, .bool m.empty], box b3 27 [.slice none 0 0, .slice none 0 0, .slice none 0 0, .slice none 0 0, .bool false], emp, box b20 25 [.slice A42 (keepM m).length c42], emp, box b28 23 [.slice A44 number.length c44], row 3 (Kd.int .i64) v548_0 (leftN (keepM m) number m.first)] := U548
          have hf550 := (CFs ⟨b1, 1, none⟩ [.slice A0_1 m.first.length c0_1]).2 _ _ (Chg.of_below T548.below) hf546
          have hf551 := (CFs ⟨b1, 4, none⟩ [.bool m.empty]).2 _ _ (Chg.of_below T548.below) hf547
          refine ⟨.inl (Chg.of_below T548.below), ?_⟩
          refine d_q (i := 6) (v := .agg #[.slice none 0 0, v548_0, .slice none 0 0, .slice none 0 0, .bool m.empty]) (fun _ => True) (fun _ ho => trivial) rfl (by decide +kernel) (by decide +kernel) (by decide +kernel) rfl rfl (fun wq hq => (y_build (pv := [(1, v548_0), (4, .bool m.empty)]) rfl (run_build_struct pl27 ty27 rfl (cs := [.slice none 0 0, v548_0, .slice none 0 0, .slice none 0 0, .bool m.empty]) (fill_any (vc := [v548_0]) rfl (row_cells S549 (j := 6) rfl) rfl rfl (fill_any (vc := [.bool m.empty]) rfl rfl rfl rfl (fill_end rfl)))))) (of_ne rfl (of_ne rfl (of_nil _ _))) ?_
          refine ra_one (i := 7) (by decide +kernel) ?_
          intro wd552 gd552
          have S553 := S549.keep gd552
          have hf554 := (CFs ⟨b1, 1, none⟩ [.slice A0_1 m.first.length c0_1]).2 _ _ gd552 hf550
          have hf555 := (CFs ⟨b1, 4, none⟩ [.bool m.empty]).2 _ _ gd552 hf551
          obtain ⟨b556, w556, r556, g556, T556⟩ := e_box (P := Tryd.prog) S553 27 (v := (.agg #[.slice none 0 0, .slice none 0 0, .slice none 0 0, .slice none 0 0, .bool false])) [.slice none 0 0, .slice none 0 0, .slice none 0 0, .slice none 0 0, .bool false] rfl
          have S557 : St w.heap.size w k548 w556 [box b1 27 [.slice A0_0 m.spots.length c0_0, .slice A0_1 m.first.length c0_1, .slice A0_2 m.follow.length c0_2, .slice A0_3 m.last.length c0_3, .bool m.empty], box b3 27 [.slice none 0 0, .slice none 0 0, .slice none 0 0, .slice none 0 0, .bool false], emp, box b20 25 [.slice A42 (keepM m).length c42], emp, box b28 23 [.slice A44 number.length c44], row 3 (Kd.int .i64) v548_0 (leftN (keepM m) number m.first), box b556 27 [.slice none 0 0, .slice none 0 0, .slice none 0 0, .slice none 0 0, .bool false]] := T556
          have hf558 := (CFs ⟨b1, 1, none⟩ [.slice A0_1 m.first.length c0_1]).2 _ _ g556 hf554
          have hf559 := (CFs ⟨b1, 4, none⟩ [.bool m.empty]).2 _ _ g556 hf555
          refine d_v (v := .pointer (some ⟨b556, 0, none⟩)) rfl rfl rfl (x_alloc ty27 r556) (.inl g556) ?_
          refine ra_one (i := 8) (by decide +kernel) ?_
          intro wd560 gd560
          have S561 := S557.keep gd560
          have hf562 := (CFs ⟨b1, 1, none⟩ [.slice A0_1 m.first.length c0_1]).2 _ _ gd560 hf558
          have hf563 := (CFs ⟨b1, 4, none⟩ [.bool m.empty]).2 _ _ gd560 hf559
          have oc565 := row_one S561 (j := 6) rfl
          obtain ⟨w564, r564, g564, T564⟩ := e_store (P := Tryd.prog) (off := 0) (v := .agg #[.slice none 0 0, v548_0, .slice none 0 0, .slice none 0 0, .bool m.empty]) (vs := [.slice none 0 0, v548_0, .slice none 0 0, .slice none 0 0, .bool m.empty]) S561 ty27 rfl rfl (j := 7) rfl (by first | decide | exact Nat.le_of_ble_eq_true rfl) (one_cons rfl (one_cons oc565 (one_cons rfl (one_cons rfl (one_cons rfl one_nil)))))
          have S566 : St w.heap.size w k548 w564 [box b1 27 [.slice A0_0 m.spots.length c0_0, .slice A0_1 m.first.length c0_1, .slice A0_2 m.follow.length c0_2, .slice A0_3 m.last.length c0_3, .bool m.empty], box b3 27 [.slice none 0 0, .slice none 0 0, .slice none 0 0, .slice none 0 0, .bool false], emp, box b20 25 [.slice A42 (keepM m).length c42], emp, box b28 23 [.slice A44 number.length c44], row 3 (Kd.int .i64) v548_0 (leftN (keepM m) number m.first), box b556 27 [.slice none 0 0, v548_0, .slice none 0 0, .slice none 0 0, .bool m.empty]] := T564
          have hf567 : (CFs ⟨b1, 1, none⟩ [.slice A0_1 m.first.length c0_1]).1 w564 := (CF.box (m := 1) (S566.box_at (j := 0) rfl) rfl)
          have hf568 : (CFs ⟨b1, 4, none⟩ [.bool m.empty]).1 w564 := (CF.box (m := 1) (S566.box_at (j := 0) rfl) rfl)
          refine d_s rfl rfl (x_store rfl rfl r564) (.inr (keep_w (by decide +kernel) (keep_w (by decide +kernel) trivial))) ?_
          refine ra_done (by decide +kernel) ?_
          intro wd569 gd569
          have S570 := S566.keep gd569
          exact jn79 _ _ ⟨k548, b556, v548_0, lk548, S570.sub [0, 1, 3, 5, 6, 7] (by decide) rfl _ rfl, r34_1, r34_2, r34_4, rfl, rfl⟩
        · skip
          intro wd571 gd571
          have S572 := S49.keep gd571
          have hf573 := (CFs ⟨b1, 1, none⟩ [.slice A0_1 m.first.length c0_1]).2 _ _ gd571 hf50
          have hf574 := (CFs ⟨b1, 4, none⟩ [.bool m.empty]).2 _ _ gd571 hf51
          obtain ⟨b575, w575, r575, g575, T575⟩ := e_box (P := Tryd.prog) S572 27 (v := (.agg #[.slice none 0 0, .slice none 0 0, .slice none 0 0, .slice none 0 0, .bool false])) [.slice none 0 0, .slice none 0 0, .slice none 0 0, .slice none 0 0, .bool false] rfl
          have S576 : St w.heap.size w h44 w575 [box b1 27 [.slice A0_0 m.spots.length c0_0, .slice A0_1 m.first.length c0_1, .slice A0_2 m.follow.length c0_2, .slice A0_3 m.last.length c0_3, .bool m.empty], box b3 27 [.slice none 0 0, .slice none 0 0, .slice none 0 0, .slice none 0 0, .bool false], emp, box b20 25 [.slice A42 (keepM m).length c42], emp, box b28 23 [.slice A44 number.length c44], box b575 27 [.slice none 0 0, .slice none 0 0, .slice none 0 0, .slice none 0 0, .bool false]] := T575
          have hf577 := (CFs ⟨b1, 1, none⟩ [.slice A0_1 m.first.length c0_1]).2 _ _ g575 hf573
          have hf578 := (CFs ⟨b1, 4, none⟩ [.bool m.empty]).2 _ _ g575 hf574
          refine d_v (v := .pointer (some ⟨b575, 0, none⟩)) rfl rfl rfl (x_alloc ty27 r575) (.inl g575) ?_
          refine ra_one (i := 3) (by decide +kernel) ?_
          intro wd579 gd579
          have S580 := S576.keep gd579
          have hf581 := (CFs ⟨b1, 1, none⟩ [.slice A0_1 m.first.length c0_1]).2 _ _ gd579 hf577
          have hf582 := (CFs ⟨b1, 4, none⟩ [.bool m.empty]).2 _ _ gd579 hf578
          refine d_c rfl rfl rfl (y_call (args := [.slice A0_1 m.first.length c0_1, .pointer (some ⟨b20, 0, none⟩), .pointer (some ⟨b28, 0, none⟩)]) ca19 rfl rfl) (left_calls wd579 m.first A0_1 c0_1 b0_1 (l0_1.mono (St.le0 S580)) (keepM m) A42 c42 (And.intro lc42 cm42) (ld42.mono (le44.trans S580.ghost)) ⟨b20, 0, none⟩ (box_gcell (S580.box_at (j := 3) rfl)) number A44 c44 (And.intro lc44 cm44) (ld44.mono ((Le.refl _).trans S580.ghost)) ⟨b28, 0, none⟩ (box_gcell (S580.box_at (j := 5) rfl)) (by first | assumption | exact leftPre_ _ ⟨by omega, hR_.firsts⟩ | exact leftPre_ _ ⟨hss_.row _ (by assumption) (by omega), hR_.rows (by assumption) (by omega)⟩)) ?_
          rintro v583_0 w583 ⟨h583, _, T583, rfl⟩
          obtain ⟨k583, lk583, ll583, U583⟩ := call_joins S580 T583
          have lc583_0 := (lf44_0).trans lk583
          have lc583_1 := (lf44_1).trans lk583
          have lc583_2 := (lf44_2).trans lk583
          have lc583_3 := (le44).trans lk583
          have S584 : St w.heap.size w k583 w583 [box b1 27 [.slice A0_0 m.spots.length c0_0, .slice A0_1 m.first.length c0_1, .slice A0_2 m.follow.length c0_2, .slice A0_3 m.last.length c0_3, .bool m.empty], box b3 27 [.slice none 0 0, .slice none 0 0, .slice none 0 0, .slice none 0 0, .bool false], emp, box b20 25 [.slice A42 (keepM m).length c42], emp, box b28 23 [.slice A44 number.length c44], box b575 27 [.slice none 0 0, .slice none 0 0, .slice none 0 0, .slice none 0 0, .bool false], row 3 (Kd.int .i64) v583_0 (leftN (keepM m) number m.first)] := U583
          have hf585 := (CFs ⟨b1, 1, none⟩ [.slice A0_1 m.first.length c0_1]).2 _ _ (Chg.of_below T583.below) hf581
          have hf586 := (CFs ⟨b1, 4, none⟩ [.bool m.empty]).2 _ _ (Chg.of_below T583.below) hf582
          refine ⟨.inl (Chg.of_below T583.below), ?_⟩
          refine d_q (i := 6) (v := .agg #[.slice none 0 0, v583_0, .slice none 0 0, .slice none 0 0, .bool m.empty]) (fun _ => True) (fun _ ho => trivial) rfl (by decide +kernel) (by decide +kernel) (by decide +kernel) rfl rfl (fun wq hq => (y_build (pv := [(1, v583_0), (4, .bool m.empty)]) rfl (run_build_struct pl27 ty27 rfl (cs := [.slice none 0 0, v583_0, .slice none 0 0, .slice none 0 0, .bool m.empty]) (fill_any (vc := [v583_0]) rfl (row_cells S584 (j := 7) rfl) rfl rfl (fill_any (vc := [.bool m.empty]) rfl rfl rfl rfl (fill_end rfl)))))) (of_ne rfl (of_ne rfl (of_nil _ _))) ?_
          refine ra_one (i := 8) (by decide +kernel) ?_
          intro wd587 gd587
          have S588 := S584.keep gd587
          have hf589 := (CFs ⟨b1, 1, none⟩ [.slice A0_1 m.first.length c0_1]).2 _ _ gd587 hf585
          have hf590 := (CFs ⟨b1, 4, none⟩ [.bool m.empty]).2 _ _ gd587 hf586
          have oc592 := row_one S588 (j := 7) rfl
          obtain ⟨w591, r591, g591, T591⟩ := e_store (P := Tryd.prog) (off := 0) (v := .agg #[.slice none 0 0, v583_0, .slice none 0 0, .slice none 0 0, .bool m.empty]) (vs := [.slice none 0 0, v583_0, .slice none 0 0, .slice none 0 0, .bool m.empty]) S588 ty27 rfl rfl (j := 6) rfl (by first | decide | exact Nat.le_of_ble_eq_true rfl) (one_cons rfl (one_cons oc592 (one_cons rfl (one_cons rfl (one_cons rfl one_nil)))))
          have S593 : St w.heap.size w k583 w591 [box b1 27 [.slice A0_0 m.spots.length c0_0, .slice A0_1 m.first.length c0_1, .slice A0_2 m.follow.length c0_2, .slice A0_3 m.last.length c0_3, .bool m.empty], box b3 27 [.slice none 0 0, .slice none 0 0, .slice none 0 0, .slice none 0 0, .bool false], emp, box b20 25 [.slice A42 (keepM m).length c42], emp, box b28 23 [.slice A44 number.length c44], box b575 27 [.slice none 0 0, v583_0, .slice none 0 0, .slice none 0 0, .bool m.empty], row 3 (Kd.int .i64) v583_0 (leftN (keepM m) number m.first)] := T591
          have hf594 : (CFs ⟨b1, 1, none⟩ [.slice A0_1 m.first.length c0_1]).1 w591 := (CF.box (m := 1) (S593.box_at (j := 0) rfl) rfl)
          have hf595 : (CFs ⟨b1, 4, none⟩ [.bool m.empty]).1 w591 := (CF.box (m := 1) (S593.box_at (j := 0) rfl) rfl)
          refine d_s rfl rfl (x_store rfl rfl r591) (.inr (keep_w (by decide +kernel) (keep_w (by decide +kernel) trivial))) ?_
          refine ra_done (by decide +kernel) ?_
          intro wd596 gd596
          have S597 := S593.keep gd596
          exact jn79 _ _ ⟨k583, b575, v583_0, lk583, S597.sub [0, 1, 3, 5, 7, 6] (by decide) rfl _ rfl, r34_1, r34_2, r34_4, rfl, rfl⟩
end Go.Proofs.YtdfkpjchnndniaaDoor
