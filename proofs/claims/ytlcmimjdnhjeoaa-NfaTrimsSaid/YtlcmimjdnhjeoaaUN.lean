/- Functions of this translation, each walked once; no conditions but those that each contract tells. -/
import Derived.Test.YtlcmimjdnhjeoaaTN
import Derived.Test.YtlcmimjdnhjeoaaM6
import Derived.Test.YtlcmimjdnhjeoaaM7
import Derived.Test.YtlcmimjdnhjeoaaQN
import Derived.Test.YtlcmimjdnhjeoaaN3
import Derived.Test.YtlcmimjdnhjeoaaM11
import Derived.Test.YtlcmimjdnhjeoaaN5
import Derived.Test.YtlcmimjdnhjeoaaN6
import Derived.Test.YtlcmimjdnhjeoaaN7
import Derived.Test.YtlcmimjdnhjeoaaRN
namespace Go.Proofs.Ytlcmimjdnhjeoaa
open Go Go.RowKit Gx
set_option maxHeartbeats 1000000
set_option linter.unusedVariables false
set_option linter.unusedSimpArgs false
attribute [local irreducible] members pack listOf count first someIn has setOf setRange wbits Lib.ctz rises rightM rowOk tab markP intoP intoTo behindP behindTo behindIn runTo endsIn endTo runM posTo mayP stepIf stepP mayTo atP lastTo greatM greatTo docAt anyTo allTo numAt numsL numsIn leftN kept lefts spotsTo lastTp followTo trimM errM comeM goesM keepM lfp seekN seekB fullS placeF okC okG clC clG clC2 clG2 firstC lastG andTo useN trues addS setsOfTo setsM

theorem useful10_calls (w : World) (m : Mach) (A0_0 : Option Addr) (c0_0 : Nat) (b0_0 : m.spots.length ≤ c0_0 ∧ c0_0 ≤ maxLen) (l0_0 : Leads kSpot (hp w) A0_0 m.spots) (A0_1 : Option Addr) (c0_1 : Nat) (b0_1 : m.first.length ≤ c0_1 ∧ c0_1 ≤ maxLen) (l0_1 : Leads (Kd.int .i64) (hp w) A0_1 m.first) (A0_2 : Option Addr) (c0_2 : Nat) (b0_2 : m.follow.length ≤ c0_2 ∧ c0_2 ≤ maxLen) (l0_2 : Leads (Kd.int .i64).slice (hp w) A0_2 m.follow) (A0_3 : Option Addr) (c0_3 : Nat) (b0_3 : m.last.length ≤ c0_3 ∧ c0_3 ≤ maxLen) (l0_3 : Leads Kd.bool (hp w) A0_3 m.last) (pre0 : Right m) :
    Calls Try.prog 39 #[.agg #[.slice A0_0 m.spots.length c0_0, .slice A0_1 m.first.length c0_1, .slice A0_2 m.follow.length c0_2, .slice A0_3 m.last.length c0_3, .bool m.empty]] w fun e w' => ∃ v, e = .returned v ∧ ∃ (hn : Ghost) (r0 : Value), St w.heap.size w hn w' [row 4 Kd.bool r0 (keepM m)] ∧ v = r0 := by
  refine calls_of_run Try.func39 rfl Try.ntmps39 rfl ?_
  have S0 := St.init w
  have bb0_0 := b0_0.1; have bc0_0 := b0_0.2; simp only [maxLen] at bc0_0
  have bb0_1 := b0_1.1; have bc0_1 := b0_1.2; simp only [maxLen] at bc0_1
  have bb0_2 := b0_2.1; have bc0_2 := b0_2.2; simp only [maxLen] at bc0_2
  have bb0_3 := b0_3.1; have bc0_3 := b0_3.2; simp only [maxLen] at bc0_3
  have hR_ := pre0; have hsm_ := pre0.small; have hfo_ := pre0.follow; have hla_ := pre0.last; have hss_ := pre0.small'; have hfi_ := hss_.first
  refine run_seq ?_
  refine run_reg (l := [0, 1]) rfl ?_
  obtain ⟨b1, w1, r1, g1, T1⟩ := e_box (P := Try.prog) S0 27 (v := .agg #[.slice A0_0 m.spots.length c0_0, .slice A0_1 m.first.length c0_1, .slice A0_2 m.follow.length c0_2, .slice A0_3 m.last.length c0_3, .bool m.empty]) [.slice A0_0 m.spots.length c0_0, .slice A0_1 m.first.length c0_1, .slice A0_2 m.follow.length c0_2, .slice A0_3 m.last.length c0_3, .bool m.empty] rfl
  have S2 : St w.heap.size w (fun _ => none) w1 [box b1 27 [.slice A0_0 m.spots.length c0_0, .slice A0_1 m.first.length c0_1, .slice A0_2 m.follow.length c0_2, .slice A0_3 m.last.length c0_3, .bool m.empty]] := T1
  refine p_v (v := .pointer (some ⟨b1, 0, none⟩)) rfl rfl rfl (x_box rfl r1) ?_
  refine p_v (v := .slice none 0 0) rfl rfl rfl (x_assign rfl) ?_
  refine run_region_end ?_
  refine run_seq ?_
  refine run_reg (l := [0, 1, 2, 3]) rfl ?_
  refine p_v (v := .pointer (some ⟨b1, 0, none⟩)) rfl rfl rfl (x_fieldAt fd27_0 ty22 rfl rfl) ?_
  refine p_v (v := .slice A0_0 m.spots.length c0_0) rfl rfl rfl (x_load (seg := [.slice A0_0 m.spots.length c0_0]) ty22 rfl (by simp) rfl (CF.box (m := 1) (S2.box_at (j := 0) rfl) rfl)) ?_
  refine p_v (v := .int .i64 (m.spots.length : Int)) rfl rfl rfl (x_len_slice u22 rfl) ?_
  refine p_v (v := .int .i64 (m.spots.length : Int)) rfl rfl rfl (x_assign rfl) ?_
  refine run_region_end ?_
  refine run_seq ?_
  refine run_reg (l := [0, 1, 2]) rfl ?_
  refine p_v (v := .int .i64 (m.spots.length : Int)) rfl rfl rfl (x_move rfl) ?_
  obtain ⟨v3, w3, r3, g3, T3⟩ := e_make (kk := .i64) (kk' := .i64) (kd := Kd.bool) (q := (m.spots.length : Int)) (z := false) (zc := [.bool false]) S2 u25 ty4 rfl rfl ⟨rfl, trivial⟩ (by first|omega|(simp;omega)|assumption) (by first|omega|(simp;omega)|assumption) (by first|omega|(simp;omega)|assumption)
  have S4 : St w.heap.size w (fun _ => none) w3 [box b1 27 [.slice A0_0 m.spots.length c0_0, .slice A0_1 m.first.length c0_1, .slice A0_2 m.follow.length c0_2, .slice A0_3 m.last.length c0_3, .bool m.empty], row 4 Kd.bool v3 (List.replicate ((m.spots.length : Int)).toNat false)] := T3
  refine p_v (v := v3) rfl rfl rfl (x_make rfl rfl r3) ?_
  refine p_v (v := v3) rfl rfl rfl (x_assign rfl) ?_
  refine run_region_end ?_
  refine run_seq ?_
  refine run_reg (l := [0, 1, 2]) rfl ?_
  refine p_v (v := .int .i64 (m.spots.length : Int)) rfl rfl rfl (x_move rfl) ?_
  obtain ⟨v5, w5, r5, g5, T5⟩ := e_make (kk := .i64) (kk' := .i64) (kd := Kd.bool) (q := (m.spots.length : Int)) (z := false) (zc := [.bool false]) S4 u25 ty4 rfl rfl ⟨rfl, trivial⟩ (by first|omega|(simp;omega)|assumption) (by first|omega|(simp;omega)|assumption) (by first|omega|(simp;omega)|assumption)
  have S6 : St w.heap.size w (fun _ => none) w5 [box b1 27 [.slice A0_0 m.spots.length c0_0, .slice A0_1 m.first.length c0_1, .slice A0_2 m.follow.length c0_2, .slice A0_3 m.last.length c0_3, .bool m.empty], row 4 Kd.bool v3 (List.replicate ((m.spots.length : Int)).toNat false), row 4 Kd.bool v5 (List.replicate ((m.spots.length : Int)).toNat false)] := T5
  refine p_v (v := v5) rfl rfl rfl (x_make rfl rfl r5) ?_
  refine p_v (v := v5) rfl rfl rfl (x_assign rfl) ?_
  refine run_region_end ?_
  refine run_seq ?_
  refine run_seq ?_
  refine run_reg (l := [0]) rfl ?_
  refine p_v (v := .int .i64 0) rfl rfl rfl (x_assign rfl) ?_
  refine run_region_end ?_
  refine run_block ?_
  refine run_loop (S := (List Bool) × (List Bool) × Int) (fun (q_ : (List Bool) × (List Bool) × Int) ρ w' => match q_ with | (come, goes, round) => ∃ (h : Ghost) (v_come : Value) (v_goes : Value), Le (fun _ => none) h ∧ St w.heap.size w h w' [box b1 27 [.slice A0_0 m.spots.length c0_0, .slice A0_1 m.first.length c0_1, .slice A0_2 m.follow.length c0_2, .slice A0_3 m.last.length c0_3, .bool m.empty], row 4 Kd.bool v_come come, row 4 Kd.bool v_goes goes] ∧ ρ 1 = .pointer (some ⟨b1, 0, none⟩) ∧ ρ 3 = .int .i64 (m.spots.length : Int) ∧ ρ 4 = v_come ∧ ρ 5 = v_goes ∧ ρ 6 = .int .i64 round ∧ inK .i64 round ∧ (0 ≤ round ∧ round ≤ (m.spots.length : Int) + 1 ∧ RefU m come goes round)) (fun q_ => match q_ with | (come, goes, round) => ((m.spots.length : Int) + 1 - round).toNat) (List.replicate ((m.spots.length : Int)).toNat false, List.replicate ((m.spots.length : Int)).toNat false, 0) ⟨(fun _ => none), v3, v5, Le.refl _, S6.sub [0, 1, 2] (by decide) rfl _ rfl, rfl, rfl, rfl, rfl, rfl, (in_i64 (by first|omega|(simp;omega)|assumption) (by first|omega|(simp;omega)|assumption)), (by exact ⟨by omega, by omega, refU_0 m⟩)⟩ ?_
  rintro ⟨come, goes, round⟩ ih7 ρ7 w7 ⟨h7, v_come, v_goes, le7, S7, r7_1, r7_3, r7_4, r7_5, r7_6, f7_0, hI7⟩
  have lf7_0 := i64_lo f7_0; have hf7_0 := i64_hi f7_0
  have rl7_1 := S7.row_le (j := 1) rfl; simp only [maxLen] at rl7_1
  have rl7_2 := S7.row_le (j := 2) rfl; simp only [maxLen] at rl7_2
  have hc0_ := hI7.2.2.lenC; have hg0_ := hI7.2.2.lenG
  refine run_seq ?_
  refine run_seq ?_
  refine run_reg (l := [0, 1, 2]) rfl ?_
  refine p_v (v := .int .i64 round) rfl rfl rfl (x_move r7_6) ?_
  refine p_v (v := .int .i64 (m.spots.length : Int)) rfl rfl rfl (x_move r7_3) ?_
  refine p_v (v := .bool (decide (round ≤ (m.spots.length : Int)))) rfl rfl rfl (x_leq rfl rfl) ?_
  refine run_region_end ?_
  refine run_cond_prop (p := round ≤ (m.spots.length : Int)) rfl (fun hc8 => ?_) (fun hc8 => ?_)
  · skip
    refine run_skip ?_
    refine run_seq ?_
    refine run_block ?_
    refine run_seq ?_
    refine run_reg (l := [0]) rfl ?_
    refine p_v (v := .int .i64 0) rfl rfl rfl (x_assign rfl) ?_
    refine run_region_end ?_
    refine run_block ?_
    refine run_loop (S := (List Bool) × (List Bool) × Int) (fun (q_ : (List Bool) × (List Bool) × Int) ρ w' => match q_ with | (come2, goes2, i) => ∃ (h : Ghost) (v_come2 : Value) (v_goes2 : Value), Le h7 h ∧ St w.heap.size w h w' [box b1 27 [.slice A0_0 m.spots.length c0_0, .slice A0_1 m.first.length c0_1, .slice A0_2 m.follow.length c0_2, .slice A0_3 m.last.length c0_3, .bool m.empty], row 4 Kd.bool v_come2 come2, row 4 Kd.bool v_goes2 goes2] ∧ ρ 1 = .pointer (some ⟨b1, 0, none⟩) ∧ ρ 3 = .int .i64 (m.spots.length : Int) ∧ ρ 4 = v_come2 ∧ ρ 5 = v_goes2 ∧ ρ 6 = .int .i64 round ∧ ρ 7 = .int .i64 i ∧ inK .i64 i ∧ (0 ≤ i ∧ i ≤ (m.spots.length : Int) ∧ RefI m come goes come2 goes2 (clC m come i) (clG m goes i))) (fun q_ => match q_ with | (come2, goes2, i) => (m.spots.length - i).toNat) (come, goes, 0) ⟨h7, v_come, v_goes, Le.refl _, S7.sub [0, 1, 2] (by decide) rfl _ rfl, r7_1, r7_3, r7_4, r7_5, r7_6, rfl, (in_i64 (by first|omega|(simp;omega)|assumption) (by first|omega|(simp;omega)|assumption)), (by exact ⟨by omega, by omega, refI_0 hI7.2.2⟩)⟩ ?_
    rintro ⟨come2, goes2, i⟩ ih9 ρ9 w9 ⟨h9, v_come2, v_goes2, le9, S9, r9_1, r9_3, r9_4, r9_5, r9_6, r9_7, f9_0, hI9⟩
    have lf9_0 := i64_lo f9_0; have hf9_0 := i64_hi f9_0
    have rl9_1 := S9.row_le (j := 1) rfl; simp only [maxLen] at rl9_1
    have rl9_2 := S9.row_le (j := 2) rfl; simp only [maxLen] at rl9_2
    have hc1_ := hI9.2.2.growC.len; have hg1_ := hI9.2.2.growG.len
    refine run_seq ?_
    refine run_seq ?_
    refine run_reg (l := [0, 1, 2]) rfl ?_
    refine p_v (v := .int .i64 i) rfl rfl rfl (x_move r9_7) ?_
    refine p_v (v := .int .i64 (m.spots.length : Int)) rfl rfl rfl (x_move r9_3) ?_
    refine p_v (v := .bool (decide (i < (m.spots.length : Int)))) rfl rfl rfl (x_lss rfl rfl) ?_
    refine run_region_end ?_
    refine run_cond_prop (p := i < (m.spots.length : Int)) rfl (fun hc10 => ?_) (fun hc10 => ?_)
    · skip
      refine run_skip ?_
      refine run_seq ?_
      refine run_block ?_
      refine run_seq ?_
      refine run_joinW (fun ρ w' => ∃ (h : Ghost) (come3 : List Bool), Le h9 h ∧ St w.heap.size w h w' [box b1 27 [.slice A0_0 m.spots.length c0_0, .slice A0_1 m.first.length c0_1, .slice A0_2 m.follow.length c0_2, .slice A0_3 m.last.length c0_3, .bool m.empty], row 4 Kd.bool v_come2 come3, row 4 Kd.bool v_goes2 goes2] ∧ ρ 1 = .pointer (some ⟨b1, 0, none⟩) ∧ ρ 3 = .int .i64 (m.spots.length : Int) ∧ ρ 4 = v_come2 ∧ ρ 5 = v_goes2 ∧ ρ 6 = .int .i64 round ∧ ρ 7 = .int .i64 i ∧ (RefI m come goes come3 goes2 (firstC m come i) (clG m goes i))) ?_ (fun jn22 => ?_)
      · skip
        rintro ρj22 wj22 ⟨hj22, come3, lej22, Sj22, rj22_1, rj22_3, rj22_4, rj22_5, rj22_6, rj22_7, jI22⟩
        have jr22_1 := Sj22.row_le (j := 1) rfl; simp only [maxLen] at jr22_1
        have jr22_2 := Sj22.row_le (j := 2) rfl; simp only [maxLen] at jr22_2
        have JI2_ := jI22
        have hj2_ := JI2_.growC.len
        refine run_seq ?_
        refine run_joinW (fun ρ w' => ∃ (h : Ghost) (goes3 : List Bool), Le hj22 h ∧ St w.heap.size w h w' [box b1 27 [.slice A0_0 m.spots.length c0_0, .slice A0_1 m.first.length c0_1, .slice A0_2 m.follow.length c0_2, .slice A0_3 m.last.length c0_3, .bool m.empty], row 4 Kd.bool v_come2 come3, row 4 Kd.bool v_goes2 goes3] ∧ ρ 1 = .pointer (some ⟨b1, 0, none⟩) ∧ ρ 3 = .int .i64 (m.spots.length : Int) ∧ ρ 4 = v_come2 ∧ ρ 5 = v_goes2 ∧ ρ 6 = .int .i64 round ∧ ρ 7 = .int .i64 i ∧ (RefI m come goes come3 goes3 (firstC m come i) (lastG m goes i))) ?_ (fun jn33 => ?_)
        · skip
          rintro ρj33 wj33 ⟨hj33, goes3, lej33, Sj33, rj33_1, rj33_3, rj33_4, rj33_5, rj33_6, rj33_7, jI33⟩
          have jr33_1 := Sj33.row_le (j := 1) rfl; simp only [maxLen] at jr33_1
          have jr33_2 := Sj33.row_le (j := 2) rfl; simp only [maxLen] at jr33_2
          have JI3_ := jI33
          have hj3_ := JI3_.growG.len
          refine run_seq ?_
          refine run_reg (l := [0]) rfl ?_
          refine p_v (v := .int .i64 0) rfl rfl rfl (x_assign rfl) ?_
          refine run_region_end ?_
          refine run_block ?_
          refine run_loop (S := (List Bool) × (List Bool) × Int) (fun (q_ : (List Bool) × (List Bool) × Int) ρ w' => match q_ with | (come4, goes4, k) => ∃ (h : Ghost) (v_come4 : Value) (v_goes4 : Value), Le hj33 h ∧ St w.heap.size w h w' [box b1 27 [.slice A0_0 m.spots.length c0_0, .slice A0_1 m.first.length c0_1, .slice A0_2 m.follow.length c0_2, .slice A0_3 m.last.length c0_3, .bool m.empty], row 4 Kd.bool v_come4 come4, row 4 Kd.bool v_goes4 goes4] ∧ ρ 1 = .pointer (some ⟨b1, 0, none⟩) ∧ ρ 3 = .int .i64 (m.spots.length : Int) ∧ ρ 4 = v_come4 ∧ ρ 5 = v_goes4 ∧ ρ 6 = .int .i64 round ∧ ρ 7 = .int .i64 i ∧ ρ 8 = .int .i64 k ∧ inK .i64 k ∧ (0 ≤ k ∧ k ≤ ((at_ m.follow i).length : Int) ∧ RefI m come goes come4 goes4 (clC2 m come i k) (clG2 m goes i k))) (fun q_ => match q_ with | (come4, goes4, k) => ((at_ m.follow i).length - k).toNat) (come3, goes3, 0) ⟨hj33, v_come2, v_goes2, Le.refl _, Sj33.sub [0, 1, 2] (by decide) rfl _ rfl, rj33_1, rj33_3, rj33_4, rj33_5, rj33_6, rj33_7, rfl, (in_i64 (by first|omega|(simp;omega)|assumption) (by first|omega|(simp;omega)|assumption)), (by exact ⟨by omega, by omega, ref_k0 JI3_⟩)⟩ ?_
          rintro ⟨come4, goes4, k⟩ ih34 ρ34 w34 ⟨h34, v_come4, v_goes4, le34, S34, r34_1, r34_3, r34_4, r34_5, r34_6, r34_7, r34_8, f34_0, hI34⟩
          have lf34_0 := i64_lo f34_0; have hf34_0 := i64_hi f34_0
          have rl34_1 := S34.row_le (j := 1) rfl; simp only [maxLen] at rl34_1
          have rl34_2 := S34.row_le (j := 2) rfl; simp only [maxLen] at rl34_2
          have hc2_ := hI34.2.2.growC.len; have hg2_ := hI34.2.2.growG.len
          have hx_ : k < ((at_ m.follow i).length : Int) → 0 ≤ at_ (at_ m.follow i) k ∧ at_ (at_ m.follow i) k < (m.spots.length : Int) := fun h => hR_.rows hI9.1 (by omega) _ (at_mem hI34.1 h)
          refine run_seq ?_
          refine run_seq ?_
          refine run_reg (l := [0, 1, 2, 3, 4, 5, 6, 7]) rfl ?_
          refine p_v (v := .int .i64 k) rfl rfl rfl (x_move r34_8) ?_
          refine p_v (v := .pointer (some ⟨b1, 2, none⟩)) rfl rfl rfl (x_fieldAt fd27_2 ty24 rfl r34_1) ?_
          refine p_v (v := .slice A0_2 m.follow.length c0_2) rfl rfl rfl (x_load (seg := [.slice A0_2 m.follow.length c0_2]) ty24 rfl (by simp) rfl (CF.box (m := 1) (S34.box_at (j := 0) rfl) rfl)) ?_
          refine p_v (v := .int .i64 i) rfl rfl rfl (x_move r34_7) ?_
          obtain ⟨ad35, seg35, a35, rp35, ce35⟩ := e_index_ro (q := i) (m := 1) l0_2 rfl (by first|omega|(simp;omega)|assumption) (by first|omega|(simp;omega)|assumption)
          refine p_v (v := .pointer (some ad35)) rfl rfl rfl (x_index_ro u24 ty23 rfl rfl a35 (by first|omega|(simp;omega)|assumption) (by first|omega|(simp;omega)|assumption)) ?_
          obtain ⟨A35, c35, rfl, lc35, cm35, ld35⟩ := rp35
          have cn35 := cm35; simp only [maxLen] at cn35
          refine p_v (v := .slice A35 (at_ m.follow i).length c35) rfl rfl rfl (x_load (seg := [.slice A35 (at_ m.follow i).length c35]) ty23 rfl (by simp) rfl (CF.ghost ce35 (St.le0 S34))) ?_
          refine p_v (v := .int .i64 ((at_ m.follow i).length : Int)) rfl rfl rfl (x_len_slice u23 rfl) ?_
          refine p_v (v := .bool (decide (k < ((at_ m.follow i).length : Int)))) rfl rfl rfl (x_lss rfl rfl) ?_
          refine run_region_end ?_
          refine run_cond_prop (p := k < ((at_ m.follow i).length : Int)) rfl (fun hc36 => ?_) (fun hc36 => ?_)
          · skip
            refine run_skip ?_
            refine run_seq ?_
            refine run_block ?_
            refine run_seq ?_
            refine run_reg (l := [0, 1, 2, 3, 4, 5, 6, 7, 8]) rfl ?_
            refine p_v (v := .pointer (some ⟨b1, 2, none⟩)) rfl rfl rfl (x_fieldAt fd27_2 ty24 rfl r34_1) ?_
            refine p_v (v := .slice A0_2 m.follow.length c0_2) rfl rfl rfl (x_load (seg := [.slice A0_2 m.follow.length c0_2]) ty24 rfl (by simp) rfl (CF.box (m := 1) (S34.box_at (j := 0) rfl) rfl)) ?_
            refine p_v (v := .int .i64 i) rfl rfl rfl (x_move r34_7) ?_
            obtain ⟨ad37, seg37, a37, rp37, ce37⟩ := e_index_ro (q := i) (m := 1) l0_2 rfl (by first|omega|(simp;omega)|assumption) (by first|omega|(simp;omega)|assumption)
            refine p_v (v := .pointer (some ad37)) rfl rfl rfl (x_index_ro u24 ty23 rfl rfl a37 (by first|omega|(simp;omega)|assumption) (by first|omega|(simp;omega)|assumption)) ?_
            obtain ⟨A37, c37, rfl, lc37, cm37, ld37⟩ := rp37
            have cn37 := cm37; simp only [maxLen] at cn37
            refine p_v (v := .slice A37 (at_ m.follow i).length c37) rfl rfl rfl (x_load (seg := [.slice A37 (at_ m.follow i).length c37]) ty23 rfl (by simp) rfl (CF.ghost ce37 (St.le0 S34))) ?_
            refine p_v (v := .int .i64 k) rfl rfl rfl (x_move r34_8) ?_
            obtain ⟨ad38, seg38, a38, rp38, ce38⟩ := e_index_ro (q := k) (m := 1) ld37 rfl (by first|omega|(simp;omega)|assumption) (by first|omega|(simp;omega)|assumption)
            refine p_v (v := .pointer (some ad38)) rfl rfl rfl (x_index_ro u23 ty3 rfl rfl a38 (by first|omega|(simp;omega)|assumption) (by first|omega|(simp;omega)|assumption)) ?_
            obtain ⟨rfl, in38⟩ := rp38
            have lo38 := i64_lo in38; have hi38 := i64_hi in38
            refine p_v (v := .int .i64 (at_ (at_ m.follow i) k)) rfl rfl rfl (x_load (seg := [.int .i64 (at_ (at_ m.follow i) k)]) ty3 rfl (by simp) rfl (CF.ghost ce38 (St.le0 S34))) ?_
            refine p_v (v := .int .i64 (at_ (at_ m.follow i) k)) rfl rfl rfl (x_assign rfl) ?_
            refine run_region_end ?_
            refine run_seq ?_
            refine run_joinW (fun ρ w' => ∃ (h : Ghost) (come5 : List Bool), Le h34 h ∧ St w.heap.size w h w' [box b1 27 [.slice A0_0 m.spots.length c0_0, .slice A0_1 m.first.length c0_1, .slice A0_2 m.follow.length c0_2, .slice A0_3 m.last.length c0_3, .bool m.empty], row 4 Kd.bool v_come4 come5, row 4 Kd.bool v_goes4 goes4] ∧ ρ 1 = .pointer (some ⟨b1, 0, none⟩) ∧ ρ 3 = .int .i64 (m.spots.length : Int) ∧ ρ 4 = v_come4 ∧ ρ 5 = v_goes4 ∧ ρ 6 = .int .i64 round ∧ ρ 7 = .int .i64 i ∧ ρ 8 = .int .i64 k ∧ ρ 9 = .int .i64 (at_ (at_ m.follow i) k) ∧ (RefI m come goes come5 goes4 (clC2 m come i (k + 1)) (clG2 m goes i k))) ?_ (fun jn50 => ?_)
            · skip
              rintro ρj50 wj50 ⟨hj50, come5, lej50, Sj50, rj50_1, rj50_3, rj50_4, rj50_5, rj50_6, rj50_7, rj50_8, rj50_9, jI50⟩
              have jr50_1 := Sj50.row_le (j := 1) rfl; simp only [maxLen] at jr50_1
              have jr50_2 := Sj50.row_le (j := 2) rfl; simp only [maxLen] at jr50_2
              have JI5_ := jI50
              have hj5_ := JI5_.growC.len
              refine run_seq ?_
              refine run_reg (l := [0, 1, 2, 3, 4, 5, 6, 7, 8, 9, 10, 11, 12]) rfl ?_
              refine p_v (v := v_goes4) rfl rfl rfl (x_move rj50_5) ?_
              refine p_v (v := .int .i64 (at_ (at_ m.follow i) k)) rfl rfl rfl (x_move rj50_9) ?_
              obtain ⟨ad51, a51, at51⟩ := e_index_own (q := at_ (at_ m.follow i) k) (m := 1) Sj50 (j := 2) rfl rfl (by first|omega|(simp;omega)|assumption) (by first|omega|(simp;omega)|assumption)
              refine p_v (v := .pointer (some ad51)) rfl rfl rfl (x_index_own u25 ty4 rfl rfl a51 (by first|omega|(simp;omega)|assumption) (by first|omega|(simp;omega)|assumption)) ?_
              obtain ⟨seg52, rp52, cf52⟩ := e_load_own (q := at_ (at_ m.follow i) k) Sj50 (j := 2) rfl rfl at51 (by first|omega|(simp;omega)|assumption) (by first|omega|(simp;omega)|assumption)
              obtain ⟨rfl, _⟩ := rp52
              refine p_v (v := .bool (at_ goes4 (at_ (at_ m.follow i) k))) rfl rfl rfl (x_load (seg := [.bool (at_ goes4 (at_ (at_ m.follow i) k))]) ty4 rfl (by simp) rfl cf52) ?_
              refine p_v (v := .bool (at_ goes4 (at_ (at_ m.follow i) k))) rfl rfl rfl (x_move rfl) ?_
              rcases Bool.eq_false_or_eq_true (at_ goes4 (at_ (at_ m.follow i) k)) with hc53 | hc53
              · skip
                refine p_v (v := .pointer (some ⟨b1, 0, none⟩)) rfl (wanted_of (j := 4) (want := true) (d := 99) (b := true) rfl rfl (congrArg Value.bool hc53) rfl) rfl (x_fieldAt fd27_0 ty22 rfl rj50_1) ?_
                refine p_v (v := .slice A0_0 m.spots.length c0_0) rfl (wanted_of (j := 4) (want := true) (d := 99) (b := true) rfl rfl (congrArg Value.bool hc53) rfl) rfl (x_load (seg := [.slice A0_0 m.spots.length c0_0]) ty22 rfl (by simp) rfl (CF.box (m := 1) (Sj50.box_at (j := 0) rfl) rfl)) ?_
                refine p_v (v := .int .i64 i) rfl (wanted_of (j := 4) (want := true) (d := 99) (b := true) rfl rfl (congrArg Value.bool hc53) rfl) rfl (x_move rj50_7) ?_
                obtain ⟨ad54, seg54, a54, rp54, ce54⟩ := e_index_ro (q := i) (m := 5) l0_0 rfl (by first|omega|(simp;omega)|assumption) (by first|omega|(simp;omega)|assumption)
                refine p_v (v := .pointer (some ad54)) rfl (wanted_of (j := 4) (want := true) (d := 99) (b := true) rfl rfl (congrArg Value.bool hc53) rfl) rfl (x_index_ro u22 ty39 rfl rfl a54 (by first|omega|(simp;omega)|assumption) (by first|omega|(simp;omega)|assumption)) ?_
                obtain ⟨rfl, ok54⟩ := rp54
                have slook54 := u8_lo ok54; have shiok54 := u8_hi ok54
                refine p_v (v := .pointer (some (ad54.add 0))) rfl (wanted_of (j := 4) (want := true) (d := 99) (b := true) rfl rfl (congrArg Value.bool hc53) rfl) rfl (x_fieldAd fd39_0 ty37 rfl rfl) ?_
                refine p_v (v := .agg (encSet ((at_ m.spots i).set)).toArray) rfl (wanted_of (j := 4) (want := true) (d := 99) (b := true) rfl rfl (congrArg Value.bool hc53) rfl) rfl (x_load (seg := (encSet ((at_ m.spots i).set))) ty37 rfl (by simp) rfl (CF.ghost (sub_seg (o := 0) (m := 4) (ds := (encSet ((at_ m.spots i).set))) ce54 rfl) (St.le0 Sj50))) ?_
                refine p_c rfl (wanted_of (j := 4) (want := true) (d := 99) (b := true) rfl rfl (congrArg Value.bool hc53) rfl) rfl (y_call (args := [.agg (encSet ((at_ m.spots i).set)).toArray]) ca47 rfl rfl) (full_calls wj50 ((at_ m.spots i).set)) ?_
                rintro _ w56 ⟨h56, T56, rfl⟩
                have S57 := Sj50.keep (Chg.of_below T56.below)
                refine p_v (v := .bool (decide (((at_ m.spots i).set) ≠ 0))) rfl rfl rfl (x_pick_t (congrArg Value.bool hc53) rfl) ?_
                refine run_region_end ?_
                refine run_cond_split (b := decide (((at_ m.spots i).set) ≠ 0)) rfl (fun hc58 => ?_) (fun hc58 => ?_)
                · skip
                  refine run_reg (l := [0, 1, 2, 3]) rfl ?_
                  refine p_v (v := v_goes4) rfl rfl rfl (x_move rj50_5) ?_
                  refine p_v (v := .int .i64 i) rfl rfl rfl (x_move rj50_7) ?_
                  obtain ⟨ad59, a59, at59⟩ := e_index_own (q := i) (m := 1) S57 (j := 2) rfl rfl (by first|omega|(simp;omega)|assumption) (by first|omega|(simp;omega)|assumption)
                  refine p_v (v := .pointer (some ad59)) rfl rfl rfl (x_index_own u25 ty4 rfl rfl a59 (by first|omega|(simp;omega)|assumption) (by first|omega|(simp;omega)|assumption)) ?_
                  obtain ⟨w60, r60, g60, T60⟩ := e_store_own (u := .bool true) (q := i) true (vs := [.bool true]) S57 ty4 rfl (j := 2) rfl rfl ⟨rfl, trivial⟩ at59 (by first|omega|(simp;omega)|assumption) (by first|omega|(simp;omega)|assumption)
                  have S61 : St w.heap.size w hj50 w60 [box b1 27 [.slice A0_0 m.spots.length c0_0, .slice A0_1 m.first.length c0_1, .slice A0_2 m.follow.length c0_2, .slice A0_3 m.last.length c0_3, .bool m.empty], row 4 Kd.bool v_come4 come5, row 4 Kd.bool v_goes4 (goes4.set (i).toNat true)] := T60
                  refine p_s rfl rfl (x_store rfl rfl r60) ?_
                  refine run_region_end ?_
                  refine run_inBlock ?_
                  refine run_reg (l := [0, 1, 2]) rfl ?_
                  refine p_v (v := .int .i64 k) rfl rfl rfl (x_move rj50_8) ?_
                  refine p_v (v := .int .i64 (k + 1)) rfl rfl rfl (x_add rfl rfl (in_i64 (by first|omega|(simp;omega)|assumption) (by first|omega|(simp;omega)|assumption))) ?_
                  refine p_v (v := .int .i64 (k + 1)) rfl rfl rfl (x_assign rfl) ?_
                  refine run_region_end ?_
                  refine ih34 (come5, goes4.set (i).toNat true, k + 1) _ _ (by dsimp only; omega) ⟨hj50, v_come4, v_goes4, ((le34).trans lej50), S61.sub [0, 1, 2] (by decide) rfl _ rfl, rj50_1, rj50_3, rj50_4, rj50_5, rj50_6, rj50_7, rfl, (in_i64 (by first|omega|(simp;omega)|assumption) (by first|omega|(simp;omega)|assumption)), (by exact ⟨by omega, by omega, by first | exact ref_kg1 hR_ JI5_ hI9.1 (by omega) hI34.1 (by omega) (by assumption) (by assumption) | exact ref_kg2 JI5_ hI9.1 hI34.1 (by omega) (.inl (by assumption)) | exact ref_kg2 JI5_ hI9.1 hI34.1 (by omega) (.inr (by assumption))⟩)⟩
                · skip
                  refine run_skip ?_
                  refine run_inBlock ?_
                  refine run_reg (l := [0, 1, 2]) rfl ?_
                  refine p_v (v := .int .i64 k) rfl rfl rfl (x_move rj50_8) ?_
                  refine p_v (v := .int .i64 (k + 1)) rfl rfl rfl (x_add rfl rfl (in_i64 (by first|omega|(simp;omega)|assumption) (by first|omega|(simp;omega)|assumption))) ?_
                  refine p_v (v := .int .i64 (k + 1)) rfl rfl rfl (x_assign rfl) ?_
                  refine run_region_end ?_
                  refine ih34 (come5, goes4, k + 1) _ _ (by dsimp only; omega) ⟨hj50, v_come4, v_goes4, ((le34).trans lej50), S57.sub [0, 1, 2] (by decide) rfl _ rfl, rj50_1, rj50_3, rj50_4, rj50_5, rj50_6, rj50_7, rfl, (in_i64 (by first|omega|(simp;omega)|assumption) (by first|omega|(simp;omega)|assumption)), (by exact ⟨by omega, by omega, by first | exact ref_kg1 hR_ JI5_ hI9.1 (by omega) hI34.1 (by omega) (by assumption) (by assumption) | exact ref_kg2 JI5_ hI9.1 hI34.1 (by omega) (.inl (by assumption)) | exact ref_kg2 JI5_ hI9.1 hI34.1 (by omega) (.inr (by assumption))⟩)⟩
              · skip
                refine p_off rfl (wanted_of (j := 4) (want := true) (d := 99) (b := false) rfl rfl (congrArg Value.bool hc53) rfl) rfl ?_
                refine p_off rfl (wanted_of (j := 4) (want := true) (d := 99) (b := false) rfl rfl (congrArg Value.bool hc53) rfl) rfl ?_
                refine p_off rfl (wanted_of (j := 4) (want := true) (d := 99) (b := false) rfl rfl (congrArg Value.bool hc53) rfl) rfl ?_
                refine p_off rfl (wanted_of (j := 4) (want := true) (d := 99) (b := false) rfl rfl (congrArg Value.bool hc53) rfl) rfl ?_
                refine p_off rfl (wanted_of (j := 4) (want := true) (d := 99) (b := false) rfl rfl (congrArg Value.bool hc53) rfl) rfl ?_
                refine p_off rfl (wanted_of (j := 4) (want := true) (d := 99) (b := false) rfl rfl (congrArg Value.bool hc53) rfl) rfl ?_
                refine p_off rfl (wanted_of (j := 4) (want := true) (d := 99) (b := false) rfl rfl (congrArg Value.bool hc53) rfl) rfl ?_
                refine p_v (v := .bool false) rfl rfl rfl (x_pick_f (congrArg Value.bool hc53) rfl) ?_
                refine run_region_end ?_
                refine run_cond (b := false) rfl ?_
                simp only [if_true, if_false, Bool.false_eq_true]
                refine run_skip ?_
                refine run_inBlock ?_
                refine run_reg (l := [0, 1, 2]) rfl ?_
                refine p_v (v := .int .i64 k) rfl rfl rfl (x_move rj50_8) ?_
                refine p_v (v := .int .i64 (k + 1)) rfl rfl rfl (x_add rfl rfl (in_i64 (by first|omega|(simp;omega)|assumption) (by first|omega|(simp;omega)|assumption))) ?_
                refine p_v (v := .int .i64 (k + 1)) rfl rfl rfl (x_assign rfl) ?_
                refine run_region_end ?_
                refine ih34 (come5, goes4, k + 1) _ _ (by dsimp only; omega) ⟨hj50, v_come4, v_goes4, ((le34).trans lej50), Sj50.sub [0, 1, 2] (by decide) rfl _ rfl, rj50_1, rj50_3, rj50_4, rj50_5, rj50_6, rj50_7, rfl, (in_i64 (by first|omega|(simp;omega)|assumption) (by first|omega|(simp;omega)|assumption)), (by exact ⟨by omega, by omega, by first | exact ref_kg1 hR_ JI5_ hI9.1 (by omega) hI34.1 (by omega) (by assumption) (by assumption) | exact ref_kg2 JI5_ hI9.1 hI34.1 (by omega) (.inl (by assumption)) | exact ref_kg2 JI5_ hI9.1 hI34.1 (by omega) (.inr (by assumption))⟩)⟩
            · skip
              refine run_seq ?_
              refine run_reg (l := [0, 1, 2, 3, 4, 5, 6, 7, 8, 9, 10, 11, 12]) rfl ?_
              refine p_v (v := v_come4) rfl rfl rfl (x_move r34_4) ?_
              refine p_v (v := .int .i64 i) rfl rfl rfl (x_move r34_7) ?_
              obtain ⟨ad62, a62, at62⟩ := e_index_own (q := i) (m := 1) S34 (j := 1) rfl rfl (by first|omega|(simp;omega)|assumption) (by first|omega|(simp;omega)|assumption)
              refine p_v (v := .pointer (some ad62)) rfl rfl rfl (x_index_own u25 ty4 rfl rfl a62 (by first|omega|(simp;omega)|assumption) (by first|omega|(simp;omega)|assumption)) ?_
              obtain ⟨seg63, rp63, cf63⟩ := e_load_own (q := i) S34 (j := 1) rfl rfl at62 (by first|omega|(simp;omega)|assumption) (by first|omega|(simp;omega)|assumption)
              obtain ⟨rfl, _⟩ := rp63
              refine p_v (v := .bool (at_ come4 i)) rfl rfl rfl (x_load (seg := [.bool (at_ come4 i)]) ty4 rfl (by simp) rfl cf63) ?_
              refine p_v (v := .bool (at_ come4 i)) rfl rfl rfl (x_move rfl) ?_
              rcases Bool.eq_false_or_eq_true (at_ come4 i) with hc64 | hc64
              · skip
                refine p_v (v := .pointer (some ⟨b1, 0, none⟩)) rfl (wanted_of (j := 4) (want := true) (d := 83) (b := true) rfl rfl (congrArg Value.bool hc64) rfl) rfl (x_fieldAt fd27_0 ty22 rfl r34_1) ?_
                refine p_v (v := .slice A0_0 m.spots.length c0_0) rfl (wanted_of (j := 4) (want := true) (d := 83) (b := true) rfl rfl (congrArg Value.bool hc64) rfl) rfl (x_load (seg := [.slice A0_0 m.spots.length c0_0]) ty22 rfl (by simp) rfl (CF.box (m := 1) (S34.box_at (j := 0) rfl) rfl)) ?_
                refine p_v (v := .int .i64 (at_ (at_ m.follow i) k)) rfl (wanted_of (j := 4) (want := true) (d := 83) (b := true) rfl rfl (congrArg Value.bool hc64) rfl) rfl (x_move rfl) ?_
                obtain ⟨ad65, seg65, a65, rp65, ce65⟩ := e_index_ro (q := at_ (at_ m.follow i) k) (m := 5) l0_0 rfl (by first|omega|(simp;omega)|assumption) (by first|omega|(simp;omega)|assumption)
                refine p_v (v := .pointer (some ad65)) rfl (wanted_of (j := 4) (want := true) (d := 83) (b := true) rfl rfl (congrArg Value.bool hc64) rfl) rfl (x_index_ro u22 ty39 rfl rfl a65 (by first|omega|(simp;omega)|assumption) (by first|omega|(simp;omega)|assumption)) ?_
                obtain ⟨rfl, ok65⟩ := rp65
                have slook65 := u8_lo ok65; have shiok65 := u8_hi ok65
                refine p_v (v := .pointer (some (ad65.add 0))) rfl (wanted_of (j := 4) (want := true) (d := 83) (b := true) rfl rfl (congrArg Value.bool hc64) rfl) rfl (x_fieldAd fd39_0 ty37 rfl rfl) ?_
                refine p_v (v := .agg (encSet ((at_ m.spots (at_ (at_ m.follow i) k)).set)).toArray) rfl (wanted_of (j := 4) (want := true) (d := 83) (b := true) rfl rfl (congrArg Value.bool hc64) rfl) rfl (x_load (seg := (encSet ((at_ m.spots (at_ (at_ m.follow i) k)).set))) ty37 rfl (by simp) rfl (CF.ghost (sub_seg (o := 0) (m := 4) (ds := (encSet ((at_ m.spots (at_ (at_ m.follow i) k)).set))) ce65 rfl) (St.le0 S34))) ?_
                refine p_c rfl (wanted_of (j := 4) (want := true) (d := 83) (b := true) rfl rfl (congrArg Value.bool hc64) rfl) rfl (y_call (args := [.agg (encSet ((at_ m.spots (at_ (at_ m.follow i) k)).set)).toArray]) ca47 rfl rfl) (full_calls w34 ((at_ m.spots (at_ (at_ m.follow i) k)).set)) ?_
                rintro _ w67 ⟨h67, T67, rfl⟩
                have S68 := S34.keep (Chg.of_below T67.below)
                refine p_v (v := .bool (decide (((at_ m.spots (at_ (at_ m.follow i) k)).set) ≠ 0))) rfl rfl rfl (x_pick_t (congrArg Value.bool hc64) rfl) ?_
                refine run_region_end ?_
                refine run_cond_split (b := decide (((at_ m.spots (at_ (at_ m.follow i) k)).set) ≠ 0)) rfl (fun hc69 => ?_) (fun hc69 => ?_)
                · skip
                  refine run_reg (l := [0, 1, 2, 3]) rfl ?_
                  refine p_v (v := v_come4) rfl rfl rfl (x_move r34_4) ?_
                  refine p_v (v := .int .i64 (at_ (at_ m.follow i) k)) rfl rfl rfl (x_move rfl) ?_
                  obtain ⟨ad70, a70, at70⟩ := e_index_own (q := at_ (at_ m.follow i) k) (m := 1) S68 (j := 1) rfl rfl (by first|omega|(simp;omega)|assumption) (by first|omega|(simp;omega)|assumption)
                  refine p_v (v := .pointer (some ad70)) rfl rfl rfl (x_index_own u25 ty4 rfl rfl a70 (by first|omega|(simp;omega)|assumption) (by first|omega|(simp;omega)|assumption)) ?_
                  obtain ⟨w71, r71, g71, T71⟩ := e_store_own (u := .bool true) (q := at_ (at_ m.follow i) k) true (vs := [.bool true]) S68 ty4 rfl (j := 1) rfl rfl ⟨rfl, trivial⟩ at70 (by first|omega|(simp;omega)|assumption) (by first|omega|(simp;omega)|assumption)
                  have S72 : St w.heap.size w h34 w71 [box b1 27 [.slice A0_0 m.spots.length c0_0, .slice A0_1 m.first.length c0_1, .slice A0_2 m.follow.length c0_2, .slice A0_3 m.last.length c0_3, .bool m.empty], row 4 Kd.bool v_come4 (come4.set (at_ (at_ m.follow i) k).toNat true), row 4 Kd.bool v_goes4 goes4] := T71
                  refine p_s rfl rfl (x_store rfl rfl r71) ?_
                  refine run_region_end ?_
                  exact jn50 _ _ ⟨h34, (come4.set (at_ (at_ m.follow i) k).toNat true), (Le.refl _), S72.sub [0, 1, 2] (by decide) rfl _ rfl, r34_1, r34_3, r34_4, r34_5, r34_6, r34_7, r34_8, rfl, (by first | exact ref_kc1 hR_ hI34.2.2 hI9.1 (by omega) hI34.1 (by omega) (by assumption) (by assumption) | exact ref_kc2 hI34.2.2 hI34.1 (by omega) (hx_ (by omega)).1 (.inl (by assumption)) | exact ref_kc2 hI34.2.2 hI34.1 (by omega) (hx_ (by omega)).1 (.inr (by assumption)))⟩
                · skip
                  refine run_skip ?_
                  exact jn50 _ _ ⟨h34, come4, (Le.refl _), S68.sub [0, 1, 2] (by decide) rfl _ rfl, r34_1, r34_3, r34_4, r34_5, r34_6, r34_7, r34_8, rfl, (by first | exact ref_kc1 hR_ hI34.2.2 hI9.1 (by omega) hI34.1 (by omega) (by assumption) (by assumption) | exact ref_kc2 hI34.2.2 hI34.1 (by omega) (hx_ (by omega)).1 (.inl (by assumption)) | exact ref_kc2 hI34.2.2 hI34.1 (by omega) (hx_ (by omega)).1 (.inr (by assumption)))⟩
              · skip
                refine p_off rfl (wanted_of (j := 4) (want := true) (d := 83) (b := false) rfl rfl (congrArg Value.bool hc64) rfl) rfl ?_
                refine p_off rfl (wanted_of (j := 4) (want := true) (d := 83) (b := false) rfl rfl (congrArg Value.bool hc64) rfl) rfl ?_
                refine p_off rfl (wanted_of (j := 4) (want := true) (d := 83) (b := false) rfl rfl (congrArg Value.bool hc64) rfl) rfl ?_
                refine p_off rfl (wanted_of (j := 4) (want := true) (d := 83) (b := false) rfl rfl (congrArg Value.bool hc64) rfl) rfl ?_
                refine p_off rfl (wanted_of (j := 4) (want := true) (d := 83) (b := false) rfl rfl (congrArg Value.bool hc64) rfl) rfl ?_
                refine p_off rfl (wanted_of (j := 4) (want := true) (d := 83) (b := false) rfl rfl (congrArg Value.bool hc64) rfl) rfl ?_
                refine p_off rfl (wanted_of (j := 4) (want := true) (d := 83) (b := false) rfl rfl (congrArg Value.bool hc64) rfl) rfl ?_
                refine p_v (v := .bool false) rfl rfl rfl (x_pick_f (congrArg Value.bool hc64) rfl) ?_
                refine run_region_end ?_
                refine run_cond (b := false) rfl ?_
                simp only [if_true, if_false, Bool.false_eq_true]
                refine run_skip ?_
                exact jn50 _ _ ⟨h34, come4, (Le.refl _), S34.sub [0, 1, 2] (by decide) rfl _ rfl, r34_1, r34_3, r34_4, r34_5, r34_6, r34_7, r34_8, rfl, (by first | exact ref_kc1 hR_ hI34.2.2 hI9.1 (by omega) hI34.1 (by omega) (by assumption) (by assumption) | exact ref_kc2 hI34.2.2 hI34.1 (by omega) (hx_ (by omega)).1 (.inl (by assumption)) | exact ref_kc2 hI34.2.2 hI34.1 (by omega) (hx_ (by omega)).1 (.inr (by assumption)))⟩
          · skip
            refine run_exit rfl ?_
            refine run_inBlock ?_
            refine run_reg (l := [0, 1, 2]) rfl ?_
            refine p_v (v := .int .i64 i) rfl rfl rfl (x_move r34_7) ?_
            refine p_v (v := .int .i64 (i + 1)) rfl rfl rfl (x_add rfl rfl (in_i64 (by first|omega|(simp;omega)|assumption) (by first|omega|(simp;omega)|assumption))) ?_
            refine p_v (v := .int .i64 (i + 1)) rfl rfl rfl (x_assign rfl) ?_
            refine run_region_end ?_
            refine ih9 (come4, goes4, i + 1) _ _ (by dsimp only; omega) ⟨h34, v_come4, v_goes4, ((((((le9).trans lej22)).trans lej33)).trans le34), S34.sub [0, 1, 2] (by decide) rfl _ rfl, r34_1, r34_3, r34_4, r34_5, r34_6, rfl, (in_i64 (by first|omega|(simp;omega)|assumption) (by first|omega|(simp;omega)|assumption)), (by exact ⟨by omega, by omega, ref_k1 hI34.2.2 (by omega)⟩)⟩
        · skip
          refine run_seq ?_
          refine run_reg (l := [0, 1, 2, 3, 4, 5, 6, 7, 8, 9, 10, 11, 12, 13]) rfl ?_
          refine p_v (v := .pointer (some ⟨b1, 3, none⟩)) rfl rfl rfl (x_fieldAt fd27_3 ty25 rfl rj22_1) ?_
          refine p_v (v := .slice A0_3 m.last.length c0_3) rfl rfl rfl (x_load (seg := [.slice A0_3 m.last.length c0_3]) ty25 rfl (by simp) rfl (CF.box (m := 1) (Sj22.box_at (j := 0) rfl) rfl)) ?_
          refine p_v (v := .int .i64 i) rfl rfl rfl (x_move rj22_7) ?_
          obtain ⟨ad73, seg73, a73, rp73, ce73⟩ := e_index_ro (q := i) (m := 1) l0_3 rfl (by first|omega|(simp;omega)|assumption) (by first|omega|(simp;omega)|assumption)
          refine p_v (v := .pointer (some ad73)) rfl rfl rfl (x_index_ro u25 ty4 rfl rfl a73 (by first|omega|(simp;omega)|assumption) (by first|omega|(simp;omega)|assumption)) ?_
          obtain ⟨rfl, _⟩ := rp73
          refine p_v (v := .bool (at_ m.last i)) rfl rfl rfl (x_load (seg := [.bool (at_ m.last i)]) ty4 rfl (by simp) rfl (CF.ghost ce73 (St.le0 Sj22))) ?_
          refine p_v (v := .bool (at_ m.last i)) rfl rfl rfl (x_move rfl) ?_
          rcases Bool.eq_false_or_eq_true (at_ m.last i) with hc74 | hc74
          · skip
            refine p_v (v := .pointer (some ⟨b1, 0, none⟩)) rfl (wanted_of (j := 5) (want := true) (d := 49) (b := true) rfl rfl (congrArg Value.bool hc74) rfl) rfl (x_fieldAt fd27_0 ty22 rfl rj22_1) ?_
            refine p_v (v := .slice A0_0 m.spots.length c0_0) rfl (wanted_of (j := 5) (want := true) (d := 49) (b := true) rfl rfl (congrArg Value.bool hc74) rfl) rfl (x_load (seg := [.slice A0_0 m.spots.length c0_0]) ty22 rfl (by simp) rfl (CF.box (m := 1) (Sj22.box_at (j := 0) rfl) rfl)) ?_
            refine p_v (v := .int .i64 i) rfl (wanted_of (j := 5) (want := true) (d := 49) (b := true) rfl rfl (congrArg Value.bool hc74) rfl) rfl (x_move rj22_7) ?_
            obtain ⟨ad75, seg75, a75, rp75, ce75⟩ := e_index_ro (q := i) (m := 5) l0_0 rfl (by first|omega|(simp;omega)|assumption) (by first|omega|(simp;omega)|assumption)
            refine p_v (v := .pointer (some ad75)) rfl (wanted_of (j := 5) (want := true) (d := 49) (b := true) rfl rfl (congrArg Value.bool hc74) rfl) rfl (x_index_ro u22 ty39 rfl rfl a75 (by first|omega|(simp;omega)|assumption) (by first|omega|(simp;omega)|assumption)) ?_
            obtain ⟨rfl, ok75⟩ := rp75
            have slook75 := u8_lo ok75; have shiok75 := u8_hi ok75
            refine p_v (v := .pointer (some (ad75.add 0))) rfl (wanted_of (j := 5) (want := true) (d := 49) (b := true) rfl rfl (congrArg Value.bool hc74) rfl) rfl (x_fieldAd fd39_0 ty37 rfl rfl) ?_
            refine p_v (v := .agg (encSet ((at_ m.spots i).set)).toArray) rfl (wanted_of (j := 5) (want := true) (d := 49) (b := true) rfl rfl (congrArg Value.bool hc74) rfl) rfl (x_load (seg := (encSet ((at_ m.spots i).set))) ty37 rfl (by simp) rfl (CF.ghost (sub_seg (o := 0) (m := 4) (ds := (encSet ((at_ m.spots i).set))) ce75 rfl) (St.le0 Sj22))) ?_
            refine p_c rfl (wanted_of (j := 5) (want := true) (d := 49) (b := true) rfl rfl (congrArg Value.bool hc74) rfl) rfl (y_call (args := [.agg (encSet ((at_ m.spots i).set)).toArray]) ca47 rfl rfl) (full_calls wj22 ((at_ m.spots i).set)) ?_
            rintro _ w77 ⟨h77, T77, rfl⟩
            have S78 := Sj22.keep (Chg.of_below T77.below)
            refine p_v (v := .bool (decide (((at_ m.spots i).set) ≠ 0))) rfl rfl rfl (x_pick_t (congrArg Value.bool hc74) rfl) ?_
            refine run_region_end ?_
            refine run_cond_split (b := decide (((at_ m.spots i).set) ≠ 0)) rfl (fun hc79 => ?_) (fun hc79 => ?_)
            · skip
              refine run_reg (l := [0, 1, 2, 3]) rfl ?_
              refine p_v (v := v_goes2) rfl rfl rfl (x_move rj22_5) ?_
              refine p_v (v := .int .i64 i) rfl rfl rfl (x_move rj22_7) ?_
              obtain ⟨ad80, a80, at80⟩ := e_index_own (q := i) (m := 1) S78 (j := 2) rfl rfl (by first|omega|(simp;omega)|assumption) (by first|omega|(simp;omega)|assumption)
              refine p_v (v := .pointer (some ad80)) rfl rfl rfl (x_index_own u25 ty4 rfl rfl a80 (by first|omega|(simp;omega)|assumption) (by first|omega|(simp;omega)|assumption)) ?_
              obtain ⟨w81, r81, g81, T81⟩ := e_store_own (u := .bool true) (q := i) true (vs := [.bool true]) S78 ty4 rfl (j := 2) rfl rfl ⟨rfl, trivial⟩ at80 (by first|omega|(simp;omega)|assumption) (by first|omega|(simp;omega)|assumption)
              have S82 : St w.heap.size w hj22 w81 [box b1 27 [.slice A0_0 m.spots.length c0_0, .slice A0_1 m.first.length c0_1, .slice A0_2 m.follow.length c0_2, .slice A0_3 m.last.length c0_3, .bool m.empty], row 4 Kd.bool v_come2 come3, row 4 Kd.bool v_goes2 (goes2.set (i).toNat true)] := T81
              refine p_s rfl rfl (x_store rfl rfl r81) ?_
              refine run_region_end ?_
              exact jn33 _ _ ⟨hj22, (goes2.set (i).toNat true), (Le.refl _), S82.sub [0, 1, 2] (by decide) rfl _ rfl, rj22_1, rj22_3, rj22_4, rj22_5, rj22_6, rj22_7, (by first | exact ref_g1 hR_ JI2_ hI9.1 (by omega) (by assumption) (by assumption) | exact ref_g2 JI2_ hI9.1 (.inl (by assumption)) | exact ref_g2 JI2_ hI9.1 (.inr (by assumption)))⟩
            · skip
              refine run_skip ?_
              exact jn33 _ _ ⟨hj22, goes2, (Le.refl _), S78.sub [0, 1, 2] (by decide) rfl _ rfl, rj22_1, rj22_3, rj22_4, rj22_5, rj22_6, rj22_7, (by first | exact ref_g1 hR_ JI2_ hI9.1 (by omega) (by assumption) (by assumption) | exact ref_g2 JI2_ hI9.1 (.inl (by assumption)) | exact ref_g2 JI2_ hI9.1 (.inr (by assumption)))⟩
          · skip
            refine p_off rfl (wanted_of (j := 5) (want := true) (d := 49) (b := false) rfl rfl (congrArg Value.bool hc74) rfl) rfl ?_
            refine p_off rfl (wanted_of (j := 5) (want := true) (d := 49) (b := false) rfl rfl (congrArg Value.bool hc74) rfl) rfl ?_
            refine p_off rfl (wanted_of (j := 5) (want := true) (d := 49) (b := false) rfl rfl (congrArg Value.bool hc74) rfl) rfl ?_
            refine p_off rfl (wanted_of (j := 5) (want := true) (d := 49) (b := false) rfl rfl (congrArg Value.bool hc74) rfl) rfl ?_
            refine p_off rfl (wanted_of (j := 5) (want := true) (d := 49) (b := false) rfl rfl (congrArg Value.bool hc74) rfl) rfl ?_
            refine p_off rfl (wanted_of (j := 5) (want := true) (d := 49) (b := false) rfl rfl (congrArg Value.bool hc74) rfl) rfl ?_
            refine p_off rfl (wanted_of (j := 5) (want := true) (d := 49) (b := false) rfl rfl (congrArg Value.bool hc74) rfl) rfl ?_
            refine p_v (v := .bool false) rfl rfl rfl (x_pick_f (congrArg Value.bool hc74) rfl) ?_
            refine run_region_end ?_
            refine run_cond (b := false) rfl ?_
            simp only [if_true, if_false, Bool.false_eq_true]
            refine run_skip ?_
            exact jn33 _ _ ⟨hj22, goes2, (Le.refl _), Sj22.sub [0, 1, 2] (by decide) rfl _ rfl, rj22_1, rj22_3, rj22_4, rj22_5, rj22_6, rj22_7, (by first | exact ref_g1 hR_ JI2_ hI9.1 (by omega) (by assumption) (by assumption) | exact ref_g2 JI2_ hI9.1 (.inl (by assumption)) | exact ref_g2 JI2_ hI9.1 (.inr (by assumption)))⟩
      · skip
        refine run_seq ?_
        refine run_reg (l := [0, 1, 2, 3, 4, 5, 6, 7, 8, 9, 10, 11, 12]) rfl ?_
        refine p_v (v := .pointer (some ⟨b1, 1, none⟩)) rfl rfl rfl (x_fieldAt fd27_1 ty23 rfl r9_1) ?_
        refine p_v (v := .slice A0_1 m.first.length c0_1) rfl rfl rfl (x_load (seg := [.slice A0_1 m.first.length c0_1]) ty23 rfl (by simp) rfl (CF.box (m := 1) (S9.box_at (j := 0) rfl) rfl)) ?_
        refine p_v (v := .int .i64 i) rfl rfl rfl (x_move r9_7) ?_
        refine p_c rfl rfl rfl (y_call (args := [.slice A0_1 m.first.length c0_1, .int .i64 i]) ca41 rfl rfl) (hasn_calls w9 m.first A0_1 c0_1 b0_1 (l0_1.mono (St.le0 S9)) i f9_0) ?_
        rintro _ w83 ⟨h83, T83, rfl⟩
        have S84 := S9.keep (Chg.of_below T83.below)
        refine p_v (v := .bool (decide (i ∈ m.first))) rfl rfl rfl (x_move rfl) ?_
        rcases Bool.eq_false_or_eq_true (decide (i ∈ m.first)) with hc85 | hc85
        · skip
          refine p_v (v := .pointer (some ⟨b1, 0, none⟩)) rfl (wanted_of (j := 4) (want := true) (d := 32) (b := true) rfl rfl (congrArg Value.bool hc85) rfl) rfl (x_fieldAt fd27_0 ty22 rfl r9_1) ?_
          refine p_v (v := .slice A0_0 m.spots.length c0_0) rfl (wanted_of (j := 4) (want := true) (d := 32) (b := true) rfl rfl (congrArg Value.bool hc85) rfl) rfl (x_load (seg := [.slice A0_0 m.spots.length c0_0]) ty22 rfl (by simp) rfl (CF.box (m := 1) (S84.box_at (j := 0) rfl) rfl)) ?_
          refine p_v (v := .int .i64 i) rfl (wanted_of (j := 4) (want := true) (d := 32) (b := true) rfl rfl (congrArg Value.bool hc85) rfl) rfl (x_move r9_7) ?_
          obtain ⟨ad86, seg86, a86, rp86, ce86⟩ := e_index_ro (q := i) (m := 5) l0_0 rfl (by first|omega|(simp;omega)|assumption) (by first|omega|(simp;omega)|assumption)
          refine p_v (v := .pointer (some ad86)) rfl (wanted_of (j := 4) (want := true) (d := 32) (b := true) rfl rfl (congrArg Value.bool hc85) rfl) rfl (x_index_ro u22 ty39 rfl rfl a86 (by first|omega|(simp;omega)|assumption) (by first|omega|(simp;omega)|assumption)) ?_
          obtain ⟨rfl, ok86⟩ := rp86
          have slook86 := u8_lo ok86; have shiok86 := u8_hi ok86
          refine p_v (v := .pointer (some (ad86.add 0))) rfl (wanted_of (j := 4) (want := true) (d := 32) (b := true) rfl rfl (congrArg Value.bool hc85) rfl) rfl (x_fieldAd fd39_0 ty37 rfl rfl) ?_
          refine p_v (v := .agg (encSet ((at_ m.spots i).set)).toArray) rfl (wanted_of (j := 4) (want := true) (d := 32) (b := true) rfl rfl (congrArg Value.bool hc85) rfl) rfl (x_load (seg := (encSet ((at_ m.spots i).set))) ty37 rfl (by simp) rfl (CF.ghost (sub_seg (o := 0) (m := 4) (ds := (encSet ((at_ m.spots i).set))) ce86 rfl) (St.le0 S84))) ?_
          refine p_c rfl (wanted_of (j := 4) (want := true) (d := 32) (b := true) rfl rfl (congrArg Value.bool hc85) rfl) rfl (y_call (args := [.agg (encSet ((at_ m.spots i).set)).toArray]) ca47 rfl rfl) (full_calls w83 ((at_ m.spots i).set)) ?_
          rintro _ w88 ⟨h88, T88, rfl⟩
          have S89 := S84.keep (Chg.of_below T88.below)
          refine p_v (v := .bool (decide (((at_ m.spots i).set) ≠ 0))) rfl rfl rfl (x_pick_t (congrArg Value.bool hc85) rfl) ?_
          refine run_region_end ?_
          refine run_cond_split (b := decide (((at_ m.spots i).set) ≠ 0)) rfl (fun hc90 => ?_) (fun hc90 => ?_)
          · skip
            refine run_reg (l := [0, 1, 2, 3]) rfl ?_
            refine p_v (v := v_come2) rfl rfl rfl (x_move r9_4) ?_
            refine p_v (v := .int .i64 i) rfl rfl rfl (x_move r9_7) ?_
            obtain ⟨ad91, a91, at91⟩ := e_index_own (q := i) (m := 1) S89 (j := 1) rfl rfl (by first|omega|(simp;omega)|assumption) (by first|omega|(simp;omega)|assumption)
            refine p_v (v := .pointer (some ad91)) rfl rfl rfl (x_index_own u25 ty4 rfl rfl a91 (by first|omega|(simp;omega)|assumption) (by first|omega|(simp;omega)|assumption)) ?_
            obtain ⟨w92, r92, g92, T92⟩ := e_store_own (u := .bool true) (q := i) true (vs := [.bool true]) S89 ty4 rfl (j := 1) rfl rfl ⟨rfl, trivial⟩ at91 (by first|omega|(simp;omega)|assumption) (by first|omega|(simp;omega)|assumption)
            have S93 : St w.heap.size w h9 w92 [box b1 27 [.slice A0_0 m.spots.length c0_0, .slice A0_1 m.first.length c0_1, .slice A0_2 m.follow.length c0_2, .slice A0_3 m.last.length c0_3, .bool m.empty], row 4 Kd.bool v_come2 (come2.set (i).toNat true), row 4 Kd.bool v_goes2 goes2] := T92
            refine p_s rfl rfl (x_store rfl rfl r92) ?_
            refine run_region_end ?_
            exact jn22 _ _ ⟨h9, (come2.set (i).toNat true), (Le.refl _), S93.sub [0, 1, 2] (by decide) rfl _ rfl, r9_1, r9_3, r9_4, r9_5, r9_6, r9_7, (by first | exact ref_c1 hR_ hI9.2.2 hI9.1 (by omega) (by assumption) (by assumption) | exact ref_c2 hI9.2.2 hI9.1 (.inl (by assumption)) | exact ref_c2 hI9.2.2 hI9.1 (.inr (by assumption)))⟩
          · skip
            refine run_skip ?_
            exact jn22 _ _ ⟨h9, come2, (Le.refl _), S89.sub [0, 1, 2] (by decide) rfl _ rfl, r9_1, r9_3, r9_4, r9_5, r9_6, r9_7, (by first | exact ref_c1 hR_ hI9.2.2 hI9.1 (by omega) (by assumption) (by assumption) | exact ref_c2 hI9.2.2 hI9.1 (.inl (by assumption)) | exact ref_c2 hI9.2.2 hI9.1 (.inr (by assumption)))⟩
        · skip
          refine p_off rfl (wanted_of (j := 4) (want := true) (d := 32) (b := false) rfl rfl (congrArg Value.bool hc85) rfl) rfl ?_
          refine p_off rfl (wanted_of (j := 4) (want := true) (d := 32) (b := false) rfl rfl (congrArg Value.bool hc85) rfl) rfl ?_
          refine p_off rfl (wanted_of (j := 4) (want := true) (d := 32) (b := false) rfl rfl (congrArg Value.bool hc85) rfl) rfl ?_
          refine p_off rfl (wanted_of (j := 4) (want := true) (d := 32) (b := false) rfl rfl (congrArg Value.bool hc85) rfl) rfl ?_
          refine p_off rfl (wanted_of (j := 4) (want := true) (d := 32) (b := false) rfl rfl (congrArg Value.bool hc85) rfl) rfl ?_
          refine p_off rfl (wanted_of (j := 4) (want := true) (d := 32) (b := false) rfl rfl (congrArg Value.bool hc85) rfl) rfl ?_
          refine p_off rfl (wanted_of (j := 4) (want := true) (d := 32) (b := false) rfl rfl (congrArg Value.bool hc85) rfl) rfl ?_
          refine p_v (v := .bool false) rfl rfl rfl (x_pick_f (congrArg Value.bool hc85) rfl) ?_
          refine run_region_end ?_
          refine run_cond (b := false) rfl ?_
          simp only [if_true, if_false, Bool.false_eq_true]
          refine run_skip ?_
          exact jn22 _ _ ⟨h9, come2, (Le.refl _), S84.sub [0, 1, 2] (by decide) rfl _ rfl, r9_1, r9_3, r9_4, r9_5, r9_6, r9_7, (by first | exact ref_c1 hR_ hI9.2.2 hI9.1 (by omega) (by assumption) (by assumption) | exact ref_c2 hI9.2.2 hI9.1 (.inl (by assumption)) | exact ref_c2 hI9.2.2 hI9.1 (.inr (by assumption)))⟩
    · skip
      refine run_exit rfl ?_
      refine run_inBlock ?_
      refine run_reg (l := [0, 1, 2]) rfl ?_
      refine p_v (v := .int .i64 round) rfl rfl rfl (x_move r9_6) ?_
      refine p_v (v := .int .i64 (round + 1)) rfl rfl rfl (x_add rfl rfl (in_i64 (by first|omega|(simp;omega)|assumption) (by first|omega|(simp;omega)|assumption))) ?_
      refine p_v (v := .int .i64 (round + 1)) rfl rfl rfl (x_assign rfl) ?_
      refine run_region_end ?_
      refine ih7 (come2, goes2, round + 1) _ _ (by dsimp only; omega) ⟨h9, v_come2, v_goes2, ((le7).trans le9), S9.sub [0, 1, 2] (by decide) rfl _ rfl, r9_1, r9_3, r9_4, r9_5, rfl, (in_i64 (by first|omega|(simp;omega)|assumption) (by first|omega|(simp;omega)|assumption)), (by exact ⟨by omega, by omega, ref_round hR_ hI7.2.2 hI9.2.2 (by omega)⟩)⟩
  · skip
    refine run_exit rfl ?_
    refine run_seq ?_
    refine run_seq ?_
    refine run_reg (l := [0]) rfl ?_
    refine p_v (v := .int .i64 0) rfl rfl rfl (x_assign rfl) ?_
    refine run_region_end ?_
    refine run_block ?_
    refine run_loop (S := (List Bool) × Int) (fun (q_ : (List Bool) × Int) ρ w' => match q_ with | (come2, i) => ∃ (h : Ghost) (v_come2 : Value), Le h7 h ∧ St w.heap.size w h w' [row 4 Kd.bool v_come2 come2, row 4 Kd.bool v_goes goes] ∧ ρ 3 = .int .i64 (m.spots.length : Int) ∧ ρ 4 = v_come2 ∧ ρ 5 = v_goes ∧ ρ 10 = .int .i64 i ∧ inK .i64 i ∧ (0 ≤ i ∧ i ≤ (m.spots.length : Int) ∧ come2 = andTo m i)) (fun q_ => match q_ with | (come2, i) => (m.spots.length - i).toNat) (come, 0) ⟨h7, v_come, Le.refl _, S7.sub [1, 2] (by decide) rfl _ rfl, r7_3, r7_4, r7_5, rfl, (in_i64 (by first|omega|(simp;omega)|assumption) (by first|omega|(simp;omega)|assumption)), (by exact ⟨by omega, by omega, by rw [(ref_all hI7.2.2 (by omega)).1]; exact and_0 m⟩)⟩ ?_
    rintro ⟨come2, i⟩ ih94 ρ94 w94 ⟨h94, v_come2, le94, S94, r94_3, r94_4, r94_5, r94_10, f94_0, hI94⟩
    have lf94_0 := i64_lo f94_0; have hf94_0 := i64_hi f94_0
    have rl94_0 := S94.row_le (j := 0) rfl; simp only [maxLen] at rl94_0
    have rl94_1 := S94.row_le (j := 1) rfl; simp only [maxLen] at rl94_1
    have hc3_ : (come2.length : Int) = m.spots.length := by rw [hI94.2.2, andTo_len]
    have hgg_ := (ref_all hI7.2.2 (by omega)).2
    have hat_ : i < (m.spots.length : Int) → at_ come2 i = at_ (comeM m) i := fun h => by rw [hI94.2.2]; exact and_at m hI94.1 h
    refine run_seq ?_
    refine run_seq ?_
    refine run_reg (l := [0, 1, 2]) rfl ?_
    refine p_v (v := .int .i64 i) rfl rfl rfl (x_move r94_10) ?_
    refine p_v (v := .int .i64 (m.spots.length : Int)) rfl rfl rfl (x_move r94_3) ?_
    refine p_v (v := .bool (decide (i < (m.spots.length : Int)))) rfl rfl rfl (x_lss rfl rfl) ?_
    refine run_region_end ?_
    refine run_cond_prop (p := i < (m.spots.length : Int)) rfl (fun hc95 => ?_) (fun hc95 => ?_)
    · skip
      refine run_skip ?_
      refine run_seq ?_
      refine run_block ?_
      refine run_reg (l := [0, 1, 2, 3, 4, 5, 6, 7, 8, 9, 10, 11, 12, 13]) rfl ?_
      refine p_v (v := v_come2) rfl rfl rfl (x_move r94_4) ?_
      refine p_v (v := .int .i64 i) rfl rfl rfl (x_move r94_10) ?_
      refine p_v (v := v_come2) rfl rfl rfl (x_move r94_4) ?_
      refine p_v (v := .int .i64 i) rfl rfl rfl (x_move r94_10) ?_
      obtain ⟨ad96, a96, at96⟩ := e_index_own (q := i) (m := 1) S94 (j := 0) rfl rfl (by first|omega|(simp;omega)|assumption) (by first|omega|(simp;omega)|assumption)
      refine p_v (v := .pointer (some ad96)) rfl rfl rfl (x_index_own u25 ty4 rfl rfl a96 (by first|omega|(simp;omega)|assumption) (by first|omega|(simp;omega)|assumption)) ?_
      obtain ⟨seg97, rp97, cf97⟩ := e_load_own (q := i) S94 (j := 0) rfl rfl at96 (by first|omega|(simp;omega)|assumption) (by first|omega|(simp;omega)|assumption)
      obtain ⟨rfl, _⟩ := rp97
      refine p_v (v := .bool (at_ come2 i)) rfl rfl rfl (x_load (seg := [.bool (at_ come2 i)]) ty4 rfl (by simp) rfl cf97) ?_
      refine p_v (v := .bool (at_ come2 i)) rfl rfl rfl (x_move rfl) ?_
      rcases Bool.eq_false_or_eq_true (at_ come2 i) with hc98 | hc98
      · skip
        refine p_v (v := v_goes) rfl (wanted_of (j := 6) (want := true) (d := 122) (b := true) rfl rfl (congrArg Value.bool hc98) rfl) rfl (x_move r94_5) ?_
        refine p_v (v := .int .i64 i) rfl (wanted_of (j := 6) (want := true) (d := 122) (b := true) rfl rfl (congrArg Value.bool hc98) rfl) rfl (x_move r94_10) ?_
        obtain ⟨ad99, a99, at99⟩ := e_index_own (q := i) (m := 1) S94 (j := 1) rfl rfl (by first|omega|(simp;omega)|assumption) (by first|omega|(simp;omega)|assumption)
        refine p_v (v := .pointer (some ad99)) rfl (wanted_of (j := 6) (want := true) (d := 122) (b := true) rfl rfl (congrArg Value.bool hc98) rfl) rfl (x_index_own u25 ty4 rfl rfl a99 (by first|omega|(simp;omega)|assumption) (by first|omega|(simp;omega)|assumption)) ?_
        obtain ⟨seg100, rp100, cf100⟩ := e_load_own (q := i) S94 (j := 1) rfl rfl at99 (by first|omega|(simp;omega)|assumption) (by first|omega|(simp;omega)|assumption)
        obtain ⟨rfl, _⟩ := rp100
        refine p_v (v := .bool (at_ goes i)) rfl (wanted_of (j := 6) (want := true) (d := 122) (b := true) rfl rfl (congrArg Value.bool hc98) rfl) rfl (x_load (seg := [.bool (at_ goes i)]) ty4 rfl (by simp) rfl cf100) ?_
        refine p_v (v := .bool (at_ goes i)) rfl rfl rfl (x_pick_t (congrArg Value.bool hc98) rfl) ?_
        obtain ⟨ad101, a101, at101⟩ := e_index_own (q := i) (m := 1) S94 (j := 0) rfl rfl (by first|omega|(simp;omega)|assumption) (by first|omega|(simp;omega)|assumption)
        refine p_v (v := .pointer (some ad101)) rfl rfl rfl (x_index_own u25 ty4 rfl rfl a101 (by first|omega|(simp;omega)|assumption) (by first|omega|(simp;omega)|assumption)) ?_
        obtain ⟨w102, r102, g102, T102⟩ := e_store_own (u := .bool (at_ goes i)) (q := i) (at_ goes i) (vs := [.bool (at_ goes i)]) S94 ty4 rfl (j := 0) rfl rfl ⟨rfl, trivial⟩ at101 (by first|omega|(simp;omega)|assumption) (by first|omega|(simp;omega)|assumption)
        have S103 : St w.heap.size w h94 w102 [row 4 Kd.bool v_come2 (come2.set (i).toNat (at_ goes i)), row 4 Kd.bool v_goes goes] := T102
        refine p_s rfl rfl (x_store rfl rfl r102) ?_
        refine run_region_end ?_
        refine run_inBlock ?_
        refine run_reg (l := [0, 1, 2]) rfl ?_
        refine p_v (v := .int .i64 i) rfl rfl rfl (x_move r94_10) ?_
        refine p_v (v := .int .i64 (i + 1)) rfl rfl rfl (x_add rfl rfl (in_i64 (by first|omega|(simp;omega)|assumption) (by first|omega|(simp;omega)|assumption))) ?_
        refine p_v (v := .int .i64 (i + 1)) rfl rfl rfl (x_assign rfl) ?_
        refine run_region_end ?_
        refine ih94 (come2.set (i).toNat (at_ goes i), i + 1) _ _ (by dsimp only; omega) ⟨h94, v_come2, le94, S103.sub [0, 1] (by decide) rfl _ rfl, r94_3, r94_4, r94_5, rfl, (in_i64 (by first|omega|(simp;omega)|assumption) (by first|omega|(simp;omega)|assumption)), (by exact ⟨by omega, by omega, by rw [hI94.2.2]; exact and_step m hI94.1 (by omega) (by rw [← hat_ (by omega), ← hgg_]; first | (rw [(by assumption : at_ come2 i = true)]; rfl) | (rw [(by assumption : at_ come2 i = false)]; rfl))⟩)⟩
      · skip
        refine p_off rfl (wanted_of (j := 6) (want := true) (d := 122) (b := false) rfl rfl (congrArg Value.bool hc98) rfl) rfl ?_
        refine p_off rfl (wanted_of (j := 6) (want := true) (d := 122) (b := false) rfl rfl (congrArg Value.bool hc98) rfl) rfl ?_
        refine p_off rfl (wanted_of (j := 6) (want := true) (d := 122) (b := false) rfl rfl (congrArg Value.bool hc98) rfl) rfl ?_
        refine p_off rfl (wanted_of (j := 6) (want := true) (d := 122) (b := false) rfl rfl (congrArg Value.bool hc98) rfl) rfl ?_
        refine p_v (v := .bool false) rfl rfl rfl (x_pick_f (congrArg Value.bool hc98) rfl) ?_
        obtain ⟨ad104, a104, at104⟩ := e_index_own (q := i) (m := 1) S94 (j := 0) rfl rfl (by first|omega|(simp;omega)|assumption) (by first|omega|(simp;omega)|assumption)
        refine p_v (v := .pointer (some ad104)) rfl rfl rfl (x_index_own u25 ty4 rfl rfl a104 (by first|omega|(simp;omega)|assumption) (by first|omega|(simp;omega)|assumption)) ?_
        obtain ⟨w105, r105, g105, T105⟩ := e_store_own (u := .bool false) (q := i) false (vs := [.bool false]) S94 ty4 rfl (j := 0) rfl rfl ⟨rfl, trivial⟩ at104 (by first|omega|(simp;omega)|assumption) (by first|omega|(simp;omega)|assumption)
        have S106 : St w.heap.size w h94 w105 [row 4 Kd.bool v_come2 (come2.set (i).toNat false), row 4 Kd.bool v_goes goes] := T105
        refine p_s rfl rfl (x_store rfl rfl r105) ?_
        refine run_region_end ?_
        refine run_inBlock ?_
        refine run_reg (l := [0, 1, 2]) rfl ?_
        refine p_v (v := .int .i64 i) rfl rfl rfl (x_move r94_10) ?_
        refine p_v (v := .int .i64 (i + 1)) rfl rfl rfl (x_add rfl rfl (in_i64 (by first|omega|(simp;omega)|assumption) (by first|omega|(simp;omega)|assumption))) ?_
        refine p_v (v := .int .i64 (i + 1)) rfl rfl rfl (x_assign rfl) ?_
        refine run_region_end ?_
        refine ih94 (come2.set (i).toNat false, i + 1) _ _ (by dsimp only; omega) ⟨h94, v_come2, le94, S106.sub [0, 1] (by decide) rfl _ rfl, r94_3, r94_4, r94_5, rfl, (in_i64 (by first|omega|(simp;omega)|assumption) (by first|omega|(simp;omega)|assumption)), (by exact ⟨by omega, by omega, by rw [hI94.2.2]; exact and_step m hI94.1 (by omega) (by rw [← hat_ (by omega), ← hgg_]; first | (rw [(by assumption : at_ come2 i = true)]; rfl) | (rw [(by assumption : at_ come2 i = false)]; rfl))⟩)⟩
    · skip
      refine run_exit rfl ?_
      refine run_seq ?_
      refine run_reg (l := [0, 1]) rfl ?_
      refine p_v (v := v_come2) rfl rfl rfl (x_move r94_4) ?_
      refine p_v (v := v_come2) rfl rfl rfl (x_assign rfl) ?_
      refine run_region_end ?_
      refine run_ret Try.func39 (res1 rfl (res_tmp (v := v_come2) rfl)) ?_
      have q0 : (keepM m : List Bool) = come2 := by
        rw [hI94.2.2]; exact and_end hR_ (by omega)
      refine ⟨_, rfl, h94, v_come2, ?_, ?_⟩
      · rw [q0]; exact S94.sub [0] (by decide) rfl _ rfl
      · first | rfl | (simp only [q0]; rfl) | (simp only [q0])
theorem same10_calls (w : World) (a : Mach) (A0_0 : Option Addr) (c0_0 : Nat) (b0_0 : a.spots.length ≤ c0_0 ∧ c0_0 ≤ maxLen) (l0_0 : Leads kSpot (hp w) A0_0 a.spots) (A0_1 : Option Addr) (c0_1 : Nat) (b0_1 : a.first.length ≤ c0_1 ∧ c0_1 ≤ maxLen) (l0_1 : Leads (Kd.int .i64) (hp w) A0_1 a.first) (A0_2 : Option Addr) (c0_2 : Nat) (b0_2 : a.follow.length ≤ c0_2 ∧ c0_2 ≤ maxLen) (l0_2 : Leads (Kd.int .i64).slice (hp w) A0_2 a.follow) (A0_3 : Option Addr) (c0_3 : Nat) (b0_3 : a.last.length ≤ c0_3 ∧ c0_3 ≤ maxLen) (l0_3 : Leads Kd.bool (hp w) A0_3 a.last) (b : Mach) (A1_0 : Option Addr) (c1_0 : Nat) (b1_0 : b.spots.length ≤ c1_0 ∧ c1_0 ≤ maxLen) (l1_0 : Leads kSpot (hp w) A1_0 b.spots) (A1_1 : Option Addr) (c1_1 : Nat) (b1_1 : b.first.length ≤ c1_1 ∧ c1_1 ≤ maxLen) (l1_1 : Leads (Kd.int .i64) (hp w) A1_1 b.first) (A1_2 : Option Addr) (c1_2 : Nat) (b1_2 : b.follow.length ≤ c1_2 ∧ c1_2 ≤ maxLen) (l1_2 : Leads (Kd.int .i64).slice (hp w) A1_2 b.follow) (A1_3 : Option Addr) (c1_3 : Nat) (b1_3 : b.last.length ≤ c1_3 ∧ c1_3 ≤ maxLen) (l1_3 : Leads Kd.bool (hp w) A1_3 b.last) :
    Calls Try.prog 15 #[.agg #[.slice A0_0 a.spots.length c0_0, .slice A0_1 a.first.length c0_1, .slice A0_2 a.follow.length c0_2, .slice A0_3 a.last.length c0_3, .bool a.empty], .agg #[.slice A1_0 b.spots.length c1_0, .slice A1_1 b.first.length c1_1, .slice A1_2 b.follow.length c1_2, .slice A1_3 b.last.length c1_3, .bool b.empty]] w fun e w' => ∃ v, e = .returned v ∧ ∃ (hn : Ghost), St w.heap.size w hn w' [] ∧ v = .bool (decide (a = b)) := by
  refine calls_of_run Try.func15 rfl Try.ntmps15 rfl ?_
  have S0 := St.init w
  have bb0_0 := b0_0.1; have bc0_0 := b0_0.2; simp only [maxLen] at bc0_0
  have bb0_1 := b0_1.1; have bc0_1 := b0_1.2; simp only [maxLen] at bc0_1
  have bb0_2 := b0_2.1; have bc0_2 := b0_2.2; simp only [maxLen] at bc0_2
  have bb0_3 := b0_3.1; have bc0_3 := b0_3.2; simp only [maxLen] at bc0_3
  have bb1_0 := b1_0.1; have bc1_0 := b1_0.2; simp only [maxLen] at bc1_0
  have bb1_1 := b1_1.1; have bc1_1 := b1_1.2; simp only [maxLen] at bc1_1
  have bb1_2 := b1_2.1; have bc1_2 := b1_2.2; simp only [maxLen] at bc1_2
  have bb1_3 := b1_3.1; have bc1_3 := b1_3.2; simp only [maxLen] at bc1_3
  refine run_seq ?_
  refine run_reg (l := [0, 1, 2]) rfl ?_
  obtain ⟨b1, w1, r1, g1, T1⟩ := e_box (P := Try.prog) S0 27 (v := .agg #[.slice A0_0 a.spots.length c0_0, .slice A0_1 a.first.length c0_1, .slice A0_2 a.follow.length c0_2, .slice A0_3 a.last.length c0_3, .bool a.empty]) [.slice A0_0 a.spots.length c0_0, .slice A0_1 a.first.length c0_1, .slice A0_2 a.follow.length c0_2, .slice A0_3 a.last.length c0_3, .bool a.empty] rfl
  have S2 : St w.heap.size w (fun _ => none) w1 [box b1 27 [.slice A0_0 a.spots.length c0_0, .slice A0_1 a.first.length c0_1, .slice A0_2 a.follow.length c0_2, .slice A0_3 a.last.length c0_3, .bool a.empty]] := T1
  refine p_v (v := .pointer (some ⟨b1, 0, none⟩)) rfl rfl rfl (x_box rfl r1) ?_
  obtain ⟨b3, w3, r3, g3, T3⟩ := e_box (P := Try.prog) S2 27 (v := .agg #[.slice A1_0 b.spots.length c1_0, .slice A1_1 b.first.length c1_1, .slice A1_2 b.follow.length c1_2, .slice A1_3 b.last.length c1_3, .bool b.empty]) [.slice A1_0 b.spots.length c1_0, .slice A1_1 b.first.length c1_1, .slice A1_2 b.follow.length c1_2, .slice A1_3 b.last.length c1_3, .bool b.empty] rfl
  have S4 : St w.heap.size w (fun _ => none) w3 [box b1 27 [.slice A0_0 a.spots.length c0_0, .slice A0_1 a.first.length c0_1, .slice A0_2 a.follow.length c0_2, .slice A0_3 a.last.length c0_3, .bool a.empty], box b3 27 [.slice A1_0 b.spots.length c1_0, .slice A1_1 b.first.length c1_1, .slice A1_2 b.follow.length c1_2, .slice A1_3 b.last.length c1_3, .bool b.empty]] := T3
  refine p_v (v := .pointer (some ⟨b3, 0, none⟩)) rfl rfl rfl (x_box rfl r3) ?_
  refine p_v (v := .bool false) rfl rfl rfl (x_assign rfl) ?_
  refine run_region_end ?_
  refine run_seq ?_
  refine run_seq ?_
  refine run_reg (l := [0, 1, 2, 3, 4, 5, 6, 7, 8, 9, 10, 11, 12, 13, 14, 15, 16, 17, 18, 19, 20, 21, 22, 23, 24, 25, 26, 27, 28, 29, 30, 31, 32, 33, 34, 35, 36, 37, 38, 39]) rfl ?_
  refine p_v (v := .pointer (some ⟨b1, 0, none⟩)) rfl rfl rfl (x_fieldAt fd27_0 ty22 rfl rfl) ?_
  refine p_v (v := .slice A0_0 a.spots.length c0_0) rfl rfl rfl (x_load (seg := [.slice A0_0 a.spots.length c0_0]) ty22 rfl (by simp) rfl (CF.box (m := 1) (S4.box_at (j := 0) rfl) rfl)) ?_
  refine p_v (v := .int .i64 (a.spots.length : Int)) rfl rfl rfl (x_len_slice u22 rfl) ?_
  refine p_v (v := .pointer (some ⟨b3, 0, none⟩)) rfl rfl rfl (x_fieldAt fd27_0 ty22 rfl rfl) ?_
  refine p_v (v := .slice A1_0 b.spots.length c1_0) rfl rfl rfl (x_load (seg := [.slice A1_0 b.spots.length c1_0]) ty22 rfl (by simp) rfl (CF.box (m := 1) (S4.box_at (j := 1) rfl) rfl)) ?_
  refine p_v (v := .int .i64 (b.spots.length : Int)) rfl rfl rfl (x_len_slice u22 rfl) ?_
  refine p_v (v := .bool (decide ((a.spots.length : Int) ≠ (b.spots.length : Int)))) rfl rfl rfl (x_neq rfl rfl) ?_
  refine p_v (v := .bool (decide ((a.spots.length : Int) ≠ (b.spots.length : Int)))) rfl rfl rfl (x_move rfl) ?_
  by_cases hc5 : (a.spots.length : Int) ≠ (b.spots.length : Int)
  · skip
    refine p_off rfl (wanted_of (j := 7) (want := false) (d := 15) (b := true) rfl rfl (congrArg Value.bool (decide_eq_true hc5)) rfl) rfl ?_
    refine p_off rfl (wanted_of (j := 7) (want := false) (d := 15) (b := true) rfl rfl (congrArg Value.bool (decide_eq_true hc5)) rfl) rfl ?_
    refine p_off rfl (wanted_of (j := 7) (want := false) (d := 15) (b := true) rfl rfl (congrArg Value.bool (decide_eq_true hc5)) rfl) rfl ?_
    refine p_off rfl (wanted_of (j := 7) (want := false) (d := 15) (b := true) rfl rfl (congrArg Value.bool (decide_eq_true hc5)) rfl) rfl ?_
    refine p_off rfl (wanted_of (j := 7) (want := false) (d := 15) (b := true) rfl rfl (congrArg Value.bool (decide_eq_true hc5)) rfl) rfl ?_
    refine p_off rfl (wanted_of (j := 7) (want := false) (d := 15) (b := true) rfl rfl (congrArg Value.bool (decide_eq_true hc5)) rfl) rfl ?_
    refine p_off rfl (wanted_of (j := 7) (want := false) (d := 15) (b := true) rfl rfl (congrArg Value.bool (decide_eq_true hc5)) rfl) rfl ?_
    refine p_v (v := .bool true) rfl rfl rfl (x_pick_t (congrArg Value.bool (decide_eq_true hc5)) rfl) ?_
    refine p_v (v := .bool true) rfl rfl rfl (x_move rfl) ?_
    refine p_off rfl rfl rfl ?_
    refine p_off rfl rfl rfl ?_
    refine p_off rfl rfl rfl ?_
    refine p_off rfl rfl rfl ?_
    refine p_off rfl rfl rfl ?_
    refine p_off rfl rfl rfl ?_
    refine p_off rfl rfl rfl ?_
    refine p_v (v := .bool true) rfl rfl rfl (x_pick_t rfl rfl) ?_
    refine p_v (v := .bool true) rfl rfl rfl (x_move rfl) ?_
    refine p_off rfl rfl rfl ?_
    refine p_off rfl rfl rfl ?_
    refine p_off rfl rfl rfl ?_
    refine p_off rfl rfl rfl ?_
    refine p_off rfl rfl rfl ?_
    refine p_v (v := .bool true) rfl rfl rfl (x_pick_t rfl rfl) ?_
    refine p_v (v := .bool true) rfl rfl rfl (x_move rfl) ?_
    refine p_off rfl rfl rfl ?_
    refine p_off rfl rfl rfl ?_
    refine p_off rfl rfl rfl ?_
    refine p_off rfl rfl rfl ?_
    refine p_off rfl rfl rfl ?_
    refine p_off rfl rfl rfl ?_
    refine p_v (v := .bool true) rfl rfl rfl (x_pick_t rfl rfl) ?_
    refine run_region_end ?_
    refine run_cond (b := true) rfl ?_
    simp only [if_true, if_false, Bool.false_eq_true]
    refine run_seq ?_
    refine run_reg (l := [0]) rfl ?_
    refine p_v (v := .bool false) rfl rfl rfl (x_assign rfl) ?_
    refine run_region_end ?_
    refine run_ret Try.func15 (res1 rfl (res_tmp (v := .bool false) rfl)) ?_
    have q0 : (decide (a = b) : Bool) = false := by
      first | exact decide_eq_false (fun e => (by assumption : (a.spots.length : Int) ≠ (b.spots.length : Int)) (by rw [e])) | exact decide_eq_false (fun e => (by assumption : (a.follow.length : Int) ≠ (b.follow.length : Int)) (by rw [e])) | exact decide_eq_false (fun e => (by assumption : (a.last.length : Int) ≠ (b.last.length : Int)) (by rw [e])) | exact decide_eq_false (fun e => (by assumption : a.empty ≠ b.empty) (by rw [e])) | exact decide_eq_false (fun e => of_decide_eq_false (by assumption : decide (a.first = b.first) = false) (by rw [e])) | exact decide_eq_false (fun e => (by assumption : at_ a.spots i ≠ at_ b.spots i) (by rw [e])) | exact decide_eq_false (fun e => (by assumption : at_ a.last i2 ≠ at_ b.last i2) (by rw [e])) | exact decide_eq_false (fun e => of_decide_eq_false (by assumption : decide (at_ a.follow i3 = at_ b.follow i3) = false) (by rw [e])) | (rw [mach_eq, eq_yes (t := i) (by omega) (by omega) hI_.2.2, (by assumption : decide (a.first = b.first) = true), eq_yes (t := i3) (by omega) (by omega) hI_.2.2, eq_yes (t := i2) (by omega) (by omega) hI_.2.2, decide_eq_true (Decidable.not_not.1 (by assumption : ¬ a.empty ≠ b.empty))]; rfl)
    refine ⟨_, rfl, (fun _ => none), ?_, ?_⟩
    · exact S4.sub [] (by decide) rfl _ rfl
    · first | rfl | (simp only [q0]; rfl) | (simp only [q0])
  · skip
    refine p_v (v := .pointer (some ⟨b1, 2, none⟩)) rfl (wanted_of (j := 7) (want := false) (d := 15) (b := false) rfl rfl (congrArg Value.bool (decide_eq_false hc5)) rfl) rfl (x_fieldAt fd27_2 ty24 rfl rfl) ?_
    refine p_v (v := .slice A0_2 a.follow.length c0_2) rfl (wanted_of (j := 7) (want := false) (d := 15) (b := false) rfl rfl (congrArg Value.bool (decide_eq_false hc5)) rfl) rfl (x_load (seg := [.slice A0_2 a.follow.length c0_2]) ty24 rfl (by simp) rfl (CF.box (m := 1) (S4.box_at (j := 0) rfl) rfl)) ?_
    refine p_v (v := .int .i64 (a.follow.length : Int)) rfl (wanted_of (j := 7) (want := false) (d := 15) (b := false) rfl rfl (congrArg Value.bool (decide_eq_false hc5)) rfl) rfl (x_len_slice u24 rfl) ?_
    refine p_v (v := .pointer (some ⟨b3, 2, none⟩)) rfl (wanted_of (j := 7) (want := false) (d := 15) (b := false) rfl rfl (congrArg Value.bool (decide_eq_false hc5)) rfl) rfl (x_fieldAt fd27_2 ty24 rfl rfl) ?_
    refine p_v (v := .slice A1_2 b.follow.length c1_2) rfl (wanted_of (j := 7) (want := false) (d := 15) (b := false) rfl rfl (congrArg Value.bool (decide_eq_false hc5)) rfl) rfl (x_load (seg := [.slice A1_2 b.follow.length c1_2]) ty24 rfl (by simp) rfl (CF.box (m := 1) (S4.box_at (j := 1) rfl) rfl)) ?_
    refine p_v (v := .int .i64 (b.follow.length : Int)) rfl (wanted_of (j := 7) (want := false) (d := 15) (b := false) rfl rfl (congrArg Value.bool (decide_eq_false hc5)) rfl) rfl (x_len_slice u24 rfl) ?_
    refine p_v (v := .bool (decide ((a.follow.length : Int) ≠ (b.follow.length : Int)))) rfl (wanted_of (j := 7) (want := false) (d := 15) (b := false) rfl rfl (congrArg Value.bool (decide_eq_false hc5)) rfl) rfl (x_neq rfl rfl) ?_
    refine p_v (v := .bool (decide ((a.follow.length : Int) ≠ (b.follow.length : Int)))) rfl rfl rfl (x_pick_f (congrArg Value.bool (decide_eq_false hc5)) rfl) ?_
    refine p_v (v := .bool (decide ((a.follow.length : Int) ≠ (b.follow.length : Int)))) rfl rfl rfl (x_move rfl) ?_
    by_cases hc6 : (a.follow.length : Int) ≠ (b.follow.length : Int)
    · skip
      refine p_off rfl (wanted_of (j := 16) (want := false) (d := 24) (b := true) rfl rfl (congrArg Value.bool (decide_eq_true hc6)) rfl) rfl ?_
      refine p_off rfl (wanted_of (j := 16) (want := false) (d := 24) (b := true) rfl rfl (congrArg Value.bool (decide_eq_true hc6)) rfl) rfl ?_
      refine p_off rfl (wanted_of (j := 16) (want := false) (d := 24) (b := true) rfl rfl (congrArg Value.bool (decide_eq_true hc6)) rfl) rfl ?_
      refine p_off rfl (wanted_of (j := 16) (want := false) (d := 24) (b := true) rfl rfl (congrArg Value.bool (decide_eq_true hc6)) rfl) rfl ?_
      refine p_off rfl (wanted_of (j := 16) (want := false) (d := 24) (b := true) rfl rfl (congrArg Value.bool (decide_eq_true hc6)) rfl) rfl ?_
      refine p_off rfl (wanted_of (j := 16) (want := false) (d := 24) (b := true) rfl rfl (congrArg Value.bool (decide_eq_true hc6)) rfl) rfl ?_
      refine p_off rfl (wanted_of (j := 16) (want := false) (d := 24) (b := true) rfl rfl (congrArg Value.bool (decide_eq_true hc6)) rfl) rfl ?_
      refine p_v (v := .bool true) rfl rfl rfl (x_pick_t (congrArg Value.bool (decide_eq_true hc6)) rfl) ?_
      refine p_v (v := .bool true) rfl rfl rfl (x_move rfl) ?_
      refine p_off rfl rfl rfl ?_
      refine p_off rfl rfl rfl ?_
      refine p_off rfl rfl rfl ?_
      refine p_off rfl rfl rfl ?_
      refine p_off rfl rfl rfl ?_
      refine p_v (v := .bool true) rfl rfl rfl (x_pick_t rfl rfl) ?_
      refine p_v (v := .bool true) rfl rfl rfl (x_move rfl) ?_
      refine p_off rfl rfl rfl ?_
      refine p_off rfl rfl rfl ?_
      refine p_off rfl rfl rfl ?_
      refine p_off rfl rfl rfl ?_
      refine p_off rfl rfl rfl ?_
      refine p_off rfl rfl rfl ?_
      refine p_v (v := .bool true) rfl rfl rfl (x_pick_t rfl rfl) ?_
      refine run_region_end ?_
      refine run_cond (b := true) rfl ?_
      simp only [if_true, if_false, Bool.false_eq_true]
      refine run_seq ?_
      refine run_reg (l := [0]) rfl ?_
      refine p_v (v := .bool false) rfl rfl rfl (x_assign rfl) ?_
      refine run_region_end ?_
      refine run_ret Try.func15 (res1 rfl (res_tmp (v := .bool false) rfl)) ?_
      have q0 : (decide (a = b) : Bool) = false := by
        first | exact decide_eq_false (fun e => (by assumption : (a.spots.length : Int) ≠ (b.spots.length : Int)) (by rw [e])) | exact decide_eq_false (fun e => (by assumption : (a.follow.length : Int) ≠ (b.follow.length : Int)) (by rw [e])) | exact decide_eq_false (fun e => (by assumption : (a.last.length : Int) ≠ (b.last.length : Int)) (by rw [e])) | exact decide_eq_false (fun e => (by assumption : a.empty ≠ b.empty) (by rw [e])) | exact decide_eq_false (fun e => of_decide_eq_false (by assumption : decide (a.first = b.first) = false) (by rw [e])) | exact decide_eq_false (fun e => (by assumption : at_ a.spots i ≠ at_ b.spots i) (by rw [e])) | exact decide_eq_false (fun e => (by assumption : at_ a.last i2 ≠ at_ b.last i2) (by rw [e])) | exact decide_eq_false (fun e => of_decide_eq_false (by assumption : decide (at_ a.follow i3 = at_ b.follow i3) = false) (by rw [e])) | (rw [mach_eq, eq_yes (t := i) (by omega) (by omega) hI_.2.2, (by assumption : decide (a.first = b.first) = true), eq_yes (t := i3) (by omega) (by omega) hI_.2.2, eq_yes (t := i2) (by omega) (by omega) hI_.2.2, decide_eq_true (Decidable.not_not.1 (by assumption : ¬ a.empty ≠ b.empty))]; rfl)
      refine ⟨_, rfl, (fun _ => none), ?_, ?_⟩
      · exact S4.sub [] (by decide) rfl _ rfl
      · first | rfl | (simp only [q0]; rfl) | (simp only [q0])
    · skip
      refine p_v (v := .pointer (some ⟨b1, 3, none⟩)) rfl (wanted_of (j := 16) (want := false) (d := 24) (b := false) rfl rfl (congrArg Value.bool (decide_eq_false hc6)) rfl) rfl (x_fieldAt fd27_3 ty25 rfl rfl) ?_
      refine p_v (v := .slice A0_3 a.last.length c0_3) rfl (wanted_of (j := 16) (want := false) (d := 24) (b := false) rfl rfl (congrArg Value.bool (decide_eq_false hc6)) rfl) rfl (x_load (seg := [.slice A0_3 a.last.length c0_3]) ty25 rfl (by simp) rfl (CF.box (m := 1) (S4.box_at (j := 0) rfl) rfl)) ?_
      refine p_v (v := .int .i64 (a.last.length : Int)) rfl (wanted_of (j := 16) (want := false) (d := 24) (b := false) rfl rfl (congrArg Value.bool (decide_eq_false hc6)) rfl) rfl (x_len_slice u25 rfl) ?_
      refine p_v (v := .pointer (some ⟨b3, 3, none⟩)) rfl (wanted_of (j := 16) (want := false) (d := 24) (b := false) rfl rfl (congrArg Value.bool (decide_eq_false hc6)) rfl) rfl (x_fieldAt fd27_3 ty25 rfl rfl) ?_
      refine p_v (v := .slice A1_3 b.last.length c1_3) rfl (wanted_of (j := 16) (want := false) (d := 24) (b := false) rfl rfl (congrArg Value.bool (decide_eq_false hc6)) rfl) rfl (x_load (seg := [.slice A1_3 b.last.length c1_3]) ty25 rfl (by simp) rfl (CF.box (m := 1) (S4.box_at (j := 1) rfl) rfl)) ?_
      refine p_v (v := .int .i64 (b.last.length : Int)) rfl (wanted_of (j := 16) (want := false) (d := 24) (b := false) rfl rfl (congrArg Value.bool (decide_eq_false hc6)) rfl) rfl (x_len_slice u25 rfl) ?_
      refine p_v (v := .bool (decide ((a.last.length : Int) ≠ (b.last.length : Int)))) rfl (wanted_of (j := 16) (want := false) (d := 24) (b := false) rfl rfl (congrArg Value.bool (decide_eq_false hc6)) rfl) rfl (x_neq rfl rfl) ?_
      refine p_v (v := .bool (decide ((a.last.length : Int) ≠ (b.last.length : Int)))) rfl rfl rfl (x_pick_f (congrArg Value.bool (decide_eq_false hc6)) rfl) ?_
      refine p_v (v := .bool (decide ((a.last.length : Int) ≠ (b.last.length : Int)))) rfl rfl rfl (x_move rfl) ?_
      by_cases hc7 : (a.last.length : Int) ≠ (b.last.length : Int)
      · skip
        refine p_off rfl (wanted_of (j := 25) (want := false) (d := 33) (b := true) rfl rfl (congrArg Value.bool (decide_eq_true hc7)) rfl) rfl ?_
        refine p_off rfl (wanted_of (j := 25) (want := false) (d := 33) (b := true) rfl rfl (congrArg Value.bool (decide_eq_true hc7)) rfl) rfl ?_
        refine p_off rfl (wanted_of (j := 25) (want := false) (d := 33) (b := true) rfl rfl (congrArg Value.bool (decide_eq_true hc7)) rfl) rfl ?_
        refine p_off rfl (wanted_of (j := 25) (want := false) (d := 33) (b := true) rfl rfl (congrArg Value.bool (decide_eq_true hc7)) rfl) rfl ?_
        refine p_off rfl (wanted_of (j := 25) (want := false) (d := 33) (b := true) rfl rfl (congrArg Value.bool (decide_eq_true hc7)) rfl) rfl ?_
        refine p_v (v := .bool true) rfl rfl rfl (x_pick_t (congrArg Value.bool (decide_eq_true hc7)) rfl) ?_
        refine p_v (v := .bool true) rfl rfl rfl (x_move rfl) ?_
        refine p_off rfl rfl rfl ?_
        refine p_off rfl rfl rfl ?_
        refine p_off rfl rfl rfl ?_
        refine p_off rfl rfl rfl ?_
        refine p_off rfl rfl rfl ?_
        refine p_off rfl rfl rfl ?_
        refine p_v (v := .bool true) rfl rfl rfl (x_pick_t rfl rfl) ?_
        refine run_region_end ?_
        refine run_cond (b := true) rfl ?_
        simp only [if_true, if_false, Bool.false_eq_true]
        refine run_seq ?_
        refine run_reg (l := [0]) rfl ?_
        refine p_v (v := .bool false) rfl rfl rfl (x_assign rfl) ?_
        refine run_region_end ?_
        refine run_ret Try.func15 (res1 rfl (res_tmp (v := .bool false) rfl)) ?_
        have q0 : (decide (a = b) : Bool) = false := by
          first | exact decide_eq_false (fun e => (by assumption : (a.spots.length : Int) ≠ (b.spots.length : Int)) (by rw [e])) | exact decide_eq_false (fun e => (by assumption : (a.follow.length : Int) ≠ (b.follow.length : Int)) (by rw [e])) | exact decide_eq_false (fun e => (by assumption : (a.last.length : Int) ≠ (b.last.length : Int)) (by rw [e])) | exact decide_eq_false (fun e => (by assumption : a.empty ≠ b.empty) (by rw [e])) | exact decide_eq_false (fun e => of_decide_eq_false (by assumption : decide (a.first = b.first) = false) (by rw [e])) | exact decide_eq_false (fun e => (by assumption : at_ a.spots i ≠ at_ b.spots i) (by rw [e])) | exact decide_eq_false (fun e => (by assumption : at_ a.last i2 ≠ at_ b.last i2) (by rw [e])) | exact decide_eq_false (fun e => of_decide_eq_false (by assumption : decide (at_ a.follow i3 = at_ b.follow i3) = false) (by rw [e])) | (rw [mach_eq, eq_yes (t := i) (by omega) (by omega) hI_.2.2, (by assumption : decide (a.first = b.first) = true), eq_yes (t := i3) (by omega) (by omega) hI_.2.2, eq_yes (t := i2) (by omega) (by omega) hI_.2.2, decide_eq_true (Decidable.not_not.1 (by assumption : ¬ a.empty ≠ b.empty))]; rfl)
        refine ⟨_, rfl, (fun _ => none), ?_, ?_⟩
        · exact S4.sub [] (by decide) rfl _ rfl
        · first | rfl | (simp only [q0]; rfl) | (simp only [q0])
      · skip
        refine p_v (v := .pointer (some ⟨b1, 4, none⟩)) rfl (wanted_of (j := 25) (want := false) (d := 33) (b := false) rfl rfl (congrArg Value.bool (decide_eq_false hc7)) rfl) rfl (x_fieldAt fd27_4 ty4 rfl rfl) ?_
        refine p_v (v := .bool a.empty) rfl (wanted_of (j := 25) (want := false) (d := 33) (b := false) rfl rfl (congrArg Value.bool (decide_eq_false hc7)) rfl) rfl (x_load (seg := [.bool a.empty]) ty4 rfl (by simp) rfl (CF.box (m := 1) (S4.box_at (j := 0) rfl) rfl)) ?_
        refine p_v (v := .pointer (some ⟨b3, 4, none⟩)) rfl (wanted_of (j := 25) (want := false) (d := 33) (b := false) rfl rfl (congrArg Value.bool (decide_eq_false hc7)) rfl) rfl (x_fieldAt fd27_4 ty4 rfl rfl) ?_
        refine p_v (v := .bool b.empty) rfl (wanted_of (j := 25) (want := false) (d := 33) (b := false) rfl rfl (congrArg Value.bool (decide_eq_false hc7)) rfl) rfl (x_load (seg := [.bool b.empty]) ty4 rfl (by simp) rfl (CF.box (m := 1) (S4.box_at (j := 1) rfl) rfl)) ?_
        refine p_v (v := .bool (decide (a.empty ≠ b.empty))) rfl (wanted_of (j := 25) (want := false) (d := 33) (b := false) rfl rfl (congrArg Value.bool (decide_eq_false hc7)) rfl) rfl (x_neq_bool u4 rfl rfl) ?_
        refine p_v (v := .bool (decide (a.empty ≠ b.empty))) rfl rfl rfl (x_pick_f (congrArg Value.bool (decide_eq_false hc7)) rfl) ?_
        refine p_v (v := .bool (decide (a.empty ≠ b.empty))) rfl rfl rfl (x_move rfl) ?_
        by_cases hc8 : a.empty ≠ b.empty
        · skip
          refine p_off rfl (wanted_of (j := 32) (want := false) (d := 40) (b := true) rfl rfl (congrArg Value.bool (decide_eq_true hc8)) rfl) rfl ?_
          refine p_off rfl (wanted_of (j := 32) (want := false) (d := 40) (b := true) rfl rfl (congrArg Value.bool (decide_eq_true hc8)) rfl) rfl ?_
          refine p_off rfl (wanted_of (j := 32) (want := false) (d := 40) (b := true) rfl rfl (congrArg Value.bool (decide_eq_true hc8)) rfl) rfl ?_
          refine p_off rfl (wanted_of (j := 32) (want := false) (d := 40) (b := true) rfl rfl (congrArg Value.bool (decide_eq_true hc8)) rfl) rfl ?_
          refine p_off rfl (wanted_of (j := 32) (want := false) (d := 40) (b := true) rfl rfl (congrArg Value.bool (decide_eq_true hc8)) rfl) rfl ?_
          refine p_off rfl (wanted_of (j := 32) (want := false) (d := 40) (b := true) rfl rfl (congrArg Value.bool (decide_eq_true hc8)) rfl) rfl ?_
          refine p_v (v := .bool true) rfl rfl rfl (x_pick_t (congrArg Value.bool (decide_eq_true hc8)) rfl) ?_
          refine run_region_end ?_
          refine run_cond (b := true) rfl ?_
          simp only [if_true, if_false, Bool.false_eq_true]
          refine run_seq ?_
          refine run_reg (l := [0]) rfl ?_
          refine p_v (v := .bool false) rfl rfl rfl (x_assign rfl) ?_
          refine run_region_end ?_
          refine run_ret Try.func15 (res1 rfl (res_tmp (v := .bool false) rfl)) ?_
          have q0 : (decide (a = b) : Bool) = false := by
            first | exact decide_eq_false (fun e => (by assumption : (a.spots.length : Int) ≠ (b.spots.length : Int)) (by rw [e])) | exact decide_eq_false (fun e => (by assumption : (a.follow.length : Int) ≠ (b.follow.length : Int)) (by rw [e])) | exact decide_eq_false (fun e => (by assumption : (a.last.length : Int) ≠ (b.last.length : Int)) (by rw [e])) | exact decide_eq_false (fun e => (by assumption : a.empty ≠ b.empty) (by rw [e])) | exact decide_eq_false (fun e => of_decide_eq_false (by assumption : decide (a.first = b.first) = false) (by rw [e])) | exact decide_eq_false (fun e => (by assumption : at_ a.spots i ≠ at_ b.spots i) (by rw [e])) | exact decide_eq_false (fun e => (by assumption : at_ a.last i2 ≠ at_ b.last i2) (by rw [e])) | exact decide_eq_false (fun e => of_decide_eq_false (by assumption : decide (at_ a.follow i3 = at_ b.follow i3) = false) (by rw [e])) | (rw [mach_eq, eq_yes (t := i) (by omega) (by omega) hI_.2.2, (by assumption : decide (a.first = b.first) = true), eq_yes (t := i3) (by omega) (by omega) hI_.2.2, eq_yes (t := i2) (by omega) (by omega) hI_.2.2, decide_eq_true (Decidable.not_not.1 (by assumption : ¬ a.empty ≠ b.empty))]; rfl)
          refine ⟨_, rfl, (fun _ => none), ?_, ?_⟩
          · exact S4.sub [] (by decide) rfl _ rfl
          · first | rfl | (simp only [q0]; rfl) | (simp only [q0])
        · skip
          refine p_v (v := .pointer (some ⟨b1, 1, none⟩)) rfl (wanted_of (j := 32) (want := false) (d := 40) (b := false) rfl rfl (congrArg Value.bool (decide_eq_false hc8)) rfl) rfl (x_fieldAt fd27_1 ty23 rfl rfl) ?_
          refine p_v (v := .slice A0_1 a.first.length c0_1) rfl (wanted_of (j := 32) (want := false) (d := 40) (b := false) rfl rfl (congrArg Value.bool (decide_eq_false hc8)) rfl) rfl (x_load (seg := [.slice A0_1 a.first.length c0_1]) ty23 rfl (by simp) rfl (CF.box (m := 1) (S4.box_at (j := 0) rfl) rfl)) ?_
          refine p_v (v := .pointer (some ⟨b3, 1, none⟩)) rfl (wanted_of (j := 32) (want := false) (d := 40) (b := false) rfl rfl (congrArg Value.bool (decide_eq_false hc8)) rfl) rfl (x_fieldAt fd27_1 ty23 rfl rfl) ?_
          refine p_v (v := .slice A1_1 b.first.length c1_1) rfl (wanted_of (j := 32) (want := false) (d := 40) (b := false) rfl rfl (congrArg Value.bool (decide_eq_false hc8)) rfl) rfl (x_load (seg := [.slice A1_1 b.first.length c1_1]) ty23 rfl (by simp) rfl (CF.box (m := 1) (S4.box_at (j := 1) rfl) rfl)) ?_
          refine p_c rfl (wanted_of (j := 32) (want := false) (d := 40) (b := false) rfl rfl (congrArg Value.bool (decide_eq_false hc8)) rfl) rfl (y_call (args := [.slice A0_1 a.first.length c0_1, .slice A1_1 b.first.length c1_1]) ca32 rfl rfl) (alike_calls w3 a.first A0_1 c0_1 b0_1 (l0_1.mono (St.le0 S4)) b.first A1_1 c1_1 b1_1 (l1_1.mono (St.le0 S4))) ?_
          rintro _ w9 ⟨h9, T9, rfl⟩
          have S10 := S4.keep (Chg.of_below T9.below)
          refine p_v (v := .bool (!(decide (a.first = b.first)))) rfl (wanted_of (j := 32) (want := false) (d := 40) (b := false) rfl rfl (congrArg Value.bool (decide_eq_false hc8)) rfl) rfl (x_not rfl) ?_
          refine p_v (v := .bool (!(decide (a.first = b.first)))) rfl rfl rfl (x_pick_f (congrArg Value.bool (decide_eq_false hc8)) rfl) ?_
          refine run_region_end ?_
          refine run_cond_nsplit (b := decide (a.first = b.first)) rfl (fun hc11 => ?_) (fun hc11 => ?_)
          · skip
            refine run_seq ?_
            refine run_reg (l := [0]) rfl ?_
            refine p_v (v := .bool false) rfl rfl rfl (x_assign rfl) ?_
            refine run_region_end ?_
            refine run_ret Try.func15 (res1 rfl (res_tmp (v := .bool false) rfl)) ?_
            have q0 : (decide (a = b) : Bool) = false := by
              first | exact decide_eq_false (fun e => (by assumption : (a.spots.length : Int) ≠ (b.spots.length : Int)) (by rw [e])) | exact decide_eq_false (fun e => (by assumption : (a.follow.length : Int) ≠ (b.follow.length : Int)) (by rw [e])) | exact decide_eq_false (fun e => (by assumption : (a.last.length : Int) ≠ (b.last.length : Int)) (by rw [e])) | exact decide_eq_false (fun e => (by assumption : a.empty ≠ b.empty) (by rw [e])) | exact decide_eq_false (fun e => of_decide_eq_false (by assumption : decide (a.first = b.first) = false) (by rw [e])) | exact decide_eq_false (fun e => (by assumption : at_ a.spots i ≠ at_ b.spots i) (by rw [e])) | exact decide_eq_false (fun e => (by assumption : at_ a.last i2 ≠ at_ b.last i2) (by rw [e])) | exact decide_eq_false (fun e => of_decide_eq_false (by assumption : decide (at_ a.follow i3 = at_ b.follow i3) = false) (by rw [e])) | (rw [mach_eq, eq_yes (t := i) (by omega) (by omega) hI_.2.2, (by assumption : decide (a.first = b.first) = true), eq_yes (t := i3) (by omega) (by omega) hI_.2.2, eq_yes (t := i2) (by omega) (by omega) hI_.2.2, decide_eq_true (Decidable.not_not.1 (by assumption : ¬ a.empty ≠ b.empty))]; rfl)
            refine ⟨_, rfl, (fun _ => none), ?_, ?_⟩
            · exact S10.sub [] (by decide) rfl _ rfl
            · first | rfl | (simp only [q0]; rfl) | (simp only [q0])
          · skip
            refine run_skip ?_
            refine run_seq ?_
            refine run_seq ?_
            refine run_reg (l := [0]) rfl ?_
            refine p_v (v := .int .i64 0) rfl rfl rfl (x_assign rfl) ?_
            refine run_region_end ?_
            refine run_block ?_
            refine run_loop (S := Int) (fun (q_ : Int) ρ w' => match q_ with | i => ∃ (h : Ghost), Le (fun _ => none) h ∧ St w.heap.size w h w' [box b1 27 [.slice A0_0 a.spots.length c0_0, .slice A0_1 a.first.length c0_1, .slice A0_2 a.follow.length c0_2, .slice A0_3 a.last.length c0_3, .bool a.empty], box b3 27 [.slice A1_0 b.spots.length c1_0, .slice A1_1 b.first.length c1_1, .slice A1_2 b.follow.length c1_2, .slice A1_3 b.last.length c1_3, .bool b.empty]] ∧ ρ 2 = .pointer (some ⟨b1, 0, none⟩) ∧ ρ 3 = .pointer (some ⟨b3, 0, none⟩) ∧ ρ 5 = .int .i64 i ∧ inK .i64 i ∧ (0 ≤ i ∧ i ≤ (a.spots.length : Int) ∧ a.spots.take i.toNat = b.spots.take i.toNat)) (fun q_ => match q_ with | i => (a.spots.length - i).toNat) (0) ⟨(fun _ => none), Le.refl _, S10.sub [0, 1] (by decide) rfl _ rfl, rfl, rfl, rfl, (in_i64 (by first|omega|(simp;omega)|assumption) (by first|omega|(simp;omega)|assumption)), (by exact ⟨by omega, by omega, rfl⟩)⟩ ?_
            rintro i ih12 ρ12 w12 ⟨h12, le12, S12, r12_2, r12_3, r12_5, f12_0, hI12⟩
            have lf12_0 := i64_lo f12_0; have hf12_0 := i64_hi f12_0
            refine run_seq ?_
            refine run_seq ?_
            refine run_reg (l := [0, 1, 2, 3, 4]) rfl ?_
            refine p_v (v := .int .i64 i) rfl rfl rfl (x_move r12_5) ?_
            refine p_v (v := .pointer (some ⟨b1, 0, none⟩)) rfl rfl rfl (x_fieldAt fd27_0 ty22 rfl r12_2) ?_
            refine p_v (v := .slice A0_0 a.spots.length c0_0) rfl rfl rfl (x_load (seg := [.slice A0_0 a.spots.length c0_0]) ty22 rfl (by simp) rfl (CF.box (m := 1) (S12.box_at (j := 0) rfl) rfl)) ?_
            refine p_v (v := .int .i64 (a.spots.length : Int)) rfl rfl rfl (x_len_slice u22 rfl) ?_
            refine p_v (v := .bool (decide (i < (a.spots.length : Int)))) rfl rfl rfl (x_lss rfl rfl) ?_
            refine run_region_end ?_
            refine run_cond_prop (p := i < (a.spots.length : Int)) rfl (fun hc13 => ?_) (fun hc13 => ?_)
            · skip
              refine run_skip ?_
              refine run_seq ?_
              refine run_block ?_
              refine run_seq ?_
              obtain ⟨ad14, seg14, a14, rp14, ce14⟩ := e_index_ro (q := i) (m := 5) l0_0 rfl (by first|omega|(simp;omega)|assumption) (by first|omega|(simp;omega)|assumption)
              obtain ⟨rfl, ok14⟩ := rp14
              have slook14 := u8_lo ok14; have shiok14 := u8_hi ok14
              obtain ⟨ad15, seg15, a15, rp15, ce15⟩ := e_index_ro (q := i) (m := 5) l1_0 rfl (by first|omega|(simp;omega)|assumption) (by first|omega|(simp;omega)|assumption)
              obtain ⟨rfl, ok15⟩ := rp15
              have slook15 := u8_lo ok15; have shiok15 := u8_hi ok15
              have hf16 : (CFs ⟨b1, 0, none⟩ [.slice A0_0 a.spots.length c0_0]).1 w12 := (CF.box (m := 1) (S12.box_at (j := 0) rfl) rfl)
              have hf17 : (CFs ad14 (encSpot (at_ a.spots i))).1 w12 := (CF.ghost ce14 (St.le0 S12))
              have hf18 : (CFs ⟨b3, 0, none⟩ [.slice A1_0 b.spots.length c1_0]).1 w12 := (CF.box (m := 1) (S12.box_at (j := 1) rfl) rfl)
              have hf19 : (CFs ad15 (encSpot (at_ b.spots i))).1 w12 := (CF.ghost ce15 (St.le0 S12))
              refine da_start [(1, CFs ⟨b1, 0, none⟩ [.slice A0_0 a.spots.length c0_0]), (4, CFs ad14 (encSpot (at_ a.spots i))), (6, CFs ⟨b3, 0, none⟩ [.slice A1_0 b.spots.length c1_0]), (9, CFs ad15 (encSpot (at_ b.spots i)))] 11 rfl mixed ?_
              intro wd20 gd20 hd20
              have S21 := S12.keep gd20
              have hf22 := (CFs ⟨b1, 0, none⟩ [.slice A0_0 a.spots.length c0_0]).2 _ _ gd20 hf16
              have hf23 := (CFs ad14 (encSpot (at_ a.spots i))).2 _ _ gd20 hf17
              have hf24 := (CFs ⟨b3, 0, none⟩ [.slice A1_0 b.spots.length c1_0]).2 _ _ gd20 hf18
              have hf25 := (CFs ad15 (encSpot (at_ b.spots i))).2 _ _ gd20 hf19
              refine d_q (i := 0) (v := .pointer (some ⟨b1, 0, none⟩)) (fun _ => True) (fun _ ho => trivial) rfl (by decide +kernel) (by decide +kernel) (by decide +kernel) rfl rfl (fun wq hq => (x_fieldAt fd27_0 ty22 rfl r12_2)) (of_ne rfl (of_ne rfl (of_ne rfl (of_ne rfl (of_nil _ _))))) ?_
              refine d_q (i := 1) (v := .slice A0_0 a.spots.length c0_0) (CF ⟨b1, 0, none⟩ [.slice A0_0 a.spots.length c0_0]) (fun _ ho => ho _ (List.mem_of_getElem? (i := 0) rfl) rfl) rfl (by decide +kernel) (by decide +kernel) (by decide +kernel) rfl rfl (fun wq hq => (x_load (seg := [.slice A0_0 a.spots.length c0_0]) ty22 rfl (by simp) rfl hq)) (of_eq hf22 (of_ne rfl (of_ne rfl (of_ne rfl (of_nil _ _))))) ?_
              refine d_q (i := 2) (v := .int .i64 i) (fun _ => True) (fun _ ho => trivial) rfl (by decide +kernel) (by decide +kernel) (by decide +kernel) rfl rfl (fun wq hq => (x_move r12_5)) (of_ne rfl (of_ne rfl (of_ne rfl (of_ne rfl (of_nil _ _))))) ?_
              refine d_q (i := 3) (v := .pointer (some ad14)) (fun _ => True) (fun _ ho => trivial) rfl (by decide +kernel) (by decide +kernel) (by decide +kernel) rfl rfl (fun wq hq => (x_index_ro u22 ty39 rfl rfl a14 (by first|omega|(simp;omega)|assumption) (by first|omega|(simp;omega)|assumption))) (of_ne rfl (of_ne rfl (of_ne rfl (of_ne rfl (of_nil _ _))))) ?_
              refine d_q (i := 4) (v := .agg (encSpot (at_ a.spots i)).toArray) (CF ad14 (encSpot (at_ a.spots i))) (fun _ ho => ho _ (List.mem_of_getElem? (i := 1) rfl) rfl) rfl (by decide +kernel) (by decide +kernel) (by decide +kernel) rfl rfl (fun wq hq => (x_load (seg := (encSpot (at_ a.spots i))) ty39 rfl (by simp) rfl hq)) (of_ne rfl (of_eq hf23 (of_ne rfl (of_ne rfl (of_nil _ _))))) ?_
              refine d_q (i := 5) (v := .pointer (some ⟨b3, 0, none⟩)) (fun _ => True) (fun _ ho => trivial) rfl (by decide +kernel) (by decide +kernel) (by decide +kernel) rfl rfl (fun wq hq => (x_fieldAt fd27_0 ty22 rfl r12_3)) (of_ne rfl (of_ne rfl (of_ne rfl (of_ne rfl (of_nil _ _))))) ?_
              refine d_q (i := 6) (v := .slice A1_0 b.spots.length c1_0) (CF ⟨b3, 0, none⟩ [.slice A1_0 b.spots.length c1_0]) (fun _ ho => ho _ (List.mem_of_getElem? (i := 2) rfl) rfl) rfl (by decide +kernel) (by decide +kernel) (by decide +kernel) rfl rfl (fun wq hq => (x_load (seg := [.slice A1_0 b.spots.length c1_0]) ty22 rfl (by simp) rfl hq)) (of_ne rfl (of_ne rfl (of_eq hf24 (of_ne rfl (of_nil _ _))))) ?_
              refine d_q (i := 7) (v := .int .i64 i) (fun _ => True) (fun _ ho => trivial) rfl (by decide +kernel) (by decide +kernel) (by decide +kernel) rfl rfl (fun wq hq => (x_move r12_5)) (of_ne rfl (of_ne rfl (of_ne rfl (of_ne rfl (of_nil _ _))))) ?_
              refine d_q (i := 8) (v := .pointer (some ad15)) (fun _ => True) (fun _ ho => trivial) rfl (by decide +kernel) (by decide +kernel) (by decide +kernel) rfl rfl (fun wq hq => (x_index_ro u22 ty39 rfl rfl a15 (by first|omega|(simp;omega)|assumption) (by first|omega|(simp;omega)|assumption))) (of_ne rfl (of_ne rfl (of_ne rfl (of_ne rfl (of_nil _ _))))) ?_
              refine d_q (i := 9) (v := .agg (encSpot (at_ b.spots i)).toArray) (CF ad15 (encSpot (at_ b.spots i))) (fun _ ho => ho _ (List.mem_of_getElem? (i := 3) rfl) rfl) rfl (by decide +kernel) (by decide +kernel) (by decide +kernel) rfl rfl (fun wq hq => (x_load (seg := (encSpot (at_ b.spots i))) ty39 rfl (by simp) rfl hq)) (of_ne rfl (of_ne rfl (of_ne rfl (of_eq hf25 (of_nil _ _))))) ?_
              refine d_q (i := 10) (v := .bool (decide ((at_ a.spots i) ≠ (at_ b.spots i)))) (fun _ => True) (fun _ ho => trivial) rfl (by decide +kernel) (by decide +kernel) (by decide +kernel) rfl rfl (fun wq hq => (x_neq_agg eqk39 ok14 ok15 q39 rfl rfl)) (of_ne rfl (of_ne rfl (of_ne rfl (of_ne rfl (of_nil _ _))))) ?_
              refine ra_done (by decide +kernel) ?_
              intro wd26 gd26
              have S27 := S21.keep gd26
              refine run_cond_prop (p := (at_ a.spots i) ≠ (at_ b.spots i)) rfl (fun hc28 => ?_) (fun hc28 => ?_)
              · skip
                refine run_seq ?_
                refine run_reg (l := [0]) rfl ?_
                refine p_v (v := .bool false) rfl rfl rfl (x_assign rfl) ?_
                refine run_region_end ?_
                refine run_ret Try.func15 (res1 rfl (res_tmp (v := .bool false) rfl)) ?_
                have q0 : (decide (a = b) : Bool) = false := by
                  first | exact decide_eq_false (fun e => (by assumption : (a.spots.length : Int) ≠ (b.spots.length : Int)) (by rw [e])) | exact decide_eq_false (fun e => (by assumption : (a.follow.length : Int) ≠ (b.follow.length : Int)) (by rw [e])) | exact decide_eq_false (fun e => (by assumption : (a.last.length : Int) ≠ (b.last.length : Int)) (by rw [e])) | exact decide_eq_false (fun e => (by assumption : a.empty ≠ b.empty) (by rw [e])) | exact decide_eq_false (fun e => of_decide_eq_false (by assumption : decide (a.first = b.first) = false) (by rw [e])) | exact decide_eq_false (fun e => (by assumption : at_ a.spots i ≠ at_ b.spots i) (by rw [e])) | exact decide_eq_false (fun e => (by assumption : at_ a.last i2 ≠ at_ b.last i2) (by rw [e])) | exact decide_eq_false (fun e => of_decide_eq_false (by assumption : decide (at_ a.follow i3 = at_ b.follow i3) = false) (by rw [e])) | (rw [mach_eq, eq_yes (t := i) (by omega) (by omega) hI12.2.2, (by assumption : decide (a.first = b.first) = true), eq_yes (t := i3) (by omega) (by omega) hI_.2.2, eq_yes (t := i2) (by omega) (by omega) hI_.2.2, decide_eq_true (Decidable.not_not.1 (by assumption : ¬ a.empty ≠ b.empty))]; rfl)
                refine ⟨_, rfl, h12, ?_, ?_⟩
                · exact S27.sub [] (by decide) rfl _ rfl
                · first | rfl | (simp only [q0]; rfl) | (simp only [q0])
              · skip
                refine run_skip ?_
                refine run_inBlock ?_
                refine run_reg (l := [0, 1, 2]) rfl ?_
                refine p_v (v := .int .i64 i) rfl rfl rfl (x_move r12_5) ?_
                refine p_v (v := .int .i64 (i + 1)) rfl rfl rfl (x_add rfl rfl (in_i64 (by first|omega|(simp;omega)|assumption) (by first|omega|(simp;omega)|assumption))) ?_
                refine p_v (v := .int .i64 (i + 1)) rfl rfl rfl (x_assign rfl) ?_
                refine run_region_end ?_
                refine ih12 (i + 1) _ _ (by dsimp only; omega) ⟨h12, le12, S27.sub [0, 1] (by decide) rfl _ rfl, r12_2, r12_3, rfl, (in_i64 (by first|omega|(simp;omega)|assumption) (by first|omega|(simp;omega)|assumption)), (by exact ⟨by omega, by omega, eq_step hI12.1 (by omega) (by omega) hI12.2.2 (Decidable.not_not.1 (by assumption))⟩)⟩
            · skip
              refine run_exit rfl ?_
              refine run_seq ?_
              refine run_seq ?_
              refine run_reg (l := [0]) rfl ?_
              refine p_v (v := .int .i64 0) rfl rfl rfl (x_assign rfl) ?_
              refine run_region_end ?_
              refine run_block ?_
              refine run_loop (S := Int) (fun (q_ : Int) ρ w' => match q_ with | i2 => ∃ (h : Ghost), Le h12 h ∧ St w.heap.size w h w' [box b1 27 [.slice A0_0 a.spots.length c0_0, .slice A0_1 a.first.length c0_1, .slice A0_2 a.follow.length c0_2, .slice A0_3 a.last.length c0_3, .bool a.empty], box b3 27 [.slice A1_0 b.spots.length c1_0, .slice A1_1 b.first.length c1_1, .slice A1_2 b.follow.length c1_2, .slice A1_3 b.last.length c1_3, .bool b.empty]] ∧ ρ 2 = .pointer (some ⟨b1, 0, none⟩) ∧ ρ 3 = .pointer (some ⟨b3, 0, none⟩) ∧ ρ 6 = .int .i64 i2 ∧ inK .i64 i2 ∧ (0 ≤ i2 ∧ i2 ≤ (a.last.length : Int) ∧ a.last.take i2.toNat = b.last.take i2.toNat)) (fun q_ => match q_ with | i2 => (a.last.length - i2).toNat) (0) ⟨h12, Le.refl _, S12.sub [0, 1] (by decide) rfl _ rfl, r12_2, r12_3, rfl, (in_i64 (by first|omega|(simp;omega)|assumption) (by first|omega|(simp;omega)|assumption)), (by exact ⟨by omega, by omega, rfl⟩)⟩ ?_
              rintro i2 ih29 ρ29 w29 ⟨h29, le29, S29, r29_2, r29_3, r29_6, f29_0, hI29⟩
              have lf29_0 := i64_lo f29_0; have hf29_0 := i64_hi f29_0
              refine run_seq ?_
              refine run_seq ?_
              refine run_reg (l := [0, 1, 2, 3, 4]) rfl ?_
              refine p_v (v := .int .i64 i2) rfl rfl rfl (x_move r29_6) ?_
              refine p_v (v := .pointer (some ⟨b1, 3, none⟩)) rfl rfl rfl (x_fieldAt fd27_3 ty25 rfl r29_2) ?_
              refine p_v (v := .slice A0_3 a.last.length c0_3) rfl rfl rfl (x_load (seg := [.slice A0_3 a.last.length c0_3]) ty25 rfl (by simp) rfl (CF.box (m := 1) (S29.box_at (j := 0) rfl) rfl)) ?_
              refine p_v (v := .int .i64 (a.last.length : Int)) rfl rfl rfl (x_len_slice u25 rfl) ?_
              refine p_v (v := .bool (decide (i2 < (a.last.length : Int)))) rfl rfl rfl (x_lss rfl rfl) ?_
              refine run_region_end ?_
              refine run_cond_prop (p := i2 < (a.last.length : Int)) rfl (fun hc30 => ?_) (fun hc30 => ?_)
              · skip
                refine run_skip ?_
                refine run_seq ?_
                refine run_block ?_
                refine run_seq ?_
                obtain ⟨ad31, seg31, a31, rp31, ce31⟩ := e_index_ro (q := i2) (m := 1) l0_3 rfl (by first|omega|(simp;omega)|assumption) (by first|omega|(simp;omega)|assumption)
                obtain ⟨rfl, _⟩ := rp31
                obtain ⟨ad32, seg32, a32, rp32, ce32⟩ := e_index_ro (q := i2) (m := 1) l1_3 rfl (by first|omega|(simp;omega)|assumption) (by first|omega|(simp;omega)|assumption)
                obtain ⟨rfl, _⟩ := rp32
                have hf33 : (CFs ⟨b1, 3, none⟩ [.slice A0_3 a.last.length c0_3]).1 w29 := (CF.box (m := 1) (S29.box_at (j := 0) rfl) rfl)
                have hf34 : (CFs ad31 [.bool (at_ a.last i2)]).1 w29 := (CF.ghost ce31 (St.le0 S29))
                have hf35 : (CFs ⟨b3, 3, none⟩ [.slice A1_3 b.last.length c1_3]).1 w29 := (CF.box (m := 1) (S29.box_at (j := 1) rfl) rfl)
                have hf36 : (CFs ad32 [.bool (at_ b.last i2)]).1 w29 := (CF.ghost ce32 (St.le0 S29))
                refine da_start [(1, CFs ⟨b1, 3, none⟩ [.slice A0_3 a.last.length c0_3]), (4, CFs ad31 [.bool (at_ a.last i2)]), (6, CFs ⟨b3, 3, none⟩ [.slice A1_3 b.last.length c1_3]), (9, CFs ad32 [.bool (at_ b.last i2)])] 11 rfl mixed ?_
                intro wd37 gd37 hd37
                have S38 := S29.keep gd37
                have hf39 := (CFs ⟨b1, 3, none⟩ [.slice A0_3 a.last.length c0_3]).2 _ _ gd37 hf33
                have hf40 := (CFs ad31 [.bool (at_ a.last i2)]).2 _ _ gd37 hf34
                have hf41 := (CFs ⟨b3, 3, none⟩ [.slice A1_3 b.last.length c1_3]).2 _ _ gd37 hf35
                have hf42 := (CFs ad32 [.bool (at_ b.last i2)]).2 _ _ gd37 hf36
                refine d_q (i := 0) (v := .pointer (some ⟨b1, 3, none⟩)) (fun _ => True) (fun _ ho => trivial) rfl (by decide +kernel) (by decide +kernel) (by decide +kernel) rfl rfl (fun wq hq => (x_fieldAt fd27_3 ty25 rfl r29_2)) (of_ne rfl (of_ne rfl (of_ne rfl (of_ne rfl (of_nil _ _))))) ?_
                refine d_q (i := 1) (v := .slice A0_3 a.last.length c0_3) (CF ⟨b1, 3, none⟩ [.slice A0_3 a.last.length c0_3]) (fun _ ho => ho _ (List.mem_of_getElem? (i := 0) rfl) rfl) rfl (by decide +kernel) (by decide +kernel) (by decide +kernel) rfl rfl (fun wq hq => (x_load (seg := [.slice A0_3 a.last.length c0_3]) ty25 rfl (by simp) rfl hq)) (of_eq hf39 (of_ne rfl (of_ne rfl (of_ne rfl (of_nil _ _))))) ?_
                refine d_q (i := 2) (v := .int .i64 i2) (fun _ => True) (fun _ ho => trivial) rfl (by decide +kernel) (by decide +kernel) (by decide +kernel) rfl rfl (fun wq hq => (x_move r29_6)) (of_ne rfl (of_ne rfl (of_ne rfl (of_ne rfl (of_nil _ _))))) ?_
                refine d_q (i := 3) (v := .pointer (some ad31)) (fun _ => True) (fun _ ho => trivial) rfl (by decide +kernel) (by decide +kernel) (by decide +kernel) rfl rfl (fun wq hq => (x_index_ro u25 ty4 rfl rfl a31 (by first|omega|(simp;omega)|assumption) (by first|omega|(simp;omega)|assumption))) (of_ne rfl (of_ne rfl (of_ne rfl (of_ne rfl (of_nil _ _))))) ?_
                refine d_q (i := 4) (v := .bool (at_ a.last i2)) (CF ad31 [.bool (at_ a.last i2)]) (fun _ ho => ho _ (List.mem_of_getElem? (i := 1) rfl) rfl) rfl (by decide +kernel) (by decide +kernel) (by decide +kernel) rfl rfl (fun wq hq => (x_load (seg := [.bool (at_ a.last i2)]) ty4 rfl (by simp) rfl hq)) (of_ne rfl (of_eq hf40 (of_ne rfl (of_ne rfl (of_nil _ _))))) ?_
                refine d_q (i := 5) (v := .pointer (some ⟨b3, 3, none⟩)) (fun _ => True) (fun _ ho => trivial) rfl (by decide +kernel) (by decide +kernel) (by decide +kernel) rfl rfl (fun wq hq => (x_fieldAt fd27_3 ty25 rfl r29_3)) (of_ne rfl (of_ne rfl (of_ne rfl (of_ne rfl (of_nil _ _))))) ?_
                refine d_q (i := 6) (v := .slice A1_3 b.last.length c1_3) (CF ⟨b3, 3, none⟩ [.slice A1_3 b.last.length c1_3]) (fun _ ho => ho _ (List.mem_of_getElem? (i := 2) rfl) rfl) rfl (by decide +kernel) (by decide +kernel) (by decide +kernel) rfl rfl (fun wq hq => (x_load (seg := [.slice A1_3 b.last.length c1_3]) ty25 rfl (by simp) rfl hq)) (of_ne rfl (of_ne rfl (of_eq hf41 (of_ne rfl (of_nil _ _))))) ?_
                refine d_q (i := 7) (v := .int .i64 i2) (fun _ => True) (fun _ ho => trivial) rfl (by decide +kernel) (by decide +kernel) (by decide +kernel) rfl rfl (fun wq hq => (x_move r29_6)) (of_ne rfl (of_ne rfl (of_ne rfl (of_ne rfl (of_nil _ _))))) ?_
                refine d_q (i := 8) (v := .pointer (some ad32)) (fun _ => True) (fun _ ho => trivial) rfl (by decide +kernel) (by decide +kernel) (by decide +kernel) rfl rfl (fun wq hq => (x_index_ro u25 ty4 rfl rfl a32 (by first|omega|(simp;omega)|assumption) (by first|omega|(simp;omega)|assumption))) (of_ne rfl (of_ne rfl (of_ne rfl (of_ne rfl (of_nil _ _))))) ?_
                refine d_q (i := 9) (v := .bool (at_ b.last i2)) (CF ad32 [.bool (at_ b.last i2)]) (fun _ ho => ho _ (List.mem_of_getElem? (i := 3) rfl) rfl) rfl (by decide +kernel) (by decide +kernel) (by decide +kernel) rfl rfl (fun wq hq => (x_load (seg := [.bool (at_ b.last i2)]) ty4 rfl (by simp) rfl hq)) (of_ne rfl (of_ne rfl (of_ne rfl (of_eq hf42 (of_nil _ _))))) ?_
                refine d_q (i := 10) (v := .bool (decide ((at_ a.last i2) ≠ (at_ b.last i2)))) (fun _ => True) (fun _ ho => trivial) rfl (by decide +kernel) (by decide +kernel) (by decide +kernel) rfl rfl (fun wq hq => (x_neq_bool u4 rfl rfl)) (of_ne rfl (of_ne rfl (of_ne rfl (of_ne rfl (of_nil _ _))))) ?_
                refine ra_done (by decide +kernel) ?_
                intro wd43 gd43
                have S44 := S38.keep gd43
                refine run_cond_prop (p := (at_ a.last i2) ≠ (at_ b.last i2)) rfl (fun hc45 => ?_) (fun hc45 => ?_)
                · skip
                  refine run_seq ?_
                  refine run_reg (l := [0]) rfl ?_
                  refine p_v (v := .bool false) rfl rfl rfl (x_assign rfl) ?_
                  refine run_region_end ?_
                  refine run_ret Try.func15 (res1 rfl (res_tmp (v := .bool false) rfl)) ?_
                  have q0 : (decide (a = b) : Bool) = false := by
                    first | exact decide_eq_false (fun e => (by assumption : (a.spots.length : Int) ≠ (b.spots.length : Int)) (by rw [e])) | exact decide_eq_false (fun e => (by assumption : (a.follow.length : Int) ≠ (b.follow.length : Int)) (by rw [e])) | exact decide_eq_false (fun e => (by assumption : (a.last.length : Int) ≠ (b.last.length : Int)) (by rw [e])) | exact decide_eq_false (fun e => (by assumption : a.empty ≠ b.empty) (by rw [e])) | exact decide_eq_false (fun e => of_decide_eq_false (by assumption : decide (a.first = b.first) = false) (by rw [e])) | exact decide_eq_false (fun e => (by assumption : at_ a.spots i ≠ at_ b.spots i) (by rw [e])) | exact decide_eq_false (fun e => (by assumption : at_ a.last i2 ≠ at_ b.last i2) (by rw [e])) | exact decide_eq_false (fun e => of_decide_eq_false (by assumption : decide (at_ a.follow i3 = at_ b.follow i3) = false) (by rw [e])) | (rw [mach_eq, eq_yes (t := i) (by omega) (by omega) hI12.2.2, (by assumption : decide (a.first = b.first) = true), eq_yes (t := i3) (by omega) (by omega) hI_.2.2, eq_yes (t := i2) (by omega) (by omega) hI29.2.2, decide_eq_true (Decidable.not_not.1 (by assumption : ¬ a.empty ≠ b.empty))]; rfl)
                  refine ⟨_, rfl, h29, ?_, ?_⟩
                  · exact S44.sub [] (by decide) rfl _ rfl
                  · first | rfl | (simp only [q0]; rfl) | (simp only [q0])
                · skip
                  refine run_skip ?_
                  refine run_inBlock ?_
                  refine run_reg (l := [0, 1, 2]) rfl ?_
                  refine p_v (v := .int .i64 i2) rfl rfl rfl (x_move r29_6) ?_
                  refine p_v (v := .int .i64 (i2 + 1)) rfl rfl rfl (x_add rfl rfl (in_i64 (by first|omega|(simp;omega)|assumption) (by first|omega|(simp;omega)|assumption))) ?_
                  refine p_v (v := .int .i64 (i2 + 1)) rfl rfl rfl (x_assign rfl) ?_
                  refine run_region_end ?_
                  refine ih29 (i2 + 1) _ _ (by dsimp only; omega) ⟨h29, le29, S44.sub [0, 1] (by decide) rfl _ rfl, r29_2, r29_3, rfl, (in_i64 (by first|omega|(simp;omega)|assumption) (by first|omega|(simp;omega)|assumption)), (by exact ⟨by omega, by omega, eq_step hI29.1 (by omega) (by omega) hI29.2.2 (Decidable.not_not.1 (by assumption))⟩)⟩
              · skip
                refine run_exit rfl ?_
                refine run_seq ?_
                refine run_seq ?_
                refine run_reg (l := [0]) rfl ?_
                refine p_v (v := .int .i64 0) rfl rfl rfl (x_assign rfl) ?_
                refine run_region_end ?_
                refine run_block ?_
                refine run_loop (S := Int) (fun (q_ : Int) ρ w' => match q_ with | i3 => ∃ (h : Ghost), Le h29 h ∧ St w.heap.size w h w' [box b1 27 [.slice A0_0 a.spots.length c0_0, .slice A0_1 a.first.length c0_1, .slice A0_2 a.follow.length c0_2, .slice A0_3 a.last.length c0_3, .bool a.empty], box b3 27 [.slice A1_0 b.spots.length c1_0, .slice A1_1 b.first.length c1_1, .slice A1_2 b.follow.length c1_2, .slice A1_3 b.last.length c1_3, .bool b.empty]] ∧ ρ 2 = .pointer (some ⟨b1, 0, none⟩) ∧ ρ 3 = .pointer (some ⟨b3, 0, none⟩) ∧ ρ 7 = .int .i64 i3 ∧ inK .i64 i3 ∧ (0 ≤ i3 ∧ i3 ≤ (a.follow.length : Int) ∧ a.follow.take i3.toNat = b.follow.take i3.toNat)) (fun q_ => match q_ with | i3 => (a.follow.length - i3).toNat) (0) ⟨h29, Le.refl _, S29.sub [0, 1] (by decide) rfl _ rfl, r29_2, r29_3, rfl, (in_i64 (by first|omega|(simp;omega)|assumption) (by first|omega|(simp;omega)|assumption)), (by exact ⟨by omega, by omega, rfl⟩)⟩ ?_
                rintro i3 ih46 ρ46 w46 ⟨h46, le46, S46, r46_2, r46_3, r46_7, f46_0, hI46⟩
                have lf46_0 := i64_lo f46_0; have hf46_0 := i64_hi f46_0
                refine run_seq ?_
                refine run_seq ?_
                refine run_reg (l := [0, 1, 2, 3, 4]) rfl ?_
                refine p_v (v := .int .i64 i3) rfl rfl rfl (x_move r46_7) ?_
                refine p_v (v := .pointer (some ⟨b1, 2, none⟩)) rfl rfl rfl (x_fieldAt fd27_2 ty24 rfl r46_2) ?_
                refine p_v (v := .slice A0_2 a.follow.length c0_2) rfl rfl rfl (x_load (seg := [.slice A0_2 a.follow.length c0_2]) ty24 rfl (by simp) rfl (CF.box (m := 1) (S46.box_at (j := 0) rfl) rfl)) ?_
                refine p_v (v := .int .i64 (a.follow.length : Int)) rfl rfl rfl (x_len_slice u24 rfl) ?_
                refine p_v (v := .bool (decide (i3 < (a.follow.length : Int)))) rfl rfl rfl (x_lss rfl rfl) ?_
                refine run_region_end ?_
                refine run_cond_prop (p := i3 < (a.follow.length : Int)) rfl (fun hc47 => ?_) (fun hc47 => ?_)
                · skip
                  refine run_skip ?_
                  refine run_seq ?_
                  refine run_block ?_
                  refine run_seq ?_
                  obtain ⟨ad48, seg48, a48, rp48, ce48⟩ := e_index_ro (q := i3) (m := 1) l0_2 rfl (by first|omega|(simp;omega)|assumption) (by first|omega|(simp;omega)|assumption)
                  obtain ⟨A48, c48, rfl, lc48, cm48, ld48⟩ := rp48
                  have cn48 := cm48; simp only [maxLen] at cn48
                  obtain ⟨ad49, seg49, a49, rp49, ce49⟩ := e_index_ro (q := i3) (m := 1) l1_2 rfl (by first|omega|(simp;omega)|assumption) (by first|omega|(simp;omega)|assumption)
                  obtain ⟨A49, c49, rfl, lc49, cm49, ld49⟩ := rp49
                  have cn49 := cm49; simp only [maxLen] at cn49
                  have hf51 : (CFs ⟨b1, 2, none⟩ [.slice A0_2 a.follow.length c0_2]).1 w46 := (CF.box (m := 1) (S46.box_at (j := 0) rfl) rfl)
                  have hf52 : (CFs ad48 [.slice A48 (at_ a.follow i3).length c48]).1 w46 := (CF.ghost ce48 (St.le0 S46))
                  have hf53 : (CFs ⟨b3, 2, none⟩ [.slice A1_2 b.follow.length c1_2]).1 w46 := (CF.box (m := 1) (S46.box_at (j := 1) rfl) rfl)
                  have hf54 : (CFs ad49 [.slice A49 (at_ b.follow i3).length c49]).1 w46 := (CF.ghost ce49 (St.le0 S46))
                  have hf55 : (LeadsS (Kd.int .i64) A48 (at_ a.follow i3)).1 w46 := (ld48.mono (St.le0 S46))
                  have hf56 : (LeadsS (Kd.int .i64) A49 (at_ b.follow i3)).1 w46 := (ld49.mono (St.le0 S46))
                  refine da_start [(1, CFs ⟨b1, 2, none⟩ [.slice A0_2 a.follow.length c0_2]), (4, CFs ad48 [.slice A48 (at_ a.follow i3).length c48]), (6, CFs ⟨b3, 2, none⟩ [.slice A1_2 b.follow.length c1_2]), (9, CFs ad49 [.slice A49 (at_ b.follow i3).length c49]), (10, LeadsS (Kd.int .i64) A48 (at_ a.follow i3)), (10, LeadsS (Kd.int .i64) A49 (at_ b.follow i3))] 12 rfl mixed ?_
                  intro wd57 gd57 hd57
                  have S58 := S46.keep gd57
                  have hf59 := (CFs ⟨b1, 2, none⟩ [.slice A0_2 a.follow.length c0_2]).2 _ _ gd57 hf51
                  have hf60 := (CFs ad48 [.slice A48 (at_ a.follow i3).length c48]).2 _ _ gd57 hf52
                  have hf61 := (CFs ⟨b3, 2, none⟩ [.slice A1_2 b.follow.length c1_2]).2 _ _ gd57 hf53
                  have hf62 := (CFs ad49 [.slice A49 (at_ b.follow i3).length c49]).2 _ _ gd57 hf54
                  have hf63 := (LeadsS (Kd.int .i64) A48 (at_ a.follow i3)).2 _ _ gd57 hf55
                  have hf64 := (LeadsS (Kd.int .i64) A49 (at_ b.follow i3)).2 _ _ gd57 hf56
                  refine d_q (i := 0) (v := .pointer (some ⟨b1, 2, none⟩)) (fun _ => True) (fun _ ho => trivial) rfl (by decide +kernel) (by decide +kernel) (by decide +kernel) rfl rfl (fun wq hq => (x_fieldAt fd27_2 ty24 rfl r46_2)) (of_ne rfl (of_ne rfl (of_ne rfl (of_ne rfl (of_ne rfl (of_ne rfl (of_nil _ _))))))) ?_
                  refine d_q (i := 1) (v := .slice A0_2 a.follow.length c0_2) (CF ⟨b1, 2, none⟩ [.slice A0_2 a.follow.length c0_2]) (fun _ ho => ho _ (List.mem_of_getElem? (i := 0) rfl) rfl) rfl (by decide +kernel) (by decide +kernel) (by decide +kernel) rfl rfl (fun wq hq => (x_load (seg := [.slice A0_2 a.follow.length c0_2]) ty24 rfl (by simp) rfl hq)) (of_eq hf59 (of_ne rfl (of_ne rfl (of_ne rfl (of_ne rfl (of_ne rfl (of_nil _ _))))))) ?_
                  refine d_q (i := 2) (v := .int .i64 i3) (fun _ => True) (fun _ ho => trivial) rfl (by decide +kernel) (by decide +kernel) (by decide +kernel) rfl rfl (fun wq hq => (x_move r46_7)) (of_ne rfl (of_ne rfl (of_ne rfl (of_ne rfl (of_ne rfl (of_ne rfl (of_nil _ _))))))) ?_
                  refine d_q (i := 3) (v := .pointer (some ad48)) (fun _ => True) (fun _ ho => trivial) rfl (by decide +kernel) (by decide +kernel) (by decide +kernel) rfl rfl (fun wq hq => (x_index_ro u24 ty23 rfl rfl a48 (by first|omega|(simp;omega)|assumption) (by first|omega|(simp;omega)|assumption))) (of_ne rfl (of_ne rfl (of_ne rfl (of_ne rfl (of_ne rfl (of_ne rfl (of_nil _ _))))))) ?_
                  refine d_q (i := 4) (v := .slice A48 (at_ a.follow i3).length c48) (CF ad48 [.slice A48 (at_ a.follow i3).length c48]) (fun _ ho => ho _ (List.mem_of_getElem? (i := 1) rfl) rfl) rfl (by decide +kernel) (by decide +kernel) (by decide +kernel) rfl rfl (fun wq hq => (x_load (seg := [.slice A48 (at_ a.follow i3).length c48]) ty23 rfl (by simp) rfl hq)) (of_ne rfl (of_eq hf60 (of_ne rfl (of_ne rfl (of_ne rfl (of_ne rfl (of_nil _ _))))))) ?_
                  refine d_q (i := 5) (v := .pointer (some ⟨b3, 2, none⟩)) (fun _ => True) (fun _ ho => trivial) rfl (by decide +kernel) (by decide +kernel) (by decide +kernel) rfl rfl (fun wq hq => (x_fieldAt fd27_2 ty24 rfl r46_3)) (of_ne rfl (of_ne rfl (of_ne rfl (of_ne rfl (of_ne rfl (of_ne rfl (of_nil _ _))))))) ?_
                  refine d_q (i := 6) (v := .slice A1_2 b.follow.length c1_2) (CF ⟨b3, 2, none⟩ [.slice A1_2 b.follow.length c1_2]) (fun _ ho => ho _ (List.mem_of_getElem? (i := 2) rfl) rfl) rfl (by decide +kernel) (by decide +kernel) (by decide +kernel) rfl rfl (fun wq hq => (x_load (seg := [.slice A1_2 b.follow.length c1_2]) ty24 rfl (by simp) rfl hq)) (of_ne rfl (of_ne rfl (of_eq hf61 (of_ne rfl (of_ne rfl (of_ne rfl (of_nil _ _))))))) ?_
                  refine d_q (i := 7) (v := .int .i64 i3) (fun _ => True) (fun _ ho => trivial) rfl (by decide +kernel) (by decide +kernel) (by decide +kernel) rfl rfl (fun wq hq => (x_move r46_7)) (of_ne rfl (of_ne rfl (of_ne rfl (of_ne rfl (of_ne rfl (of_ne rfl (of_nil _ _))))))) ?_
                  refine d_q (i := 8) (v := .pointer (some ad49)) (fun _ => True) (fun _ ho => trivial) rfl (by decide +kernel) (by decide +kernel) (by decide +kernel) rfl rfl (fun wq hq => (x_index_ro u24 ty23 rfl rfl a49 (by first|omega|(simp;omega)|assumption) (by first|omega|(simp;omega)|assumption))) (of_ne rfl (of_ne rfl (of_ne rfl (of_ne rfl (of_ne rfl (of_ne rfl (of_nil _ _))))))) ?_
                  refine d_q (i := 9) (v := .slice A49 (at_ b.follow i3).length c49) (CF ad49 [.slice A49 (at_ b.follow i3).length c49]) (fun _ ho => ho _ (List.mem_of_getElem? (i := 3) rfl) rfl) rfl (by decide +kernel) (by decide +kernel) (by decide +kernel) rfl rfl (fun wq hq => (x_load (seg := [.slice A49 (at_ b.follow i3).length c49]) ty23 rfl (by simp) rfl hq)) (of_ne rfl (of_ne rfl (of_ne rfl (of_eq hf62 (of_ne rfl (of_ne rfl (of_nil _ _))))))) ?_
                  refine d_m (i := 10) (v := .bool (decide ((at_ a.follow i3) = (at_ b.follow i3)))) (fun wf => Leads (Kd.int .i64) (hp wf) A48 (at_ a.follow i3) ∧ Leads (Kd.int .i64) (hp wf) A49 (at_ b.follow i3)) (fun _ ho => ⟨ho _ (List.mem_of_getElem? (i := 4) rfl) rfl, ho _ (List.mem_of_getElem? (i := 5) rfl) rfl⟩) rfl (by decide +kernel) (by decide +kernel) (by decide +kernel) rfl rfl (fun wq => (y_call (args := [.slice A48 (at_ a.follow i3).length c48, .slice A49 (at_ b.follow i3).length c49]) ca32 rfl rfl)) (fun wq hq => (alike_calls wq (at_ a.follow i3) A48 c48 (And.intro lc48 cm48) hq.1 (at_ b.follow i3) A49 c49 (And.intro lc49 cm49) hq.2).mono fun e w2 he => by obtain ⟨_, rfl, _, T, rfl⟩ := he; exact ⟨rfl, Chg.of_below T.below⟩) (of_ne rfl (of_ne rfl (of_ne rfl (of_ne rfl (of_eq hf63 (of_eq hf64 (of_nil _ _))))))) ?_
                  refine d_q (i := 11) (v := .bool (!(decide ((at_ a.follow i3) = (at_ b.follow i3))))) (fun _ => True) (fun _ ho => trivial) rfl (by decide +kernel) (by decide +kernel) (by decide +kernel) rfl rfl (fun wq hq => (x_not rfl)) (of_ne rfl (of_ne rfl (of_ne rfl (of_ne rfl (of_ne rfl (of_ne rfl (of_nil _ _))))))) ?_
                  refine ra_done (by decide +kernel) ?_
                  intro wd65 gd65
                  have S66 := S58.keep gd65
                  refine run_cond_nsplit (b := decide ((at_ a.follow i3) = (at_ b.follow i3))) rfl (fun hc67 => ?_) (fun hc67 => ?_)
                  · skip
                    refine run_seq ?_
                    refine run_reg (l := [0]) rfl ?_
                    refine p_v (v := .bool false) rfl rfl rfl (x_assign rfl) ?_
                    refine run_region_end ?_
                    refine run_ret Try.func15 (res1 rfl (res_tmp (v := .bool false) rfl)) ?_
                    have q0 : (decide (a = b) : Bool) = false := by
                      first | exact decide_eq_false (fun e => (by assumption : (a.spots.length : Int) ≠ (b.spots.length : Int)) (by rw [e])) | exact decide_eq_false (fun e => (by assumption : (a.follow.length : Int) ≠ (b.follow.length : Int)) (by rw [e])) | exact decide_eq_false (fun e => (by assumption : (a.last.length : Int) ≠ (b.last.length : Int)) (by rw [e])) | exact decide_eq_false (fun e => (by assumption : a.empty ≠ b.empty) (by rw [e])) | exact decide_eq_false (fun e => of_decide_eq_false (by assumption : decide (a.first = b.first) = false) (by rw [e])) | exact decide_eq_false (fun e => (by assumption : at_ a.spots i ≠ at_ b.spots i) (by rw [e])) | exact decide_eq_false (fun e => (by assumption : at_ a.last i2 ≠ at_ b.last i2) (by rw [e])) | exact decide_eq_false (fun e => of_decide_eq_false (by assumption : decide (at_ a.follow i3 = at_ b.follow i3) = false) (by rw [e])) | (rw [mach_eq, eq_yes (t := i) (by omega) (by omega) hI12.2.2, (by assumption : decide (a.first = b.first) = true), eq_yes (t := i3) (by omega) (by omega) hI46.2.2, eq_yes (t := i2) (by omega) (by omega) hI29.2.2, decide_eq_true (Decidable.not_not.1 (by assumption : ¬ a.empty ≠ b.empty))]; rfl)
                    refine ⟨_, rfl, h46, ?_, ?_⟩
                    · exact S66.sub [] (by decide) rfl _ rfl
                    · first | rfl | (simp only [q0]; rfl) | (simp only [q0])
                  · skip
                    refine run_skip ?_
                    refine run_inBlock ?_
                    refine run_reg (l := [0, 1, 2]) rfl ?_
                    refine p_v (v := .int .i64 i3) rfl rfl rfl (x_move r46_7) ?_
                    refine p_v (v := .int .i64 (i3 + 1)) rfl rfl rfl (x_add rfl rfl (in_i64 (by first|omega|(simp;omega)|assumption) (by first|omega|(simp;omega)|assumption))) ?_
                    refine p_v (v := .int .i64 (i3 + 1)) rfl rfl rfl (x_assign rfl) ?_
                    refine run_region_end ?_
                    refine ih46 (i3 + 1) _ _ (by dsimp only; omega) ⟨h46, le46, S66.sub [0, 1] (by decide) rfl _ rfl, r46_2, r46_3, rfl, (in_i64 (by first|omega|(simp;omega)|assumption) (by first|omega|(simp;omega)|assumption)), (by exact ⟨by omega, by omega, eq_step hI46.1 (by omega) (by omega) hI46.2.2 (of_decide_eq_true (by assumption))⟩)⟩
                · skip
                  refine run_exit rfl ?_
                  refine run_seq ?_
                  refine run_reg (l := [0]) rfl ?_
                  refine p_v (v := .bool true) rfl rfl rfl (x_assign rfl) ?_
                  refine run_region_end ?_
                  refine run_ret Try.func15 (res1 rfl (res_tmp (v := .bool true) rfl)) ?_
                  have q0 : (decide (a = b) : Bool) = true := by
                    first | exact decide_eq_false (fun e => (by assumption : (a.spots.length : Int) ≠ (b.spots.length : Int)) (by rw [e])) | exact decide_eq_false (fun e => (by assumption : (a.follow.length : Int) ≠ (b.follow.length : Int)) (by rw [e])) | exact decide_eq_false (fun e => (by assumption : (a.last.length : Int) ≠ (b.last.length : Int)) (by rw [e])) | exact decide_eq_false (fun e => (by assumption : a.empty ≠ b.empty) (by rw [e])) | exact decide_eq_false (fun e => of_decide_eq_false (by assumption : decide (a.first = b.first) = false) (by rw [e])) | exact decide_eq_false (fun e => (by assumption : at_ a.spots i ≠ at_ b.spots i) (by rw [e])) | exact decide_eq_false (fun e => (by assumption : at_ a.last i2 ≠ at_ b.last i2) (by rw [e])) | exact decide_eq_false (fun e => of_decide_eq_false (by assumption : decide (at_ a.follow i3 = at_ b.follow i3) = false) (by rw [e])) | (rw [mach_eq, eq_yes (t := i) (by omega) (by omega) hI12.2.2, (by assumption : decide (a.first = b.first) = true), eq_yes (t := i3) (by omega) (by omega) hI46.2.2, eq_yes (t := i2) (by omega) (by omega) hI29.2.2, decide_eq_true (Decidable.not_not.1 (by assumption : ¬ a.empty ≠ b.empty))]; rfl)
                  refine ⟨_, rfl, h46, ?_, ?_⟩
                  · exact S46.sub [] (by decide) rfl _ rfl
                  · first | rfl | (simp only [q0]; rfl) | (simp only [q0])
theorem trim10_calls (w : World) (m : Mach) (A0_0 : Option Addr) (c0_0 : Nat) (b0_0 : m.spots.length ≤ c0_0 ∧ c0_0 ≤ maxLen) (l0_0 : Leads kSpot (hp w) A0_0 m.spots) (A0_1 : Option Addr) (c0_1 : Nat) (b0_1 : m.first.length ≤ c0_1 ∧ c0_1 ≤ maxLen) (l0_1 : Leads (Kd.int .i64) (hp w) A0_1 m.first) (A0_2 : Option Addr) (c0_2 : Nat) (b0_2 : m.follow.length ≤ c0_2 ∧ c0_2 ≤ maxLen) (l0_2 : Leads (Kd.int .i64).slice (hp w) A0_2 m.follow) (A0_3 : Option Addr) (c0_3 : Nat) (b0_3 : m.last.length ≤ c0_3 ∧ c0_3 ≤ maxLen) (l0_3 : Leads Kd.bool (hp w) A0_3 m.last) (pre0 : Right m) :
    Calls Try.prog 20 #[.agg #[.slice A0_0 m.spots.length c0_0, .slice A0_1 m.first.length c0_1, .slice A0_2 m.follow.length c0_2, .slice A0_3 m.last.length c0_3, .bool m.empty]] w fun e w' => ∃ v, e = .returned v ∧ ∃ (hn : Ghost) (r0 : Value) (r1 : Value) (r2 : Value) (r3 : Value), St w.heap.size w hn w' [row 39 kSpot r0 ((trimM m).spots), row 3 (Kd.int .i64) r1 ((trimM m).first), row 23 (Kd.int .i64).slice r2 ((trimM m).follow), row 4 Kd.bool r3 ((trimM m).last)] ∧ v = .agg #[r0, r1, r2, r3, .bool ((trimM m).empty)] := by
  refine calls_of_run Try.func20 rfl Try.ntmps20 rfl ?_
  have S0 := St.init w
  have bb0_0 := b0_0.1; have bc0_0 := b0_0.2; simp only [maxLen] at bc0_0
  have bb0_1 := b0_1.1; have bc0_1 := b0_1.2; simp only [maxLen] at bc0_1
  have bb0_2 := b0_2.1; have bc0_2 := b0_2.2; simp only [maxLen] at bc0_2
  have bb0_3 := b0_3.1; have bc0_3 := b0_3.2; simp only [maxLen] at bc0_3
  have hR_ := pre0; have hsm_ := pre0.small; have hfo_ := pre0.follow; have hla_ := pre0.last; have hss_ := pre0.small'; have hfi_ := hss_.first; have hkl_ := keepM_len m; have hrt_ := right_iff.2 pre0
  refine run_seq ?_
  refine run_reg (l := [0, 1]) rfl ?_
  obtain ⟨b1, w1, r1, g1, T1⟩ := e_box (P := Try.prog) S0 27 (v := .agg #[.slice A0_0 m.spots.length c0_0, .slice A0_1 m.first.length c0_1, .slice A0_2 m.follow.length c0_2, .slice A0_3 m.last.length c0_3, .bool m.empty]) [.slice A0_0 m.spots.length c0_0, .slice A0_1 m.first.length c0_1, .slice A0_2 m.follow.length c0_2, .slice A0_3 m.last.length c0_3, .bool m.empty] rfl
  have S2 : St w.heap.size w (fun _ => none) w1 [box b1 27 [.slice A0_0 m.spots.length c0_0, .slice A0_1 m.first.length c0_1, .slice A0_2 m.follow.length c0_2, .slice A0_3 m.last.length c0_3, .bool m.empty]] := T1
  refine p_v (v := .pointer (some ⟨b1, 0, none⟩)) rfl rfl rfl (x_box rfl r1) ?_
  obtain ⟨b3, w3, r3, g3, T3⟩ := e_box (P := Try.prog) S2 27 (v := (.agg #[.slice none 0 0, .slice none 0 0, .slice none 0 0, .slice none 0 0, .bool false])) [.slice none 0 0, .slice none 0 0, .slice none 0 0, .slice none 0 0, .bool false] rfl
  have S4 : St w.heap.size w (fun _ => none) w3 [box b1 27 [.slice A0_0 m.spots.length c0_0, .slice A0_1 m.first.length c0_1, .slice A0_2 m.follow.length c0_2, .slice A0_3 m.last.length c0_3, .bool m.empty], box b3 27 [.slice none 0 0, .slice none 0 0, .slice none 0 0, .slice none 0 0, .bool false]] := T3
  refine p_v (v := .pointer (some ⟨b3, 0, none⟩)) rfl rfl rfl (x_alloc ty27 r3) ?_
  refine run_region_end ?_
  refine run_seq ?_
  refine run_reg (l := [0, 1, 2]) rfl ?_
  refine p_v (v := .agg #[.slice A0_0 m.spots.length c0_0, .slice A0_1 m.first.length c0_1, .slice A0_2 m.follow.length c0_2, .slice A0_3 m.last.length c0_3, .bool m.empty]) rfl rfl rfl (x_load (seg := [.slice A0_0 m.spots.length c0_0, .slice A0_1 m.first.length c0_1, .slice A0_2 m.follow.length c0_2, .slice A0_3 m.last.length c0_3, .bool m.empty]) ty27 rfl (by simp) rfl (CF.box (m := 5) (S4.box_at (j := 0) rfl) rfl)) ?_
  refine p_c rfl rfl rfl (y_call (args := [.agg #[.slice A0_0 m.spots.length c0_0, .slice A0_1 m.first.length c0_1, .slice A0_2 m.follow.length c0_2, .slice A0_3 m.last.length c0_3, .bool m.empty]]) ca39 rfl rfl) (useful10_calls w3 m A0_0 c0_0 b0_0 (l0_0.mono (St.le0 S4)) A0_1 c0_1 b0_1 (l0_1.mono (St.le0 S4)) A0_2 c0_2 b0_2 (l0_2.mono (St.le0 S4)) A0_3 c0_3 b0_3 (l0_3.mono (St.le0 S4)) (by assumption)) ?_
  rintro v5_0 w5 ⟨h5, _, T5, rfl⟩
  obtain ⟨k5, lk5, ll5, U5⟩ := call_joins S4 T5
  have S6 : St w.heap.size w k5 w5 [box b1 27 [.slice A0_0 m.spots.length c0_0, .slice A0_1 m.first.length c0_1, .slice A0_2 m.follow.length c0_2, .slice A0_3 m.last.length c0_3, .bool m.empty], box b3 27 [.slice none 0 0, .slice none 0 0, .slice none 0 0, .slice none 0 0, .bool false], row 4 Kd.bool v5_0 (keepM m)] := U5
  refine p_v (v := v5_0) rfl rfl rfl (x_assign rfl) ?_
  refine run_region_end ?_
  refine run_seq ?_
  refine run_reg (l := [0]) rfl ?_
  refine p_v (v := .slice none 0 0) rfl rfl rfl (x_assign rfl) ?_
  refine run_region_end ?_
  refine run_seq ?_
  refine run_reg (l := [0]) rfl ?_
  refine p_v (v := .int .i64 0) rfl rfl rfl (x_assign rfl) ?_
  refine run_region_end ?_
  refine run_seq ?_
  refine run_seq ?_
  refine run_reg (l := [0]) rfl ?_
  refine p_v (v := .int .i64 0) rfl rfl rfl (x_assign rfl) ?_
  refine run_region_end ?_
  refine run_block ?_
  have T7 := S6.row_nil 3 (Kd.int .i64)
  obtain ⟨vn7, ev7, T7⟩ : ∃ v, v = (.slice none 0 0 : Value) ∧ St w.heap.size w k5 w5 ([box b1 27 [.slice A0_0 m.spots.length c0_0, .slice A0_1 m.first.length c0_1, .slice A0_2 m.follow.length c0_2, .slice A0_3 m.last.length c0_3, .bool m.empty], box b3 27 [.slice none 0 0, .slice none 0 0, .slice none 0 0, .slice none 0 0, .bool false], row 4 Kd.bool v5_0 (keepM m)] ++ [row 3 (Kd.int .i64) v []]) := ⟨_, rfl, T7⟩
  have S8 : St w.heap.size w k5 w5 [box b1 27 [.slice A0_0 m.spots.length c0_0, .slice A0_1 m.first.length c0_1, .slice A0_2 m.follow.length c0_2, .slice A0_3 m.last.length c0_3, .bool m.empty], box b3 27 [.slice none 0 0, .slice none 0 0, .slice none 0 0, .slice none 0 0, .bool false], row 4 Kd.bool v5_0 (keepM m), row 3 (Kd.int .i64) vn7 ([] : List Int)] := T7
  refine run_loop (S := (List Int) × Int × Int) (fun (q_ : (List Int) × Int × Int) ρ w' => match q_ with | (number, n, i) => ∃ (h : Ghost) (v_number : Value), Le k5 h ∧ St w.heap.size w h w' [box b1 27 [.slice A0_0 m.spots.length c0_0, .slice A0_1 m.first.length c0_1, .slice A0_2 m.follow.length c0_2, .slice A0_3 m.last.length c0_3, .bool m.empty], box b3 27 [.slice none 0 0, .slice none 0 0, .slice none 0 0, .slice none 0 0, .bool false], row 4 Kd.bool v5_0 (keepM m), row 3 (Kd.int .i64) v_number number] ∧ ρ 1 = .pointer (some ⟨b1, 0, none⟩) ∧ ρ 2 = .pointer (some ⟨b3, 0, none⟩) ∧ ρ 3 = v5_0 ∧ ρ 4 = v_number ∧ ρ 5 = .int .i64 n ∧ ρ 6 = .int .i64 i ∧ inK .i64 n ∧ inK .i64 i ∧ (0 ≤ i ∧ i ≤ (m.spots.length : Int) ∧ n = numAt (keepM m) i ∧ number = numsL (keepM m) i)) (fun q_ => match q_ with | (number, n, i) => (m.spots.length - i).toNat) (([] : List Int), 0, 0) ⟨k5, vn7, Le.refl _, S8.sub [0, 1, 2, 3] (by decide) rfl _ rfl, rfl, rfl, rfl, (ev7.symm), rfl, rfl, (in_i64 (by first|omega|(simp;omega)|assumption) (by first|omega|(simp;omega)|assumption)), (in_i64 (by first|omega|(simp;omega)|assumption) (by first|omega|(simp;omega)|assumption)), (by exact ⟨by omega, by omega, (num_at0 _).symm, numsL_0 _⟩)⟩ ?_
  rintro ⟨number, n, i⟩ ih9 ρ9 w9 ⟨h9, v_number, le9, S9, r9_1, r9_2, r9_3, r9_4, r9_5, r9_6, f9_0, f9_1, hI9⟩
  have lf9_0 := i64_lo f9_0; have hf9_0 := i64_hi f9_0
  have lf9_1 := i64_lo f9_1; have hf9_1 := i64_hi f9_1
  have rl9_2 := S9.row_le (j := 2) rfl; simp only [maxLen] at rl9_2
  have rl9_3 := S9.row_le (j := 3) rfl; simp only [maxLen] at rl9_3
  have hn_ := num_at_le (keepM m) hI9.1; rw [← hI9.2.2.1] at hn_
  have hnl_ : (number.length : Int) = i := by rw [hI9.2.2.2]; exact numsL_len _ hI9.1
  refine run_seq ?_
  refine run_seq ?_
  refine run_reg (l := [0, 1, 2, 3]) rfl ?_
  refine p_v (v := .int .i64 i) rfl rfl rfl (x_move r9_6) ?_
  refine p_v (v := v5_0) rfl rfl rfl (x_move r9_3) ?_
  have lb10 := S9.row_le (j := 2) rfl; simp only [maxLen] at lb10
  refine p_v (v := .int .i64 ((keepM m).length : Int)) rfl rfl rfl (x_len_own u25 rfl (e_len_own S9 (j := 2) rfl)) ?_
  refine p_v (v := .bool (decide (i < ((keepM m).length : Int)))) rfl rfl rfl (x_lss rfl rfl) ?_
  refine run_region_end ?_
  refine run_cond_prop (p := i < ((keepM m).length : Int)) rfl (fun hc11 => ?_) (fun hc11 => ?_)
  · skip
    refine run_skip ?_
    refine run_seq ?_
    refine run_block ?_
    refine run_seq ?_
    refine run_reg (l := [0, 1, 2, 3, 4]) rfl ?_
    refine p_v (v := v_number) rfl rfl rfl (x_move r9_4) ?_
    refine p_v (v := .int .i64 n) rfl rfl rfl (x_move r9_5) ?_
    obtain ⟨v12, w12, r12, g12, T12⟩ := e_build_ones (kd := (Kd.int .i64)) (xs := ([n] : List Int)) (len := 1) [.int .i64 n] S9 u23 ty3 rfl rfl rfl rfl rfl (ones_cons rfl ones_nil) [.int .i64 n] (Elems.single (k := (Kd.int .i64)) (h := h9) (x := n) (cs := [.int .i64 n]) ⟨rfl, f9_0⟩) rfl
    have S13 : St w.heap.size w h9 w12 [box b1 27 [.slice A0_0 m.spots.length c0_0, .slice A0_1 m.first.length c0_1, .slice A0_2 m.follow.length c0_2, .slice A0_3 m.last.length c0_3, .bool m.empty], box b3 27 [.slice none 0 0, .slice none 0 0, .slice none 0 0, .slice none 0 0, .bool false], row 4 Kd.bool v5_0 (keepM m), row 3 (Kd.int .i64) v_number number, row 3 (Kd.int .i64) v12 ([n] : List Int)] := T12
    refine p_v (v := v12) rfl rfl rfl (y_build_slice (pv := [(0, .int .i64 n)]) rfl r12) ?_
    obtain ⟨A15, c15, ev15, lc15, cm15⟩ := S13.row_val (j := 4) rfl
    obtain ⟨v16, w16, r16, g16, T16⟩ := e_append (kd := (Kd.int .i64)) (A := A15) (c := c15) (ys := ([n] : List Int)) (len := ([n] : List Int).length) 23 S13 u23 ty3 rfl rfl (j := 3) rfl rfl (news_own S13 (j := 4) rfl ev15) (by first|omega|(simp;omega)|assumption) (by first|omega|(simp;omega)|assumption)
    have S17 : St w.heap.size w h9 w16 [box b1 27 [.slice A0_0 m.spots.length c0_0, .slice A0_1 m.first.length c0_1, .slice A0_2 m.follow.length c0_2, .slice A0_3 m.last.length c0_3, .bool m.empty], box b3 27 [.slice none 0 0, .slice none 0 0, .slice none 0 0, .slice none 0 0, .bool false], row 4 Kd.bool v5_0 (keepM m), row 3 (Kd.int .i64) v16 (number ++ ([n] : List Int)), row 3 (Kd.int .i64) v12 ([n] : List Int)] := T16
    refine p_v (v := v16) rfl rfl rfl (x_append rfl ev15 r16) ?_
    refine p_v (v := v16) rfl rfl rfl (x_assign rfl) ?_
    refine run_region_end ?_
    refine run_seq ?_
    refine run_reg (l := [0, 1, 2, 3]) rfl ?_
    refine p_v (v := v5_0) rfl rfl rfl (x_move r9_3) ?_
    refine p_v (v := .int .i64 i) rfl rfl rfl (x_move r9_6) ?_
    obtain ⟨ad18, a18, at18⟩ := e_index_own (q := i) (m := 1) S17 (j := 2) rfl rfl (by first|omega|(simp;omega)|assumption) (by first|omega|(simp;omega)|assumption)
    refine p_v (v := .pointer (some ad18)) rfl rfl rfl (x_index_own u25 ty4 rfl rfl a18 (by first|omega|(simp;omega)|assumption) (by first|omega|(simp;omega)|assumption)) ?_
    obtain ⟨seg19, rp19, cf19⟩ := e_load_own (q := i) S17 (j := 2) rfl rfl at18 (by first|omega|(simp;omega)|assumption) (by first|omega|(simp;omega)|assumption)
    obtain ⟨rfl, _⟩ := rp19
    refine p_v (v := .bool (at_ (keepM m) i)) rfl rfl rfl (x_load (seg := [.bool (at_ (keepM m) i)]) ty4 rfl (by simp) rfl cf19) ?_
    refine run_region_end ?_
    refine run_cond_split (b := at_ (keepM m) i) rfl (fun hc20 => ?_) (fun hc20 => ?_)
    · skip
      refine run_reg (l := [0, 1, 2]) rfl ?_
      refine p_v (v := .int .i64 n) rfl rfl rfl (x_move r9_5) ?_
      refine p_v (v := .int .i64 (n + 1)) rfl rfl rfl (x_add rfl rfl (in_i64 (by first|omega|(simp;omega)|assumption) (by first|omega|(simp;omega)|assumption))) ?_
      refine p_v (v := .int .i64 (n + 1)) rfl rfl rfl (x_assign rfl) ?_
      refine run_region_end ?_
      refine run_inBlock ?_
      refine run_reg (l := [0, 1, 2]) rfl ?_
      refine p_v (v := .int .i64 i) rfl rfl rfl (x_move r9_6) ?_
      refine p_v (v := .int .i64 (i + 1)) rfl rfl rfl (x_add rfl rfl (in_i64 (by first|omega|(simp;omega)|assumption) (by first|omega|(simp;omega)|assumption))) ?_
      refine p_v (v := .int .i64 (i + 1)) rfl rfl rfl (x_assign rfl) ?_
      refine run_region_end ?_
      refine ih9 (number ++ ([n] : List Int), n + 1, i + 1) _ _ (by dsimp only; omega) ⟨h9, v16, le9, S17.sub [0, 1, 2, 3] (by decide) rfl _ rfl, r9_1, r9_2, r9_3, rfl, rfl, rfl, (in_i64 (by first|omega|(simp;omega)|assumption) (by first|omega|(simp;omega)|assumption)), (in_i64 (by first|omega|(simp;omega)|assumption) (by first|omega|(simp;omega)|assumption)), (by exact ⟨by omega, by omega, by first | rw [hI9.2.2.1, num_at1 _ hI9.1 (by assumption)] | rw [hI9.2.2.1, num_at2 _ hI9.1 (by assumption)], by rw [hI9.2.2.1, hI9.2.2.2]; exact numsL_step _ hI9.1⟩)⟩
    · skip
      refine run_skip ?_
      refine run_inBlock ?_
      refine run_reg (l := [0, 1, 2]) rfl ?_
      refine p_v (v := .int .i64 i) rfl rfl rfl (x_move r9_6) ?_
      refine p_v (v := .int .i64 (i + 1)) rfl rfl rfl (x_add rfl rfl (in_i64 (by first|omega|(simp;omega)|assumption) (by first|omega|(simp;omega)|assumption))) ?_
      refine p_v (v := .int .i64 (i + 1)) rfl rfl rfl (x_assign rfl) ?_
      refine run_region_end ?_
      refine ih9 (number ++ ([n] : List Int), n, i + 1) _ _ (by dsimp only; omega) ⟨h9, v16, le9, S17.sub [0, 1, 2, 3] (by decide) rfl _ rfl, r9_1, r9_2, r9_3, rfl, r9_5, rfl, f9_0, (in_i64 (by first|omega|(simp;omega)|assumption) (by first|omega|(simp;omega)|assumption)), (by exact ⟨by omega, by omega, by first | rw [hI9.2.2.1, num_at1 _ hI9.1 (by assumption)] | rw [hI9.2.2.1, num_at2 _ hI9.1 (by assumption)], by rw [hI9.2.2.1, hI9.2.2.2]; exact numsL_step _ hI9.1⟩)⟩
  · skip
    have hnum_ : number = numsL (keepM m) m.spots.length := by rw [hI9.2.2.2, show i = (m.spots.length : Int) by omega]
    refine run_exit rfl ?_
    refine run_seq ?_
    refine run_reg (l := [0, 1, 2, 3, 4]) rfl ?_
    refine p_v (v := .pointer (some ⟨b1, 4, none⟩)) rfl rfl rfl (x_fieldAt fd27_4 ty4 rfl r9_1) ?_
    refine p_v (v := .bool m.empty) rfl rfl rfl (x_load (seg := [.bool m.empty]) ty4 rfl (by simp) rfl (CF.box (m := 1) (S9.box_at (j := 0) rfl) rfl)) ?_
    refine p_v (v := .agg #[.slice none 0 0, .slice none 0 0, .slice none 0 0, .slice none 0 0, .bool m.empty]) rfl rfl rfl (y_build (pv := [(4, .bool m.empty)]) rfl (run_build_struct pl27 ty27 rfl (cs := [.slice none 0 0, .slice none 0 0, .slice none 0 0, .slice none 0 0, .bool m.empty]) rfl)) ?_
    obtain ⟨b21, w21, r21, g21, T21⟩ := e_box (P := Try.prog) S9 27 (v := (.agg #[.slice none 0 0, .slice none 0 0, .slice none 0 0, .slice none 0 0, .bool false])) [.slice none 0 0, .slice none 0 0, .slice none 0 0, .slice none 0 0, .bool false] rfl
    have S22 : St w.heap.size w h9 w21 [box b1 27 [.slice A0_0 m.spots.length c0_0, .slice A0_1 m.first.length c0_1, .slice A0_2 m.follow.length c0_2, .slice A0_3 m.last.length c0_3, .bool m.empty], box b3 27 [.slice none 0 0, .slice none 0 0, .slice none 0 0, .slice none 0 0, .bool false], row 4 Kd.bool v5_0 (keepM m), row 3 (Kd.int .i64) v_number number, box b21 27 [.slice none 0 0, .slice none 0 0, .slice none 0 0, .slice none 0 0, .bool false]] := T21
    refine p_v (v := .pointer (some ⟨b21, 0, none⟩)) rfl rfl rfl (x_alloc ty27 r21) ?_
    obtain ⟨w23, r23, g23, T23⟩ := e_store (P := Try.prog) (off := 0) (v := .agg #[.slice none 0 0, .slice none 0 0, .slice none 0 0, .slice none 0 0, .bool m.empty]) (vs := [.slice none 0 0, .slice none 0 0, .slice none 0 0, .slice none 0 0, .bool m.empty]) S22 ty27 rfl rfl (j := 4) rfl (by first | decide | exact Nat.le_of_ble_eq_true rfl) (by simp [Value.oneCell'])
    have S24 : St w.heap.size w h9 w23 [box b1 27 [.slice A0_0 m.spots.length c0_0, .slice A0_1 m.first.length c0_1, .slice A0_2 m.follow.length c0_2, .slice A0_3 m.last.length c0_3, .bool m.empty], box b3 27 [.slice none 0 0, .slice none 0 0, .slice none 0 0, .slice none 0 0, .bool false], row 4 Kd.bool v5_0 (keepM m), row 3 (Kd.int .i64) v_number number, box b21 27 [.slice none 0 0, .slice none 0 0, .slice none 0 0, .slice none 0 0, .bool m.empty]] := T23
    refine p_s rfl rfl (x_store rfl rfl r23) ?_
    refine run_region_end ?_
    refine run_seq ?_
    refine run_seq ?_
    refine run_reg (l := [0]) rfl ?_
    refine p_v (v := .int .i64 0) rfl rfl rfl (x_assign rfl) ?_
    refine run_region_end ?_
    refine run_block ?_
    have T25 := S24.row_nil 3 (Kd.int .i64)
    obtain ⟨vn25, ev25, T25⟩ : ∃ v, v = (.slice none 0 0 : Value) ∧ St w.heap.size w h9 w23 [box b1 27 [.slice A0_0 m.spots.length c0_0, .slice A0_1 m.first.length c0_1, .slice A0_2 m.follow.length c0_2, .slice A0_3 m.last.length c0_3, .bool m.empty], box b3 27 [.slice none 0 0, .slice none 0 0, .slice none 0 0, .slice none 0 0, .bool false], row 4 Kd.bool v5_0 (keepM m), row 3 (Kd.int .i64) v_number number, box b21 27 [.slice none 0 0, v, .slice none 0 0, .slice none 0 0, .bool m.empty], row 3 (Kd.int .i64) v ([] : List Int)] := ⟨_, rfl, T25⟩
    have S26 : St w.heap.size w h9 w23 [box b1 27 [.slice A0_0 m.spots.length c0_0, .slice A0_1 m.first.length c0_1, .slice A0_2 m.follow.length c0_2, .slice A0_3 m.last.length c0_3, .bool m.empty], box b3 27 [.slice none 0 0, .slice none 0 0, .slice none 0 0, .slice none 0 0, .bool false], row 4 Kd.bool v5_0 (keepM m), row 3 (Kd.int .i64) v_number number, box b21 27 [.slice none 0 0, vn25, .slice none 0 0, .slice none 0 0, .bool m.empty], row 3 (Kd.int .i64) vn25 ([] : List Int)] := T25
    refine run_loop (S := (List Int) × Int) (fun (q_ : (List Int) × Int) ρ w' => match q_ with | (t_1, i2) => ∃ (h : Ghost) (v_t_1 : Value), Le h9 h ∧ St w.heap.size w h w' [box b1 27 [.slice A0_0 m.spots.length c0_0, .slice A0_1 m.first.length c0_1, .slice A0_2 m.follow.length c0_2, .slice A0_3 m.last.length c0_3, .bool m.empty], box b3 27 [.slice none 0 0, .slice none 0 0, .slice none 0 0, .slice none 0 0, .bool false], row 4 Kd.bool v5_0 (keepM m), row 3 (Kd.int .i64) v_number number, box b21 27 [.slice none 0 0, v_t_1, .slice none 0 0, .slice none 0 0, .bool m.empty], row 3 (Kd.int .i64) v_t_1 t_1] ∧ ρ 1 = .pointer (some ⟨b1, 0, none⟩) ∧ ρ 2 = .pointer (some ⟨b3, 0, none⟩) ∧ ρ 3 = v5_0 ∧ ρ 4 = v_number ∧ ρ 7 = .pointer (some ⟨b21, 0, none⟩) ∧ ρ 8 = .int .i64 i2 ∧ inK .i64 i2 ∧ (0 ≤ i2 ∧ i2 ≤ (m.first.length : Int) ∧ t_1 = leftN (keepM m) number (m.first.take i2.toNat))) (fun q_ => match q_ with | (t_1, i2) => (m.first.length - i2).toNat) (([] : List Int), 0) ⟨h9, vn25, Le.refl _, S26.sub [0, 1, 2, 3, 4, 5] (by decide) rfl _ rfl, r9_1, r9_2, r9_3, r9_4, rfl, rfl, (in_i64 (by first|omega|(simp;omega)|assumption) (by first|omega|(simp;omega)|assumption)), (by exact ⟨by omega, by omega, left_0 _ _ _⟩)⟩ ?_
    rintro ⟨t_1, i2⟩ ih27 ρ27 w27 ⟨h27, v_t_1, le27, S27, r27_1, r27_2, r27_3, r27_4, r27_7, r27_8, f27_0, hI27⟩
    have lf27_0 := i64_lo f27_0; have hf27_0 := i64_hi f27_0
    have rl27_2 := S27.row_le (j := 2) rfl; simp only [maxLen] at rl27_2
    have rl27_3 := S27.row_le (j := 3) rfl; simp only [maxLen] at rl27_3
    have rl27_5 := S27.row_le (j := 5) rfl; simp only [maxLen] at rl27_5
    have hx_ : i2 < (m.first.length : Int) → 0 ≤ at_ m.first i2 ∧ at_ m.first i2 < (m.spots.length : Int) := fun h => hR_.firsts _ (at_mem hI27.1 h)
    have hl1_ : (t_1.length : Int) ≤ 250 := by rw [hI27.2.2]; have := left_take (keepM m) number m.first i2; omega
    refine run_seq ?_
    refine run_seq ?_
    refine run_reg (l := [0, 1, 2, 3, 4]) rfl ?_
    refine p_v (v := .int .i64 i2) rfl rfl rfl (x_move r27_8) ?_
    refine p_v (v := .pointer (some ⟨b1, 1, none⟩)) rfl rfl rfl (x_fieldAt fd27_1 ty23 rfl r27_1) ?_
    refine p_v (v := .slice A0_1 m.first.length c0_1) rfl rfl rfl (x_load (seg := [.slice A0_1 m.first.length c0_1]) ty23 rfl (by simp) rfl (CF.box (m := 1) (S27.box_at (j := 0) rfl) rfl)) ?_
    refine p_v (v := .int .i64 (m.first.length : Int)) rfl rfl rfl (x_len_slice u23 rfl) ?_
    refine p_v (v := .bool (decide (i2 < (m.first.length : Int)))) rfl rfl rfl (x_lss rfl rfl) ?_
    refine run_region_end ?_
    refine run_cond_prop (p := i2 < (m.first.length : Int)) rfl (fun hc28 => ?_) (fun hc28 => ?_)
    · skip
      refine run_skip ?_
      refine run_seq ?_
      refine run_block ?_
      refine run_seq ?_
      refine run_reg (l := [0, 1, 2, 3, 4, 5, 6, 7]) rfl ?_
      refine p_v (v := v5_0) rfl rfl rfl (x_move r27_3) ?_
      refine p_v (v := .pointer (some ⟨b1, 1, none⟩)) rfl rfl rfl (x_fieldAt fd27_1 ty23 rfl r27_1) ?_
      refine p_v (v := .slice A0_1 m.first.length c0_1) rfl rfl rfl (x_load (seg := [.slice A0_1 m.first.length c0_1]) ty23 rfl (by simp) rfl (CF.box (m := 1) (S27.box_at (j := 0) rfl) rfl)) ?_
      refine p_v (v := .int .i64 i2) rfl rfl rfl (x_move r27_8) ?_
      obtain ⟨ad29, seg29, a29, rp29, ce29⟩ := e_index_ro (q := i2) (m := 1) l0_1 rfl (by first|omega|(simp;omega)|assumption) (by first|omega|(simp;omega)|assumption)
      refine p_v (v := .pointer (some ad29)) rfl rfl rfl (x_index_ro u23 ty3 rfl rfl a29 (by first|omega|(simp;omega)|assumption) (by first|omega|(simp;omega)|assumption)) ?_
      obtain ⟨rfl, in29⟩ := rp29
      have lo29 := i64_lo in29; have hi29 := i64_hi in29
      refine p_v (v := .int .i64 (at_ m.first i2)) rfl rfl rfl (x_load (seg := [.int .i64 (at_ m.first i2)]) ty3 rfl (by simp) rfl (CF.ghost ce29 (St.le0 S27))) ?_
      obtain ⟨ad30, a30, at30⟩ := e_index_own (q := at_ m.first i2) (m := 1) S27 (j := 2) rfl rfl (by first|omega|(simp;omega)|assumption) (by first|omega|(simp;omega)|assumption)
      refine p_v (v := .pointer (some ad30)) rfl rfl rfl (x_index_own u25 ty4 rfl rfl a30 (by first|omega|(simp;omega)|assumption) (by first|omega|(simp;omega)|assumption)) ?_
      obtain ⟨seg31, rp31, cf31⟩ := e_load_own (q := at_ m.first i2) S27 (j := 2) rfl rfl at30 (by first|omega|(simp;omega)|assumption) (by first|omega|(simp;omega)|assumption)
      obtain ⟨rfl, _⟩ := rp31
      refine p_v (v := .bool (at_ (keepM m) (at_ m.first i2))) rfl rfl rfl (x_load (seg := [.bool (at_ (keepM m) (at_ m.first i2))]) ty4 rfl (by simp) rfl cf31) ?_
      refine run_region_end ?_
      refine run_cond_split (b := at_ (keepM m) (at_ m.first i2)) rfl (fun hc32 => ?_) (fun hc32 => ?_)
      · skip
        obtain ⟨ad33, seg33, a33, rp33, ce33⟩ := e_index_ro (q := i2) (m := 1) l0_1 rfl (by first|omega|(simp;omega)|assumption) (by first|omega|(simp;omega)|assumption)
        obtain ⟨rfl, in33⟩ := rp33
        have lo33 := i64_lo in33; have hi33 := i64_hi in33
        obtain ⟨ad34, a34, at34⟩ := e_index_own (q := at_ m.first i2) (m := 1) S27 (j := 3) rfl rfl (by first|omega|(simp;omega)|assumption) (by first|omega|(simp;omega)|assumption)
        obtain ⟨seg35, rp35, cf35⟩ := e_load_own (q := at_ m.first i2) S27 (j := 3) rfl rfl at34 (by first|omega|(simp;omega)|assumption) (by first|omega|(simp;omega)|assumption)
        obtain ⟨rfl, in35⟩ := rp35
        have lo35 := i64_lo in35; have hi35 := i64_hi in35
        have hf36 : (CFs ⟨b21, 1, none⟩ [v_t_1]).1 w27 := (CF.box (m := 1) (S27.box_at (j := 4) rfl) rfl)
        have hf37 : (CFs ⟨b1, 1, none⟩ [.slice A0_1 m.first.length c0_1]).1 w27 := (CF.box (m := 1) (S27.box_at (j := 0) rfl) rfl)
        have hf38 : (CFs ad33 [.int .i64 (at_ m.first i2)]).1 w27 := (CF.ghost ce33 (St.le0 S27))
        have hf39 : (CFs ad34 [.int .i64 (at_ number (at_ m.first i2))]).1 w27 := cf35
        refine da_start [(1, CFs ⟨b21, 1, none⟩ [v_t_1]), (4, CFs ⟨b1, 1, none⟩ [.slice A0_1 m.first.length c0_1]), (7, CFs ad33 [.int .i64 (at_ m.first i2)]), (9, CFs ad34 [.int .i64 (at_ number (at_ m.first i2))])] 14 rfl mixed ?_
        intro wd40 gd40 hd40
        have S41 := S27.keep gd40
        have hf42 := (CFs ⟨b21, 1, none⟩ [v_t_1]).2 _ _ gd40 hf36
        have hf43 := (CFs ⟨b1, 1, none⟩ [.slice A0_1 m.first.length c0_1]).2 _ _ gd40 hf37
        have hf44 := (CFs ad33 [.int .i64 (at_ m.first i2)]).2 _ _ gd40 hf38
        have hf45 := (CFs ad34 [.int .i64 (at_ number (at_ m.first i2))]).2 _ _ gd40 hf39
        refine d_q (i := 0) (v := .pointer (some ⟨b21, 1, none⟩)) (fun _ => True) (fun _ ho => trivial) rfl (by decide +kernel) (by decide +kernel) (by decide +kernel) rfl rfl (fun wq hq => (x_fieldAt fd27_1 ty23 rfl r27_7)) (of_ne rfl (of_ne rfl (of_ne rfl (of_ne rfl (of_nil _ _))))) ?_
        refine d_q (i := 1) (v := v_t_1) (CF ⟨b21, 1, none⟩ [v_t_1]) (fun _ ho => ho _ (List.mem_of_getElem? (i := 0) rfl) rfl) rfl (by decide +kernel) (by decide +kernel) (by decide +kernel) rfl rfl (fun wq hq => (x_load (seg := [v_t_1]) ty23 rfl (by simp) rfl hq)) (of_eq hf42 (of_ne rfl (of_ne rfl (of_ne rfl (of_nil _ _))))) ?_
        refine d_q (i := 2) (v := v_number) (fun _ => True) (fun _ ho => trivial) rfl (by decide +kernel) (by decide +kernel) (by decide +kernel) rfl rfl (fun wq hq => (x_move r27_4)) (of_ne rfl (of_ne rfl (of_ne rfl (of_ne rfl (of_nil _ _))))) ?_
        refine d_q (i := 3) (v := .pointer (some ⟨b1, 1, none⟩)) (fun _ => True) (fun _ ho => trivial) rfl (by decide +kernel) (by decide +kernel) (by decide +kernel) rfl rfl (fun wq hq => (x_fieldAt fd27_1 ty23 rfl r27_1)) (of_ne rfl (of_ne rfl (of_ne rfl (of_ne rfl (of_nil _ _))))) ?_
        refine d_q (i := 4) (v := .slice A0_1 m.first.length c0_1) (CF ⟨b1, 1, none⟩ [.slice A0_1 m.first.length c0_1]) (fun _ ho => ho _ (List.mem_of_getElem? (i := 1) rfl) rfl) rfl (by decide +kernel) (by decide +kernel) (by decide +kernel) rfl rfl (fun wq hq => (x_load (seg := [.slice A0_1 m.first.length c0_1]) ty23 rfl (by simp) rfl hq)) (of_ne rfl (of_eq hf43 (of_ne rfl (of_ne rfl (of_nil _ _))))) ?_
        refine d_q (i := 5) (v := .int .i64 i2) (fun _ => True) (fun _ ho => trivial) rfl (by decide +kernel) (by decide +kernel) (by decide +kernel) rfl rfl (fun wq hq => (x_move r27_8)) (of_ne rfl (of_ne rfl (of_ne rfl (of_ne rfl (of_nil _ _))))) ?_
        refine d_q (i := 6) (v := .pointer (some ad33)) (fun _ => True) (fun _ ho => trivial) rfl (by decide +kernel) (by decide +kernel) (by decide +kernel) rfl rfl (fun wq hq => (x_index_ro u23 ty3 rfl rfl a33 (by first|omega|(simp;omega)|assumption) (by first|omega|(simp;omega)|assumption))) (of_ne rfl (of_ne rfl (of_ne rfl (of_ne rfl (of_nil _ _))))) ?_
        refine d_q (i := 7) (v := .int .i64 (at_ m.first i2)) (CF ad33 [.int .i64 (at_ m.first i2)]) (fun _ ho => ho _ (List.mem_of_getElem? (i := 2) rfl) rfl) rfl (by decide +kernel) (by decide +kernel) (by decide +kernel) rfl rfl (fun wq hq => (x_load (seg := [.int .i64 (at_ m.first i2)]) ty3 rfl (by simp) rfl hq)) (of_ne rfl (of_ne rfl (of_eq hf44 (of_ne rfl (of_nil _ _))))) ?_
        refine d_q (i := 8) (v := .pointer (some ad34)) (fun _ => True) (fun _ ho => trivial) rfl (by decide +kernel) (by decide +kernel) (by decide +kernel) rfl rfl (fun wq hq => (x_index_own u23 ty3 rfl rfl a34 (by first|omega|(simp;omega)|assumption) (by first|omega|(simp;omega)|assumption))) (of_ne rfl (of_ne rfl (of_ne rfl (of_ne rfl (of_nil _ _))))) ?_
        refine d_q (i := 9) (v := .int .i64 (at_ number (at_ m.first i2))) (CF ad34 [.int .i64 (at_ number (at_ m.first i2))]) (fun _ ho => ho _ (List.mem_of_getElem? (i := 3) rfl) rfl) rfl (by decide +kernel) (by decide +kernel) (by decide +kernel) rfl rfl (fun wq hq => (x_load (seg := [.int .i64 (at_ number (at_ m.first i2))]) ty3 rfl (by simp) rfl hq)) (of_ne rfl (of_ne rfl (of_ne rfl (of_eq hf45 (of_nil _ _))))) ?_
        refine ra_one (i := 10) (by decide +kernel) ?_
        intro wd46 gd46
        have S47 := S41.keep gd46
        have hf48 := (CFs ⟨b21, 1, none⟩ [v_t_1]).2 _ _ gd46 hf42
        have hf49 := (CFs ⟨b1, 1, none⟩ [.slice A0_1 m.first.length c0_1]).2 _ _ gd46 hf43
        have hf50 := (CFs ad33 [.int .i64 (at_ m.first i2)]).2 _ _ gd46 hf44
        have hf51 := (CFs ad34 [.int .i64 (at_ number (at_ m.first i2))]).2 _ _ gd46 hf45
        obtain ⟨v52, w52, r52, g52, T52⟩ := e_build_ones (kd := (Kd.int .i64)) (xs := ([at_ number (at_ m.first i2)] : List Int)) (len := 1) [.int .i64 (at_ number (at_ m.first i2))] S47 u23 ty3 rfl rfl rfl rfl rfl (ones_cons rfl ones_nil) [.int .i64 (at_ number (at_ m.first i2))] (Elems.single (k := (Kd.int .i64)) (h := h27) (x := at_ number (at_ m.first i2)) (cs := [.int .i64 (at_ number (at_ m.first i2))]) ⟨rfl, (in_i64 (by first|omega|(simp;omega)|assumption) (by first|omega|(simp;omega)|assumption))⟩) rfl
        have S53 : St w.heap.size w h27 w52 [box b1 27 [.slice A0_0 m.spots.length c0_0, .slice A0_1 m.first.length c0_1, .slice A0_2 m.follow.length c0_2, .slice A0_3 m.last.length c0_3, .bool m.empty], box b3 27 [.slice none 0 0, .slice none 0 0, .slice none 0 0, .slice none 0 0, .bool false], row 4 Kd.bool v5_0 (keepM m), row 3 (Kd.int .i64) v_number number, box b21 27 [.slice none 0 0, v_t_1, .slice none 0 0, .slice none 0 0, .bool m.empty], row 3 (Kd.int .i64) v_t_1 t_1, row 3 (Kd.int .i64) v52 ([at_ number (at_ m.first i2)] : List Int)] := T52
        have hf54 := (CFs ⟨b21, 1, none⟩ [v_t_1]).2 _ _ g52 hf48
        have hf55 := (CFs ⟨b1, 1, none⟩ [.slice A0_1 m.first.length c0_1]).2 _ _ g52 hf49
        have hf56 := (CFs ad33 [.int .i64 (at_ m.first i2)]).2 _ _ g52 hf50
        have hf57 := (CFs ad34 [.int .i64 (at_ number (at_ m.first i2))]).2 _ _ g52 hf51
        refine d_v (v := v52) rfl rfl rfl (y_build_slice (pv := [(0, .int .i64 (at_ number (at_ m.first i2)))]) rfl r52) (.inl g52) ?_
        refine ra_one (i := 11) (by decide +kernel) ?_
        intro wd58 gd58
        have S59 := S53.keep gd58
        have hf60 := (CFs ⟨b21, 1, none⟩ [v_t_1]).2 _ _ gd58 hf54
        have hf61 := (CFs ⟨b1, 1, none⟩ [.slice A0_1 m.first.length c0_1]).2 _ _ gd58 hf55
        have hf62 := (CFs ad33 [.int .i64 (at_ m.first i2)]).2 _ _ gd58 hf56
        have hf63 := (CFs ad34 [.int .i64 (at_ number (at_ m.first i2))]).2 _ _ gd58 hf57
        obtain ⟨A65, c65, ev65, lc65, cm65⟩ := S59.row_val (j := 6) rfl
        obtain ⟨v66, w66, r66, g66, T66⟩ := e_append (kd := (Kd.int .i64)) (A := A65) (c := c65) (ys := ([at_ number (at_ m.first i2)] : List Int)) (len := ([at_ number (at_ m.first i2)] : List Int).length) 23 S59 u23 ty3 rfl rfl (j := 5) rfl rfl (news_own S59 (j := 6) rfl ev65) (by first|omega|(simp;omega)|assumption) (by first|omega|(simp;omega)|assumption)
        have S67 : St w.heap.size w h27 w66 [box b1 27 [.slice A0_0 m.spots.length c0_0, .slice A0_1 m.first.length c0_1, .slice A0_2 m.follow.length c0_2, .slice A0_3 m.last.length c0_3, .bool m.empty], box b3 27 [.slice none 0 0, .slice none 0 0, .slice none 0 0, .slice none 0 0, .bool false], row 4 Kd.bool v5_0 (keepM m), row 3 (Kd.int .i64) v_number number, box b21 27 [.slice none 0 0, v_t_1, .slice none 0 0, .slice none 0 0, .bool m.empty], row 3 (Kd.int .i64) v66 (t_1 ++ ([at_ number (at_ m.first i2)] : List Int)), row 3 (Kd.int .i64) v52 ([at_ number (at_ m.first i2)] : List Int)] := T66
        have hf68 : (CFs ⟨b21, 1, none⟩ [v_t_1]).1 w66 := (CF.box (m := 1) (S67.box_at (j := 4) rfl) rfl)
        have hf69 : (CFs ⟨b1, 1, none⟩ [.slice A0_1 m.first.length c0_1]).1 w66 := (CF.box (m := 1) (S67.box_at (j := 0) rfl) rfl)
        have hf70 : (CFs ad33 [.int .i64 (at_ m.first i2)]).1 w66 := (CF.ghost ce33 (St.le0 S67))
        obtain ⟨seg71, rp71, cf71⟩ := e_load_own (q := at_ m.first i2) S67 (j := 3) rfl rfl at34 (by first|omega|(simp;omega)|assumption) (by first|omega|(simp;omega)|assumption)
        obtain ⟨rfl, _⟩ := rp71
        have hf72 : (CFs ad34 [.int .i64 (at_ number (at_ m.first i2))]).1 w66 := cf71
        refine d_v (v := v66) rfl rfl rfl (x_append rfl ev65 r66) (.inr (keep_w (by decide +kernel) (keep_v hf69 (keep_v hf70 (keep_v hf72 trivial))))) ?_
        refine d_q (i := 12) (v := .pointer (some ⟨b21, 1, none⟩)) (fun _ => True) (fun _ ho => trivial) rfl (by decide +kernel) (by decide +kernel) (by decide +kernel) rfl rfl (fun wq hq => (x_fieldAt fd27_1 ty23 rfl r27_7)) (of_ne rfl (of_ne rfl (of_ne rfl (of_ne rfl (of_nil _ _))))) ?_
        refine ra_one (i := 13) (by decide +kernel) ?_
        intro wd73 gd73
        have S74 := S67.keep gd73
        have hf75 := (CFs ⟨b21, 1, none⟩ [v_t_1]).2 _ _ gd73 hf68
        have hf76 := (CFs ⟨b1, 1, none⟩ [.slice A0_1 m.first.length c0_1]).2 _ _ gd73 hf69
        have hf77 := (CFs ad33 [.int .i64 (at_ m.first i2)]).2 _ _ gd73 hf70
        have hf78 := (CFs ad34 [.int .i64 (at_ number (at_ m.first i2))]).2 _ _ gd73 hf72
        have oc80 := row_one S74 (j := 5) rfl
        obtain ⟨w79, r79, g79, T79⟩ := e_store (P := Try.prog) (off := 1) (v := v66) (vs := [v66]) S74 ty23 (row_cells S74 (j := 5) rfl) rfl (j := 4) rfl (by first | decide | exact Nat.le_of_ble_eq_true rfl) (one_cons oc80 one_nil)
        have S81 : St w.heap.size w h27 w79 [box b1 27 [.slice A0_0 m.spots.length c0_0, .slice A0_1 m.first.length c0_1, .slice A0_2 m.follow.length c0_2, .slice A0_3 m.last.length c0_3, .bool m.empty], box b3 27 [.slice none 0 0, .slice none 0 0, .slice none 0 0, .slice none 0 0, .bool false], row 4 Kd.bool v5_0 (keepM m), row 3 (Kd.int .i64) v_number number, box b21 27 [.slice none 0 0, v66, .slice none 0 0, .slice none 0 0, .bool m.empty], row 3 (Kd.int .i64) v66 (t_1 ++ ([at_ number (at_ m.first i2)] : List Int)), row 3 (Kd.int .i64) v52 ([at_ number (at_ m.first i2)] : List Int)] := T79
        have hf82 : (CFs ⟨b1, 1, none⟩ [.slice A0_1 m.first.length c0_1]).1 w79 := (CF.box (m := 1) (S81.box_at (j := 0) rfl) rfl)
        have hf83 : (CFs ad33 [.int .i64 (at_ m.first i2)]).1 w79 := (CF.ghost ce33 (St.le0 S81))
        obtain ⟨seg84, rp84, cf84⟩ := e_load_own (q := at_ m.first i2) S81 (j := 3) rfl rfl at34 (by first|omega|(simp;omega)|assumption) (by first|omega|(simp;omega)|assumption)
        obtain ⟨rfl, _⟩ := rp84
        have hf85 : (CFs ad34 [.int .i64 (at_ number (at_ m.first i2))]).1 w79 := cf84
        refine d_s rfl rfl (x_store rfl rfl r79) (.inr (keep_w (by decide +kernel) (keep_w (by decide +kernel) (keep_w (by decide +kernel) (keep_w (by decide +kernel) trivial))))) ?_
        refine ra_done (by decide +kernel) ?_
        intro wd86 gd86
        have S87 := S81.keep gd86
        refine run_inBlock ?_
        refine run_reg (l := [0, 1, 2]) rfl ?_
        refine p_v (v := .int .i64 i2) rfl rfl rfl (x_move r27_8) ?_
        refine p_v (v := .int .i64 (i2 + 1)) rfl rfl rfl (x_add rfl rfl (in_i64 (by first|omega|(simp;omega)|assumption) (by first|omega|(simp;omega)|assumption))) ?_
        refine p_v (v := .int .i64 (i2 + 1)) rfl rfl rfl (x_assign rfl) ?_
        refine run_region_end ?_
        refine ih27 (t_1 ++ ([at_ number (at_ m.first i2)] : List Int), i2 + 1) _ _ (by dsimp only; omega) ⟨h27, v66, le27, S87.sub [0, 1, 2, 3, 4, 5] (by decide) rfl _ rfl, r27_1, r27_2, r27_3, r27_4, r27_7, rfl, (in_i64 (by first|omega|(simp;omega)|assumption) (by first|omega|(simp;omega)|assumption)), (by first | exact ⟨by omega, by omega, by rw [hI27.2.2]; exact left_yes _ _ _ hI27.1 (by omega) (by assumption)⟩ | exact ⟨by omega, by omega, by rw [hI27.2.2]; exact left_no _ _ _ hI27.1 (by omega) (by assumption)⟩)⟩
      · skip
        refine run_skip ?_
        refine run_inBlock ?_
        refine run_reg (l := [0, 1, 2]) rfl ?_
        refine p_v (v := .int .i64 i2) rfl rfl rfl (x_move r27_8) ?_
        refine p_v (v := .int .i64 (i2 + 1)) rfl rfl rfl (x_add rfl rfl (in_i64 (by first|omega|(simp;omega)|assumption) (by first|omega|(simp;omega)|assumption))) ?_
        refine p_v (v := .int .i64 (i2 + 1)) rfl rfl rfl (x_assign rfl) ?_
        refine run_region_end ?_
        refine ih27 (t_1, i2 + 1) _ _ (by dsimp only; omega) ⟨h27, v_t_1, le27, S27.sub [0, 1, 2, 3, 4, 5] (by decide) rfl _ rfl, r27_1, r27_2, r27_3, r27_4, r27_7, rfl, (in_i64 (by first|omega|(simp;omega)|assumption) (by first|omega|(simp;omega)|assumption)), (by first | exact ⟨by omega, by omega, by rw [hI27.2.2]; exact left_yes _ _ _ hI27.1 (by omega) (by assumption)⟩ | exact ⟨by omega, by omega, by rw [hI27.2.2]; exact left_no _ _ _ hI27.1 (by omega) (by assumption)⟩)⟩
    · skip
      refine run_exit rfl ?_
      refine run_seq ?_
      refine run_seq ?_
      refine run_reg (l := [0]) rfl ?_
      refine p_v (v := .int .i64 0) rfl rfl rfl (x_assign rfl) ?_
      refine run_region_end ?_
      refine run_block ?_
      have T88 := S27.row_nil 39 kSpot
      obtain ⟨vn88, ev88, T88⟩ : ∃ v, v = (.slice none 0 0 : Value) ∧ St w.heap.size w h27 w27 [box b1 27 [.slice A0_0 m.spots.length c0_0, .slice A0_1 m.first.length c0_1, .slice A0_2 m.follow.length c0_2, .slice A0_3 m.last.length c0_3, .bool m.empty], box b3 27 [.slice none 0 0, .slice none 0 0, .slice none 0 0, .slice none 0 0, .bool false], row 4 Kd.bool v5_0 (keepM m), row 3 (Kd.int .i64) v_number number, box b21 27 [v, v_t_1, .slice none 0 0, .slice none 0 0, .bool m.empty], row 3 (Kd.int .i64) v_t_1 t_1, row 39 kSpot v ([] : List Spot)] := ⟨_, rfl, T88⟩
      have S89 : St w.heap.size w h27 w27 [box b1 27 [.slice A0_0 m.spots.length c0_0, .slice A0_1 m.first.length c0_1, .slice A0_2 m.follow.length c0_2, .slice A0_3 m.last.length c0_3, .bool m.empty], box b3 27 [.slice none 0 0, .slice none 0 0, .slice none 0 0, .slice none 0 0, .bool false], row 4 Kd.bool v5_0 (keepM m), row 3 (Kd.int .i64) v_number number, box b21 27 [vn88, v_t_1, .slice none 0 0, .slice none 0 0, .bool m.empty], row 3 (Kd.int .i64) v_t_1 t_1, row 39 kSpot vn88 ([] : List Spot)] := T88
      have T90 := S89.row_nil 23 (Kd.int .i64).slice
      obtain ⟨vn90, ev90, T90⟩ : ∃ v, v = (.slice none 0 0 : Value) ∧ St w.heap.size w h27 w27 [box b1 27 [.slice A0_0 m.spots.length c0_0, .slice A0_1 m.first.length c0_1, .slice A0_2 m.follow.length c0_2, .slice A0_3 m.last.length c0_3, .bool m.empty], box b3 27 [.slice none 0 0, .slice none 0 0, .slice none 0 0, .slice none 0 0, .bool false], row 4 Kd.bool v5_0 (keepM m), row 3 (Kd.int .i64) v_number number, box b21 27 [vn88, v_t_1, v, .slice none 0 0, .bool m.empty], row 3 (Kd.int .i64) v_t_1 t_1, row 39 kSpot vn88 ([] : List Spot), row 23 (Kd.int .i64).slice v ([] : List (List Int))] := ⟨_, rfl, T90⟩
      have S91 : St w.heap.size w h27 w27 [box b1 27 [.slice A0_0 m.spots.length c0_0, .slice A0_1 m.first.length c0_1, .slice A0_2 m.follow.length c0_2, .slice A0_3 m.last.length c0_3, .bool m.empty], box b3 27 [.slice none 0 0, .slice none 0 0, .slice none 0 0, .slice none 0 0, .bool false], row 4 Kd.bool v5_0 (keepM m), row 3 (Kd.int .i64) v_number number, box b21 27 [vn88, v_t_1, vn90, .slice none 0 0, .bool m.empty], row 3 (Kd.int .i64) v_t_1 t_1, row 39 kSpot vn88 ([] : List Spot), row 23 (Kd.int .i64).slice vn90 ([] : List (List Int))] := T90
      have T92 := S91.row_nil 4 Kd.bool
      obtain ⟨vn92, ev92, T92⟩ : ∃ v, v = (.slice none 0 0 : Value) ∧ St w.heap.size w h27 w27 [box b1 27 [.slice A0_0 m.spots.length c0_0, .slice A0_1 m.first.length c0_1, .slice A0_2 m.follow.length c0_2, .slice A0_3 m.last.length c0_3, .bool m.empty], box b3 27 [.slice none 0 0, .slice none 0 0, .slice none 0 0, .slice none 0 0, .bool false], row 4 Kd.bool v5_0 (keepM m), row 3 (Kd.int .i64) v_number number, box b21 27 [vn88, v_t_1, vn90, v, .bool m.empty], row 3 (Kd.int .i64) v_t_1 t_1, row 39 kSpot vn88 ([] : List Spot), row 23 (Kd.int .i64).slice vn90 ([] : List (List Int)), row 4 Kd.bool v ([] : List Bool)] := ⟨_, rfl, T92⟩
      have S93 : St w.heap.size w h27 w27 [box b1 27 [.slice A0_0 m.spots.length c0_0, .slice A0_1 m.first.length c0_1, .slice A0_2 m.follow.length c0_2, .slice A0_3 m.last.length c0_3, .bool m.empty], box b3 27 [.slice none 0 0, .slice none 0 0, .slice none 0 0, .slice none 0 0, .bool false], row 4 Kd.bool v5_0 (keepM m), row 3 (Kd.int .i64) v_number number, box b21 27 [vn88, v_t_1, vn90, vn92, .bool m.empty], row 3 (Kd.int .i64) v_t_1 t_1, row 39 kSpot vn88 ([] : List Spot), row 23 (Kd.int .i64).slice vn90 ([] : List (List Int)), row 4 Kd.bool vn92 ([] : List Bool)] := T92
      refine run_loop (S := (List Spot) × (List (List Int)) × (List Bool) × Int) (fun (q_ : (List Spot) × (List (List Int)) × (List Bool) × Int) ρ w' => match q_ with | (t_0, t_2, t_3, i3) => ∃ (h : Ghost) (v_t_0 : Value) (v_t_2 : Value) (v_t_3 : Value), Le h27 h ∧ St w.heap.size w h w' [box b1 27 [.slice A0_0 m.spots.length c0_0, .slice A0_1 m.first.length c0_1, .slice A0_2 m.follow.length c0_2, .slice A0_3 m.last.length c0_3, .bool m.empty], box b3 27 [.slice none 0 0, .slice none 0 0, .slice none 0 0, .slice none 0 0, .bool false], row 4 Kd.bool v5_0 (keepM m), row 3 (Kd.int .i64) v_number number, box b21 27 [v_t_0, v_t_1, v_t_2, v_t_3, .bool m.empty], row 3 (Kd.int .i64) v_t_1 t_1, row 39 kSpot v_t_0 t_0, row 23 (Kd.int .i64).slice v_t_2 t_2, row 4 Kd.bool v_t_3 t_3] ∧ ρ 1 = .pointer (some ⟨b1, 0, none⟩) ∧ ρ 2 = .pointer (some ⟨b3, 0, none⟩) ∧ ρ 3 = v5_0 ∧ ρ 4 = v_number ∧ ρ 7 = .pointer (some ⟨b21, 0, none⟩) ∧ ρ 9 = .int .i64 i3 ∧ inK .i64 i3 ∧ (0 ≤ i3 ∧ i3 ≤ (m.spots.length : Int) ∧ t_0 = spotsTo m i3 ∧ t_2 = followTo m i3 ∧ t_3 = lastTp m i3)) (fun q_ => match q_ with | (t_0, t_2, t_3, i3) => (m.spots.length - i3).toNat) (([] : List Spot), ([] : List (List Int)), ([] : List Bool), 0) ⟨h27, vn88, vn90, vn92, Le.refl _, S93.sub [0, 1, 2, 3, 4, 5, 6, 7, 8] (by decide) rfl _ rfl, r27_1, r27_2, r27_3, r27_4, r27_7, rfl, (in_i64 (by first|omega|(simp;omega)|assumption) (by first|omega|(simp;omega)|assumption)), (by exact ⟨by omega, by omega, spotsTo_0 m, followTo_0 m, lastTo_0 m⟩)⟩ ?_
      rintro ⟨t_0, t_2, t_3, i3⟩ ih94 ρ94 w94 ⟨h94, v_t_0, v_t_2, v_t_3, le94, S94, r94_1, r94_2, r94_3, r94_4, r94_7, r94_9, f94_0, hI94⟩
      have lf94_0 := i64_lo f94_0; have hf94_0 := i64_hi f94_0
      have rl94_2 := S94.row_le (j := 2) rfl; simp only [maxLen] at rl94_2
      have rl94_3 := S94.row_le (j := 3) rfl; simp only [maxLen] at rl94_3
      have rl94_5 := S94.row_le (j := 5) rfl; simp only [maxLen] at rl94_5
      have rl94_6 := S94.row_le (j := 6) rfl; simp only [maxLen] at rl94_6
      have rl94_7 := S94.row_le (j := 7) rfl; simp only [maxLen] at rl94_7
      have rl94_8 := S94.row_le (j := 8) rfl; simp only [maxLen] at rl94_8
      have hq0_ : (t_0.length : Int) ≤ i3 := by rw [hI94.2.2.1]; exact spotsTo_len m hI94.1
      have hq2_ : (t_2.length : Int) ≤ i3 := by rw [hI94.2.2.2.1]; exact followTo_len m hI94.1
      have hq3_ : (t_3.length : Int) ≤ i3 := by rw [hI94.2.2.2.2]; exact lastTo_len m hI94.1
      have hro_ : i3 < (m.spots.length : Int) → ((at_ m.follow i3).length : Int) ≤ 250 := fun h => hss_.row _ hI94.1 (by omega)
      refine run_seq ?_
      refine run_seq ?_
      refine run_reg (l := [0, 1, 2, 3]) rfl ?_
      refine p_v (v := .int .i64 i3) rfl rfl rfl (x_move r94_9) ?_
      refine p_v (v := v5_0) rfl rfl rfl (x_move r94_3) ?_
      have lb95 := S94.row_le (j := 2) rfl; simp only [maxLen] at lb95
      refine p_v (v := .int .i64 ((keepM m).length : Int)) rfl rfl rfl (x_len_own u25 rfl (e_len_own S94 (j := 2) rfl)) ?_
      refine p_v (v := .bool (decide (i3 < ((keepM m).length : Int)))) rfl rfl rfl (x_lss rfl rfl) ?_
      refine run_region_end ?_
      refine run_cond_prop (p := i3 < ((keepM m).length : Int)) rfl (fun hc96 => ?_) (fun hc96 => ?_)
      · skip
        refine run_skip ?_
        refine run_seq ?_
        refine run_block ?_
        refine run_seq ?_
        refine run_seq ?_
        refine run_reg (l := [0, 1, 2, 3, 4]) rfl ?_
        refine p_v (v := v5_0) rfl rfl rfl (x_move r94_3) ?_
        refine p_v (v := .int .i64 i3) rfl rfl rfl (x_move r94_9) ?_
        obtain ⟨ad97, a97, at97⟩ := e_index_own (q := i3) (m := 1) S94 (j := 2) rfl rfl (by first|omega|(simp;omega)|assumption) (by first|omega|(simp;omega)|assumption)
        refine p_v (v := .pointer (some ad97)) rfl rfl rfl (x_index_own u25 ty4 rfl rfl a97 (by first|omega|(simp;omega)|assumption) (by first|omega|(simp;omega)|assumption)) ?_
        obtain ⟨seg98, rp98, cf98⟩ := e_load_own (q := i3) S94 (j := 2) rfl rfl at97 (by first|omega|(simp;omega)|assumption) (by first|omega|(simp;omega)|assumption)
        obtain ⟨rfl, _⟩ := rp98
        refine p_v (v := .bool (at_ (keepM m) i3)) rfl rfl rfl (x_load (seg := [.bool (at_ (keepM m) i3)]) ty4 rfl (by simp) rfl cf98) ?_
        refine p_v (v := .bool (!(at_ (keepM m) i3))) rfl rfl rfl (x_not rfl) ?_
        refine run_region_end ?_
        refine run_cond_nsplit (b := at_ (keepM m) i3) rfl (fun hc99 => ?_) (fun hc99 => ?_)
        · skip
          refine run_exit rfl ?_
          refine run_reg (l := [0, 1, 2]) rfl ?_
          refine p_v (v := .int .i64 i3) rfl rfl rfl (x_move r94_9) ?_
          refine p_v (v := .int .i64 (i3 + 1)) rfl rfl rfl (x_add rfl rfl (in_i64 (by first|omega|(simp;omega)|assumption) (by first|omega|(simp;omega)|assumption))) ?_
          refine p_v (v := .int .i64 (i3 + 1)) rfl rfl rfl (x_assign rfl) ?_
          refine run_region_end ?_
          refine ih94 (t_0, t_2, t_3, i3 + 1) _ _ (by dsimp only; omega) ⟨h94, v_t_0, v_t_2, v_t_3, le94, S94.sub [0, 1, 2, 3, 4, 5, 6, 7, 8] (by decide) rfl _ rfl, r94_1, r94_2, r94_3, r94_4, r94_7, rfl, (in_i64 (by first|omega|(simp;omega)|assumption) (by first|omega|(simp;omega)|assumption)), (by first | exact ⟨by omega, by omega, by rw [hI94.2.2.1]; exact spotsTo_yes m hI94.1 (by assumption), by rw [hI94.2.2.2.1, hI101.2.2, List.take_of_length_le (by omega), hnum_, lefts_eq]; exact followTo_yes m hI94.1 (by assumption), by rw [hI94.2.2.2.2]; exact lastTo_yes m hI94.1 (by assumption)⟩ | exact ⟨by omega, by omega, by rw [hI94.2.2.1]; exact spotsTo_no m hI94.1 (by assumption), by rw [hI94.2.2.2.1]; exact followTo_no m hI94.1 (by assumption), by rw [hI94.2.2.2.2]; exact lastTo_no m hI94.1 (by assumption)⟩)⟩
        · skip
          refine run_skip ?_
          refine run_seq ?_
          refine run_reg (l := [0]) rfl ?_
          refine p_v (v := .slice none 0 0) rfl rfl rfl (x_assign rfl) ?_
          refine run_region_end ?_
          refine run_seq ?_
          refine run_seq ?_
          refine run_reg (l := [0]) rfl ?_
          refine p_v (v := .int .i64 0) rfl rfl rfl (x_assign rfl) ?_
          refine run_region_end ?_
          refine run_block ?_
          have T100 := S94.row_nil 3 (Kd.int .i64)
          obtain ⟨vn100, ev100, T100⟩ : ∃ v, v = (.slice none 0 0 : Value) ∧ St w.heap.size w h94 w94 ([box b1 27 [.slice A0_0 m.spots.length c0_0, .slice A0_1 m.first.length c0_1, .slice A0_2 m.follow.length c0_2, .slice A0_3 m.last.length c0_3, .bool m.empty], box b3 27 [.slice none 0 0, .slice none 0 0, .slice none 0 0, .slice none 0 0, .bool false], row 4 Kd.bool v5_0 (keepM m), row 3 (Kd.int .i64) v_number number, box b21 27 [v_t_0, v_t_1, v_t_2, v_t_3, .bool m.empty], row 3 (Kd.int .i64) v_t_1 t_1, row 39 kSpot v_t_0 t_0, row 23 (Kd.int .i64).slice v_t_2 t_2, row 4 Kd.bool v_t_3 t_3] ++ [row 3 (Kd.int .i64) v []]) := ⟨_, rfl, T100⟩
          have S101 : St w.heap.size w h94 w94 [box b1 27 [.slice A0_0 m.spots.length c0_0, .slice A0_1 m.first.length c0_1, .slice A0_2 m.follow.length c0_2, .slice A0_3 m.last.length c0_3, .bool m.empty], box b3 27 [.slice none 0 0, .slice none 0 0, .slice none 0 0, .slice none 0 0, .bool false], row 4 Kd.bool v5_0 (keepM m), row 3 (Kd.int .i64) v_number number, box b21 27 [v_t_0, v_t_1, v_t_2, v_t_3, .bool m.empty], row 3 (Kd.int .i64) v_t_1 t_1, row 39 kSpot v_t_0 t_0, row 23 (Kd.int .i64).slice v_t_2 t_2, row 4 Kd.bool v_t_3 t_3, row 3 (Kd.int .i64) vn100 ([] : List Int)] := T100
          refine run_loop (S := (List Int) × Int) (fun (q_ : (List Int) × Int) ρ w' => match q_ with | (l, k) => ∃ (h : Ghost) (v_l : Value), Le h94 h ∧ St w.heap.size w h w' [box b1 27 [.slice A0_0 m.spots.length c0_0, .slice A0_1 m.first.length c0_1, .slice A0_2 m.follow.length c0_2, .slice A0_3 m.last.length c0_3, .bool m.empty], box b3 27 [.slice none 0 0, .slice none 0 0, .slice none 0 0, .slice none 0 0, .bool false], row 4 Kd.bool v5_0 (keepM m), row 3 (Kd.int .i64) v_number number, box b21 27 [v_t_0, v_t_1, v_t_2, v_t_3, .bool m.empty], row 3 (Kd.int .i64) v_t_1 t_1, row 39 kSpot v_t_0 t_0, row 23 (Kd.int .i64).slice v_t_2 t_2, row 4 Kd.bool v_t_3 t_3, row 3 (Kd.int .i64) v_l l] ∧ ρ 1 = .pointer (some ⟨b1, 0, none⟩) ∧ ρ 2 = .pointer (some ⟨b3, 0, none⟩) ∧ ρ 3 = v5_0 ∧ ρ 4 = v_number ∧ ρ 7 = .pointer (some ⟨b21, 0, none⟩) ∧ ρ 9 = .int .i64 i3 ∧ ρ 10 = v_l ∧ ρ 11 = .int .i64 k ∧ inK .i64 k ∧ (0 ≤ k ∧ k ≤ ((at_ m.follow i3).length : Int) ∧ l = leftN (keepM m) number ((at_ m.follow i3).take k.toNat))) (fun q_ => match q_ with | (l, k) => ((at_ m.follow i3).length - k).toNat) (([] : List Int), 0) ⟨h94, vn100, Le.refl _, S101.sub [0, 1, 2, 3, 4, 5, 6, 7, 8, 9] (by decide) rfl _ rfl, r94_1, r94_2, r94_3, r94_4, r94_7, r94_9, (ev100.symm), rfl, (in_i64 (by first|omega|(simp;omega)|assumption) (by first|omega|(simp;omega)|assumption)), (by exact ⟨by omega, by omega, left_0 _ _ _⟩)⟩ ?_
          rintro ⟨l, k⟩ ih102 ρ102 w102 ⟨h102, v_l, le102, S102, r102_1, r102_2, r102_3, r102_4, r102_7, r102_9, r102_10, r102_11, f102_0, hI102⟩
          have lf102_0 := i64_lo f102_0; have hf102_0 := i64_hi f102_0
          have rl102_2 := S102.row_le (j := 2) rfl; simp only [maxLen] at rl102_2
          have rl102_3 := S102.row_le (j := 3) rfl; simp only [maxLen] at rl102_3
          have rl102_5 := S102.row_le (j := 5) rfl; simp only [maxLen] at rl102_5
          have rl102_6 := S102.row_le (j := 6) rfl; simp only [maxLen] at rl102_6
          have rl102_7 := S102.row_le (j := 7) rfl; simp only [maxLen] at rl102_7
          have rl102_8 := S102.row_le (j := 8) rfl; simp only [maxLen] at rl102_8
          have rl102_9 := S102.row_le (j := 9) rfl; simp only [maxLen] at rl102_9
          have hx_ : k < ((at_ m.follow i3).length : Int) → 0 ≤ at_ (at_ m.follow i3) k ∧ at_ (at_ m.follow i3) k < (m.spots.length : Int) := fun h => hR_.rows hI94.1 (by omega) _ (at_mem hI102.1 h)
          have hl1_ : (l.length : Int) ≤ 250 := by rw [hI102.2.2]; have := left_take (keepM m) number (at_ m.follow i3) k; omega
          refine run_seq ?_
          refine run_seq ?_
          refine run_reg (l := [0, 1, 2, 3, 4, 5, 6, 7]) rfl ?_
          refine p_v (v := .int .i64 k) rfl rfl rfl (x_move r102_11) ?_
          refine p_v (v := .pointer (some ⟨b1, 2, none⟩)) rfl rfl rfl (x_fieldAt fd27_2 ty24 rfl r102_1) ?_
          refine p_v (v := .slice A0_2 m.follow.length c0_2) rfl rfl rfl (x_load (seg := [.slice A0_2 m.follow.length c0_2]) ty24 rfl (by simp) rfl (CF.box (m := 1) (S102.box_at (j := 0) rfl) rfl)) ?_
          refine p_v (v := .int .i64 i3) rfl rfl rfl (x_move r102_9) ?_
          obtain ⟨ad103, seg103, a103, rp103, ce103⟩ := e_index_ro (q := i3) (m := 1) l0_2 rfl (by first|omega|(simp;omega)|assumption) (by first|omega|(simp;omega)|assumption)
          refine p_v (v := .pointer (some ad103)) rfl rfl rfl (x_index_ro u24 ty23 rfl rfl a103 (by first|omega|(simp;omega)|assumption) (by first|omega|(simp;omega)|assumption)) ?_
          obtain ⟨A103, c103, rfl, lc103, cm103, ld103⟩ := rp103
          have cn103 := cm103; simp only [maxLen] at cn103
          refine p_v (v := .slice A103 (at_ m.follow i3).length c103) rfl rfl rfl (x_load (seg := [.slice A103 (at_ m.follow i3).length c103]) ty23 rfl (by simp) rfl (CF.ghost ce103 (St.le0 S102))) ?_
          refine p_v (v := .int .i64 ((at_ m.follow i3).length : Int)) rfl rfl rfl (x_len_slice u23 rfl) ?_
          refine p_v (v := .bool (decide (k < ((at_ m.follow i3).length : Int)))) rfl rfl rfl (x_lss rfl rfl) ?_
          refine run_region_end ?_
          refine run_cond_prop (p := k < ((at_ m.follow i3).length : Int)) rfl (fun hc104 => ?_) (fun hc104 => ?_)
          · skip
            refine run_skip ?_
            refine run_seq ?_
            refine run_block ?_
            refine run_seq ?_
            refine run_reg (l := [0, 1, 2, 3, 4, 5, 6, 7, 8, 9, 10]) rfl ?_
            refine p_v (v := v5_0) rfl rfl rfl (x_move r102_3) ?_
            refine p_v (v := .pointer (some ⟨b1, 2, none⟩)) rfl rfl rfl (x_fieldAt fd27_2 ty24 rfl r102_1) ?_
            refine p_v (v := .slice A0_2 m.follow.length c0_2) rfl rfl rfl (x_load (seg := [.slice A0_2 m.follow.length c0_2]) ty24 rfl (by simp) rfl (CF.box (m := 1) (S102.box_at (j := 0) rfl) rfl)) ?_
            refine p_v (v := .int .i64 i3) rfl rfl rfl (x_move r102_9) ?_
            obtain ⟨ad105, seg105, a105, rp105, ce105⟩ := e_index_ro (q := i3) (m := 1) l0_2 rfl (by first|omega|(simp;omega)|assumption) (by first|omega|(simp;omega)|assumption)
            refine p_v (v := .pointer (some ad105)) rfl rfl rfl (x_index_ro u24 ty23 rfl rfl a105 (by first|omega|(simp;omega)|assumption) (by first|omega|(simp;omega)|assumption)) ?_
            obtain ⟨A105, c105, rfl, lc105, cm105, ld105⟩ := rp105
            have cn105 := cm105; simp only [maxLen] at cn105
            refine p_v (v := .slice A105 (at_ m.follow i3).length c105) rfl rfl rfl (x_load (seg := [.slice A105 (at_ m.follow i3).length c105]) ty23 rfl (by simp) rfl (CF.ghost ce105 (St.le0 S102))) ?_
            refine p_v (v := .int .i64 k) rfl rfl rfl (x_move r102_11) ?_
            obtain ⟨ad106, seg106, a106, rp106, ce106⟩ := e_index_ro (q := k) (m := 1) ld105 rfl (by first|omega|(simp;omega)|assumption) (by first|omega|(simp;omega)|assumption)
            refine p_v (v := .pointer (some ad106)) rfl rfl rfl (x_index_ro u23 ty3 rfl rfl a106 (by first|omega|(simp;omega)|assumption) (by first|omega|(simp;omega)|assumption)) ?_
            obtain ⟨rfl, in106⟩ := rp106
            have lo106 := i64_lo in106; have hi106 := i64_hi in106
            refine p_v (v := .int .i64 (at_ (at_ m.follow i3) k)) rfl rfl rfl (x_load (seg := [.int .i64 (at_ (at_ m.follow i3) k)]) ty3 rfl (by simp) rfl (CF.ghost ce106 (St.le0 S102))) ?_
            obtain ⟨ad107, a107, at107⟩ := e_index_own (q := at_ (at_ m.follow i3) k) (m := 1) S102 (j := 2) rfl rfl (by first|omega|(simp;omega)|assumption) (by first|omega|(simp;omega)|assumption)
            refine p_v (v := .pointer (some ad107)) rfl rfl rfl (x_index_own u25 ty4 rfl rfl a107 (by first|omega|(simp;omega)|assumption) (by first|omega|(simp;omega)|assumption)) ?_
            obtain ⟨seg108, rp108, cf108⟩ := e_load_own (q := at_ (at_ m.follow i3) k) S102 (j := 2) rfl rfl at107 (by first|omega|(simp;omega)|assumption) (by first|omega|(simp;omega)|assumption)
            obtain ⟨rfl, _⟩ := rp108
            refine p_v (v := .bool (at_ (keepM m) (at_ (at_ m.follow i3) k))) rfl rfl rfl (x_load (seg := [.bool (at_ (keepM m) (at_ (at_ m.follow i3) k))]) ty4 rfl (by simp) rfl cf108) ?_
            refine run_region_end ?_
            refine run_cond_split (b := at_ (keepM m) (at_ (at_ m.follow i3) k)) rfl (fun hc109 => ?_) (fun hc109 => ?_)
            · skip
              refine run_reg (l := [0, 1, 2, 3, 4, 5, 6, 7, 8, 9, 10, 11, 12, 13, 14]) rfl ?_
              refine p_v (v := v_l) rfl rfl rfl (x_move r102_10) ?_
              refine p_v (v := v_number) rfl rfl rfl (x_move r102_4) ?_
              refine p_v (v := .pointer (some ⟨b1, 2, none⟩)) rfl rfl rfl (x_fieldAt fd27_2 ty24 rfl r102_1) ?_
              refine p_v (v := .slice A0_2 m.follow.length c0_2) rfl rfl rfl (x_load (seg := [.slice A0_2 m.follow.length c0_2]) ty24 rfl (by simp) rfl (CF.box (m := 1) (S102.box_at (j := 0) rfl) rfl)) ?_
              refine p_v (v := .int .i64 i3) rfl rfl rfl (x_move r102_9) ?_
              obtain ⟨ad110, seg110, a110, rp110, ce110⟩ := e_index_ro (q := i3) (m := 1) l0_2 rfl (by first|omega|(simp;omega)|assumption) (by first|omega|(simp;omega)|assumption)
              refine p_v (v := .pointer (some ad110)) rfl rfl rfl (x_index_ro u24 ty23 rfl rfl a110 (by first|omega|(simp;omega)|assumption) (by first|omega|(simp;omega)|assumption)) ?_
              obtain ⟨A110, c110, rfl, lc110, cm110, ld110⟩ := rp110
              have cn110 := cm110; simp only [maxLen] at cn110
              refine p_v (v := .slice A110 (at_ m.follow i3).length c110) rfl rfl rfl (x_load (seg := [.slice A110 (at_ m.follow i3).length c110]) ty23 rfl (by simp) rfl (CF.ghost ce110 (St.le0 S102))) ?_
              refine p_v (v := .int .i64 k) rfl rfl rfl (x_move r102_11) ?_
              obtain ⟨ad111, seg111, a111, rp111, ce111⟩ := e_index_ro (q := k) (m := 1) ld110 rfl (by first|omega|(simp;omega)|assumption) (by first|omega|(simp;omega)|assumption)
              refine p_v (v := .pointer (some ad111)) rfl rfl rfl (x_index_ro u23 ty3 rfl rfl a111 (by first|omega|(simp;omega)|assumption) (by first|omega|(simp;omega)|assumption)) ?_
              obtain ⟨rfl, in111⟩ := rp111
              have lo111 := i64_lo in111; have hi111 := i64_hi in111
              refine p_v (v := .int .i64 (at_ (at_ m.follow i3) k)) rfl rfl rfl (x_load (seg := [.int .i64 (at_ (at_ m.follow i3) k)]) ty3 rfl (by simp) rfl (CF.ghost ce111 (St.le0 S102))) ?_
              obtain ⟨ad112, a112, at112⟩ := e_index_own (q := at_ (at_ m.follow i3) k) (m := 1) S102 (j := 3) rfl rfl (by first|omega|(simp;omega)|assumption) (by first|omega|(simp;omega)|assumption)
              refine p_v (v := .pointer (some ad112)) rfl rfl rfl (x_index_own u23 ty3 rfl rfl a112 (by first|omega|(simp;omega)|assumption) (by first|omega|(simp;omega)|assumption)) ?_
              obtain ⟨seg113, rp113, cf113⟩ := e_load_own (q := at_ (at_ m.follow i3) k) S102 (j := 3) rfl rfl at112 (by first|omega|(simp;omega)|assumption) (by first|omega|(simp;omega)|assumption)
              obtain ⟨rfl, in113⟩ := rp113
              have lo113 := i64_lo in113; have hi113 := i64_hi in113
              refine p_v (v := .int .i64 (at_ number (at_ (at_ m.follow i3) k))) rfl rfl rfl (x_load (seg := [.int .i64 (at_ number (at_ (at_ m.follow i3) k))]) ty3 rfl (by simp) rfl cf113) ?_
              obtain ⟨v114, w114, r114, g114, T114⟩ := e_build_ones (kd := (Kd.int .i64)) (xs := ([at_ number (at_ (at_ m.follow i3) k)] : List Int)) (len := 1) [.int .i64 (at_ number (at_ (at_ m.follow i3) k))] S102 u23 ty3 rfl rfl rfl rfl rfl (ones_cons rfl ones_nil) [.int .i64 (at_ number (at_ (at_ m.follow i3) k))] (Elems.single (k := (Kd.int .i64)) (h := h102) (x := at_ number (at_ (at_ m.follow i3) k)) (cs := [.int .i64 (at_ number (at_ (at_ m.follow i3) k))]) ⟨rfl, (in_i64 (by first|omega|(simp;omega)|assumption) (by first|omega|(simp;omega)|assumption))⟩) rfl
              have S115 : St w.heap.size w h102 w114 [box b1 27 [.slice A0_0 m.spots.length c0_0, .slice A0_1 m.first.length c0_1, .slice A0_2 m.follow.length c0_2, .slice A0_3 m.last.length c0_3, .bool m.empty], box b3 27 [.slice none 0 0, .slice none 0 0, .slice none 0 0, .slice none 0 0, .bool false], row 4 Kd.bool v5_0 (keepM m), row 3 (Kd.int .i64) v_number number, box b21 27 [v_t_0, v_t_1, v_t_2, v_t_3, .bool m.empty], row 3 (Kd.int .i64) v_t_1 t_1, row 39 kSpot v_t_0 t_0, row 23 (Kd.int .i64).slice v_t_2 t_2, row 4 Kd.bool v_t_3 t_3, row 3 (Kd.int .i64) v_l l, row 3 (Kd.int .i64) v114 ([at_ number (at_ (at_ m.follow i3) k)] : List Int)] := T114
              refine p_v (v := v114) rfl rfl rfl (y_build_slice (pv := [(0, .int .i64 (at_ number (at_ (at_ m.follow i3) k)))]) rfl r114) ?_
              obtain ⟨A117, c117, ev117, lc117, cm117⟩ := S115.row_val (j := 10) rfl
              obtain ⟨v118, w118, r118, g118, T118⟩ := e_append (kd := (Kd.int .i64)) (A := A117) (c := c117) (ys := ([at_ number (at_ (at_ m.follow i3) k)] : List Int)) (len := ([at_ number (at_ (at_ m.follow i3) k)] : List Int).length) 23 S115 u23 ty3 rfl rfl (j := 9) rfl rfl (news_own S115 (j := 10) rfl ev117) (by first|omega|(simp;omega)|assumption) (by first|omega|(simp;omega)|assumption)
              have S119 : St w.heap.size w h102 w118 [box b1 27 [.slice A0_0 m.spots.length c0_0, .slice A0_1 m.first.length c0_1, .slice A0_2 m.follow.length c0_2, .slice A0_3 m.last.length c0_3, .bool m.empty], box b3 27 [.slice none 0 0, .slice none 0 0, .slice none 0 0, .slice none 0 0, .bool false], row 4 Kd.bool v5_0 (keepM m), row 3 (Kd.int .i64) v_number number, box b21 27 [v_t_0, v_t_1, v_t_2, v_t_3, .bool m.empty], row 3 (Kd.int .i64) v_t_1 t_1, row 39 kSpot v_t_0 t_0, row 23 (Kd.int .i64).slice v_t_2 t_2, row 4 Kd.bool v_t_3 t_3, row 3 (Kd.int .i64) v118 (l ++ ([at_ number (at_ (at_ m.follow i3) k)] : List Int)), row 3 (Kd.int .i64) v114 ([at_ number (at_ (at_ m.follow i3) k)] : List Int)] := T118
              refine p_v (v := v118) rfl rfl rfl (x_append rfl ev117 r118) ?_
              refine p_v (v := v118) rfl rfl rfl (x_assign rfl) ?_
              refine run_region_end ?_
              refine run_inBlock ?_
              refine run_reg (l := [0, 1, 2]) rfl ?_
              refine p_v (v := .int .i64 k) rfl rfl rfl (x_move r102_11) ?_
              refine p_v (v := .int .i64 (k + 1)) rfl rfl rfl (x_add rfl rfl (in_i64 (by first|omega|(simp;omega)|assumption) (by first|omega|(simp;omega)|assumption))) ?_
              refine p_v (v := .int .i64 (k + 1)) rfl rfl rfl (x_assign rfl) ?_
              refine run_region_end ?_
              refine ih102 (l ++ ([at_ number (at_ (at_ m.follow i3) k)] : List Int), k + 1) _ _ (by dsimp only; omega) ⟨h102, v118, le102, S119.sub [0, 1, 2, 3, 4, 5, 6, 7, 8, 9] (by decide) rfl _ rfl, r102_1, r102_2, r102_3, r102_4, r102_7, r102_9, rfl, rfl, (in_i64 (by first|omega|(simp;omega)|assumption) (by first|omega|(simp;omega)|assumption)), (by first | exact ⟨by omega, by omega, by rw [hI102.2.2]; exact left_yes _ _ _ hI102.1 (by omega) (by assumption)⟩ | exact ⟨by omega, by omega, by rw [hI102.2.2]; exact left_no _ _ _ hI102.1 (by omega) (by assumption)⟩)⟩
            · skip
              refine run_skip ?_
              refine run_inBlock ?_
              refine run_reg (l := [0, 1, 2]) rfl ?_
              refine p_v (v := .int .i64 k) rfl rfl rfl (x_move r102_11) ?_
              refine p_v (v := .int .i64 (k + 1)) rfl rfl rfl (x_add rfl rfl (in_i64 (by first|omega|(simp;omega)|assumption) (by first|omega|(simp;omega)|assumption))) ?_
              refine p_v (v := .int .i64 (k + 1)) rfl rfl rfl (x_assign rfl) ?_
              refine run_region_end ?_
              refine ih102 (l, k + 1) _ _ (by dsimp only; omega) ⟨h102, v_l, le102, S102.sub [0, 1, 2, 3, 4, 5, 6, 7, 8, 9] (by decide) rfl _ rfl, r102_1, r102_2, r102_3, r102_4, r102_7, r102_9, r102_10, rfl, (in_i64 (by first|omega|(simp;omega)|assumption) (by first|omega|(simp;omega)|assumption)), (by first | exact ⟨by omega, by omega, by rw [hI102.2.2]; exact left_yes _ _ _ hI102.1 (by omega) (by assumption)⟩ | exact ⟨by omega, by omega, by rw [hI102.2.2]; exact left_no _ _ _ hI102.1 (by omega) (by assumption)⟩)⟩
          · skip
            refine run_exit rfl ?_
            refine run_seq ?_
            obtain ⟨ad120, seg120, a120, rp120, ce120⟩ := e_index_ro (q := i3) (m := 5) l0_0 rfl (by first|omega|(simp;omega)|assumption) (by first|omega|(simp;omega)|assumption)
            obtain ⟨rfl, ok120⟩ := rp120
            have slook120 := u8_lo ok120; have shiok120 := u8_hi ok120
            have hf121 : (CFs ⟨b21, 0, none⟩ [v_t_0]).1 w102 := (CF.box (m := 1) (S102.box_at (j := 4) rfl) rfl)
            have hf122 : (CFs ⟨b1, 0, none⟩ [.slice A0_0 m.spots.length c0_0]).1 w102 := (CF.box (m := 1) (S102.box_at (j := 0) rfl) rfl)
            have hf123 : (CFs ad120 (encSpot (at_ m.spots i3))).1 w102 := (CF.ghost ce120 (St.le0 S102))
            refine da_start [(1, CFs ⟨b21, 0, none⟩ [v_t_0]), (3, CFs ⟨b1, 0, none⟩ [.slice A0_0 m.spots.length c0_0]), (6, CFs ad120 (encSpot (at_ m.spots i3)))] 11 rfl mixed ?_
            intro wd124 gd124 hd124
            have S125 := S102.keep gd124
            have hf126 := (CFs ⟨b21, 0, none⟩ [v_t_0]).2 _ _ gd124 hf121
            have hf127 := (CFs ⟨b1, 0, none⟩ [.slice A0_0 m.spots.length c0_0]).2 _ _ gd124 hf122
            have hf128 := (CFs ad120 (encSpot (at_ m.spots i3))).2 _ _ gd124 hf123
            refine d_q (i := 0) (v := .pointer (some ⟨b21, 0, none⟩)) (fun _ => True) (fun _ ho => trivial) rfl (by decide +kernel) (by decide +kernel) (by decide +kernel) rfl rfl (fun wq hq => (x_fieldAt fd27_0 ty22 rfl r102_7)) (of_ne rfl (of_ne rfl (of_ne rfl (of_nil _ _)))) ?_
            refine d_q (i := 1) (v := v_t_0) (CF ⟨b21, 0, none⟩ [v_t_0]) (fun _ ho => ho _ (List.mem_of_getElem? (i := 0) rfl) rfl) rfl (by decide +kernel) (by decide +kernel) (by decide +kernel) rfl rfl (fun wq hq => (x_load (seg := [v_t_0]) ty22 rfl (by simp) rfl hq)) (of_eq hf126 (of_ne rfl (of_ne rfl (of_nil _ _)))) ?_
            refine d_q (i := 2) (v := .pointer (some ⟨b1, 0, none⟩)) (fun _ => True) (fun _ ho => trivial) rfl (by decide +kernel) (by decide +kernel) (by decide +kernel) rfl rfl (fun wq hq => (x_fieldAt fd27_0 ty22 rfl r102_1)) (of_ne rfl (of_ne rfl (of_ne rfl (of_nil _ _)))) ?_
            refine d_q (i := 3) (v := .slice A0_0 m.spots.length c0_0) (CF ⟨b1, 0, none⟩ [.slice A0_0 m.spots.length c0_0]) (fun _ ho => ho _ (List.mem_of_getElem? (i := 1) rfl) rfl) rfl (by decide +kernel) (by decide +kernel) (by decide +kernel) rfl rfl (fun wq hq => (x_load (seg := [.slice A0_0 m.spots.length c0_0]) ty22 rfl (by simp) rfl hq)) (of_ne rfl (of_eq hf127 (of_ne rfl (of_nil _ _)))) ?_
            refine d_q (i := 4) (v := .int .i64 i3) (fun _ => True) (fun _ ho => trivial) rfl (by decide +kernel) (by decide +kernel) (by decide +kernel) rfl rfl (fun wq hq => (x_move r102_9)) (of_ne rfl (of_ne rfl (of_ne rfl (of_nil _ _)))) ?_
            refine d_q (i := 5) (v := .pointer (some ad120)) (fun _ => True) (fun _ ho => trivial) rfl (by decide +kernel) (by decide +kernel) (by decide +kernel) rfl rfl (fun wq hq => (x_index_ro u22 ty39 rfl rfl a120 (by first|omega|(simp;omega)|assumption) (by first|omega|(simp;omega)|assumption))) (of_ne rfl (of_ne rfl (of_ne rfl (of_nil _ _)))) ?_
            refine d_q (i := 6) (v := .agg (encSpot (at_ m.spots i3)).toArray) (CF ad120 (encSpot (at_ m.spots i3))) (fun _ ho => ho _ (List.mem_of_getElem? (i := 2) rfl) rfl) rfl (by decide +kernel) (by decide +kernel) (by decide +kernel) rfl rfl (fun wq hq => (x_load (seg := (encSpot (at_ m.spots i3))) ty39 rfl (by simp) rfl hq)) (of_ne rfl (of_ne rfl (of_eq hf128 (of_nil _ _)))) ?_
            refine ra_one (i := 7) (by decide +kernel) ?_
            intro wd129 gd129
            have S130 := S125.keep gd129
            have hf131 := (CFs ⟨b21, 0, none⟩ [v_t_0]).2 _ _ gd129 hf126
            have hf132 := (CFs ⟨b1, 0, none⟩ [.slice A0_0 m.spots.length c0_0]).2 _ _ gd129 hf127
            have hf133 := (CFs ad120 (encSpot (at_ m.spots i3))).2 _ _ gd129 hf128
            obtain ⟨v134, w134, r134, g134, T134⟩ := e_build_segs (kd := kSpot) (xs := ([at_ m.spots i3] : List Spot)) (len := 1) (m := 5) [(.agg (encSpot (at_ m.spots i3)).toArray, (encSpot (at_ m.spots i3)))] S130 u22 ty39 rfl rfl rfl rfl (segs_cons rfl rfl segs_nil) (cs := (encSpot (at_ m.spots i3))) (Elems.single (k := kSpot) (h := h102) (x := at_ m.spots i3) (cs := (encSpot (at_ m.spots i3))) ⟨rfl, ok120⟩) (by simp)
            have S135 : St w.heap.size w h102 w134 [box b1 27 [.slice A0_0 m.spots.length c0_0, .slice A0_1 m.first.length c0_1, .slice A0_2 m.follow.length c0_2, .slice A0_3 m.last.length c0_3, .bool m.empty], box b3 27 [.slice none 0 0, .slice none 0 0, .slice none 0 0, .slice none 0 0, .bool false], row 4 Kd.bool v5_0 (keepM m), row 3 (Kd.int .i64) v_number number, box b21 27 [v_t_0, v_t_1, v_t_2, v_t_3, .bool m.empty], row 3 (Kd.int .i64) v_t_1 t_1, row 39 kSpot v_t_0 t_0, row 23 (Kd.int .i64).slice v_t_2 t_2, row 4 Kd.bool v_t_3 t_3, row 3 (Kd.int .i64) v_l l, row 39 kSpot v134 ([at_ m.spots i3] : List Spot)] := T134
            have hf136 := (CFs ⟨b21, 0, none⟩ [v_t_0]).2 _ _ g134 hf131
            have hf137 := (CFs ⟨b1, 0, none⟩ [.slice A0_0 m.spots.length c0_0]).2 _ _ g134 hf132
            have hf138 := (CFs ad120 (encSpot (at_ m.spots i3))).2 _ _ g134 hf133
            refine d_v (v := v134) rfl rfl rfl (y_build_slice (pv := [(0, .agg (encSpot (at_ m.spots i3)).toArray)]) rfl r134) (.inl g134) ?_
            refine ra_one (i := 8) (by decide +kernel) ?_
            intro wd139 gd139
            have S140 := S135.keep gd139
            have hf141 := (CFs ⟨b21, 0, none⟩ [v_t_0]).2 _ _ gd139 hf136
            have hf142 := (CFs ⟨b1, 0, none⟩ [.slice A0_0 m.spots.length c0_0]).2 _ _ gd139 hf137
            have hf143 := (CFs ad120 (encSpot (at_ m.spots i3))).2 _ _ gd139 hf138
            obtain ⟨A145, c145, ev145, lc145, cm145⟩ := S140.row_val (j := 10) rfl
            obtain ⟨v146, w146, r146, g146, T146⟩ := e_append (kd := kSpot) (A := A145) (c := c145) (ys := ([at_ m.spots i3] : List Spot)) (len := ([at_ m.spots i3] : List Spot).length) 22 S140 u22 ty39 rfl rfl (j := 6) rfl rfl (news_own S140 (j := 10) rfl ev145) (by first|omega|(simp;omega)|assumption) (by first|omega|(simp;omega)|assumption)
            have S147 : St w.heap.size w h102 w146 [box b1 27 [.slice A0_0 m.spots.length c0_0, .slice A0_1 m.first.length c0_1, .slice A0_2 m.follow.length c0_2, .slice A0_3 m.last.length c0_3, .bool m.empty], box b3 27 [.slice none 0 0, .slice none 0 0, .slice none 0 0, .slice none 0 0, .bool false], row 4 Kd.bool v5_0 (keepM m), row 3 (Kd.int .i64) v_number number, box b21 27 [v_t_0, v_t_1, v_t_2, v_t_3, .bool m.empty], row 3 (Kd.int .i64) v_t_1 t_1, row 39 kSpot v146 (t_0 ++ ([at_ m.spots i3] : List Spot)), row 23 (Kd.int .i64).slice v_t_2 t_2, row 4 Kd.bool v_t_3 t_3, row 3 (Kd.int .i64) v_l l, row 39 kSpot v134 ([at_ m.spots i3] : List Spot)] := T146
            have hf148 : (CFs ⟨b21, 0, none⟩ [v_t_0]).1 w146 := (CF.box (m := 1) (S147.box_at (j := 4) rfl) rfl)
            have hf149 : (CFs ⟨b1, 0, none⟩ [.slice A0_0 m.spots.length c0_0]).1 w146 := (CF.box (m := 1) (S147.box_at (j := 0) rfl) rfl)
            have hf150 : (CFs ad120 (encSpot (at_ m.spots i3))).1 w146 := (CF.ghost ce120 (St.le0 S147))
            refine d_v (v := v146) rfl rfl rfl (x_append rfl ev145 r146) (.inr (keep_w (by decide +kernel) (keep_v hf149 (keep_v hf150 trivial)))) ?_
            refine d_q (i := 9) (v := .pointer (some ⟨b21, 0, none⟩)) (fun _ => True) (fun _ ho => trivial) rfl (by decide +kernel) (by decide +kernel) (by decide +kernel) rfl rfl (fun wq hq => (x_fieldAt fd27_0 ty22 rfl r102_7)) (of_ne rfl (of_ne rfl (of_ne rfl (of_nil _ _)))) ?_
            refine ra_one (i := 10) (by decide +kernel) ?_
            intro wd151 gd151
            have S152 := S147.keep gd151
            have hf153 := (CFs ⟨b21, 0, none⟩ [v_t_0]).2 _ _ gd151 hf148
            have hf154 := (CFs ⟨b1, 0, none⟩ [.slice A0_0 m.spots.length c0_0]).2 _ _ gd151 hf149
            have hf155 := (CFs ad120 (encSpot (at_ m.spots i3))).2 _ _ gd151 hf150
            have oc157 := row_one S152 (j := 6) rfl
            obtain ⟨w156, r156, g156, T156⟩ := e_store (P := Try.prog) (off := 0) (v := v146) (vs := [v146]) S152 ty22 (row_cells S152 (j := 6) rfl) rfl (j := 4) rfl (by first | decide | exact Nat.le_of_ble_eq_true rfl) (one_cons oc157 one_nil)
            have S158 : St w.heap.size w h102 w156 [box b1 27 [.slice A0_0 m.spots.length c0_0, .slice A0_1 m.first.length c0_1, .slice A0_2 m.follow.length c0_2, .slice A0_3 m.last.length c0_3, .bool m.empty], box b3 27 [.slice none 0 0, .slice none 0 0, .slice none 0 0, .slice none 0 0, .bool false], row 4 Kd.bool v5_0 (keepM m), row 3 (Kd.int .i64) v_number number, box b21 27 [v146, v_t_1, v_t_2, v_t_3, .bool m.empty], row 3 (Kd.int .i64) v_t_1 t_1, row 39 kSpot v146 (t_0 ++ ([at_ m.spots i3] : List Spot)), row 23 (Kd.int .i64).slice v_t_2 t_2, row 4 Kd.bool v_t_3 t_3, row 3 (Kd.int .i64) v_l l, row 39 kSpot v134 ([at_ m.spots i3] : List Spot)] := T156
            have hf159 : (CFs ⟨b1, 0, none⟩ [.slice A0_0 m.spots.length c0_0]).1 w156 := (CF.box (m := 1) (S158.box_at (j := 0) rfl) rfl)
            have hf160 : (CFs ad120 (encSpot (at_ m.spots i3))).1 w156 := (CF.ghost ce120 (St.le0 S158))
            refine d_s rfl rfl (x_store rfl rfl r156) (.inr (keep_w (by decide +kernel) (keep_w (by decide +kernel) (keep_w (by decide +kernel) trivial)))) ?_
            refine ra_done (by decide +kernel) ?_
            intro wd161 gd161
            have S162 := S158.keep gd161
            refine run_seq ?_
            obtain ⟨ad163, seg163, a163, rp163, ce163⟩ := e_index_ro (q := i3) (m := 1) l0_3 rfl (by first|omega|(simp;omega)|assumption) (by first|omega|(simp;omega)|assumption)
            obtain ⟨rfl, _⟩ := rp163
            have hf164 : (CFs ⟨b21, 3, none⟩ [v_t_3]).1 wd161 := (CF.box (m := 1) (S162.box_at (j := 4) rfl) rfl)
            have hf165 : (CFs ⟨b1, 3, none⟩ [.slice A0_3 m.last.length c0_3]).1 wd161 := (CF.box (m := 1) (S162.box_at (j := 0) rfl) rfl)
            have hf166 : (CFs ad163 [.bool (at_ m.last i3)]).1 wd161 := (CF.ghost ce163 (St.le0 S162))
            refine da_start [(1, CFs ⟨b21, 3, none⟩ [v_t_3]), (3, CFs ⟨b1, 3, none⟩ [.slice A0_3 m.last.length c0_3]), (6, CFs ad163 [.bool (at_ m.last i3)])] 11 rfl mixed ?_
            intro wd167 gd167 hd167
            have S168 := S162.keep gd167
            have hf169 := (CFs ⟨b21, 3, none⟩ [v_t_3]).2 _ _ gd167 hf164
            have hf170 := (CFs ⟨b1, 3, none⟩ [.slice A0_3 m.last.length c0_3]).2 _ _ gd167 hf165
            have hf171 := (CFs ad163 [.bool (at_ m.last i3)]).2 _ _ gd167 hf166
            refine d_q (i := 0) (v := .pointer (some ⟨b21, 3, none⟩)) (fun _ => True) (fun _ ho => trivial) rfl (by decide +kernel) (by decide +kernel) (by decide +kernel) rfl rfl (fun wq hq => (x_fieldAt fd27_3 ty25 rfl r102_7)) (of_ne rfl (of_ne rfl (of_ne rfl (of_nil _ _)))) ?_
            refine d_q (i := 1) (v := v_t_3) (CF ⟨b21, 3, none⟩ [v_t_3]) (fun _ ho => ho _ (List.mem_of_getElem? (i := 0) rfl) rfl) rfl (by decide +kernel) (by decide +kernel) (by decide +kernel) rfl rfl (fun wq hq => (x_load (seg := [v_t_3]) ty25 rfl (by simp) rfl hq)) (of_eq hf169 (of_ne rfl (of_ne rfl (of_nil _ _)))) ?_
            refine d_q (i := 2) (v := .pointer (some ⟨b1, 3, none⟩)) (fun _ => True) (fun _ ho => trivial) rfl (by decide +kernel) (by decide +kernel) (by decide +kernel) rfl rfl (fun wq hq => (x_fieldAt fd27_3 ty25 rfl r102_1)) (of_ne rfl (of_ne rfl (of_ne rfl (of_nil _ _)))) ?_
            refine d_q (i := 3) (v := .slice A0_3 m.last.length c0_3) (CF ⟨b1, 3, none⟩ [.slice A0_3 m.last.length c0_3]) (fun _ ho => ho _ (List.mem_of_getElem? (i := 1) rfl) rfl) rfl (by decide +kernel) (by decide +kernel) (by decide +kernel) rfl rfl (fun wq hq => (x_load (seg := [.slice A0_3 m.last.length c0_3]) ty25 rfl (by simp) rfl hq)) (of_ne rfl (of_eq hf170 (of_ne rfl (of_nil _ _)))) ?_
            refine d_q (i := 4) (v := .int .i64 i3) (fun _ => True) (fun _ ho => trivial) rfl (by decide +kernel) (by decide +kernel) (by decide +kernel) rfl rfl (fun wq hq => (x_move r102_9)) (of_ne rfl (of_ne rfl (of_ne rfl (of_nil _ _)))) ?_
            refine d_q (i := 5) (v := .pointer (some ad163)) (fun _ => True) (fun _ ho => trivial) rfl (by decide +kernel) (by decide +kernel) (by decide +kernel) rfl rfl (fun wq hq => (x_index_ro u25 ty4 rfl rfl a163 (by first|omega|(simp;omega)|assumption) (by first|omega|(simp;omega)|assumption))) (of_ne rfl (of_ne rfl (of_ne rfl (of_nil _ _)))) ?_
            refine d_q (i := 6) (v := .bool (at_ m.last i3)) (CF ad163 [.bool (at_ m.last i3)]) (fun _ ho => ho _ (List.mem_of_getElem? (i := 2) rfl) rfl) rfl (by decide +kernel) (by decide +kernel) (by decide +kernel) rfl rfl (fun wq hq => (x_load (seg := [.bool (at_ m.last i3)]) ty4 rfl (by simp) rfl hq)) (of_ne rfl (of_ne rfl (of_eq hf171 (of_nil _ _)))) ?_
            refine ra_one (i := 7) (by decide +kernel) ?_
            intro wd172 gd172
            have S173 := S168.keep gd172
            have hf174 := (CFs ⟨b21, 3, none⟩ [v_t_3]).2 _ _ gd172 hf169
            have hf175 := (CFs ⟨b1, 3, none⟩ [.slice A0_3 m.last.length c0_3]).2 _ _ gd172 hf170
            have hf176 := (CFs ad163 [.bool (at_ m.last i3)]).2 _ _ gd172 hf171
            obtain ⟨v177, w177, r177, g177, T177⟩ := e_build_ones (kd := Kd.bool) (xs := ([at_ m.last i3] : List Bool)) (len := 1) [.bool (at_ m.last i3)] S173 u25 ty4 rfl rfl rfl rfl rfl (ones_cons rfl ones_nil) [.bool (at_ m.last i3)] (Elems.single (k := Kd.bool) (h := h102) (x := at_ m.last i3) (cs := [.bool (at_ m.last i3)]) ⟨rfl, trivial⟩) rfl
            have S178 : St w.heap.size w h102 w177 [box b1 27 [.slice A0_0 m.spots.length c0_0, .slice A0_1 m.first.length c0_1, .slice A0_2 m.follow.length c0_2, .slice A0_3 m.last.length c0_3, .bool m.empty], box b3 27 [.slice none 0 0, .slice none 0 0, .slice none 0 0, .slice none 0 0, .bool false], row 4 Kd.bool v5_0 (keepM m), row 3 (Kd.int .i64) v_number number, box b21 27 [v146, v_t_1, v_t_2, v_t_3, .bool m.empty], row 3 (Kd.int .i64) v_t_1 t_1, row 39 kSpot v146 (t_0 ++ ([at_ m.spots i3] : List Spot)), row 23 (Kd.int .i64).slice v_t_2 t_2, row 4 Kd.bool v_t_3 t_3, row 3 (Kd.int .i64) v_l l, row 39 kSpot v134 ([at_ m.spots i3] : List Spot), row 4 Kd.bool v177 ([at_ m.last i3] : List Bool)] := T177
            have hf179 := (CFs ⟨b21, 3, none⟩ [v_t_3]).2 _ _ g177 hf174
            have hf180 := (CFs ⟨b1, 3, none⟩ [.slice A0_3 m.last.length c0_3]).2 _ _ g177 hf175
            have hf181 := (CFs ad163 [.bool (at_ m.last i3)]).2 _ _ g177 hf176
            refine d_v (v := v177) rfl rfl rfl (y_build_slice (pv := [(0, .bool (at_ m.last i3))]) rfl r177) (.inl g177) ?_
            refine ra_one (i := 8) (by decide +kernel) ?_
            intro wd182 gd182
            have S183 := S178.keep gd182
            have hf184 := (CFs ⟨b21, 3, none⟩ [v_t_3]).2 _ _ gd182 hf179
            have hf185 := (CFs ⟨b1, 3, none⟩ [.slice A0_3 m.last.length c0_3]).2 _ _ gd182 hf180
            have hf186 := (CFs ad163 [.bool (at_ m.last i3)]).2 _ _ gd182 hf181
            obtain ⟨A188, c188, ev188, lc188, cm188⟩ := S183.row_val (j := 11) rfl
            obtain ⟨v189, w189, r189, g189, T189⟩ := e_append (kd := Kd.bool) (A := A188) (c := c188) (ys := ([at_ m.last i3] : List Bool)) (len := ([at_ m.last i3] : List Bool).length) 25 S183 u25 ty4 rfl rfl (j := 8) rfl rfl (news_own S183 (j := 11) rfl ev188) (by first|omega|(simp;omega)|assumption) (by first|omega|(simp;omega)|assumption)
            have S190 : St w.heap.size w h102 w189 [box b1 27 [.slice A0_0 m.spots.length c0_0, .slice A0_1 m.first.length c0_1, .slice A0_2 m.follow.length c0_2, .slice A0_3 m.last.length c0_3, .bool m.empty], box b3 27 [.slice none 0 0, .slice none 0 0, .slice none 0 0, .slice none 0 0, .bool false], row 4 Kd.bool v5_0 (keepM m), row 3 (Kd.int .i64) v_number number, box b21 27 [v146, v_t_1, v_t_2, v_t_3, .bool m.empty], row 3 (Kd.int .i64) v_t_1 t_1, row 39 kSpot v146 (t_0 ++ ([at_ m.spots i3] : List Spot)), row 23 (Kd.int .i64).slice v_t_2 t_2, row 4 Kd.bool v189 (t_3 ++ ([at_ m.last i3] : List Bool)), row 3 (Kd.int .i64) v_l l, row 39 kSpot v134 ([at_ m.spots i3] : List Spot), row 4 Kd.bool v177 ([at_ m.last i3] : List Bool)] := T189
            have hf191 : (CFs ⟨b21, 3, none⟩ [v_t_3]).1 w189 := (CF.box (m := 1) (S190.box_at (j := 4) rfl) rfl)
            have hf192 : (CFs ⟨b1, 3, none⟩ [.slice A0_3 m.last.length c0_3]).1 w189 := (CF.box (m := 1) (S190.box_at (j := 0) rfl) rfl)
            have hf193 : (CFs ad163 [.bool (at_ m.last i3)]).1 w189 := (CF.ghost ce163 (St.le0 S190))
            refine d_v (v := v189) rfl rfl rfl (x_append rfl ev188 r189) (.inr (keep_w (by decide +kernel) (keep_v hf192 (keep_v hf193 trivial)))) ?_
            refine d_q (i := 9) (v := .pointer (some ⟨b21, 3, none⟩)) (fun _ => True) (fun _ ho => trivial) rfl (by decide +kernel) (by decide +kernel) (by decide +kernel) rfl rfl (fun wq hq => (x_fieldAt fd27_3 ty25 rfl r102_7)) (of_ne rfl (of_ne rfl (of_ne rfl (of_nil _ _)))) ?_
            refine ra_one (i := 10) (by decide +kernel) ?_
            intro wd194 gd194
            have S195 := S190.keep gd194
            have hf196 := (CFs ⟨b21, 3, none⟩ [v_t_3]).2 _ _ gd194 hf191
            have hf197 := (CFs ⟨b1, 3, none⟩ [.slice A0_3 m.last.length c0_3]).2 _ _ gd194 hf192
            have hf198 := (CFs ad163 [.bool (at_ m.last i3)]).2 _ _ gd194 hf193
            have oc200 := row_one S195 (j := 8) rfl
            obtain ⟨w199, r199, g199, T199⟩ := e_store (P := Try.prog) (off := 3) (v := v189) (vs := [v189]) S195 ty25 (row_cells S195 (j := 8) rfl) rfl (j := 4) rfl (by first | decide | exact Nat.le_of_ble_eq_true rfl) (one_cons oc200 one_nil)
            have S201 : St w.heap.size w h102 w199 [box b1 27 [.slice A0_0 m.spots.length c0_0, .slice A0_1 m.first.length c0_1, .slice A0_2 m.follow.length c0_2, .slice A0_3 m.last.length c0_3, .bool m.empty], box b3 27 [.slice none 0 0, .slice none 0 0, .slice none 0 0, .slice none 0 0, .bool false], row 4 Kd.bool v5_0 (keepM m), row 3 (Kd.int .i64) v_number number, box b21 27 [v146, v_t_1, v_t_2, v189, .bool m.empty], row 3 (Kd.int .i64) v_t_1 t_1, row 39 kSpot v146 (t_0 ++ ([at_ m.spots i3] : List Spot)), row 23 (Kd.int .i64).slice v_t_2 t_2, row 4 Kd.bool v189 (t_3 ++ ([at_ m.last i3] : List Bool)), row 3 (Kd.int .i64) v_l l, row 39 kSpot v134 ([at_ m.spots i3] : List Spot), row 4 Kd.bool v177 ([at_ m.last i3] : List Bool)] := T199
            have hf202 : (CFs ⟨b1, 3, none⟩ [.slice A0_3 m.last.length c0_3]).1 w199 := (CF.box (m := 1) (S201.box_at (j := 0) rfl) rfl)
            have hf203 : (CFs ad163 [.bool (at_ m.last i3)]).1 w199 := (CF.ghost ce163 (St.le0 S201))
            refine d_s rfl rfl (x_store rfl rfl r199) (.inr (keep_w (by decide +kernel) (keep_w (by decide +kernel) (keep_w (by decide +kernel) trivial)))) ?_
            refine ra_done (by decide +kernel) ?_
            intro wd204 gd204
            have S205 := S201.keep gd204
            refine run_reg (l := [0, 1, 2, 3, 4, 5, 6]) rfl ?_
            refine p_v (v := .pointer (some ⟨b21, 2, none⟩)) rfl rfl rfl (x_fieldAt fd27_2 ty24 rfl r102_7) ?_
            refine p_v (v := v_t_2) rfl rfl rfl (x_load (seg := [v_t_2]) ty24 rfl (by simp) rfl (CF.box (m := 1) (S205.box_at (j := 4) rfl) rfl)) ?_
            refine p_v (v := v_l) rfl rfl rfl (x_move r102_10) ?_
            obtain ⟨h207, le207, T207, rp207⟩ := S205.freeze (i := 9) rfl
            have lf207_0 := (((((((((lk5).trans le9)).trans le27)).trans le94)).trans le102)).trans le207
            have lf207_1 := (((((((le9).trans le27)).trans le94)).trans le102)).trans le207
            have lf207_2 := (((((le27).trans le94)).trans le102)).trans le207
            have lf207_3 := (((le94).trans le102)).trans le207
            have lf207_4 := (le102).trans le207
            have S208 : St w.heap.size w h207 wd204 [box b1 27 [.slice A0_0 m.spots.length c0_0, .slice A0_1 m.first.length c0_1, .slice A0_2 m.follow.length c0_2, .slice A0_3 m.last.length c0_3, .bool m.empty], box b3 27 [.slice none 0 0, .slice none 0 0, .slice none 0 0, .slice none 0 0, .bool false], row 4 Kd.bool v5_0 (keepM m), row 3 (Kd.int .i64) v_number number, box b21 27 [v146, v_t_1, v_t_2, v189, .bool m.empty], row 3 (Kd.int .i64) v_t_1 t_1, row 39 kSpot v146 (t_0 ++ ([at_ m.spots i3] : List Spot)), row 23 (Kd.int .i64).slice v_t_2 t_2, row 4 Kd.bool v189 (t_3 ++ ([at_ m.last i3] : List Bool)), emp, row 39 kSpot v134 ([at_ m.spots i3] : List Spot), row 4 Kd.bool v177 ([at_ m.last i3] : List Bool)] := T207
            obtain ⟨A207, c207, e207, lc207, cm207, ld207⟩ := rp207
            injection e207 with e207 _; subst e207
            have cn207 := cm207; simp only [maxLen] at cn207
            obtain ⟨v206, w206, r206, g206, T206⟩ := e_build_ones (kd := (Kd.int .i64).slice) (xs := ([l] : List (List Int))) (len := 1) [.slice A207 l.length c207] S208 u24 ty23 rfl rfl rfl rfl rfl (ones_cons rfl ones_nil) [.slice A207 l.length c207] (Elems.single (k := (Kd.int .i64).slice) (h := h207) (x := l) (cs := [.slice A207 l.length c207]) ⟨_, _, rfl, (And.intro lc207 cm207).1, (And.intro lc207 cm207).2, ld207.mono (Le.refl _)⟩) rfl
            have S209 : St w.heap.size w h207 w206 [box b1 27 [.slice A0_0 m.spots.length c0_0, .slice A0_1 m.first.length c0_1, .slice A0_2 m.follow.length c0_2, .slice A0_3 m.last.length c0_3, .bool m.empty], box b3 27 [.slice none 0 0, .slice none 0 0, .slice none 0 0, .slice none 0 0, .bool false], row 4 Kd.bool v5_0 (keepM m), row 3 (Kd.int .i64) v_number number, box b21 27 [v146, v_t_1, v_t_2, v189, .bool m.empty], row 3 (Kd.int .i64) v_t_1 t_1, row 39 kSpot v146 (t_0 ++ ([at_ m.spots i3] : List Spot)), row 23 (Kd.int .i64).slice v_t_2 t_2, row 4 Kd.bool v189 (t_3 ++ ([at_ m.last i3] : List Bool)), emp, row 39 kSpot v134 ([at_ m.spots i3] : List Spot), row 4 Kd.bool v177 ([at_ m.last i3] : List Bool), row 23 (Kd.int .i64).slice v206 ([l] : List (List Int))] := T206
            refine p_v (v := v206) rfl rfl rfl (y_build_slice (pv := [(0, .slice A207 l.length c207)]) rfl r206) ?_
            obtain ⟨A211, c211, ev211, lc211, cm211⟩ := S209.row_val (j := 12) rfl
            obtain ⟨v212, w212, r212, g212, T212⟩ := e_append (kd := (Kd.int .i64).slice) (A := A211) (c := c211) (ys := ([l] : List (List Int))) (len := ([l] : List (List Int)).length) 24 S209 u24 ty23 rfl rfl (j := 7) rfl rfl (news_own S209 (j := 12) rfl ev211) (by first|omega|(simp;omega)|assumption) (by first|omega|(simp;omega)|assumption)
            have S213 : St w.heap.size w h207 w212 [box b1 27 [.slice A0_0 m.spots.length c0_0, .slice A0_1 m.first.length c0_1, .slice A0_2 m.follow.length c0_2, .slice A0_3 m.last.length c0_3, .bool m.empty], box b3 27 [.slice none 0 0, .slice none 0 0, .slice none 0 0, .slice none 0 0, .bool false], row 4 Kd.bool v5_0 (keepM m), row 3 (Kd.int .i64) v_number number, box b21 27 [v146, v_t_1, v_t_2, v189, .bool m.empty], row 3 (Kd.int .i64) v_t_1 t_1, row 39 kSpot v146 (t_0 ++ ([at_ m.spots i3] : List Spot)), row 23 (Kd.int .i64).slice v212 (t_2 ++ ([l] : List (List Int))), row 4 Kd.bool v189 (t_3 ++ ([at_ m.last i3] : List Bool)), emp, row 39 kSpot v134 ([at_ m.spots i3] : List Spot), row 4 Kd.bool v177 ([at_ m.last i3] : List Bool), row 23 (Kd.int .i64).slice v206 ([l] : List (List Int))] := T212
            refine p_v (v := v212) rfl rfl rfl (x_append rfl ev211 r212) ?_
            refine p_v (v := .pointer (some ⟨b21, 2, none⟩)) rfl rfl rfl (x_fieldAt fd27_2 ty24 rfl r102_7) ?_
            have oc215 := row_one S213 (j := 7) rfl
            obtain ⟨w214, r214, g214, T214⟩ := e_store (P := Try.prog) (off := 2) (v := v212) (vs := [v212]) S213 ty24 (row_cells S213 (j := 7) rfl) rfl (j := 4) rfl (by first | decide | exact Nat.le_of_ble_eq_true rfl) (one_cons oc215 one_nil)
            have S216 : St w.heap.size w h207 w214 [box b1 27 [.slice A0_0 m.spots.length c0_0, .slice A0_1 m.first.length c0_1, .slice A0_2 m.follow.length c0_2, .slice A0_3 m.last.length c0_3, .bool m.empty], box b3 27 [.slice none 0 0, .slice none 0 0, .slice none 0 0, .slice none 0 0, .bool false], row 4 Kd.bool v5_0 (keepM m), row 3 (Kd.int .i64) v_number number, box b21 27 [v146, v_t_1, v212, v189, .bool m.empty], row 3 (Kd.int .i64) v_t_1 t_1, row 39 kSpot v146 (t_0 ++ ([at_ m.spots i3] : List Spot)), row 23 (Kd.int .i64).slice v212 (t_2 ++ ([l] : List (List Int))), row 4 Kd.bool v189 (t_3 ++ ([at_ m.last i3] : List Bool)), emp, row 39 kSpot v134 ([at_ m.spots i3] : List Spot), row 4 Kd.bool v177 ([at_ m.last i3] : List Bool), row 23 (Kd.int .i64).slice v206 ([l] : List (List Int))] := T214
            refine p_s rfl rfl (x_store rfl rfl r214) ?_
            refine run_region_end ?_
            refine run_inBlock ?_
            refine run_reg (l := [0, 1, 2]) rfl ?_
            refine p_v (v := .int .i64 i3) rfl rfl rfl (x_move r102_9) ?_
            refine p_v (v := .int .i64 (i3 + 1)) rfl rfl rfl (x_add rfl rfl (in_i64 (by first|omega|(simp;omega)|assumption) (by first|omega|(simp;omega)|assumption))) ?_
            refine p_v (v := .int .i64 (i3 + 1)) rfl rfl rfl (x_assign rfl) ?_
            refine run_region_end ?_
            refine ih94 (t_0 ++ ([at_ m.spots i3] : List Spot), t_2 ++ ([l] : List (List Int)), t_3 ++ ([at_ m.last i3] : List Bool), i3 + 1) _ _ (by dsimp only; omega) ⟨h207, v146, v212, v189, lf207_3, S216.sub [0, 1, 2, 3, 4, 5, 6, 7, 8] (by decide) rfl _ rfl, r102_1, r102_2, r102_3, r102_4, r102_7, rfl, (in_i64 (by first|omega|(simp;omega)|assumption) (by first|omega|(simp;omega)|assumption)), (by first | exact ⟨by omega, by omega, by rw [hI94.2.2.1]; exact spotsTo_yes m hI94.1 (by assumption), by rw [hI94.2.2.2.1, hI102.2.2, List.take_of_length_le (by omega), hnum_, lefts_eq]; exact followTo_yes m hI94.1 (by assumption), by rw [hI94.2.2.2.2]; exact lastTo_yes m hI94.1 (by assumption)⟩ | exact ⟨by omega, by omega, by rw [hI94.2.2.1]; exact spotsTo_no m hI94.1 (by assumption), by rw [hI94.2.2.2.1]; exact followTo_no m hI94.1 (by assumption), by rw [hI94.2.2.2.2]; exact lastTo_no m hI94.1 (by assumption)⟩)⟩
      · skip
        refine run_exit rfl ?_
        refine run_seq ?_
        refine run_reg (l := [0, 1]) rfl ?_
        refine p_v (v := .agg #[v_t_0, v_t_1, v_t_2, v_t_3, .bool m.empty]) rfl rfl rfl (x_load (seg := [v_t_0, v_t_1, v_t_2, v_t_3, .bool m.empty]) ty27 rfl (by simp) r94_7 (CF.box (m := 5) (S94.box_at (j := 4) rfl) rfl)) ?_
        have oc218 := row_one S94 (j := 6) rfl
        have oc219 := row_one S94 (j := 5) rfl
        have oc220 := row_one S94 (j := 7) rfl
        have oc221 := row_one S94 (j := 8) rfl
        obtain ⟨w217, r217, g217, T217⟩ := e_store (P := Try.prog) (off := 0) (v := .agg #[v_t_0, v_t_1, v_t_2, v_t_3, .bool m.empty]) (vs := [v_t_0, v_t_1, v_t_2, v_t_3, .bool m.empty]) S94 ty27 rfl rfl (j := 1) rfl (by first | decide | exact Nat.le_of_ble_eq_true rfl) (one_cons oc218 (one_cons oc219 (one_cons oc220 (one_cons oc221 (one_cons rfl one_nil)))))
        have S222 : St w.heap.size w h94 w217 [box b1 27 [.slice A0_0 m.spots.length c0_0, .slice A0_1 m.first.length c0_1, .slice A0_2 m.follow.length c0_2, .slice A0_3 m.last.length c0_3, .bool m.empty], box b3 27 [v_t_0, v_t_1, v_t_2, v_t_3, .bool m.empty], row 4 Kd.bool v5_0 (keepM m), row 3 (Kd.int .i64) v_number number, box b21 27 [v_t_0, v_t_1, v_t_2, v_t_3, .bool m.empty], row 3 (Kd.int .i64) v_t_1 t_1, row 39 kSpot v_t_0 t_0, row 23 (Kd.int .i64).slice v_t_2 t_2, row 4 Kd.bool v_t_3 t_3] := T217
        refine p_s rfl rfl (x_store r94_2 rfl r217) ?_
        refine run_region_end ?_
        refine run_ret Try.func20 (res1 rfl (res_cell S222 ty27 r94_2 (j := 1) rfl rfl (by simp) rfl)) ?_
        have q0 : ((trimM m).spots : List Spot) = t_0 := by
          rw [trim_right hrt_]; first | done | rw [hI94.2.2.1, show i3 = (m.spots.length : Int) by omega] | rw [hI94.2.2.2.1, show i3 = (m.spots.length : Int) by omega] | rw [hI94.2.2.2.2, show i3 = (m.spots.length : Int) by omega] | rw [hI27.2.2, hnum_, List.take_of_length_le (by omega), lefts_eq]
        have q1 : ((trimM m).first : List Int) = t_1 := by
          rw [trim_right hrt_]; first | done | rw [hI94.2.2.1, show i3 = (m.spots.length : Int) by omega] | rw [hI94.2.2.2.1, show i3 = (m.spots.length : Int) by omega] | rw [hI94.2.2.2.2, show i3 = (m.spots.length : Int) by omega] | rw [hI27.2.2, hnum_, List.take_of_length_le (by omega), lefts_eq]
        have q2 : ((trimM m).follow : List (List Int)) = t_2 := by
          rw [trim_right hrt_]; first | done | rw [hI94.2.2.1, show i3 = (m.spots.length : Int) by omega] | rw [hI94.2.2.2.1, show i3 = (m.spots.length : Int) by omega] | rw [hI94.2.2.2.2, show i3 = (m.spots.length : Int) by omega] | rw [hI27.2.2, hnum_, List.take_of_length_le (by omega), lefts_eq]
        have q3 : ((trimM m).last : List Bool) = t_3 := by
          rw [trim_right hrt_]; first | done | rw [hI94.2.2.1, show i3 = (m.spots.length : Int) by omega] | rw [hI94.2.2.2.1, show i3 = (m.spots.length : Int) by omega] | rw [hI94.2.2.2.2, show i3 = (m.spots.length : Int) by omega] | rw [hI27.2.2, hnum_, List.take_of_length_le (by omega), lefts_eq]
        have q4 : ((trimM m).empty : Bool) = m.empty := by
          rw [trim_right hrt_]; first | done | rw [hI94.2.2.1, show i3 = (m.spots.length : Int) by omega] | rw [hI94.2.2.2.1, show i3 = (m.spots.length : Int) by omega] | rw [hI94.2.2.2.2, show i3 = (m.spots.length : Int) by omega] | rw [hI27.2.2, hnum_, List.take_of_length_le (by omega), lefts_eq]
        refine ⟨_, rfl, h94, v_t_0, v_t_1, v_t_2, v_t_3, ?_, ?_⟩
        · rw [q0]; rw [q1]; rw [q2]; rw [q3]; exact S222.sub [6, 5, 7, 8] (by decide) rfl _ rfl
        · first | rfl | (simp only [q0, q1, q2, q3, q4]; rfl) | (simp only [q0, q1, q2, q3, q4])
theorem some10_calls (w : World) :
    Calls Try.prog 16 #[] w fun e w' => ∃ v, e = .returned v ∧ ∃ (hn : Ghost) (r0 : Value) (r1 : Value) (r2 : Value) (r3 : Value), St w.heap.size w hn w' [row 39 kSpot r0 someM.spots, row 3 (Kd.int .i64) r1 someM.first, row 23 (Kd.int .i64).slice r2 someM.follow, row 4 Kd.bool r3 someM.last] ∧ v = .agg #[r0, r1, r2, r3, .bool someM.empty] := by
  refine calls_of_run Try.func16 rfl Try.ntmps16 rfl ?_
  have S0 := St.init w
  refine run_seq ?_
  refine run_reg (l := [0]) rfl ?_
  obtain ⟨b1, w1, r1, g1, T1⟩ := e_box (P := Try.prog) S0 27 (v := (.agg #[.slice none 0 0, .slice none 0 0, .slice none 0 0, .slice none 0 0, .bool false])) [.slice none 0 0, .slice none 0 0, .slice none 0 0, .slice none 0 0, .bool false] rfl
  have S2 : St w.heap.size w (fun _ => none) w1 [box b1 27 [.slice none 0 0, .slice none 0 0, .slice none 0 0, .slice none 0 0, .bool false]] := T1
  refine p_v (v := .pointer (some ⟨b1, 0, none⟩)) rfl rfl rfl (x_alloc ty27 r1) ?_
  refine run_region_end ?_
  refine run_seq ?_
  refine run_reg (l := [0, 1, 2, 3, 4, 5, 6, 7, 8, 9, 10, 11, 12, 13, 14, 15, 16, 17]) rfl ?_
  obtain ⟨v3, w3, r3, g3, T3⟩ := e_build_ones (kd := (Kd.int .u8)) (xs := ([97] : List Int)) (len := 1) [.int .u8 97] S2 u57 ty5 rfl rfl rfl rfl rfl (ones_cons rfl ones_nil) [.int .u8 97] (Elems.single (k := (Kd.int .u8)) (h := (fun _ => none)) (x := 97) (cs := [.int .u8 97]) ⟨rfl, (in_u8 (by first|omega|(simp;omega)|assumption) (by first|omega|(simp;omega)|assumption))⟩) rfl
  have S4 : St w.heap.size w (fun _ => none) w3 [box b1 27 [.slice none 0 0, .slice none 0 0, .slice none 0 0, .slice none 0 0, .bool false], row 5 (Kd.int .u8) v3 ([97] : List Int)] := T3
  refine p_v (v := v3) rfl rfl rfl (y_build_slice (pv := [(0, .int .u8 97)]) rfl r3) ?_
  obtain ⟨A5, c5, ev5, lc5, cm5⟩ := S4.row_val (j := 1) rfl
  refine p_c rfl rfl rfl (y_call (args := [.slice A5 ([97] : List Int).length c5]) ca18 rfl (cons_eq ev5 rfl)) (of_calls w3 ([97] : List Int) A5 c5 (And.intro lc5 cm5) (row_leads_eq S4 (j := 1) rfl ev5)) ?_
  rintro _ w6 ⟨h6, T6, rfl⟩
  have S7 := S4.keep (Chg.of_below T6.below)
  refine p_v (v := .agg (encSpot (⟨setOf ([97] : List Int), 0⟩ : Spot)).toArray) rfl rfl rfl (y_build (pv := [(0, .agg (encSet (setOf ([97] : List Int))).toArray)]) rfl (run_build_struct pl39 ty39 rfl (cs := (encSpot (⟨setOf ([97] : List Int), 0⟩ : Spot))) rfl)) ?_
  obtain ⟨v8, w8, r8, g8, T8⟩ := e_build_ones (kd := (Kd.int .u8)) (xs := ([98] : List Int)) (len := 1) [.int .u8 98] S7 u57 ty5 rfl rfl rfl rfl rfl (ones_cons rfl ones_nil) [.int .u8 98] (Elems.single (k := (Kd.int .u8)) (h := (fun _ => none)) (x := 98) (cs := [.int .u8 98]) ⟨rfl, (in_u8 (by first|omega|(simp;omega)|assumption) (by first|omega|(simp;omega)|assumption))⟩) rfl
  have S9 : St w.heap.size w (fun _ => none) w8 [box b1 27 [.slice none 0 0, .slice none 0 0, .slice none 0 0, .slice none 0 0, .bool false], row 5 (Kd.int .u8) v3 ([97] : List Int), row 5 (Kd.int .u8) v8 ([98] : List Int)] := T8
  refine p_v (v := v8) rfl rfl rfl (y_build_slice (pv := [(0, .int .u8 98)]) rfl r8) ?_
  obtain ⟨A10, c10, ev10, lc10, cm10⟩ := S9.row_val (j := 2) rfl
  refine p_c rfl rfl rfl (y_call (args := [.slice A10 ([98] : List Int).length c10]) ca18 rfl (cons_eq ev10 rfl)) (of_calls w8 ([98] : List Int) A10 c10 (And.intro lc10 cm10) (row_leads_eq S9 (j := 2) rfl ev10)) ?_
  rintro _ w11 ⟨h11, T11, rfl⟩
  have S12 := S9.keep (Chg.of_below T11.below)
  refine p_v (v := .agg (encSpot (⟨setOf ([98] : List Int), 0⟩ : Spot)).toArray) rfl rfl rfl (y_build (pv := [(0, .agg (encSet (setOf ([98] : List Int))).toArray)]) rfl (run_build_struct pl39 ty39 rfl (cs := (encSpot (⟨setOf ([98] : List Int), 0⟩ : Spot))) rfl)) ?_
  obtain ⟨v13, w13, r13, g13, T13⟩ := e_build_ones (kd := (Kd.int .u8)) (xs := ([99] : List Int)) (len := 1) [.int .u8 99] S12 u57 ty5 rfl rfl rfl rfl rfl (ones_cons rfl ones_nil) [.int .u8 99] (Elems.single (k := (Kd.int .u8)) (h := (fun _ => none)) (x := 99) (cs := [.int .u8 99]) ⟨rfl, (in_u8 (by first|omega|(simp;omega)|assumption) (by first|omega|(simp;omega)|assumption))⟩) rfl
  have S14 : St w.heap.size w (fun _ => none) w13 [box b1 27 [.slice none 0 0, .slice none 0 0, .slice none 0 0, .slice none 0 0, .bool false], row 5 (Kd.int .u8) v3 ([97] : List Int), row 5 (Kd.int .u8) v8 ([98] : List Int), row 5 (Kd.int .u8) v13 ([99] : List Int)] := T13
  refine p_v (v := v13) rfl rfl rfl (y_build_slice (pv := [(0, .int .u8 99)]) rfl r13) ?_
  obtain ⟨A15, c15, ev15, lc15, cm15⟩ := S14.row_val (j := 3) rfl
  refine p_c rfl rfl rfl (y_call (args := [.slice A15 ([99] : List Int).length c15]) ca18 rfl (cons_eq ev15 rfl)) (of_calls w13 ([99] : List Int) A15 c15 (And.intro lc15 cm15) (row_leads_eq S14 (j := 3) rfl ev15)) ?_
  rintro _ w16 ⟨h16, T16, rfl⟩
  have S17 := S14.keep (Chg.of_below T16.below)
  refine p_v (v := .agg (encSpot (⟨setOf ([99] : List Int), 0⟩ : Spot)).toArray) rfl rfl rfl (y_build (pv := [(0, .agg (encSet (setOf ([99] : List Int))).toArray)]) rfl (run_build_struct pl39 ty39 rfl (cs := (encSpot (⟨setOf ([99] : List Int), 0⟩ : Spot))) rfl)) ?_
  obtain ⟨v18, w18, r18, g18, T18⟩ := e_build_segs (kd := kSpot) (xs := ([(⟨setOf ([97] : List Int), 0⟩ : Spot), (⟨setOf ([98] : List Int), 0⟩ : Spot), (⟨setOf ([99] : List Int), 0⟩ : Spot)] : List Spot)) (len := 3) (m := 5) [(.agg (encSpot (⟨setOf ([97] : List Int), 0⟩ : Spot)).toArray, (encSpot (⟨setOf ([97] : List Int), 0⟩ : Spot))), (.agg (encSpot (⟨setOf ([98] : List Int), 0⟩ : Spot)).toArray, (encSpot (⟨setOf ([98] : List Int), 0⟩ : Spot))), (.agg (encSpot (⟨setOf ([99] : List Int), 0⟩ : Spot)).toArray, (encSpot (⟨setOf ([99] : List Int), 0⟩ : Spot)))] S17 u22 ty39 rfl rfl rfl rfl (segs_cons rfl rfl (segs_cons rfl rfl (segs_cons rfl rfl segs_nil))) (cs := ((encSpot (⟨setOf ([97] : List Int), 0⟩ : Spot)) ++ (encSpot (⟨setOf ([98] : List Int), 0⟩ : Spot)) ++ (encSpot (⟨setOf ([99] : List Int), 0⟩ : Spot)))) (Elems.cons (k := kSpot) (h := (fun _ => none)) (x := (⟨setOf ([97] : List Int), 0⟩ : Spot)) (cs := (encSpot (⟨setOf ([97] : List Int), 0⟩ : Spot))) ⟨rfl, (by first | assumption | (show inK .u8 _; constructor <;> decide) | (constructor <;> simp [IntKind.min, IntKind.max] <;> omega))⟩ (Elems.cons (k := kSpot) (h := (fun _ => none)) (x := (⟨setOf ([98] : List Int), 0⟩ : Spot)) (cs := (encSpot (⟨setOf ([98] : List Int), 0⟩ : Spot))) ⟨rfl, (by first | assumption | (show inK .u8 _; constructor <;> decide) | (constructor <;> simp [IntKind.min, IntKind.max] <;> omega))⟩ (Elems.single (k := kSpot) (h := (fun _ => none)) (x := (⟨setOf ([99] : List Int), 0⟩ : Spot)) (cs := (encSpot (⟨setOf ([99] : List Int), 0⟩ : Spot))) ⟨rfl, (by first | assumption | (show inK .u8 _; constructor <;> decide) | (constructor <;> simp [IntKind.min, IntKind.max] <;> omega))⟩))) (by simp)
  have S19 : St w.heap.size w (fun _ => none) w18 [box b1 27 [.slice none 0 0, .slice none 0 0, .slice none 0 0, .slice none 0 0, .bool false], row 5 (Kd.int .u8) v3 ([97] : List Int), row 5 (Kd.int .u8) v8 ([98] : List Int), row 5 (Kd.int .u8) v13 ([99] : List Int), row 39 kSpot v18 ([(⟨setOf ([97] : List Int), 0⟩ : Spot), (⟨setOf ([98] : List Int), 0⟩ : Spot), (⟨setOf ([99] : List Int), 0⟩ : Spot)] : List Spot)] := T18
  refine p_v (v := v18) rfl rfl rfl (y_build_slice (pv := [(0, .agg (encSpot (⟨setOf ([97] : List Int), 0⟩ : Spot)).toArray), (1, .agg (encSpot (⟨setOf ([98] : List Int), 0⟩ : Spot)).toArray), (2, .agg (encSpot (⟨setOf ([99] : List Int), 0⟩ : Spot)).toArray)]) rfl r18) ?_
  obtain ⟨v20, w20, r20, g20, T20⟩ := e_build_ones (kd := (Kd.int .i64)) (xs := ([0] : List Int)) (len := 1) [.int .i64 0] S19 u23 ty3 rfl rfl rfl rfl rfl (ones_cons rfl ones_nil) [.int .i64 0] (Elems.single (k := (Kd.int .i64)) (h := (fun _ => none)) (x := 0) (cs := [.int .i64 0]) ⟨rfl, (in_i64 (by first|omega|(simp;omega)|assumption) (by first|omega|(simp;omega)|assumption))⟩) rfl
  have S21 : St w.heap.size w (fun _ => none) w20 [box b1 27 [.slice none 0 0, .slice none 0 0, .slice none 0 0, .slice none 0 0, .bool false], row 5 (Kd.int .u8) v3 ([97] : List Int), row 5 (Kd.int .u8) v8 ([98] : List Int), row 5 (Kd.int .u8) v13 ([99] : List Int), row 39 kSpot v18 ([(⟨setOf ([97] : List Int), 0⟩ : Spot), (⟨setOf ([98] : List Int), 0⟩ : Spot), (⟨setOf ([99] : List Int), 0⟩ : Spot)] : List Spot), row 3 (Kd.int .i64) v20 ([0] : List Int)] := T20
  refine p_v (v := v20) rfl rfl rfl (y_build_slice (pv := [(0, .int .i64 0)]) rfl r20) ?_
  obtain ⟨v22, w22, r22, g22, T22⟩ := e_build_ones (kd := (Kd.int .i64)) (xs := ([1, 2] : List Int)) (len := 2) [.int .i64 1, .int .i64 2] S21 u23 ty3 rfl rfl rfl rfl rfl (ones_cons rfl (ones_cons rfl ones_nil)) ([.int .i64 1] ++ [.int .i64 2]) (Elems.cons (k := (Kd.int .i64)) (h := (fun _ => none)) (x := 1) (cs := [.int .i64 1]) ⟨rfl, (in_i64 (by first|omega|(simp;omega)|assumption) (by first|omega|(simp;omega)|assumption))⟩ (Elems.single (k := (Kd.int .i64)) (h := (fun _ => none)) (x := 2) (cs := [.int .i64 2]) ⟨rfl, (in_i64 (by first|omega|(simp;omega)|assumption) (by first|omega|(simp;omega)|assumption))⟩)) rfl
  have S23 : St w.heap.size w (fun _ => none) w22 [box b1 27 [.slice none 0 0, .slice none 0 0, .slice none 0 0, .slice none 0 0, .bool false], row 5 (Kd.int .u8) v3 ([97] : List Int), row 5 (Kd.int .u8) v8 ([98] : List Int), row 5 (Kd.int .u8) v13 ([99] : List Int), row 39 kSpot v18 ([(⟨setOf ([97] : List Int), 0⟩ : Spot), (⟨setOf ([98] : List Int), 0⟩ : Spot), (⟨setOf ([99] : List Int), 0⟩ : Spot)] : List Spot), row 3 (Kd.int .i64) v20 ([0] : List Int), row 3 (Kd.int .i64) v22 ([1, 2] : List Int)] := T22
  refine p_v (v := v22) rfl rfl rfl (y_build_slice (pv := [(0, .int .i64 1), (1, .int .i64 2)]) rfl r22) ?_
  obtain ⟨v24, w24, r24, g24, T24⟩ := e_build_ones (kd := (Kd.int .i64)) (xs := ([] : List Int)) (len := 0) [] S23 u23 ty3 rfl rfl rfl rfl rfl ones_nil [] (Elems.nil _ _) rfl
  have S25 : St w.heap.size w (fun _ => none) w24 [box b1 27 [.slice none 0 0, .slice none 0 0, .slice none 0 0, .slice none 0 0, .bool false], row 5 (Kd.int .u8) v3 ([97] : List Int), row 5 (Kd.int .u8) v8 ([98] : List Int), row 5 (Kd.int .u8) v13 ([99] : List Int), row 39 kSpot v18 ([(⟨setOf ([97] : List Int), 0⟩ : Spot), (⟨setOf ([98] : List Int), 0⟩ : Spot), (⟨setOf ([99] : List Int), 0⟩ : Spot)] : List Spot), row 3 (Kd.int .i64) v20 ([0] : List Int), row 3 (Kd.int .i64) v22 ([1, 2] : List Int), row 3 (Kd.int .i64) v24 ([] : List Int)] := T24
  refine p_v (v := v24) rfl rfl rfl (y_build_slice (pv := []) rfl r24) ?_
  obtain ⟨v26, w26, r26, g26, T26⟩ := e_build_ones (kd := (Kd.int .i64)) (xs := ([] : List Int)) (len := 0) [] S25 u23 ty3 rfl rfl rfl rfl rfl ones_nil [] (Elems.nil _ _) rfl
  have S27 : St w.heap.size w (fun _ => none) w26 [box b1 27 [.slice none 0 0, .slice none 0 0, .slice none 0 0, .slice none 0 0, .bool false], row 5 (Kd.int .u8) v3 ([97] : List Int), row 5 (Kd.int .u8) v8 ([98] : List Int), row 5 (Kd.int .u8) v13 ([99] : List Int), row 39 kSpot v18 ([(⟨setOf ([97] : List Int), 0⟩ : Spot), (⟨setOf ([98] : List Int), 0⟩ : Spot), (⟨setOf ([99] : List Int), 0⟩ : Spot)] : List Spot), row 3 (Kd.int .i64) v20 ([0] : List Int), row 3 (Kd.int .i64) v22 ([1, 2] : List Int), row 3 (Kd.int .i64) v24 ([] : List Int), row 3 (Kd.int .i64) v26 ([] : List Int)] := T26
  refine p_v (v := v26) rfl rfl rfl (y_build_slice (pv := []) rfl r26) ?_
  obtain ⟨h29, le29, T29, rp29⟩ := S27.freeze (i := 6) rfl
  have S30 : St w.heap.size w h29 w26 [box b1 27 [.slice none 0 0, .slice none 0 0, .slice none 0 0, .slice none 0 0, .bool false], row 5 (Kd.int .u8) v3 ([97] : List Int), row 5 (Kd.int .u8) v8 ([98] : List Int), row 5 (Kd.int .u8) v13 ([99] : List Int), row 39 kSpot v18 ([(⟨setOf ([97] : List Int), 0⟩ : Spot), (⟨setOf ([98] : List Int), 0⟩ : Spot), (⟨setOf ([99] : List Int), 0⟩ : Spot)] : List Spot), row 3 (Kd.int .i64) v20 ([0] : List Int), emp, row 3 (Kd.int .i64) v24 ([] : List Int), row 3 (Kd.int .i64) v26 ([] : List Int)] := T29
  obtain ⟨A29, c29, e29, lc29, cm29, ld29⟩ := rp29
  injection e29 with e29 _; subst e29
  have cn29 := cm29; simp only [maxLen] at cn29
  obtain ⟨h31, le31, T31, rp31⟩ := S30.freeze (i := 7) rfl
  have lf31_0 := (le29).trans le31
  have S32 : St w.heap.size w h31 w26 [box b1 27 [.slice none 0 0, .slice none 0 0, .slice none 0 0, .slice none 0 0, .bool false], row 5 (Kd.int .u8) v3 ([97] : List Int), row 5 (Kd.int .u8) v8 ([98] : List Int), row 5 (Kd.int .u8) v13 ([99] : List Int), row 39 kSpot v18 ([(⟨setOf ([97] : List Int), 0⟩ : Spot), (⟨setOf ([98] : List Int), 0⟩ : Spot), (⟨setOf ([99] : List Int), 0⟩ : Spot)] : List Spot), row 3 (Kd.int .i64) v20 ([0] : List Int), emp, emp, row 3 (Kd.int .i64) v26 ([] : List Int)] := T31
  obtain ⟨A31, c31, e31, lc31, cm31, ld31⟩ := rp31
  injection e31 with e31 _; subst e31
  have cn31 := cm31; simp only [maxLen] at cn31
  obtain ⟨h33, le33, T33, rp33⟩ := S32.freeze (i := 8) rfl
  have lf33_0 := (lf31_0).trans le33
  have lf33_1 := (le31).trans le33
  have S34 : St w.heap.size w h33 w26 [box b1 27 [.slice none 0 0, .slice none 0 0, .slice none 0 0, .slice none 0 0, .bool false], row 5 (Kd.int .u8) v3 ([97] : List Int), row 5 (Kd.int .u8) v8 ([98] : List Int), row 5 (Kd.int .u8) v13 ([99] : List Int), row 39 kSpot v18 ([(⟨setOf ([97] : List Int), 0⟩ : Spot), (⟨setOf ([98] : List Int), 0⟩ : Spot), (⟨setOf ([99] : List Int), 0⟩ : Spot)] : List Spot), row 3 (Kd.int .i64) v20 ([0] : List Int), emp, emp, emp] := T33
  obtain ⟨A33, c33, e33, lc33, cm33, ld33⟩ := rp33
  injection e33 with e33 _; subst e33
  have cn33 := cm33; simp only [maxLen] at cn33
  obtain ⟨v28, w28, r28, g28, T28⟩ := e_build_ones (kd := (Kd.int .i64).slice) (xs := ([([1, 2] : List Int), ([] : List Int), ([] : List Int)] : List (List Int))) (len := 3) [.slice A29 ([1, 2] : List Int).length c29, .slice A31 ([] : List Int).length c31, .slice A33 ([] : List Int).length c33] S34 u24 ty23 rfl rfl rfl rfl rfl (ones_cons rfl (ones_cons rfl (ones_cons rfl ones_nil))) ([.slice A29 ([1, 2] : List Int).length c29] ++ [.slice A31 ([] : List Int).length c31] ++ [.slice A33 ([] : List Int).length c33]) (Elems.cons (k := (Kd.int .i64).slice) (h := h33) (x := ([1, 2] : List Int)) (cs := [.slice A29 ([1, 2] : List Int).length c29]) ⟨_, _, rfl, (And.intro lc29 cm29).1, (And.intro lc29 cm29).2, ld29.mono lf33_1⟩ (Elems.cons (k := (Kd.int .i64).slice) (h := h33) (x := ([] : List Int)) (cs := [.slice A31 ([] : List Int).length c31]) ⟨_, _, rfl, (And.intro lc31 cm31).1, (And.intro lc31 cm31).2, ld31.mono le33⟩ (Elems.single (k := (Kd.int .i64).slice) (h := h33) (x := ([] : List Int)) (cs := [.slice A33 ([] : List Int).length c33]) ⟨_, _, rfl, (And.intro lc33 cm33).1, (And.intro lc33 cm33).2, ld33.mono (Le.refl _)⟩))) rfl
  have S35 : St w.heap.size w h33 w28 [box b1 27 [.slice none 0 0, .slice none 0 0, .slice none 0 0, .slice none 0 0, .bool false], row 5 (Kd.int .u8) v3 ([97] : List Int), row 5 (Kd.int .u8) v8 ([98] : List Int), row 5 (Kd.int .u8) v13 ([99] : List Int), row 39 kSpot v18 ([(⟨setOf ([97] : List Int), 0⟩ : Spot), (⟨setOf ([98] : List Int), 0⟩ : Spot), (⟨setOf ([99] : List Int), 0⟩ : Spot)] : List Spot), row 3 (Kd.int .i64) v20 ([0] : List Int), emp, emp, emp, row 23 (Kd.int .i64).slice v28 ([([1, 2] : List Int), ([] : List Int), ([] : List Int)] : List (List Int))] := T28
  refine p_v (v := v28) rfl rfl rfl (y_build_slice (pv := [(0, .slice A29 ([1, 2] : List Int).length c29), (1, .slice A31 ([] : List Int).length c31), (2, .slice A33 ([] : List Int).length c33)]) rfl r28) ?_
  obtain ⟨v36, w36, r36, g36, T36⟩ := e_build_ones (kd := Kd.bool) (xs := ([false, true, false] : List Bool)) (len := 3) [.bool false, .bool true, .bool false] S35 u25 ty4 rfl rfl rfl rfl rfl (ones_cons rfl (ones_cons rfl (ones_cons rfl ones_nil))) ([.bool false] ++ [.bool true] ++ [.bool false]) (Elems.cons (k := Kd.bool) (h := h33) (x := false) (cs := [.bool false]) ⟨rfl, trivial⟩ (Elems.cons (k := Kd.bool) (h := h33) (x := true) (cs := [.bool true]) ⟨rfl, trivial⟩ (Elems.single (k := Kd.bool) (h := h33) (x := false) (cs := [.bool false]) ⟨rfl, trivial⟩))) rfl
  have S37 : St w.heap.size w h33 w36 [box b1 27 [.slice none 0 0, .slice none 0 0, .slice none 0 0, .slice none 0 0, .bool false], row 5 (Kd.int .u8) v3 ([97] : List Int), row 5 (Kd.int .u8) v8 ([98] : List Int), row 5 (Kd.int .u8) v13 ([99] : List Int), row 39 kSpot v18 ([(⟨setOf ([97] : List Int), 0⟩ : Spot), (⟨setOf ([98] : List Int), 0⟩ : Spot), (⟨setOf ([99] : List Int), 0⟩ : Spot)] : List Spot), row 3 (Kd.int .i64) v20 ([0] : List Int), emp, emp, emp, row 23 (Kd.int .i64).slice v28 ([([1, 2] : List Int), ([] : List Int), ([] : List Int)] : List (List Int)), row 4 Kd.bool v36 ([false, true, false] : List Bool)] := T36
  refine p_v (v := v36) rfl rfl rfl (y_build_slice (pv := [(0, .bool false), (1, .bool true), (2, .bool false)]) rfl r36) ?_
  refine p_v (v := .agg #[v18, v20, v28, v36, .bool true]) rfl rfl rfl (y_build (pv := [(0, v18), (1, v20), (2, v28), (3, v36), (4, .bool true)]) rfl (run_build_struct pl27 ty27 rfl (cs := [v18, v20, v28, v36, .bool true]) (fill_any (vc := [v18]) rfl (row_cells S37 (j := 4) rfl) rfl rfl (fill_any (vc := [v20]) rfl (row_cells S37 (j := 5) rfl) rfl rfl (fill_any (vc := [v28]) rfl (row_cells S37 (j := 9) rfl) rfl rfl (fill_any (vc := [v36]) rfl (row_cells S37 (j := 10) rfl) rfl rfl (fill_any (vc := [.bool true]) rfl rfl rfl rfl (fill_end rfl)))))))) ?_
  have oc39 := row_one S37 (j := 4) rfl
  have oc40 := row_one S37 (j := 5) rfl
  have oc41 := row_one S37 (j := 9) rfl
  have oc42 := row_one S37 (j := 10) rfl
  obtain ⟨w38, r38, g38, T38⟩ := e_store (P := Try.prog) (off := 0) (v := .agg #[v18, v20, v28, v36, .bool true]) (vs := [v18, v20, v28, v36, .bool true]) S37 ty27 rfl rfl (j := 0) rfl (by first | decide | exact Nat.le_of_ble_eq_true rfl) (one_cons oc39 (one_cons oc40 (one_cons oc41 (one_cons oc42 (one_cons rfl one_nil)))))
  have S43 : St w.heap.size w h33 w38 [box b1 27 [v18, v20, v28, v36, .bool true], row 5 (Kd.int .u8) v3 ([97] : List Int), row 5 (Kd.int .u8) v8 ([98] : List Int), row 5 (Kd.int .u8) v13 ([99] : List Int), row 39 kSpot v18 ([(⟨setOf ([97] : List Int), 0⟩ : Spot), (⟨setOf ([98] : List Int), 0⟩ : Spot), (⟨setOf ([99] : List Int), 0⟩ : Spot)] : List Spot), row 3 (Kd.int .i64) v20 ([0] : List Int), emp, emp, emp, row 23 (Kd.int .i64).slice v28 ([([1, 2] : List Int), ([] : List Int), ([] : List Int)] : List (List Int)), row 4 Kd.bool v36 ([false, true, false] : List Bool)] := T38
  refine p_s rfl rfl (x_store rfl rfl r38) ?_
  refine run_region_end ?_
  refine run_ret Try.func16 (res1 rfl (res_cell S43 ty27 rfl (j := 0) rfl rfl (by simp) rfl)) ?_
  have q0 : (someM.spots : List Spot) = ([(⟨setOf ([97] : List Int), 0⟩ : Spot), (⟨setOf ([98] : List Int), 0⟩ : Spot), (⟨setOf ([99] : List Int), 0⟩ : Spot)] : List Spot) := by
    rfl
  have q1 : (someM.first : List Int) = ([0] : List Int) := by
    rfl
  have q2 : (someM.follow : List (List Int)) = ([([1, 2] : List Int), ([] : List Int), ([] : List Int)] : List (List Int)) := by
    rfl
  have q3 : (someM.last : List Bool) = ([false, true, false] : List Bool) := by
    rfl
  have q4 : (someM.empty : Bool) = true := by
    rfl
  refine ⟨_, rfl, h33, v18, v20, v28, v36, ?_, ?_⟩
  · rw [q0]; rw [q1]; rw [q2]; rw [q3]; exact S43.sub [4, 5, 9, 10] (by decide) rfl _ rfl
  · first | rfl | (simp only [q0, q1, q2, q3, q4]; rfl) | (simp only [q0, q1, q2, q3, q4])
end Go.Proofs.Ytlcmimjdnhjeoaa
