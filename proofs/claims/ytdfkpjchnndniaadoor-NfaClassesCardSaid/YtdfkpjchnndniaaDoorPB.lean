/- Functions of this translation, each walked once; no conditions but those that each contract tells. -/
import Derived.Test.YtdfkpjchnndniaaDoorTB
import Derived.Test.YtdfkpjchnndniaaDoorM6
import Derived.Test.YtdfkpjchnndniaaDoorM7
import Derived.Test.YtdfkpjchnndniaaDoorQB
import Derived.Test.YtdfkpjchnndniaaDoorTzB
import Derived.Test.YtdfkpjchnndniaaDoorN2
import Derived.Test.YtdfkpjchnndniaaDoorK1B
import Derived.Test.YtdfkpjchnndniaaDoorN3
import Derived.Test.YtdfkpjchnndniaaDoorM11
import Derived.Test.YtdfkpjchnndniaaDoorN5
import Derived.Test.YtdfkpjchnndniaaDoorNB
namespace Go.Proofs.YtdfkpjchnndniaaDoor
open Go Go.RowKit Gx
set_option maxHeartbeats 1000000
set_option linter.unusedVariables false
set_option linter.unusedSimpArgs false
attribute [local irreducible] members pack listOf count first someIn has setOf setRange wbits Lib.ctz rises rightM rowOk tab markP intoP intoTo behindP behindTo behindIn runTo endsIn endTo runM posTo mayP stepIf stepP mayTo atP lastTo greatM greatTo docAt anyTo allTo numAt numsL numsIn leftN kept lefts spotsTo lastTp followTo trimM errM comeM goesM keepM lfp seekN seekB fullS

theorem cloneI_calls (w : World) (s : List Int) (A0 : Option Addr) (c0 : Nat) (b0 : s.length ≤ c0 ∧ c0 ≤ maxLen) (l0 : Leads (Kd.int .i64) (hp w) A0 s) (pre0 : s.length ≤ 1000000) :
    Calls Tryd.prog 40 #[.slice A0 s.length c0] w fun e w' => ∃ v, e = .returned v ∧ ∃ (hn : Ghost) (r0 : Value), St w.heap.size w hn w' [row 3 (Kd.int .i64) r0 s] ∧ v = r0 := by
  refine calls_of_run Tryd.func40 rfl Tryd.ntmps40 rfl ?_
  have S0 := St.init w
  have bb0 := b0.1; have bc0 := b0.2; simp only [maxLen] at bc0
  refine run_seq ?_
  refine run_reg (l := [0]) rfl ?_
  refine p_v (v := .slice none 0 0) rfl rfl rfl (x_assign rfl) ?_
  refine run_region_end ?_
  refine run_seq ?_
  refine run_seq ?_
  refine run_reg (l := [0, 1]) rfl ?_
  refine p_v (v := .slice A0 s.length c0) rfl rfl rfl (x_move rfl) ?_
  refine p_v (v := .bool A0.isNone) rfl rfl rfl (x_eql_nil u23 rfl rfl) ?_
  refine run_region_end ?_
  refine run_cond_split (b := A0.isNone) rfl (fun hc1 => ?_) (fun hc1 => ?_)
  · skip
    have hnil := leads_isNone l0 hc1
    refine run_seq ?_
    refine run_reg (l := [0]) rfl ?_
    refine p_v (v := .slice none 0 0) rfl rfl rfl (x_assign rfl) ?_
    refine run_region_end ?_
    have T2 := S0.row_nil 3 (Kd.int .i64)
    have S3 : St w.heap.size w (fun _ => none) w [row 3 (Kd.int .i64) (.slice none 0 0) ([] : List Int)] := T2
    refine run_ret Tryd.func40 (res1 rfl (res_tmp (v := .slice none 0 0) rfl)) ?_
    have q0 : (s : List Int) = ([] : List Int) := by
      exact hnil
    refine ⟨_, rfl, (fun _ => none), (.slice none 0 0), ?_, ?_⟩
    · rw [q0]; exact S3.sub [0] (by decide) rfl _ rfl
    · first | rfl | (simp only [q0]; rfl) | (simp only [q0])
  · skip
    refine run_skip ?_
    refine run_seq ?_
    refine run_reg (l := [0, 1, 2, 3]) rfl ?_
    obtain ⟨v4, w4, r4, g4, T4⟩ := e_build_ones (kd := (Kd.int .i64)) (xs := ([] : List Int)) (len := 0) [] S0 u23 ty3 rfl rfl rfl rfl rfl ones_nil [] (Elems.nil _ _) rfl
    have S5 : St w.heap.size w (fun _ => none) w4 [row 3 (Kd.int .i64) v4 ([] : List Int)] := T4
    refine p_v (v := v4) rfl rfl rfl (y_build_slice (pv := []) rfl r4) ?_
    refine p_v (v := .slice A0 s.length c0) rfl rfl rfl (x_move rfl) ?_
    obtain ⟨v7, w7, r7, g7, T7⟩ := e_append (kd := (Kd.int .i64)) (A := A0) (c := c0) (ys := s) (len := s.length) 23 S5 u23 ty3 rfl rfl (j := 0) rfl rfl (news_flat (l0.mono (St.le0 S5)) (fun _ _ hr => hr)) (by first|omega|(simp;omega)|assumption) (by first|omega|(simp;omega)|assumption)
    have S8 : St w.heap.size w (fun _ => none) w7 [row 3 (Kd.int .i64) v7 (([] : List Int) ++ s)] := T7
    refine p_v (v := v7) rfl rfl rfl (x_append rfl rfl r7) ?_
    refine p_v (v := v7) rfl rfl rfl (x_assign rfl) ?_
    refine run_region_end ?_
    refine run_ret Tryd.func40 (res1 rfl (res_tmp (v := v7) rfl)) ?_
    have q0 : (s : List Int) = ([] : List Int) ++ s := by
      rfl
    refine ⟨_, rfl, (fun _ => none), v7, ?_, ?_⟩
    · rw [q0]; exact S8.sub [0] (by decide) rfl _ rfl
    · first | rfl | (simp only [q0]; rfl) | (simp only [q0])
theorem some_calls (w : World) (s : Spot) (o0 : okSpot s) :
    Calls Tryd.prog 41 #[.agg (encSpot s).toArray] w fun e w' => ∃ v, e = .returned v ∧ ∃ (hn : Ghost), St w.heap.size w hn w' [] ∧ v = .bool (decide (s.set ≠ 0)) := by
  refine calls_of_run Tryd.func41 rfl Tryd.ntmps41 rfl ?_
  have S0 := St.init w
  have sloo0 := u8_lo o0; have shio0 := u8_hi o0
  refine run_seq ?_
  refine run_reg (l := [0, 1]) rfl ?_
  obtain ⟨b1, w1, r1, g1, T1⟩ := e_box (P := Tryd.prog) S0 55 (v := .agg (encSpot s).toArray) (encSpot s) rfl
  have S2 : St w.heap.size w (fun _ => none) w1 [box b1 55 (encSpot s)] := T1
  refine p_v (v := .pointer (some ⟨b1, 0, none⟩)) rfl rfl rfl (x_box rfl r1) ?_
  refine p_v (v := .bool false) rfl rfl rfl (x_assign rfl) ?_
  refine run_region_end ?_
  refine run_seq ?_
  refine run_reg (l := [0, 1, 2, 3, 4]) rfl ?_
  refine p_v (v := .pointer (some ⟨b1, 0, none⟩)) rfl rfl rfl (x_fieldAt fd55_0 ty49 rfl rfl) ?_
  refine p_v (v := .agg (encSet s.set).toArray) rfl rfl rfl (x_load (seg := (encSet s.set)) ty49 rfl (by simp) rfl (CF.box (m := 4) (S2.box_at (j := 0) rfl) rfl)) ?_
  refine p_c rfl rfl rfl (y_call (args := [.agg (encSet s.set).toArray]) ca43 rfl rfl) (count_calls w1 s.set) ?_
  rintro _ w3 ⟨h3, T3, rfl, in3_0⟩
  have S4 := S2.keep (Chg.of_below T3.below)
  have lo_in3_0 := i64_lo in3_0; have hi_in3_0 := i64_hi in3_0
  have cl3 := count_le s.set
  refine p_v (v := .bool (decide (0 < (count s.set)))) rfl rfl rfl (x_gtr rfl rfl) ?_
  refine p_v (v := .bool (decide (0 < (count s.set)))) rfl rfl rfl (x_assign rfl) ?_
  refine run_region_end ?_
  refine run_ret Tryd.func41 (res1 rfl (res_tmp (v := .bool (decide (0 < (count s.set)))) rfl)) ?_
  have q0 : (decide (s.set ≠ 0) : Bool) = decide (0 < (count s.set)) := by
    exact (some_full _).symm
  refine ⟨_, rfl, (fun _ => none), ?_, ?_⟩
  · exact S4.sub [] (by decide) rfl _ rfl
  · first | rfl | (simp only [q0]; rfl) | (simp only [q0])
theorem reached_calls (w : World) (m : Mach) (A0_0 : Option Addr) (c0_0 : Nat) (b0_0 : m.spots.length ≤ c0_0 ∧ c0_0 ≤ maxLen) (l0_0 : Leads kSpot (hp w) A0_0 m.spots) (A0_1 : Option Addr) (c0_1 : Nat) (b0_1 : m.first.length ≤ c0_1 ∧ c0_1 ≤ maxLen) (l0_1 : Leads (Kd.int .i64) (hp w) A0_1 m.first) (A0_2 : Option Addr) (c0_2 : Nat) (b0_2 : m.follow.length ≤ c0_2 ∧ c0_2 ≤ maxLen) (l0_2 : Leads (Kd.int .i64).slice (hp w) A0_2 m.follow) (A0_3 : Option Addr) (c0_3 : Nat) (b0_3 : m.last.length ≤ c0_3 ∧ c0_3 ≤ maxLen) (l0_3 : Leads Kd.bool (hp w) A0_3 m.last) (pre0 : Right m) :
    Calls Tryd.prog 34 #[.agg #[.slice A0_0 m.spots.length c0_0, .slice A0_1 m.first.length c0_1, .slice A0_2 m.follow.length c0_2, .slice A0_3 m.last.length c0_3, .bool m.empty]] w fun e w' => ∃ v, e = .returned v ∧ ∃ (hn : Ghost) (r0 : Value), St w.heap.size w hn w' [row 4 Kd.bool r0 (comeM m)] ∧ v = r0 := by
  refine calls_of_run Tryd.func34 rfl Tryd.ntmps34 rfl ?_
  have S0 := St.init w
  have bb0_0 := b0_0.1; have bc0_0 := b0_0.2; simp only [maxLen] at bc0_0
  have bb0_1 := b0_1.1; have bc0_1 := b0_1.2; simp only [maxLen] at bc0_1
  have bb0_2 := b0_2.1; have bc0_2 := b0_2.2; simp only [maxLen] at bc0_2
  have bb0_3 := b0_3.1; have bc0_3 := b0_3.2; simp only [maxLen] at bc0_3
  have hsm_ := pre0.small; have hfo_ := pre0.follow; have hla_ := pre0.last; have hfi_ := pre0.small'.first
  refine run_seq ?_
  refine run_reg (l := [0, 1]) rfl ?_
  obtain ⟨b1, w1, r1, g1, T1⟩ := e_box (P := Tryd.prog) S0 27 (v := .agg #[.slice A0_0 m.spots.length c0_0, .slice A0_1 m.first.length c0_1, .slice A0_2 m.follow.length c0_2, .slice A0_3 m.last.length c0_3, .bool m.empty]) [.slice A0_0 m.spots.length c0_0, .slice A0_1 m.first.length c0_1, .slice A0_2 m.follow.length c0_2, .slice A0_3 m.last.length c0_3, .bool m.empty] rfl
  have S2 : St w.heap.size w (fun _ => none) w1 [box b1 27 [.slice A0_0 m.spots.length c0_0, .slice A0_1 m.first.length c0_1, .slice A0_2 m.follow.length c0_2, .slice A0_3 m.last.length c0_3, .bool m.empty]] := T1
  refine p_v (v := .pointer (some ⟨b1, 0, none⟩)) rfl rfl rfl (x_box rfl r1) ?_
  refine p_v (v := .slice none 0 0) rfl rfl rfl (x_assign rfl) ?_
  refine run_region_end ?_
  refine run_seq ?_
  refine run_reg (l := [0, 1, 2, 3, 4]) rfl ?_
  refine p_v (v := .pointer (some ⟨b1, 0, none⟩)) rfl rfl rfl (x_fieldAt fd27_0 ty22 rfl rfl) ?_
  refine p_v (v := .slice A0_0 m.spots.length c0_0) rfl rfl rfl (x_load (seg := [.slice A0_0 m.spots.length c0_0]) ty22 rfl (by simp) rfl (CF.box (m := 1) (S2.box_at (j := 0) rfl) rfl)) ?_
  refine p_v (v := .int .i64 (m.spots.length : Int)) rfl rfl rfl (x_len_slice u22 rfl) ?_
  obtain ⟨v3, w3, r3, g3, T3⟩ := e_make (kk := .i64) (kk' := .i64) (kd := Kd.bool) (q := (m.spots.length : Int)) (z := false) (zc := [.bool false]) S2 u25 ty4 rfl rfl ⟨rfl, trivial⟩ (by first|omega|(simp;omega)|assumption) (by first|omega|(simp;omega)|assumption) (by first|omega|(simp;omega)|assumption)
  have S4 : St w.heap.size w (fun _ => none) w3 [box b1 27 [.slice A0_0 m.spots.length c0_0, .slice A0_1 m.first.length c0_1, .slice A0_2 m.follow.length c0_2, .slice A0_3 m.last.length c0_3, .bool m.empty], row 4 Kd.bool v3 (List.replicate ((m.spots.length : Int)).toNat false)] := T3
  refine p_v (v := v3) rfl rfl rfl (x_make rfl rfl r3) ?_
  refine p_v (v := v3) rfl rfl rfl (x_assign rfl) ?_
  refine run_region_end ?_
  refine run_seq ?_
  refine run_reg (l := [0, 1, 2, 3]) rfl ?_
  refine p_v (v := .pointer (some ⟨b1, 1, none⟩)) rfl rfl rfl (x_fieldAt fd27_1 ty23 rfl rfl) ?_
  refine p_v (v := .slice A0_1 m.first.length c0_1) rfl rfl rfl (x_load (seg := [.slice A0_1 m.first.length c0_1]) ty23 rfl (by simp) rfl (CF.box (m := 1) (S4.box_at (j := 0) rfl) rfl)) ?_
  refine p_c rfl rfl rfl (y_call (args := [.slice A0_1 m.first.length c0_1]) ca40 rfl rfl) (cloneI_calls w3 m.first A0_1 c0_1 b0_1 (l0_1.mono (St.le0 S4)) (by omega)) ?_
  rintro v5_0 w5 ⟨h5, _, T5, rfl⟩
  obtain ⟨k5, lk5, ll5, U5⟩ := call_joins S4 T5
  have S6 : St w.heap.size w k5 w5 [box b1 27 [.slice A0_0 m.spots.length c0_0, .slice A0_1 m.first.length c0_1, .slice A0_2 m.follow.length c0_2, .slice A0_3 m.last.length c0_3, .bool m.empty], row 4 Kd.bool v3 (List.replicate ((m.spots.length : Int)).toNat false), row 3 (Kd.int .i64) v5_0 m.first] := U5
  refine p_v (v := v5_0) rfl rfl rfl (x_assign rfl) ?_
  refine run_region_end ?_
  refine run_seq ?_
  refine run_block ?_
  refine run_loop (S := (List Bool) × (List Int)) (fun (q_ : (List Bool) × (List Int)) ρ w' => match q_ with | (out, todo) => ∃ (h : Ghost) (v_out : Value) (v_todo : Value), Le k5 h ∧ St w.heap.size w h w' [box b1 27 [.slice A0_0 m.spots.length c0_0, .slice A0_1 m.first.length c0_1, .slice A0_2 m.follow.length c0_2, .slice A0_3 m.last.length c0_3, .bool m.empty], row 4 Kd.bool v_out out, row 3 (Kd.int .i64) v_todo todo] ∧ ρ 1 = .pointer (some ⟨b1, 0, none⟩) ∧ ρ 3 = v_out ∧ ρ 4 = v_todo ∧ (Seek m out todo ∧ seekB m out todo)) (fun q_ => match q_ with | (out, todo) => seekN m out todo) (List.replicate ((m.spots.length : Int)).toNat false, m.first) ⟨k5, v3, v5_0, Le.refl _, S6.sub [0, 1, 2] (by decide) rfl _ rfl, rfl, rfl, rfl, (by exact ⟨seek_0 pre0, seek_b0 pre0⟩)⟩ ?_
  rintro ⟨out, todo⟩ ih7 ρ7 w7 ⟨h7, v_out, v_todo, le7, S7, r7_1, r7_3, r7_4, hI7⟩
  have rl7_1 := S7.row_le (j := 1) rfl; simp only [maxLen] at rl7_1
  have rl7_2 := S7.row_le (j := 2) rfl; simp only [maxLen] at rl7_2
  have hi_ := seek_in hI7.1; have hb_ := seek_b pre0 hI7.2; have hol_ := hI7.1.len
  have hr_ : 0 < (todo.length : Int) → ((at_ m.follow (at_ todo ((todo.length : Int) - 1))).length : Int) ≤ 250 := fun h => pre0.small'.row _ (hi_ h).1 (by rw [pre0.follow]; exact (hi_ h).2)
  refine run_seq ?_
  refine run_seq ?_
  refine run_reg (l := [0, 1, 2]) rfl ?_
  refine p_v (v := v_todo) rfl rfl rfl (x_move r7_4) ?_
  have lb8 := S7.row_le (j := 2) rfl; simp only [maxLen] at lb8
  refine p_v (v := .int .i64 (todo.length : Int)) rfl rfl rfl (x_len_own u23 rfl (e_len_own S7 (j := 2) rfl)) ?_
  refine p_v (v := .bool (decide (0 < (todo.length : Int)))) rfl rfl rfl (x_gtr rfl rfl) ?_
  refine run_region_end ?_
  refine run_cond_prop (p := 0 < (todo.length : Int)) rfl (fun hc9 => ?_) (fun hc9 => ?_)
  · skip
    refine run_skip ?_
    refine run_block ?_
    refine run_seq ?_
    refine run_reg (l := [0, 1, 2, 3, 4, 5, 6]) rfl ?_
    refine p_v (v := v_todo) rfl rfl rfl (x_move r7_4) ?_
    refine p_v (v := v_todo) rfl rfl rfl (x_move r7_4) ?_
    have lb10 := S7.row_le (j := 2) rfl; simp only [maxLen] at lb10
    refine p_v (v := .int .i64 (todo.length : Int)) rfl rfl rfl (x_len_own u23 rfl (e_len_own S7 (j := 2) rfl)) ?_
    refine p_v (v := .int .i64 ((todo.length : Int) - 1)) rfl rfl rfl (x_sub rfl rfl (in_i64 (by first|omega|(simp;omega)|assumption) (by first|omega|(simp;omega)|assumption))) ?_
    obtain ⟨ad11, a11, at11⟩ := e_index_own (q := (todo.length : Int) - 1) (m := 1) S7 (j := 2) rfl rfl (by first|omega|(simp;omega)|assumption) (by first|omega|(simp;omega)|assumption)
    refine p_v (v := .pointer (some ad11)) rfl rfl rfl (x_index_own u23 ty3 rfl rfl a11 (by first|omega|(simp;omega)|assumption) (by first|omega|(simp;omega)|assumption)) ?_
    obtain ⟨seg12, rp12, cf12⟩ := e_load_own (q := (todo.length : Int) - 1) S7 (j := 2) rfl rfl at11 (by first|omega|(simp;omega)|assumption) (by first|omega|(simp;omega)|assumption)
    obtain ⟨rfl, in12⟩ := rp12
    have lo12 := i64_lo in12; have hi12 := i64_hi in12
    refine p_v (v := .int .i64 (at_ todo ((todo.length : Int) - 1))) rfl rfl rfl (x_load (seg := [.int .i64 (at_ todo ((todo.length : Int) - 1))]) ty3 rfl (by simp) rfl cf12) ?_
    refine p_v (v := .int .i64 (at_ todo ((todo.length : Int) - 1))) rfl rfl rfl (x_assign rfl) ?_
    refine run_region_end ?_
    refine run_seq ?_
    refine run_reg (l := [0, 1, 2, 3, 4, 5]) rfl ?_
    refine p_v (v := v_todo) rfl rfl rfl (x_move r7_4) ?_
    refine p_v (v := v_todo) rfl rfl rfl (x_move r7_4) ?_
    have lb13 := S7.row_le (j := 2) rfl; simp only [maxLen] at lb13
    refine p_v (v := .int .i64 (todo.length : Int)) rfl rfl rfl (x_len_own u23 rfl (e_len_own S7 (j := 2) rfl)) ?_
    refine p_v (v := .int .i64 ((todo.length : Int) - 1)) rfl rfl rfl (x_sub rfl rfl (in_i64 (by first|omega|(simp;omega)|assumption) (by first|omega|(simp;omega)|assumption))) ?_
    obtain ⟨v14, r14, T14⟩ := e_slice_hi (q := (todo.length : Int) - 1) (kk := .i64) S7 u23 ty3 (j := 2) rfl (by first|omega|(simp;omega)|assumption) (by first|omega|(simp;omega)|assumption)
    have S15 : St w.heap.size w h7 w7 [box b1 27 [.slice A0_0 m.spots.length c0_0, .slice A0_1 m.first.length c0_1, .slice A0_2 m.follow.length c0_2, .slice A0_3 m.last.length c0_3, .bool m.empty], row 4 Kd.bool v_out out, row 3 (Kd.int .i64) v14 (todo.take ((todo.length : Int) - 1).toNat)] := T14
    refine p_v (v := v14) rfl rfl rfl (x_slice (lv := none) (hv := some (.int .i64 ((todo.length : Int) - 1))) rfl rfl rfl r14) ?_
    refine p_v (v := v14) rfl rfl rfl (x_assign rfl) ?_
    refine run_region_end ?_
    refine run_seq ?_
    refine run_seq ?_
    refine run_reg (l := [0, 1, 2, 3, 4, 5, 6, 7, 8, 9, 10, 11, 12]) rfl ?_
    refine p_v (v := v_out) rfl rfl rfl (x_move r7_3) ?_
    refine p_v (v := .int .i64 (at_ todo ((todo.length : Int) - 1))) rfl rfl rfl (x_move rfl) ?_
    obtain ⟨ad16, a16, at16⟩ := e_index_own (q := at_ todo ((todo.length : Int) - 1)) (m := 1) S15 (j := 1) rfl rfl (by first|omega|(simp;omega)|assumption) (by first|omega|(simp;omega)|assumption)
    refine p_v (v := .pointer (some ad16)) rfl rfl rfl (x_index_own u25 ty4 rfl rfl a16 (by first|omega|(simp;omega)|assumption) (by first|omega|(simp;omega)|assumption)) ?_
    obtain ⟨seg17, rp17, cf17⟩ := e_load_own (q := at_ todo ((todo.length : Int) - 1)) S15 (j := 1) rfl rfl at16 (by first|omega|(simp;omega)|assumption) (by first|omega|(simp;omega)|assumption)
    obtain ⟨rfl, _⟩ := rp17
    refine p_v (v := .bool (at_ out (at_ todo ((todo.length : Int) - 1)))) rfl rfl rfl (x_load (seg := [.bool (at_ out (at_ todo ((todo.length : Int) - 1)))]) ty4 rfl (by simp) rfl cf17) ?_
    refine p_v (v := .bool (at_ out (at_ todo ((todo.length : Int) - 1)))) rfl rfl rfl (x_move rfl) ?_
    rcases Bool.eq_false_or_eq_true (at_ out (at_ todo ((todo.length : Int) - 1))) with hc18 | hc18
    · skip
      refine p_off rfl (wanted_of (j := 4) (want := false) (d := 31) (b := true) rfl rfl (congrArg Value.bool hc18) rfl) rfl ?_
      refine p_off rfl (wanted_of (j := 4) (want := false) (d := 31) (b := true) rfl rfl (congrArg Value.bool hc18) rfl) rfl ?_
      refine p_off rfl (wanted_of (j := 4) (want := false) (d := 31) (b := true) rfl rfl (congrArg Value.bool hc18) rfl) rfl ?_
      refine p_off rfl (wanted_of (j := 4) (want := false) (d := 31) (b := true) rfl rfl (congrArg Value.bool hc18) rfl) rfl ?_
      refine p_off rfl (wanted_of (j := 4) (want := false) (d := 31) (b := true) rfl rfl (congrArg Value.bool hc18) rfl) rfl ?_
      refine p_off rfl (wanted_of (j := 4) (want := false) (d := 31) (b := true) rfl rfl (congrArg Value.bool hc18) rfl) rfl ?_
      refine p_off rfl (wanted_of (j := 4) (want := false) (d := 31) (b := true) rfl rfl (congrArg Value.bool hc18) rfl) rfl ?_
      refine p_v (v := .bool true) rfl rfl rfl (x_pick_t (congrArg Value.bool hc18) rfl) ?_
      refine run_region_end ?_
      refine run_cond (b := true) rfl ?_
      simp only [if_true, if_false, Bool.false_eq_true]
      refine run_exit rfl ?_
      refine ih7 (out, todo.take ((todo.length : Int) - 1).toNat) _ _ (by first | exact seek_dec1 (by assumption) | exact seek_dec2 pre0 hI7.1 (by assumption) (by assumption)) ⟨h7, v_out, v14, le7, S15.sub [0, 1, 2] (by decide) rfl _ rfl, r7_1, r7_3, rfl, (by first | exact ⟨seek_old hI7.1 (by assumption) (.inl (by assumption)), seek_b1 hI7.2⟩ | exact ⟨seek_old hI7.1 (by assumption) (.inr (by unfold fullS; rw [Int.toNat_of_nonneg (hi_ (by assumption)).1]; assumption)), seek_b1 hI7.2⟩ | exact ⟨seek_new pre0 hI7.1 (by assumption) (by unfold fullS; rw [Int.toNat_of_nonneg (hi_ (by assumption)).1]; assumption), seek_b2 pre0 hI7.1 hI7.2 (by assumption) (by assumption)⟩)⟩
    · skip
      refine p_v (v := .pointer (some ⟨b1, 0, none⟩)) rfl (wanted_of (j := 4) (want := false) (d := 31) (b := false) rfl rfl (congrArg Value.bool hc18) rfl) rfl (x_fieldAt fd27_0 ty22 rfl r7_1) ?_
      refine p_v (v := .slice A0_0 m.spots.length c0_0) rfl (wanted_of (j := 4) (want := false) (d := 31) (b := false) rfl rfl (congrArg Value.bool hc18) rfl) rfl (x_load (seg := [.slice A0_0 m.spots.length c0_0]) ty22 rfl (by simp) rfl (CF.box (m := 1) (S15.box_at (j := 0) rfl) rfl)) ?_
      refine p_v (v := .int .i64 (at_ todo ((todo.length : Int) - 1))) rfl (wanted_of (j := 4) (want := false) (d := 31) (b := false) rfl rfl (congrArg Value.bool hc18) rfl) rfl (x_move rfl) ?_
      obtain ⟨ad19, seg19, a19, rp19, ce19⟩ := e_index_ro (q := at_ todo ((todo.length : Int) - 1)) (m := 5) l0_0 rfl (by first|omega|(simp;omega)|assumption) (by first|omega|(simp;omega)|assumption)
      refine p_v (v := .pointer (some ad19)) rfl (wanted_of (j := 4) (want := false) (d := 31) (b := false) rfl rfl (congrArg Value.bool hc18) rfl) rfl (x_index_ro u22 ty55 rfl rfl a19 (by first|omega|(simp;omega)|assumption) (by first|omega|(simp;omega)|assumption)) ?_
      obtain ⟨rfl, ok19⟩ := rp19
      have slook19 := u8_lo ok19; have shiok19 := u8_hi ok19
      refine p_v (v := .agg (encSpot (at_ m.spots (at_ todo ((todo.length : Int) - 1)))).toArray) rfl (wanted_of (j := 4) (want := false) (d := 31) (b := false) rfl rfl (congrArg Value.bool hc18) rfl) rfl (x_load (seg := (encSpot (at_ m.spots (at_ todo ((todo.length : Int) - 1))))) ty55 rfl (by simp) rfl (CF.ghost ce19 (St.le0 S15))) ?_
      refine p_c rfl (wanted_of (j := 4) (want := false) (d := 31) (b := false) rfl rfl (congrArg Value.bool hc18) rfl) rfl (y_call (args := [.agg (encSpot (at_ m.spots (at_ todo ((todo.length : Int) - 1)))).toArray]) ca41 rfl rfl) (some_calls w7 (at_ m.spots (at_ todo ((todo.length : Int) - 1))) ok19) ?_
      rintro _ w20 ⟨h20, T20, rfl⟩
      have S21 := S15.keep (Chg.of_below T20.below)
      refine p_v (v := .bool (!(decide ((at_ m.spots (at_ todo ((todo.length : Int) - 1))).set ≠ 0)))) rfl (wanted_of (j := 4) (want := false) (d := 31) (b := false) rfl rfl (congrArg Value.bool hc18) rfl) rfl (x_not rfl) ?_
      refine p_v (v := .bool (!(decide ((at_ m.spots (at_ todo ((todo.length : Int) - 1))).set ≠ 0)))) rfl rfl rfl (x_pick_f (congrArg Value.bool hc18) rfl) ?_
      refine run_region_end ?_
      refine run_cond_nsplit (b := decide ((at_ m.spots (at_ todo ((todo.length : Int) - 1))).set ≠ 0)) rfl (fun hc22 => ?_) (fun hc22 => ?_)
      · skip
        refine run_exit rfl ?_
        refine ih7 (out, todo.take ((todo.length : Int) - 1).toNat) _ _ (by first | exact seek_dec1 (by assumption) | exact seek_dec2 pre0 hI7.1 (by assumption) (by assumption)) ⟨h7, v_out, v14, le7, S21.sub [0, 1, 2] (by decide) rfl _ rfl, r7_1, r7_3, rfl, (by first | exact ⟨seek_old hI7.1 (by assumption) (.inl (by assumption)), seek_b1 hI7.2⟩ | exact ⟨seek_old hI7.1 (by assumption) (.inr (by unfold fullS; rw [Int.toNat_of_nonneg (hi_ (by assumption)).1]; assumption)), seek_b1 hI7.2⟩ | exact ⟨seek_new pre0 hI7.1 (by assumption) (by unfold fullS; rw [Int.toNat_of_nonneg (hi_ (by assumption)).1]; assumption), seek_b2 pre0 hI7.1 hI7.2 (by assumption) (by assumption)⟩)⟩
      · skip
        refine run_skip ?_
        refine run_seq ?_
        refine run_reg (l := [0, 1, 2, 3]) rfl ?_
        refine p_v (v := v_out) rfl rfl rfl (x_move r7_3) ?_
        refine p_v (v := .int .i64 (at_ todo ((todo.length : Int) - 1))) rfl rfl rfl (x_move rfl) ?_
        obtain ⟨ad23, a23, at23⟩ := e_index_own (q := at_ todo ((todo.length : Int) - 1)) (m := 1) S21 (j := 1) rfl rfl (by first|omega|(simp;omega)|assumption) (by first|omega|(simp;omega)|assumption)
        refine p_v (v := .pointer (some ad23)) rfl rfl rfl (x_index_own u25 ty4 rfl rfl a23 (by first|omega|(simp;omega)|assumption) (by first|omega|(simp;omega)|assumption)) ?_
        obtain ⟨w24, r24, g24, T24⟩ := e_store_own (u := .bool true) (q := at_ todo ((todo.length : Int) - 1)) true (vs := [.bool true]) S21 ty4 rfl (j := 1) rfl rfl ⟨rfl, trivial⟩ at23 (by first|omega|(simp;omega)|assumption) (by first|omega|(simp;omega)|assumption)
        have S25 : St w.heap.size w h7 w24 [box b1 27 [.slice A0_0 m.spots.length c0_0, .slice A0_1 m.first.length c0_1, .slice A0_2 m.follow.length c0_2, .slice A0_3 m.last.length c0_3, .bool m.empty], row 4 Kd.bool v_out (out.set (at_ todo ((todo.length : Int) - 1)).toNat true), row 3 (Kd.int .i64) v14 (todo.take ((todo.length : Int) - 1).toNat)] := T24
        refine p_s rfl rfl (x_store rfl rfl r24) ?_
        refine run_region_end ?_
        refine run_reg (l := [0, 1, 2, 3, 4, 5, 6, 7]) rfl ?_
        refine p_v (v := v14) rfl rfl rfl (x_move rfl) ?_
        refine p_v (v := .pointer (some ⟨b1, 2, none⟩)) rfl rfl rfl (x_fieldAt fd27_2 ty24 rfl r7_1) ?_
        refine p_v (v := .slice A0_2 m.follow.length c0_2) rfl rfl rfl (x_load (seg := [.slice A0_2 m.follow.length c0_2]) ty24 rfl (by simp) rfl (CF.box (m := 1) (S25.box_at (j := 0) rfl) rfl)) ?_
        refine p_v (v := .int .i64 (at_ todo ((todo.length : Int) - 1))) rfl rfl rfl (x_move rfl) ?_
        obtain ⟨ad26, seg26, a26, rp26, ce26⟩ := e_index_ro (q := at_ todo ((todo.length : Int) - 1)) (m := 1) l0_2 rfl (by first|omega|(simp;omega)|assumption) (by first|omega|(simp;omega)|assumption)
        refine p_v (v := .pointer (some ad26)) rfl rfl rfl (x_index_ro u24 ty23 rfl rfl a26 (by first|omega|(simp;omega)|assumption) (by first|omega|(simp;omega)|assumption)) ?_
        obtain ⟨A26, c26, rfl, lc26, cm26, ld26⟩ := rp26
        have cn26 := cm26; simp only [maxLen] at cn26
        refine p_v (v := .slice A26 (at_ m.follow (at_ todo ((todo.length : Int) - 1))).length c26) rfl rfl rfl (x_load (seg := [.slice A26 (at_ m.follow (at_ todo ((todo.length : Int) - 1))).length c26]) ty23 rfl (by simp) rfl (CF.ghost ce26 (St.le0 S25))) ?_
        obtain ⟨v28, w28, r28, g28, T28⟩ := e_append (kd := (Kd.int .i64)) (A := A26) (c := c26) (ys := (at_ m.follow (at_ todo ((todo.length : Int) - 1)))) (len := (at_ m.follow (at_ todo ((todo.length : Int) - 1))).length) 23 S25 u23 ty3 rfl rfl (j := 2) rfl rfl (news_flat (ld26.mono (St.le0 S25)) (fun _ _ hr => hr)) (by first|omega|(simp;omega)|assumption) (by first|omega|(simp;omega)|assumption)
        have S29 : St w.heap.size w h7 w28 [box b1 27 [.slice A0_0 m.spots.length c0_0, .slice A0_1 m.first.length c0_1, .slice A0_2 m.follow.length c0_2, .slice A0_3 m.last.length c0_3, .bool m.empty], row 4 Kd.bool v_out (out.set (at_ todo ((todo.length : Int) - 1)).toNat true), row 3 (Kd.int .i64) v28 ((todo.take ((todo.length : Int) - 1).toNat) ++ (at_ m.follow (at_ todo ((todo.length : Int) - 1))))] := T28
        refine p_v (v := v28) rfl rfl rfl (x_append rfl rfl r28) ?_
        refine p_v (v := v28) rfl rfl rfl (x_assign rfl) ?_
        refine run_region_end ?_
        refine run_inBlock ?_
        refine ih7 (out.set (at_ todo ((todo.length : Int) - 1)).toNat true, (todo.take ((todo.length : Int) - 1).toNat) ++ (at_ m.follow (at_ todo ((todo.length : Int) - 1)))) _ _ (by first | exact seek_dec1 (by assumption) | exact seek_dec2 pre0 hI7.1 (by assumption) (by assumption)) ⟨h7, v_out, v28, le7, S29.sub [0, 1, 2] (by decide) rfl _ rfl, r7_1, r7_3, rfl, (by first | exact ⟨seek_old hI7.1 (by assumption) (.inl (by assumption)), seek_b1 hI7.2⟩ | exact ⟨seek_old hI7.1 (by assumption) (.inr (by unfold fullS; rw [Int.toNat_of_nonneg (hi_ (by assumption)).1]; assumption)), seek_b1 hI7.2⟩ | exact ⟨seek_new pre0 hI7.1 (by assumption) (by unfold fullS; rw [Int.toNat_of_nonneg (hi_ (by assumption)).1]; assumption), seek_b2 pre0 hI7.1 hI7.2 (by assumption) (by assumption)⟩)⟩
  · skip
    refine run_exit rfl ?_
    refine run_seq ?_
    refine run_reg (l := [0, 1]) rfl ?_
    refine p_v (v := v_out) rfl rfl rfl (x_move r7_3) ?_
    refine p_v (v := v_out) rfl rfl rfl (x_assign rfl) ?_
    refine run_region_end ?_
    refine run_ret Tryd.func34 (res1 rfl (res_tmp (v := v_out) rfl)) ?_
    have q0 : (comeM m : List Bool) = out := by
      exact seek_end hI7.1 (by assumption)
    refine ⟨_, rfl, h7, v_out, ?_, ?_⟩
    · rw [q0]; exact S7.sub [1] (by decide) rfl _ rfl
    · first | rfl | (simp only [q0]; rfl) | (simp only [q0])
end Go.Proofs.YtdfkpjchnndniaaDoor
