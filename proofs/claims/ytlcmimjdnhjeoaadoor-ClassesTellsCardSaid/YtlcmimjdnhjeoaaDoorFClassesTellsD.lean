/- The law ClassesTells, walked: it tells true at every input, and writes nothing that was there. -/
import Derived.Test.YtlcmimjdnhjeoaaDoorTD
import Derived.Test.YtlcmimjdnhjeoaaDoorF0D
import Derived.Test.YtlcmimjdnhjeoaaDoorM7
namespace Go.Proofs.YtlcmimjdnhjeoaaDoor
open Go Go.RowKit Gx
set_option maxHeartbeats 1000000
set_option linter.unusedVariables false
set_option linter.unusedSimpArgs false
attribute [local irreducible] members pack listOf count first someIn has setOf setRange wbits Lib.ctz partOf refineP setsP leastP rightP splitsP splitP unionTo apartTo cutTo anyTo firstTo cuts

theorem classesTells_calls (w : World) (sets : List BSet) (A0 : Option Addr) (c0 : Nat) (b0 : sets.length ≤ c0 ∧ c0 ≤ maxLen) (l0 : Leads kSet (hp w) A0 sets) (tb : Block 0 tzTab w) :
    Calls Tryd.prog 8 #[.slice A0 sets.length c0] w fun e w' => ∃ v, e = .returned v ∧ ∃ (hn : Ghost), St w.heap.size w hn w' [] ∧ v = .bool true := by
  refine calls_of_run Tryd.func8 rfl Tryd.ntmps8 rfl ?_
  have S0 := St.init w
  have bb0 := b0.1; have bc0 := b0.2; simp only [maxLen] at bc0
  refine run_seq ?_
  refine run_reg (l := [0]) rfl ?_
  refine p_v (v := .bool false) rfl rfl rfl (x_assign rfl) ?_
  refine run_region_end ?_
  refine run_seq ?_
  refine run_seq ?_
  refine run_reg (l := [0, 1, 2]) rfl ?_
  refine p_v (v := .slice A0 sets.length c0) rfl rfl rfl (x_move rfl) ?_
  refine p_v (v := .int .i64 (sets.length : Int)) rfl rfl rfl (x_len_slice u44 rfl) ?_
  refine p_v (v := .bool (decide (40 < (sets.length : Int)))) rfl rfl rfl (x_gtr rfl rfl) ?_
  refine run_region_end ?_
  refine run_cond_prop (p := 40 < (sets.length : Int)) rfl (fun hc1 => ?_) (fun hc1 => ?_)
  · skip
    refine run_seq ?_
    refine run_reg (l := [0, 1]) rfl ?_
    refine p_c rfl rfl rfl (y_call (args := []) c26 rfl rfl) (awake2_calls w  (Block.st S0 tb)) ?_
    rintro _ w2 ⟨h2, T2, rfl⟩
    have S3 : St w.heap.size w (fun _ => none) w2 [] := S0.keep (Chg.of_below T2.below)
    refine p_v (v := .bool true) rfl rfl rfl (x_assign rfl) ?_
    refine run_region_end ?_
    refine run_ret Tryd.func8 (res1 rfl (res_tmp (v := .bool true) rfl)) ?_
    have q0 : (true : Bool) = true := rfl
    refine ⟨_, rfl, (fun _ => none), ?_, ?_⟩
    · exact S3.sub [] (by decide) rfl _ rfl
    · rfl
  · skip
    refine run_skip ?_
    refine run_seq ?_
    refine run_reg (l := [0]) rfl ?_
    refine p_v (v := .slice none 0 0) rfl rfl rfl (x_assign rfl) ?_
    refine run_region_end ?_
    refine run_seq ?_
    refine run_seq ?_
    refine run_reg (l := [0]) rfl ?_
    refine p_v (v := .int .i64 0) rfl rfl rfl (x_assign rfl) ?_
    refine run_region_end ?_
    refine run_block ?_
    have T5 := S0.row_nil 26 (kInts .u64 4 (by decide))
    obtain ⟨vn5, ev5, T5⟩ : ∃ v, v = (.slice none 0 0 : Value) ∧ St w.heap.size w (fun _ => none) w ([] ++ [row 26 (kInts .u64 4 (by decide)) v []]) := ⟨_, rfl, T5⟩
    have S6 : St w.heap.size w (fun _ => none) w [row 26 (kInts .u64 4 (by decide)) vn5 ([] : List (List Int))] := T5
    refine run_loop (S := (List (List Int)) × Int) (fun (q_ : (List (List Int)) × Int) ρ w' => match q_ with | (l, i) => ∃ (h : Ghost) (v_l : Value), Le (fun _ => none) h ∧ St w.heap.size w h w' [row 26 (kInts .u64 4 (by decide)) v_l l] ∧ ρ 0 = .slice A0 sets.length c0 ∧ ρ 3 = v_l ∧ ρ 4 = .int .i64 i ∧ inK .i64 i ∧ (0 ≤ i ∧ i ≤ (sets.length : Int) ∧ l = (sets.take i.toNat).map words)) (fun q_ => match q_ with | (l, i) => (sets.length - i).toNat) (([] : List (List Int)), 0) ⟨(fun _ => none), vn5, Le.refl _, S6.sub [0] (by decide) rfl _ rfl, rfl, (ev5.symm), rfl, (in_i64 (by first | omega | (simp; omega) | assumption) (by first | omega | (simp; omega) | assumption)), (by exact ⟨by omega, by omega, rfl⟩)⟩ ?_
    rintro ⟨l, i⟩ ih7 ρ7 w7 ⟨h7, v_l, le7, S7, r7_0, r7_3, r7_4, f7_0, hI7⟩
    have lf7_0 := i64_lo f7_0; have hf7_0 := i64_hi f7_0
    have rl7_0 := S7.row_le (j := 0) rfl; simp only [maxLen] at rl7_0
    have hll_ : (l.length : Int) ≤ 40 := by rw [hI7.2.2]; simp; omega
    refine run_seq ?_
    refine run_seq ?_
    refine run_reg (l := [0, 1, 2, 3]) rfl ?_
    refine p_v (v := .int .i64 i) rfl rfl rfl (x_move r7_4) ?_
    refine p_v (v := .slice A0 sets.length c0) rfl rfl rfl (x_move r7_0) ?_
    refine p_v (v := .int .i64 (sets.length : Int)) rfl rfl rfl (x_len_slice u44 rfl) ?_
    refine p_v (v := .bool (decide (i < (sets.length : Int)))) rfl rfl rfl (x_lss rfl rfl) ?_
    refine run_region_end ?_
    refine run_cond_prop (p := i < (sets.length : Int)) rfl (fun hc8 => ?_) (fun hc8 => ?_)
    · skip
      refine run_skip ?_
      refine run_seq ?_
      refine run_block ?_
      refine run_reg (l := [0, 1, 2, 3, 4, 5, 6, 7]) rfl ?_
      refine p_v (v := v_l) rfl rfl rfl (x_move r7_3) ?_
      refine p_v (v := .slice A0 sets.length c0) rfl rfl rfl (x_move r7_0) ?_
      refine p_v (v := .int .i64 i) rfl rfl rfl (x_move r7_4) ?_
      obtain ⟨ad9, seg9, a9, rp9, ce9⟩ := e_index_ro (q := i) (m := 4) l0 rfl (by first | omega | (simp; omega) | assumption) (by first | omega | (simp; omega) | assumption)
      refine p_v (v := .pointer (some ad9)) rfl rfl rfl (x_index_ro u44 t27 rfl rfl a9 (by first | omega | (simp; omega) | assumption) (by first | omega | (simp; omega) | assumption)) ?_
      obtain ⟨rfl, ok9⟩ := rp9
      refine p_v (v := .agg (encSet (at_ sets i)).toArray) rfl rfl rfl (x_load (seg := (encSet (at_ sets i))) t27 rfl (by simp) rfl (CF.ghost ce9 (St.le0 S7))) ?_
      obtain ⟨v10, w10, r10, g10, T10⟩ := e_build_segs (kd := (kInts .u64 4 (by decide))) (xs := ([(words (at_ sets i))] : List (List Int))) (len := 1) (m := 4) [(.agg (encInts .u64 (words (at_ sets i))).toArray, (encInts .u64 (words (at_ sets i))))] S7 u45 t26 rfl rfl rfl rfl (segs_cons rfl (encInts_len (okWords (at_ sets i))) segs_nil) (cs := (encInts .u64 (words (at_ sets i)))) (Elems.single (k := (kInts .u64 4 (by decide))) (h := h7) (x := (words (at_ sets i))) (cs := (encInts .u64 (words (at_ sets i)))) ⟨rfl, (okWords (at_ sets i))⟩) (by simp)
      have S11 : St w.heap.size w h7 w10 [row 26 (kInts .u64 4 (by decide)) v_l l, row 26 (kInts .u64 4 (by decide)) v10 ([(words (at_ sets i))] : List (List Int))] := T10
      refine p_v (v := v10) rfl rfl rfl (y_build_slice (pv := [(0, .agg (encInts .u64 (words (at_ sets i))).toArray)]) rfl r10) ?_
      obtain ⟨A13, c13, ev13, lc13, cm13⟩ := S11.row_val (j := 1) rfl
      obtain ⟨v14, w14, r14, g14, T14⟩ := e_append (kd := (kInts .u64 4 (by decide))) (A := A13) (c := c13) (ys := ([(words (at_ sets i))] : List (List Int))) (len := ([(words (at_ sets i))] : List (List Int)).length) 45 S11 u45 t26 rfl rfl (j := 0) rfl rfl (news_own S11 (j := 1) rfl ev13) (by first | omega | (simp; omega) | assumption) (by first | omega | (simp; omega) | assumption)
      have S15 : St w.heap.size w h7 w14 [row 26 (kInts .u64 4 (by decide)) v14 (l ++ ([(words (at_ sets i))] : List (List Int))), row 26 (kInts .u64 4 (by decide)) v10 ([(words (at_ sets i))] : List (List Int))] := T14
      refine p_v (v := v14) rfl rfl rfl (x_append rfl ev13 r14) ?_
      refine p_v (v := v14) rfl rfl rfl (x_assign rfl) ?_
      refine run_region_end ?_
      refine run_inBlock ?_
      refine run_reg (l := [0, 1, 2]) rfl ?_
      refine p_v (v := .int .i64 i) rfl rfl rfl (x_move r7_4) ?_
      refine p_v (v := .int .i64 (i + 1)) rfl rfl rfl (x_add rfl rfl (in_i64 (by first | omega | (simp; omega) | assumption) (by first | omega | (simp; omega) | assumption))) ?_
      refine p_v (v := .int .i64 (i + 1)) rfl rfl rfl (x_assign rfl) ?_
      refine run_region_end ?_
      refine ih7 (l ++ ([(words (at_ sets i))] : List (List Int)), i + 1) _ _ (by dsimp only; omega) ⟨h7, v14, le7, S15.sub [0] (by decide) rfl _ rfl, r7_0, rfl, rfl, (in_i64 (by first | omega | (simp; omega) | assumption) (by first | omega | (simp; omega) | assumption)), (by exact ⟨by omega, by omega, by rw [hI7.2.2, take_next sets hI7.1 (by omega)]; simp⟩)⟩
    · skip
      refine run_exit rfl ?_
      refine run_seq ?_
      refine run_reg (l := [0, 1, 2, 3]) rfl ?_
      refine p_v (v := .slice A0 sets.length c0) rfl rfl rfl (x_move r7_0) ?_
      refine p_c rfl rfl rfl (y_call (args := [.slice A0 sets.length c0]) c27 rfl rfl) (refine_calls w7 sets A0 c0 b0 (l0.mono (St.le0 S7))) ?_
      rintro _ w16 ⟨h16, T16, rfl, ok16_0⟩
      have S17 : St w.heap.size w h7 w16 [row 26 (kInts .u64 4 (by decide)) v_l l] := S7.keep (Chg.of_below T16.below)
      obtain ⟨b18, w18, r18, g18, T18⟩ := e_box (P := Tryd.prog) S17 48 (v := (.agg #[.int .u8 0, .int .u8 0, .int .u8 0, .int .u8 0, .int .u8 0, .int .u8 0, .int .u8 0, .int .u8 0, .int .u8 0, .int .u8 0, .int .u8 0, .int .u8 0, .int .u8 0, .int .u8 0, .int .u8 0, .int .u8 0, .int .u8 0, .int .u8 0, .int .u8 0, .int .u8 0, .int .u8 0, .int .u8 0, .int .u8 0, .int .u8 0, .int .u8 0, .int .u8 0, .int .u8 0, .int .u8 0, .int .u8 0, .int .u8 0, .int .u8 0, .int .u8 0, .int .u8 0, .int .u8 0, .int .u8 0, .int .u8 0, .int .u8 0, .int .u8 0, .int .u8 0, .int .u8 0, .int .u8 0, .int .u8 0, .int .u8 0, .int .u8 0, .int .u8 0, .int .u8 0, .int .u8 0, .int .u8 0, .int .u8 0, .int .u8 0, .int .u8 0, .int .u8 0, .int .u8 0, .int .u8 0, .int .u8 0, .int .u8 0, .int .u8 0, .int .u8 0, .int .u8 0, .int .u8 0, .int .u8 0, .int .u8 0, .int .u8 0, .int .u8 0, .int .u8 0, .int .u8 0, .int .u8 0, .int .u8 0, .int .u8 0, .int .u8 0, .int .u8 0, .int .u8 0, .int .u8 0, .int .u8 0, .int .u8 0, .int .u8 0, .int .u8 0, .int .u8 0, .int .u8 0, .int .u8 0, .int .u8 0, .int .u8 0, .int .u8 0, .int .u8 0, .int .u8 0, .int .u8 0, .int .u8 0, .int .u8 0, .int .u8 0, .int .u8 0, .int .u8 0, .int .u8 0, .int .u8 0, .int .u8 0, .int .u8 0, .int .u8 0, .int .u8 0, .int .u8 0, .int .u8 0, .int .u8 0, .int .u8 0, .int .u8 0, .int .u8 0, .int .u8 0, .int .u8 0, .int .u8 0, .int .u8 0, .int .u8 0, .int .u8 0, .int .u8 0, .int .u8 0, .int .u8 0, .int .u8 0, .int .u8 0, .int .u8 0, .int .u8 0, .int .u8 0, .int .u8 0, .int .u8 0, .int .u8 0, .int .u8 0, .int .u8 0, .int .u8 0, .int .u8 0, .int .u8 0, .int .u8 0, .int .u8 0, .int .u8 0, .int .u8 0, .int .u8 0, .int .u8 0, .int .u8 0, .int .u8 0, .int .u8 0, .int .u8 0, .int .u8 0, .int .u8 0, .int .u8 0, .int .u8 0, .int .u8 0, .int .u8 0, .int .u8 0, .int .u8 0, .int .u8 0, .int .u8 0, .int .u8 0, .int .u8 0, .int .u8 0, .int .u8 0, .int .u8 0, .int .u8 0, .int .u8 0, .int .u8 0, .int .u8 0, .int .u8 0, .int .u8 0, .int .u8 0, .int .u8 0, .int .u8 0, .int .u8 0, .int .u8 0, .int .u8 0, .int .u8 0, .int .u8 0, .int .u8 0, .int .u8 0, .int .u8 0, .int .u8 0, .int .u8 0, .int .u8 0, .int .u8 0, .int .u8 0, .int .u8 0, .int .u8 0, .int .u8 0, .int .u8 0, .int .u8 0, .int .u8 0, .int .u8 0, .int .u8 0, .int .u8 0, .int .u8 0, .int .u8 0, .int .u8 0, .int .u8 0, .int .u8 0, .int .u8 0, .int .u8 0, .int .u8 0, .int .u8 0, .int .u8 0, .int .u8 0, .int .u8 0, .int .u8 0, .int .u8 0, .int .u8 0, .int .u8 0, .int .u8 0, .int .u8 0, .int .u8 0, .int .u8 0, .int .u8 0, .int .u8 0, .int .u8 0, .int .u8 0, .int .u8 0, .int .u8 0, .int .u8 0, .int .u8 0, .int .u8 0, .int .u8 0, .int .u8 0, .int .u8 0, .int .u8 0, .int .u8 0, .int .u8 0, .int .u8 0, .int .u8 0, .int .u8 0, .int .u8 0, .int .u8 0, .int .u8 0, .int .u8 0, .int .u8 0, .int .u8 0, .int .u8 0, .int .u8 0, .int .u8 0, .int .u8 0, .int .u8 0, .int .u8 0, .int .u8 0, .int .u8 0, .int .u8 0, .int .u8 0, .int .u8 0, .int .u8 0, .int .u8 0, .int .u8 0, .int .u8 0, .int .u8 0, .int .u8 0, .int .u8 0, .int .u8 0, .int .u8 0, .int .u8 0, .int .u8 0, .int .u8 0, .int .u8 0, .int .u8 0, .int .u8 0, .int .u8 0, .int .u8 0, .int .u8 0, .int .u8 0, .int .u8 0, .int .i64 0])) (encPart (⟨(List.replicate 256 (0 : Int)), 0⟩ : PartM)) (by kernel_rfl)
      have S19 : St w.heap.size w h7 w18 [row 26 (kInts .u64 4 (by decide)) v_l l, box b18 48 (encPart (⟨(List.replicate 256 (0 : Int)), 0⟩ : PartM))] := T18
      refine p_v (v := .pointer (some ⟨b18, 0, none⟩)) rfl rfl rfl (x_alloc t48 r18) ?_
      obtain ⟨w20, r20, g20, T20⟩ := e_store (P := Tryd.prog) (off := 0) (v := .agg (encPart (refineP sets)).toArray) (vs := (encPart (refineP sets))) S19 t48 rfl (encPart_len ok16_0) (j := 1) rfl (by rw [encPart_len (okPart_zero)]; decide) (encPart_one _)
      rw [lput_all (by rw [encPart_len ok16_0, encPart_len (okPart_zero)])] at T20
      have S21 : St w.heap.size w h7 w20 [row 26 (kInts .u64 4 (by decide)) v_l l, box b18 48 (encPart (refineP sets))] := T20
      refine p_s rfl rfl (x_store rfl rfl r20) ?_
      refine run_region_end ?_
      refine run_seq ?_
      refine run_reg (l := [0, 1, 2, 3, 4, 5, 6, 7]) rfl ?_
      refine p_v (v := v_l) rfl rfl rfl (x_move r7_3) ?_
      obtain ⟨A22, c22, ev22, lc22, cm22⟩ := S21.row_val (j := 0) rfl
      refine p_c rfl rfl rfl (y_call (args := [.slice A22 l.length c22]) c28 rfl (cons_eq ev22 rfl)) (doc_calls w20 l A22 c22 (And.intro lc22 cm22) (row_leads_eq S21 (j := 0) rfl ev22) (by omega)) ?_
      rintro _ w23 ⟨h23, T23, rfl, ok23_0, in23_1⟩
      have S24 : St w.heap.size w h7 w23 [row 26 (kInts .u64 4 (by decide)) v_l l, box b18 48 (encPart (refineP sets))] := S21.keep (Chg.of_below T23.below)
      have lo_in23_1 := i64_lo in23_1; have hi_in23_1 := i64_hi in23_1
      refine p_v (v := .tuple #[.agg (encInts .i64 ((partOf (docKey l)).of)).toArray, .int .i64 ((partOf (docKey l)).n)]) rfl rfl rfl (x_move rfl) ?_
      refine p_v (v := .agg (encInts .i64 ((partOf (docKey l)).of)).toArray) rfl rfl rfl (x_extract (vs := [.agg (encInts .i64 ((partOf (docKey l)).of)).toArray, .int .i64 ((partOf (docKey l)).n)]) rfl rfl) ?_
      refine p_v (v := .int .i64 ((partOf (docKey l)).n)) rfl rfl rfl (x_extract (vs := [.agg (encInts .i64 ((partOf (docKey l)).of)).toArray, .int .i64 ((partOf (docKey l)).n)]) rfl rfl) ?_
      obtain ⟨b25, w25, r25, g25, T25⟩ := e_box (P := Tryd.prog) S24 50 (v := (.agg #[.int .i64 0, .int .i64 0, .int .i64 0, .int .i64 0, .int .i64 0, .int .i64 0, .int .i64 0, .int .i64 0, .int .i64 0, .int .i64 0, .int .i64 0, .int .i64 0, .int .i64 0, .int .i64 0, .int .i64 0, .int .i64 0, .int .i64 0, .int .i64 0, .int .i64 0, .int .i64 0, .int .i64 0, .int .i64 0, .int .i64 0, .int .i64 0, .int .i64 0, .int .i64 0, .int .i64 0, .int .i64 0, .int .i64 0, .int .i64 0, .int .i64 0, .int .i64 0, .int .i64 0, .int .i64 0, .int .i64 0, .int .i64 0, .int .i64 0, .int .i64 0, .int .i64 0, .int .i64 0, .int .i64 0, .int .i64 0, .int .i64 0, .int .i64 0, .int .i64 0, .int .i64 0, .int .i64 0, .int .i64 0, .int .i64 0, .int .i64 0, .int .i64 0, .int .i64 0, .int .i64 0, .int .i64 0, .int .i64 0, .int .i64 0, .int .i64 0, .int .i64 0, .int .i64 0, .int .i64 0, .int .i64 0, .int .i64 0, .int .i64 0, .int .i64 0, .int .i64 0, .int .i64 0, .int .i64 0, .int .i64 0, .int .i64 0, .int .i64 0, .int .i64 0, .int .i64 0, .int .i64 0, .int .i64 0, .int .i64 0, .int .i64 0, .int .i64 0, .int .i64 0, .int .i64 0, .int .i64 0, .int .i64 0, .int .i64 0, .int .i64 0, .int .i64 0, .int .i64 0, .int .i64 0, .int .i64 0, .int .i64 0, .int .i64 0, .int .i64 0, .int .i64 0, .int .i64 0, .int .i64 0, .int .i64 0, .int .i64 0, .int .i64 0, .int .i64 0, .int .i64 0, .int .i64 0, .int .i64 0, .int .i64 0, .int .i64 0, .int .i64 0, .int .i64 0, .int .i64 0, .int .i64 0, .int .i64 0, .int .i64 0, .int .i64 0, .int .i64 0, .int .i64 0, .int .i64 0, .int .i64 0, .int .i64 0, .int .i64 0, .int .i64 0, .int .i64 0, .int .i64 0, .int .i64 0, .int .i64 0, .int .i64 0, .int .i64 0, .int .i64 0, .int .i64 0, .int .i64 0, .int .i64 0, .int .i64 0, .int .i64 0, .int .i64 0, .int .i64 0, .int .i64 0, .int .i64 0, .int .i64 0, .int .i64 0, .int .i64 0, .int .i64 0, .int .i64 0, .int .i64 0, .int .i64 0, .int .i64 0, .int .i64 0, .int .i64 0, .int .i64 0, .int .i64 0, .int .i64 0, .int .i64 0, .int .i64 0, .int .i64 0, .int .i64 0, .int .i64 0, .int .i64 0, .int .i64 0, .int .i64 0, .int .i64 0, .int .i64 0, .int .i64 0, .int .i64 0, .int .i64 0, .int .i64 0, .int .i64 0, .int .i64 0, .int .i64 0, .int .i64 0, .int .i64 0, .int .i64 0, .int .i64 0, .int .i64 0, .int .i64 0, .int .i64 0, .int .i64 0, .int .i64 0, .int .i64 0, .int .i64 0, .int .i64 0, .int .i64 0, .int .i64 0, .int .i64 0, .int .i64 0, .int .i64 0, .int .i64 0, .int .i64 0, .int .i64 0, .int .i64 0, .int .i64 0, .int .i64 0, .int .i64 0, .int .i64 0, .int .i64 0, .int .i64 0, .int .i64 0, .int .i64 0, .int .i64 0, .int .i64 0, .int .i64 0, .int .i64 0, .int .i64 0, .int .i64 0, .int .i64 0, .int .i64 0, .int .i64 0, .int .i64 0, .int .i64 0, .int .i64 0, .int .i64 0, .int .i64 0, .int .i64 0, .int .i64 0, .int .i64 0, .int .i64 0, .int .i64 0, .int .i64 0, .int .i64 0, .int .i64 0, .int .i64 0, .int .i64 0, .int .i64 0, .int .i64 0, .int .i64 0, .int .i64 0, .int .i64 0, .int .i64 0, .int .i64 0, .int .i64 0, .int .i64 0, .int .i64 0, .int .i64 0, .int .i64 0, .int .i64 0, .int .i64 0, .int .i64 0, .int .i64 0, .int .i64 0, .int .i64 0, .int .i64 0, .int .i64 0, .int .i64 0, .int .i64 0, .int .i64 0, .int .i64 0, .int .i64 0, .int .i64 0, .int .i64 0, .int .i64 0, .int .i64 0, .int .i64 0, .int .i64 0, .int .i64 0, .int .i64 0, .int .i64 0, .int .i64 0, .int .i64 0, .int .i64 0, .int .i64 0, .int .i64 0, .int .i64 0, .int .i64 0])) (encInts .i64 (List.replicate 256 (0 : Int))) (by kernel_rfl)
      have S26 : St w.heap.size w h7 w25 [row 26 (kInts .u64 4 (by decide)) v_l l, box b18 48 (encPart (refineP sets)), box b25 50 (encInts .i64 (List.replicate 256 (0 : Int)))] := T25
      refine p_v (v := .pointer (some ⟨b25, 0, none⟩)) rfl rfl rfl (x_alloc t50 r25) ?_
      obtain ⟨w27, r27, g27, T27⟩ := e_store (P := Tryd.prog) (off := 0) (v := .agg (encInts .i64 ((partOf (docKey l)).of)).toArray) (vs := (encInts .i64 ((partOf (docKey l)).of))) S26 t50 rfl (encInts_len ok23_0) (j := 2) rfl (by rw [encInts_len (okInts_rep (by constructor <;> decide) _)]; decide) (encInts_one _ _)
      rw [lput_all (by rw [encInts_len ok23_0, encInts_len (okInts_rep (by constructor <;> decide) _)])] at T27
      have S28 : St w.heap.size w h7 w27 [row 26 (kInts .u64 4 (by decide)) v_l l, box b18 48 (encPart (refineP sets)), box b25 50 (encInts .i64 ((partOf (docKey l)).of))] := T27
      refine p_s rfl rfl (x_store rfl rfl r27) ?_
      refine p_v (v := .int .i64 ((partOf (docKey l)).n)) rfl rfl rfl (x_assign rfl) ?_
      refine run_region_end ?_
      refine run_seq ?_
      refine run_seq ?_
      refine run_reg (l := [0, 1, 2, 3, 4, 5, 6, 7, 8]) rfl ?_
      refine p_v (v := .pointer (some ⟨b18, 256, none⟩)) rfl rfl rfl (x_fieldAt f48_1 t3 rfl rfl) ?_
      have in29 := (ok16_0).2
      have lo29 := i64_lo in29; have hi29 := i64_hi in29
      refine p_v (v := .int .i64 ((refineP sets).n)) rfl rfl rfl (x_load (seg := [.int .i64 ((refineP sets).n)]) t3 rfl (by simp) rfl (CF.box (m := 1) (S28.box_at (j := 1) rfl) (cs := (encPart (refineP sets))) (encPart_n ok16_0))) ?_
      refine p_v (v := .int .i64 ((partOf (docKey l)).n)) rfl rfl rfl (x_move rfl) ?_
      refine p_v (v := .bool (decide (((refineP sets).n) ≠ ((partOf (docKey l)).n)))) rfl rfl rfl (x_neq rfl rfl) ?_
      refine p_v (v := .bool (decide (((refineP sets).n) ≠ ((partOf (docKey l)).n)))) rfl rfl rfl (x_move rfl) ?_
      have hc30 : ¬ (((refineP sets).n) ≠ ((partOf (docKey l)).n)) := by
        have hq_ : l = sets.map words := by rw [hI7.2.2, List.take_of_length_le (by omega)]
        rw [hq_, doc_ref]; simp
      refine p_v (v := .agg (encPart (refineP sets)).toArray) rfl (wanted_of (j := 4) (want := false) (d := 37) (b := false) rfl rfl (congrArg Value.bool (decide_eq_false hc30)) rfl) rfl (x_load (seg := (encPart (refineP sets))) t48 (encPart_len ok16_0) (by simp) rfl (CF.box (m := 257) (S28.box_at (j := 1) rfl) (cs := (encPart (refineP sets))) (by rw [List.drop_zero, List.take_of_length_le (by rw [encPart_len ok16_0]; exact Nat.le_refl _)]))) ?_
      refine p_c rfl (wanted_of (j := 4) (want := false) (d := 37) (b := false) rfl rfl (congrArg Value.bool (decide_eq_false hc30)) rfl) rfl (y_call (args := [.agg (encPart (refineP sets)).toArray]) c29 rfl rfl) (right_calls w27 (refineP sets) ok16_0) ?_
      rintro _ w31 ⟨h31, T31, rfl⟩
      have S32 : St w.heap.size w h7 w31 [row 26 (kInts .u64 4 (by decide)) v_l l, box b18 48 (encPart (refineP sets)), box b25 50 (encInts .i64 ((partOf (docKey l)).of))] := S28.keep (Chg.of_below T31.below)
      refine p_v (v := .bool (!(rightP (refineP sets)))) rfl (wanted_of (j := 4) (want := false) (d := 37) (b := false) rfl rfl (congrArg Value.bool (decide_eq_false hc30)) rfl) rfl (x_not rfl) ?_
      refine p_v (v := .bool (!(rightP (refineP sets)))) rfl rfl rfl (x_pick_f (congrArg Value.bool (decide_eq_false hc30)) rfl) ?_
      refine run_region_end ?_
      have hc33 : (rightP (refineP sets)) = true := by
        unfold refineP; exact right_of _
      refine run_cond (b := false) (congrArg (fun z => Value.bool (!z)) hc33) ?_
      simp only [if_true, if_false, Bool.false_eq_true]
      refine run_skip ?_
      refine run_seq ?_
      refine run_seq ?_
      refine run_reg (l := [0]) rfl ?_
      refine p_v (v := .int .i64 0) rfl rfl rfl (x_assign rfl) ?_
      refine run_region_end ?_
      refine run_block ?_
      refine run_loop (S := Int) (fun (q_ : Int) ρ w' => match q_ with | c => ∃ (h : Ghost), Le h7 h ∧ St w.heap.size w h w' [box b18 48 (encPart (refineP sets)), box b25 50 (encInts .i64 ((partOf (docKey l)).of))] ∧ ρ 5 = .pointer (some ⟨b18, 0, none⟩) ∧ ρ 6 = .pointer (some ⟨b25, 0, none⟩) ∧ ρ 8 = .int .i64 c ∧ inK .i64 c ∧ (0 ≤ c ∧ c ≤ 256)) (fun q_ => match q_ with | c => (256 - c).toNat) (0) ⟨h7, Le.refl _, S32.sub [1, 2] (by decide) rfl _ rfl, rfl, rfl, rfl, (in_i64 (by first | omega | (simp; omega) | assumption) (by first | omega | (simp; omega) | assumption)), (by exact ⟨by omega, by omega⟩)⟩ ?_
      rintro c ih34 ρ34 w34 ⟨h34, le34, S34, r34_5, r34_6, r34_8, f34_0, hI34⟩
      have lf34_0 := i64_lo f34_0; have hf34_0 := i64_hi f34_0
      refine run_seq ?_
      refine run_seq ?_
      refine run_reg (l := [0, 1]) rfl ?_
      refine p_v (v := .int .i64 c) rfl rfl rfl (x_move r34_8) ?_
      refine p_v (v := .bool (decide (c < 256))) rfl rfl rfl (x_lss rfl rfl) ?_
      refine run_region_end ?_
      refine run_cond_prop (p := c < 256) rfl (fun hc35 => ?_) (fun hc35 => ?_)
      · skip
        refine run_skip ?_
        refine run_seq ?_
        refine run_block ?_
        refine run_seq ?_
        have in36 := okInts_at (ok16_0).1 (i := c) (by first | omega | (simp; omega) | assumption) (by first | omega | (simp; omega) | assumption)
        have lo36 := u8_lo in36; have hi36 := u8_hi in36
        have in37 := okInts_at ok23_0 (i := c) (by first | omega | (simp; omega) | assumption) (by first | omega | (simp; omega) | assumption)
        have lo37 := i64_lo in37; have hi37 := i64_hi in37
        have hf38 : (CFs ⟨b18, 0 + c.toNat * 1, none⟩ [.int .u8 (at_ ((refineP sets).of) c)]).1 w34 := (CF.box (m := 1) (S34.box_at (j := 0) rfl) (cs := (encPart (refineP sets))) (encPart_at ok16_0 (by first | omega | (simp; omega) | assumption) (by first | omega | (simp; omega) | assumption)))
        have hf39 : (CFs ⟨b25, 0 + c.toNat * 1, none⟩ [.int .i64 (at_ ((partOf (docKey l)).of) c)]).1 w34 := (CF.box (m := 1) (S34.box_at (j := 1) rfl) (cs := (encInts .i64 ((partOf (docKey l)).of))) (encInts_at ok23_0 (by first | omega | (simp; omega) | assumption) (by first | omega | (simp; omega) | assumption)))
        refine da_start [(3, CFs ⟨b18, 0 + c.toNat * 1, none⟩ [.int .u8 (at_ ((refineP sets).of) c)]), (7, CFs ⟨b25, 0 + c.toNat * 1, none⟩ [.int .i64 (at_ ((partOf (docKey l)).of) c)])] 9 rfl mixed ?_
        intro wd40 gd40 hd40
        have S41 : St w.heap.size w h34 wd40 [box b18 48 (encPart (refineP sets)), box b25 50 (encInts .i64 ((partOf (docKey l)).of))] := S34.keep gd40
        have hf42 := (CFs ⟨b18, 0 + c.toNat * 1, none⟩ [.int .u8 (at_ ((refineP sets).of) c)]).2 _ _ gd40 hf38
        have hf43 := (CFs ⟨b25, 0 + c.toNat * 1, none⟩ [.int .i64 (at_ ((partOf (docKey l)).of) c)]).2 _ _ gd40 hf39
        refine d_q (i := 0) (v := .int .i64 c) (fun _ => True) (fun _ ho => trivial) rfl (by decide +kernel) (by decide +kernel) (by decide +kernel) rfl rfl (fun wq hq => (x_move r34_8)) (of_ne rfl (of_ne rfl (of_nil _ _))) ?_
        refine d_q (i := 1) (v := .pointer (some ⟨b18, 0, none⟩)) (fun _ => True) (fun _ ho => trivial) rfl (by decide +kernel) (by decide +kernel) (by decide +kernel) rfl rfl (fun wq hq => (x_fieldAt f48_0 t46 rfl r34_5)) (of_ne rfl (of_ne rfl (of_nil _ _))) ?_
        refine d_q (i := 2) (v := .pointer (some ⟨b18, 0 + c.toNat * 1, none⟩)) (fun _ => True) (fun _ ho => trivial) rfl (by decide +kernel) (by decide +kernel) (by decide +kernel) rfl rfl (fun wq hq => (x_indexAddr_arr u46 t5 rfl rfl (by first | omega | (simp; omega) | assumption) (by first | omega | (simp; omega) | assumption))) (of_ne rfl (of_ne rfl (of_nil _ _))) ?_
        refine d_q (i := 3) (v := .int .u8 (at_ ((refineP sets).of) c)) (CF ⟨b18, 0 + c.toNat * 1, none⟩ [.int .u8 (at_ ((refineP sets).of) c)]) (fun _ ho => ho _ (List.mem_of_getElem? (i := 0) rfl) rfl) rfl (by decide +kernel) (by decide +kernel) (by decide +kernel) rfl rfl (fun wq hq => (x_load (seg := [.int .u8 (at_ ((refineP sets).of) c)]) t5 rfl (by simp) rfl hq)) (of_eq hf42 (of_ne rfl (of_nil _ _))) ?_
        refine d_q (i := 4) (v := .int .i64 (at_ ((refineP sets).of) c)) (fun _ => True) (fun _ ho => trivial) rfl (by decide +kernel) (by decide +kernel) (by decide +kernel) rfl rfl (fun wq hq => (x_conv u5 u3 rfl (in_i64 (by first | omega | (simp; omega) | assumption) (by first | omega | (simp; omega) | assumption)))) (of_ne rfl (of_ne rfl (of_nil _ _))) ?_
        refine d_q (i := 5) (v := .int .i64 c) (fun _ => True) (fun _ ho => trivial) rfl (by decide +kernel) (by decide +kernel) (by decide +kernel) rfl rfl (fun wq hq => (x_move r34_8)) (of_ne rfl (of_ne rfl (of_nil _ _))) ?_
        refine d_q (i := 6) (v := .pointer (some ⟨b25, 0 + c.toNat * 1, none⟩)) (fun _ => True) (fun _ ho => trivial) rfl (by decide +kernel) (by decide +kernel) (by decide +kernel) rfl rfl (fun wq hq => (x_indexAddr_arr u50 t3 r34_6 rfl (by first | omega | (simp; omega) | assumption) (by first | omega | (simp; omega) | assumption))) (of_ne rfl (of_ne rfl (of_nil _ _))) ?_
        refine d_q (i := 7) (v := .int .i64 (at_ ((partOf (docKey l)).of) c)) (CF ⟨b25, 0 + c.toNat * 1, none⟩ [.int .i64 (at_ ((partOf (docKey l)).of) c)]) (fun _ ho => ho _ (List.mem_of_getElem? (i := 1) rfl) rfl) rfl (by decide +kernel) (by decide +kernel) (by decide +kernel) rfl rfl (fun wq hq => (x_load (seg := [.int .i64 (at_ ((partOf (docKey l)).of) c)]) t3 rfl (by simp) rfl hq)) (of_ne rfl (of_eq hf43 (of_nil _ _))) ?_
        refine d_q (i := 8) (v := .bool (decide ((at_ ((refineP sets).of) c) ≠ (at_ ((partOf (docKey l)).of) c)))) (fun _ => True) (fun _ ho => trivial) rfl (by decide +kernel) (by decide +kernel) (by decide +kernel) rfl rfl (fun wq hq => (x_neq rfl rfl)) (of_ne rfl (of_ne rfl (of_nil _ _))) ?_
        refine ra_done (by decide +kernel) ?_
        intro wd44 gd44
        have S45 : St w.heap.size w h34 wd44 [box b18 48 (encPart (refineP sets)), box b25 50 (encInts .i64 ((partOf (docKey l)).of))] := S41.keep gd44
        have hc46 : ¬ ((at_ ((refineP sets).of) c) ≠ (at_ ((partOf (docKey l)).of) c)) := by
          have hq_ : l = sets.map words := by rw [hI7.2.2, List.take_of_length_le (by omega)]
          rw [hq_, doc_ref]; simp
        refine run_cond (b := false) (congrArg Value.bool (decide_eq_false hc46)) ?_
        simp only [if_true, if_false, Bool.false_eq_true]
        refine run_skip ?_
        refine run_inBlock ?_
        refine run_reg (l := [0, 1, 2]) rfl ?_
        refine p_v (v := .int .i64 c) rfl rfl rfl (x_move r34_8) ?_
        refine p_v (v := .int .i64 (c + 1)) rfl rfl rfl (x_add rfl rfl (in_i64 (by first | omega | (simp; omega) | assumption) (by first | omega | (simp; omega) | assumption))) ?_
        refine p_v (v := .int .i64 (c + 1)) rfl rfl rfl (x_assign rfl) ?_
        refine run_region_end ?_
        refine ih34 (c + 1) _ _ (by dsimp only; omega) ⟨h34, le34, S45.sub [0, 1] (by decide) rfl _ rfl, r34_5, r34_6, rfl, (in_i64 (by first | omega | (simp; omega) | assumption) (by first | omega | (simp; omega) | assumption)), (by exact ⟨by omega, by omega⟩)⟩
      · skip
        refine run_exit rfl ?_
        refine run_seq ?_
        refine run_reg (l := [0, 1]) rfl ?_
        refine p_c rfl rfl rfl (y_call (args := []) c26 rfl rfl) (awake2_calls w34  (Block.st S34 tb)) ?_
        rintro _ w47 ⟨h47, T47, rfl⟩
        have S48 : St w.heap.size w h34 w47 [box b18 48 (encPart (refineP sets)), box b25 50 (encInts .i64 ((partOf (docKey l)).of))] := S34.keep (Chg.of_below T47.below)
        refine p_v (v := .bool true) rfl rfl rfl (x_assign rfl) ?_
        refine run_region_end ?_
        refine run_ret Tryd.func8 (res1 rfl (res_tmp (v := .bool true) rfl)) ?_
        have q0 : (true : Bool) = true := rfl
        refine ⟨_, rfl, h34, ?_, ?_⟩
        · exact S48.sub [] (by decide) rfl _ rfl
        · rfl
end Go.Proofs.YtlcmimjdnhjeoaaDoor
