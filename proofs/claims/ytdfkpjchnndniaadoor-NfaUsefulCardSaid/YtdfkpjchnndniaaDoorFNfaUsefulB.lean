/- The law NfaUseful, walked: it tells true at every input, and writes nothing that was there. -/
import Derived.Test.YtdfkpjchnndniaaDoorTB
import Derived.Test.YtdfkpjchnndniaaDoorM6
import Derived.Test.YtdfkpjchnndniaaDoorM7
import Derived.Test.YtdfkpjchnndniaaDoorQB
import Derived.Test.YtdfkpjchnndniaaDoorTzB
import Derived.Test.YtdfkpjchnndniaaDoorN2
import Derived.Test.YtdfkpjchnndniaaDoorK1B
import Derived.Test.YtdfkpjchnndniaaDoorN3
import Derived.Test.YtdfkpjchnndniaaDoorM11
import Derived.Test.YtdfkpjchnndniaaDoorN5
import Derived.Test.YtdfkpjchnndniaaDoorN6
import Derived.Test.YtdfkpjchnndniaaDoorN7
import Derived.Test.YtdfkpjchnndniaaDoorN8
import Derived.Test.YtdfkpjchnndniaaDoorM12
import Derived.Test.YtdfkpjchnndniaaDoorN12
import Derived.Test.YtdfkpjchnndniaaDoorVB
namespace Go.Proofs.YtdfkpjchnndniaaDoor
open Go Go.RowKit Gx
set_option maxHeartbeats 1000000
set_option linter.unusedVariables false
set_option linter.unusedSimpArgs false
attribute [local irreducible] members pack listOf count first someIn has setOf setRange wbits Lib.ctz rises rightM rowOk tab markP intoP intoTo behindP behindTo behindIn runTo endsIn endTo runM posTo mayP stepIf stepP mayTo atP lastTo greatM greatTo docAt anyTo allTo numAt numsL numsIn leftN kept lefts spotsTo lastTp followTo trimM errM comeM goesM keepM lfp seekN seekB fullS placeF okC okG clC clG clC2 clG2 firstC lastG andTo useN trues addS setsOfTo setsM bytesL strOfNums reachM goesTo goesB

theorem way_calls (w : World) (m : Mach) (A0_0 : Option Addr) (c0_0 : Nat) (b0_0 : m.spots.length ≤ c0_0 ∧ c0_0 ≤ maxLen) (l0_0 : Leads kSpot (hp w) A0_0 m.spots) (A0_1 : Option Addr) (c0_1 : Nat) (b0_1 : m.first.length ≤ c0_1 ∧ c0_1 ≤ maxLen) (l0_1 : Leads (Kd.int .i64) (hp w) A0_1 m.first) (A0_2 : Option Addr) (c0_2 : Nat) (b0_2 : m.follow.length ≤ c0_2 ∧ c0_2 ≤ maxLen) (l0_2 : Leads (Kd.int .i64).slice (hp w) A0_2 m.follow) (A0_3 : Option Addr) (c0_3 : Nat) (b0_3 : m.last.length ≤ c0_3 ∧ c0_3 ≤ maxLen) (l0_3 : Leads Kd.bool (hp w) A0_3 m.last) (src : List Int) (A1 : Option Addr) (c1 : Nat) (b1 : src.length ≤ c1 ∧ c1 ≤ maxLen) (l1 : Leads (Kd.int .i64) (hp w) A1 src) (tgt : Int) (i2 : inK .i64 tgt) (pre0 : Right m ∧ Full m ∧ rises m.spots.length (-1) src = true ∧ 0 ≤ tgt ∧ tgt < (m.spots.length : Int)) (tb : Block 0 tzTab w) :
    Calls Tryd.prog 11 #[.agg #[.slice A0_0 m.spots.length c0_0, .slice A0_1 m.first.length c0_1, .slice A0_2 m.follow.length c0_2, .slice A0_3 m.last.length c0_3, .bool m.empty], .slice A1 src.length c1, .int .i64 tgt] w fun e w' => ∃ v, e = .returned v ∧ ∃ (hn : Ghost) (s_ : ByteArray), St w.heap.size w hn w' [] ∧ v = .tuple #[.string s_, .bool (at_ (reachM m src) tgt)] ∧ s_.size ≤ maxLen ∧ (Got m src tgt (at_ (reachM m src) tgt) s_) := by
  refine calls_of_run Tryd.func11 rfl Tryd.ntmps11 rfl ?_
  have S0 := St.init w
  have bb0_0 := b0_0.1; have bc0_0 := b0_0.2; simp only [maxLen] at bc0_0
  have bb0_1 := b0_1.1; have bc0_1 := b0_1.2; simp only [maxLen] at bc0_1
  have bb0_2 := b0_2.1; have bc0_2 := b0_2.2; simp only [maxLen] at bc0_2
  have bb0_3 := b0_3.1; have bc0_3 := b0_3.2; simp only [maxLen] at bc0_3
  have bb1 := b1.1; have bc1 := b1.2; simp only [maxLen] at bc1
  have lo2 := i64_lo i2; have hi2 := i64_hi i2
  have hR_ := pre0.1; have hF_ := pre0.2.1; have hr_ := pre0.2.2.1; have h0_ := pre0.2.2.2.1; have h1_ := pre0.2.2.2.2; have hsm_ := hR_.small; have hfo_ := hR_.follow; have hla_ := hR_.last; have hin_ := rises_in hr_; have hnd_ := rises_nodup hr_; have hss_ := hR_.small'; have hll_ := rises_len0 hr_ (by omega)
  refine run_seq ?_
  refine run_reg (l := [0, 1, 2]) rfl ?_
  obtain ⟨b1, w1, r1, g1, T1⟩ := e_box (P := Tryd.prog) S0 27 (v := .agg #[.slice A0_0 m.spots.length c0_0, .slice A0_1 m.first.length c0_1, .slice A0_2 m.follow.length c0_2, .slice A0_3 m.last.length c0_3, .bool m.empty]) [.slice A0_0 m.spots.length c0_0, .slice A0_1 m.first.length c0_1, .slice A0_2 m.follow.length c0_2, .slice A0_3 m.last.length c0_3, .bool m.empty] rfl
  have S2 : St w.heap.size w (fun _ => none) w1 [box b1 27 [.slice A0_0 m.spots.length c0_0, .slice A0_1 m.first.length c0_1, .slice A0_2 m.follow.length c0_2, .slice A0_3 m.last.length c0_3, .bool m.empty]] := T1
  refine p_v (v := .pointer (some ⟨b1, 0, none⟩)) rfl rfl rfl (x_box rfl r1) ?_
  refine p_v (v := .string (⟨#[]⟩ : ByteArray)) rfl rfl rfl (x_assign rfl) ?_
  refine p_v (v := .bool false) rfl rfl rfl (x_assign rfl) ?_
  refine run_region_end ?_
  refine run_seq ?_
  refine run_reg (l := [0, 1, 2, 3]) rfl ?_
  refine p_v (v := .pointer (some ⟨b1, 0, none⟩)) rfl rfl rfl (x_fieldAt fd27_0 ty22 rfl rfl) ?_
  refine p_v (v := .slice A0_0 m.spots.length c0_0) rfl rfl rfl (x_load (seg := [.slice A0_0 m.spots.length c0_0]) ty22 rfl (by simp) rfl (CF.box (m := 1) (S2.box_at (j := 0) rfl) rfl)) ?_
  refine p_v (v := .int .i64 (m.spots.length : Int)) rfl rfl rfl (x_len_slice u22 rfl) ?_
  refine p_v (v := .int .i64 (m.spots.length : Int)) rfl rfl rfl (x_assign rfl) ?_
  refine run_region_end ?_
  refine run_seq ?_
  refine run_reg (l := [0, 1, 2]) rfl ?_
  refine p_v (v := .int .i64 (m.spots.length : Int)) rfl rfl rfl (x_move rfl) ?_
  obtain ⟨v3, w3, r3, g3, T3⟩ := e_make (kk := .i64) (kk' := .i64) (kd := Kd.string) (q := (m.spots.length : Int)) (z := (⟨#[]⟩ : ByteArray)) (zc := [.string ⟨#[]⟩]) S2 u64 ty9 rfl rfl ⟨rfl, by decide⟩ (by first|omega|(simp;omega)|assumption) (by first|omega|(simp;omega)|assumption) (by first|omega|(simp;omega)|assumption)
  have S4 : St w.heap.size w (fun _ => none) w3 [box b1 27 [.slice A0_0 m.spots.length c0_0, .slice A0_1 m.first.length c0_1, .slice A0_2 m.follow.length c0_2, .slice A0_3 m.last.length c0_3, .bool m.empty], row 9 Kd.string v3 (List.replicate ((m.spots.length : Int)).toNat (⟨#[]⟩ : ByteArray))] := T3
  refine p_v (v := v3) rfl rfl rfl (x_make rfl rfl r3) ?_
  refine p_v (v := v3) rfl rfl rfl (x_assign rfl) ?_
  refine run_region_end ?_
  refine run_seq ?_
  refine run_reg (l := [0, 1, 2]) rfl ?_
  refine p_v (v := .int .i64 (m.spots.length : Int)) rfl rfl rfl (x_move rfl) ?_
  obtain ⟨v5, w5, r5, g5, T5⟩ := e_make (kk := .i64) (kk' := .i64) (kd := Kd.bool) (q := (m.spots.length : Int)) (z := false) (zc := [.bool false]) S4 u25 ty4 rfl rfl ⟨rfl, trivial⟩ (by first|omega|(simp;omega)|assumption) (by first|omega|(simp;omega)|assumption) (by first|omega|(simp;omega)|assumption)
  have S6 : St w.heap.size w (fun _ => none) w5 [box b1 27 [.slice A0_0 m.spots.length c0_0, .slice A0_1 m.first.length c0_1, .slice A0_2 m.follow.length c0_2, .slice A0_3 m.last.length c0_3, .bool m.empty], row 9 Kd.string v3 (List.replicate ((m.spots.length : Int)).toNat (⟨#[]⟩ : ByteArray)), row 4 Kd.bool v5 (List.replicate ((m.spots.length : Int)).toNat false)] := T5
  refine p_v (v := v5) rfl rfl rfl (x_make rfl rfl r5) ?_
  refine p_v (v := v5) rfl rfl rfl (x_assign rfl) ?_
  refine run_region_end ?_
  refine run_seq ?_
  refine run_reg (l := [0, 1, 2, 3]) rfl ?_
  obtain ⟨v7, w7, r7, g7, T7⟩ := e_build_ones (kd := (Kd.int .i64)) (xs := ([] : List Int)) (len := 0) [] S6 u23 ty3 rfl rfl rfl rfl rfl ones_nil [] (Elems.nil _ _) rfl
  have S8 : St w.heap.size w (fun _ => none) w7 [box b1 27 [.slice A0_0 m.spots.length c0_0, .slice A0_1 m.first.length c0_1, .slice A0_2 m.follow.length c0_2, .slice A0_3 m.last.length c0_3, .bool m.empty], row 9 Kd.string v3 (List.replicate ((m.spots.length : Int)).toNat (⟨#[]⟩ : ByteArray)), row 4 Kd.bool v5 (List.replicate ((m.spots.length : Int)).toNat false), row 3 (Kd.int .i64) v7 ([] : List Int)] := T7
  refine p_v (v := v7) rfl rfl rfl (y_build_slice (pv := []) rfl r7) ?_
  refine p_v (v := .slice A1 src.length c1) rfl rfl rfl (x_move rfl) ?_
  obtain ⟨v10, w10, r10, g10, T10⟩ := e_append (kd := (Kd.int .i64)) (A := A1) (c := c1) (ys := src) (len := src.length) 23 S8 u23 ty3 rfl rfl (j := 3) rfl rfl (news_flat (l1.mono (St.le0 S8)) (fun _ _ hr => hr)) (by first|omega|(simp;omega)|assumption) (by first|omega|(simp;omega)|assumption)
  have S11 : St w.heap.size w (fun _ => none) w10 [box b1 27 [.slice A0_0 m.spots.length c0_0, .slice A0_1 m.first.length c0_1, .slice A0_2 m.follow.length c0_2, .slice A0_3 m.last.length c0_3, .bool m.empty], row 9 Kd.string v3 (List.replicate ((m.spots.length : Int)).toNat (⟨#[]⟩ : ByteArray)), row 4 Kd.bool v5 (List.replicate ((m.spots.length : Int)).toNat false), row 3 (Kd.int .i64) v10 src] := T10
  refine p_v (v := v10) rfl rfl rfl (x_append rfl rfl r10) ?_
  refine p_v (v := v10) rfl rfl rfl (x_assign rfl) ?_
  refine run_region_end ?_
  refine run_seq ?_
  refine run_seq ?_
  refine run_reg (l := [0]) rfl ?_
  refine p_v (v := .int .i64 0) rfl rfl rfl (x_assign rfl) ?_
  refine run_region_end ?_
  refine run_block ?_
  refine run_loop (S := (List ByteArray) × (List Bool) × Int) (fun (q_ : (List ByteArray) × (List Bool) × Int) ρ w' => match q_ with | (texts, seen, i) => ∃ (h : Ghost) (v_texts : Value) (v_seen : Value), Le (fun _ => none) h ∧ St w.heap.size w h w' [box b1 27 [.slice A0_0 m.spots.length c0_0, .slice A0_1 m.first.length c0_1, .slice A0_2 m.follow.length c0_2, .slice A0_3 m.last.length c0_3, .bool m.empty], row 9 Kd.string v_texts texts, row 4 Kd.bool v_seen seen, row 3 (Kd.int .i64) v10 src] ∧ ρ 2 = .int .i64 tgt ∧ ρ 3 = .pointer (some ⟨b1, 0, none⟩) ∧ ρ 9 = v_texts ∧ ρ 10 = v_seen ∧ ρ 11 = v10 ∧ ρ 12 = .int .i64 i ∧ inK .i64 i ∧ (0 ≤ i ∧ i ≤ (src.length : Int) ∧ Way0 m src texts seen i)) (fun q_ => match q_ with | (texts, seen, i) => (src.length - i).toNat) (List.replicate ((m.spots.length : Int)).toNat (⟨#[]⟩ : ByteArray), List.replicate ((m.spots.length : Int)).toNat false, 0) ⟨(fun _ => none), v3, v5, Le.refl _, S11.sub [0, 1, 2, 3] (by decide) rfl _ rfl, rfl, rfl, rfl, rfl, rfl, rfl, (in_i64 (by first|omega|(simp;omega)|assumption) (by first|omega|(simp;omega)|assumption)), (by exact ⟨by omega, by omega, by first | exact way0_0 m src | (simp only [Int.toNat_natCast]; exact way0_0 m src)⟩)⟩ ?_
  rintro ⟨texts, seen, i⟩ ih12 ρ12 w12 ⟨h12, v_texts, v_seen, le12, S12, r12_2, r12_3, r12_9, r12_10, r12_11, r12_12, f12_0, hI12⟩
  have lf12_0 := i64_lo f12_0; have hf12_0 := i64_hi f12_0
  have rl12_1 := S12.row_le (j := 1) rfl; simp only [maxLen] at rl12_1
  have rl12_2 := S12.row_le (j := 2) rfl; simp only [maxLen] at rl12_2
  have rl12_3 := S12.row_le (j := 3) rfl; simp only [maxLen] at rl12_3
  have hx_ : i < (src.length : Int) → 0 ≤ at_ src i ∧ at_ src i < (m.spots.length : Int) := fun h => hin_ _ (at_mem hI12.1 h)
  have hlt_ := hI12.2.2.lenT; have hls_ := hI12.2.2.lenS
  refine run_seq ?_
  refine run_seq ?_
  refine run_reg (l := [0, 1, 2, 3]) rfl ?_
  refine p_v (v := .int .i64 i) rfl rfl rfl (x_move r12_12) ?_
  refine p_v (v := v10) rfl rfl rfl (x_move r12_11) ?_
  have lb13 := S12.row_le (j := 3) rfl; simp only [maxLen] at lb13
  refine p_v (v := .int .i64 (src.length : Int)) rfl rfl rfl (x_len_own u23 rfl (e_len_own S12 (j := 3) rfl)) ?_
  refine p_v (v := .bool (decide (i < (src.length : Int)))) rfl rfl rfl (x_lss rfl rfl) ?_
  refine run_region_end ?_
  refine run_cond_prop (p := i < (src.length : Int)) rfl (fun hc14 => ?_) (fun hc14 => ?_)
  · skip
    refine run_skip ?_
    refine run_seq ?_
    refine run_block ?_
    refine run_seq ?_
    refine run_reg (l := [0, 1, 2, 3, 4, 5, 6]) rfl ?_
    refine p_v (v := v_seen) rfl rfl rfl (x_move r12_10) ?_
    refine p_v (v := v10) rfl rfl rfl (x_move r12_11) ?_
    refine p_v (v := .int .i64 i) rfl rfl rfl (x_move r12_12) ?_
    obtain ⟨ad15, a15, at15⟩ := e_index_own (q := i) (m := 1) S12 (j := 3) rfl rfl (by first|omega|(simp;omega)|assumption) (by first|omega|(simp;omega)|assumption)
    refine p_v (v := .pointer (some ad15)) rfl rfl rfl (x_index_own u23 ty3 rfl rfl a15 (by first|omega|(simp;omega)|assumption) (by first|omega|(simp;omega)|assumption)) ?_
    obtain ⟨seg16, rp16, cf16⟩ := e_load_own (q := i) S12 (j := 3) rfl rfl at15 (by first|omega|(simp;omega)|assumption) (by first|omega|(simp;omega)|assumption)
    obtain ⟨rfl, in16⟩ := rp16
    have lo16 := i64_lo in16; have hi16 := i64_hi in16
    refine p_v (v := .int .i64 (at_ src i)) rfl rfl rfl (x_load (seg := [.int .i64 (at_ src i)]) ty3 rfl (by simp) rfl cf16) ?_
    obtain ⟨ad17, a17, at17⟩ := e_index_own (q := at_ src i) (m := 1) S12 (j := 2) rfl rfl (by first|omega|(simp;omega)|assumption) (by first|omega|(simp;omega)|assumption)
    refine p_v (v := .pointer (some ad17)) rfl rfl rfl (x_index_own u25 ty4 rfl rfl a17 (by first|omega|(simp;omega)|assumption) (by first|omega|(simp;omega)|assumption)) ?_
    obtain ⟨w18, r18, g18, T18⟩ := e_store_own (u := .bool true) (q := at_ src i) true (vs := [.bool true]) S12 ty4 rfl (j := 2) rfl rfl ⟨rfl, trivial⟩ at17 (by first|omega|(simp;omega)|assumption) (by first|omega|(simp;omega)|assumption)
    have S19 : St w.heap.size w h12 w18 [box b1 27 [.slice A0_0 m.spots.length c0_0, .slice A0_1 m.first.length c0_1, .slice A0_2 m.follow.length c0_2, .slice A0_3 m.last.length c0_3, .bool m.empty], row 9 Kd.string v_texts texts, row 4 Kd.bool v_seen (seen.set (at_ src i).toNat true), row 3 (Kd.int .i64) v10 src] := T18
    refine p_s rfl rfl (x_store rfl rfl r18) ?_
    refine run_region_end ?_
    refine run_seq ?_
    obtain ⟨ad20, a20, at20⟩ := e_index_own (q := i) (m := 1) S19 (j := 3) rfl rfl (by first|omega|(simp;omega)|assumption) (by first|omega|(simp;omega)|assumption)
    obtain ⟨seg21, rp21, cf21⟩ := e_load_own (q := i) S19 (j := 3) rfl rfl at20 (by first|omega|(simp;omega)|assumption) (by first|omega|(simp;omega)|assumption)
    obtain ⟨rfl, in21⟩ := rp21
    have lo21 := i64_lo in21; have hi21 := i64_hi in21
    obtain ⟨ad22, seg22, a22, rp22, ce22⟩ := e_index_ro (q := at_ src i) (m := 5) l0_0 rfl (by first|omega|(simp;omega)|assumption) (by first|omega|(simp;omega)|assumption)
    obtain ⟨rfl, ok22⟩ := rp22
    have slook22 := u8_lo ok22; have shiok22 := u8_hi ok22
    obtain ⟨_, _, _, _, _, _, _, in24_0⟩ := calls_some (first_calls w18 ((at_ m.spots (at_ src i)).set) (Block.st S19 tb))
    have lo_in24_0 := u8_lo in24_0; have hi_in24_0 := u8_hi in24_0
    have hf25 : (CFs ⟨b1, 0, none⟩ [.slice A0_0 m.spots.length c0_0]).1 w18 := (CF.box (m := 1) (S19.box_at (j := 0) rfl) rfl)
    have hf26 : (CFs ad20 [.int .i64 (at_ src i)]).1 w18 := cf21
    have hf27 : (CFs (ad22.add 0) (encSet ((at_ m.spots (at_ src i)).set))).1 w18 := (CF.ghost (sub_seg (o := 0) (m := 4) (ds := (encSet ((at_ m.spots (at_ src i)).set))) ce22 rfl) (St.le0 S19))
    have hf28 : (BlockS 0 tzTab).1 w18 := (Block.st S19 tb)
    refine da_start [(1, CFs ⟨b1, 0, none⟩ [.slice A0_0 m.spots.length c0_0]), (5, CFs ad20 [.int .i64 (at_ src i)]), (8, CFs (ad22.add 0) (encSet ((at_ m.spots (at_ src i)).set))), (9, BlockS 0 tzTab)] 15 rfl mixed ?_
    intro wd29 gd29 hd29
    have S30 := S19.keep gd29
    have hf31 := (CFs ⟨b1, 0, none⟩ [.slice A0_0 m.spots.length c0_0]).2 _ _ gd29 hf25
    have hf32 := (CFs ad20 [.int .i64 (at_ src i)]).2 _ _ gd29 hf26
    have hf33 := (CFs (ad22.add 0) (encSet ((at_ m.spots (at_ src i)).set))).2 _ _ gd29 hf27
    have hf34 := (BlockS 0 tzTab).2 _ _ gd29 hf28
    refine d_q (i := 0) (v := .pointer (some ⟨b1, 0, none⟩)) (fun _ => True) (fun _ ho => trivial) rfl (by decide +kernel) (by decide +kernel) (by decide +kernel) rfl rfl (fun wq hq => (x_fieldAt fd27_0 ty22 rfl r12_3)) (of_ne rfl (of_ne rfl (of_ne rfl (of_ne rfl (of_nil _ _))))) ?_
    refine d_q (i := 1) (v := .slice A0_0 m.spots.length c0_0) (CF ⟨b1, 0, none⟩ [.slice A0_0 m.spots.length c0_0]) (fun _ ho => ho _ (List.mem_of_getElem? (i := 0) rfl) rfl) rfl (by decide +kernel) (by decide +kernel) (by decide +kernel) rfl rfl (fun wq hq => (x_load (seg := [.slice A0_0 m.spots.length c0_0]) ty22 rfl (by simp) rfl hq)) (of_eq hf31 (of_ne rfl (of_ne rfl (of_ne rfl (of_nil _ _))))) ?_
    refine d_q (i := 2) (v := v10) (fun _ => True) (fun _ ho => trivial) rfl (by decide +kernel) (by decide +kernel) (by decide +kernel) rfl rfl (fun wq hq => (x_move r12_11)) (of_ne rfl (of_ne rfl (of_ne rfl (of_ne rfl (of_nil _ _))))) ?_
    refine d_q (i := 3) (v := .int .i64 i) (fun _ => True) (fun _ ho => trivial) rfl (by decide +kernel) (by decide +kernel) (by decide +kernel) rfl rfl (fun wq hq => (x_move r12_12)) (of_ne rfl (of_ne rfl (of_ne rfl (of_ne rfl (of_nil _ _))))) ?_
    refine d_q (i := 4) (v := .pointer (some ad20)) (fun _ => True) (fun _ ho => trivial) rfl (by decide +kernel) (by decide +kernel) (by decide +kernel) rfl rfl (fun wq hq => (x_index_own u23 ty3 rfl rfl a20 (by first|omega|(simp;omega)|assumption) (by first|omega|(simp;omega)|assumption))) (of_ne rfl (of_ne rfl (of_ne rfl (of_ne rfl (of_nil _ _))))) ?_
    refine d_q (i := 5) (v := .int .i64 (at_ src i)) (CF ad20 [.int .i64 (at_ src i)]) (fun _ ho => ho _ (List.mem_of_getElem? (i := 1) rfl) rfl) rfl (by decide +kernel) (by decide +kernel) (by decide +kernel) rfl rfl (fun wq hq => (x_load (seg := [.int .i64 (at_ src i)]) ty3 rfl (by simp) rfl hq)) (of_ne rfl (of_eq hf32 (of_ne rfl (of_ne rfl (of_nil _ _))))) ?_
    refine d_q (i := 6) (v := .pointer (some ad22)) (fun _ => True) (fun _ ho => trivial) rfl (by decide +kernel) (by decide +kernel) (by decide +kernel) rfl rfl (fun wq hq => (x_index_ro u22 ty55 rfl rfl a22 (by first|omega|(simp;omega)|assumption) (by first|omega|(simp;omega)|assumption))) (of_ne rfl (of_ne rfl (of_ne rfl (of_ne rfl (of_nil _ _))))) ?_
    refine d_q (i := 7) (v := .pointer (some (ad22.add 0))) (fun _ => True) (fun _ ho => trivial) rfl (by decide +kernel) (by decide +kernel) (by decide +kernel) rfl rfl (fun wq hq => (x_fieldAd fd55_0 ty49 rfl rfl)) (of_ne rfl (of_ne rfl (of_ne rfl (of_ne rfl (of_nil _ _))))) ?_
    refine d_q (i := 8) (v := .agg (encSet ((at_ m.spots (at_ src i)).set)).toArray) (CF (ad22.add 0) (encSet ((at_ m.spots (at_ src i)).set))) (fun _ ho => ho _ (List.mem_of_getElem? (i := 2) rfl) rfl) rfl (by decide +kernel) (by decide +kernel) (by decide +kernel) rfl rfl (fun wq hq => (x_load (seg := (encSet ((at_ m.spots (at_ src i)).set))) ty49 rfl (by simp) rfl hq)) (of_ne rfl (of_ne rfl (of_eq hf33 (of_ne rfl (of_nil _ _))))) ?_
    refine d_m (i := 9) (v := .tuple #[.int .u8 (first ((at_ m.spots (at_ src i)).set)), .bool (someIn ((at_ m.spots (at_ src i)).set))]) (fun wf => Block 0 tzTab wf) (fun _ ho => ho _ (List.mem_of_getElem? (i := 3) rfl) rfl) rfl (by decide +kernel) (by decide +kernel) (by decide +kernel) rfl rfl (fun wq => (y_call (args := [.agg (encSet ((at_ m.spots (at_ src i)).set)).toArray]) ca28 rfl rfl)) (fun wq hq => (first_calls wq ((at_ m.spots (at_ src i)).set) hq).mono fun e w2 he => by obtain ⟨_, rfl, _, T, rfl, _⟩ := he; exact ⟨rfl, Chg.of_below T.below⟩) (of_ne rfl (of_ne rfl (of_ne rfl (of_eq hf34 (of_nil _ _))))) ?_
    refine d_q (i := 10) (v := .tuple #[.int .u8 (first ((at_ m.spots (at_ src i)).set)), .bool (someIn ((at_ m.spots (at_ src i)).set))]) (fun _ => True) (fun _ ho => trivial) rfl (by decide +kernel) (by decide +kernel) (by decide +kernel) rfl rfl (fun wq hq => (x_move rfl)) (of_ne rfl (of_ne rfl (of_ne rfl (of_ne rfl (of_nil _ _))))) ?_
    refine d_q (i := 11) (v := .int .u8 (first ((at_ m.spots (at_ src i)).set))) (fun _ => True) (fun _ ho => trivial) rfl (by decide +kernel) (by decide +kernel) (by decide +kernel) rfl rfl (fun wq hq => (x_extract (vs := [.int .u8 (first ((at_ m.spots (at_ src i)).set)), .bool (someIn ((at_ m.spots (at_ src i)).set))]) rfl rfl)) (of_ne rfl (of_ne rfl (of_ne rfl (of_ne rfl (of_nil _ _))))) ?_
    refine d_q (i := 12) (v := .bool (someIn ((at_ m.spots (at_ src i)).set))) (fun _ => True) (fun _ ho => trivial) rfl (by decide +kernel) (by decide +kernel) (by decide +kernel) rfl rfl (fun wq hq => (x_extract (vs := [.int .u8 (first ((at_ m.spots (at_ src i)).set)), .bool (someIn ((at_ m.spots (at_ src i)).set))]) rfl rfl)) (of_ne rfl (of_ne rfl (of_ne rfl (of_ne rfl (of_nil _ _))))) ?_
    refine d_q (i := 13) (v := .int .u8 (first ((at_ m.spots (at_ src i)).set))) (fun _ => True) (fun _ ho => trivial) rfl (by decide +kernel) (by decide +kernel) (by decide +kernel) rfl rfl (fun wq hq => (x_assign rfl)) (of_ne rfl (of_ne rfl (of_ne rfl (of_ne rfl (of_nil _ _))))) ?_
    refine d_q (i := 14) (v := .bool (someIn ((at_ m.spots (at_ src i)).set))) (fun _ => True) (fun _ ho => trivial) rfl (by decide +kernel) (by decide +kernel) (by decide +kernel) rfl rfl (fun wq hq => (x_assign rfl)) (of_ne rfl (of_ne rfl (of_ne rfl (of_ne rfl (of_nil _ _))))) ?_
    refine ra_done (by decide +kernel) ?_
    intro wd35 gd35
    have S36 := S30.keep gd35
    obtain ⟨ad37, a37, at37⟩ := e_index_own (q := i) (m := 1) S36 (j := 3) rfl rfl (by first|omega|(simp;omega)|assumption) (by first|omega|(simp;omega)|assumption)
    obtain ⟨seg38, rp38, cf38⟩ := e_load_own (q := i) S36 (j := 3) rfl rfl at37 (by first|omega|(simp;omega)|assumption) (by first|omega|(simp;omega)|assumption)
    obtain ⟨rfl, in38⟩ := rp38
    have lo38 := i64_lo in38; have hi38 := i64_hi in38
    have hf39 : (CFs ad37 [.int .i64 (at_ src i)]).1 wd35 := cf38
    refine da_start [(4, CFs ad37 [.int .i64 (at_ src i)])] 10 rfl mixed ?_
    intro wd40 gd40 hd40
    have S41 := S36.keep gd40
    have hf42 := (CFs ad37 [.int .i64 (at_ src i)]).2 _ _ gd40 hf39
    refine d_q (i := 0) (v := v_texts) (fun _ => True) (fun _ ho => trivial) rfl (by decide +kernel) (by decide +kernel) (by decide +kernel) rfl rfl (fun wq hq => (x_move r12_9)) (of_ne rfl (of_nil _ _)) ?_
    refine d_q (i := 1) (v := v10) (fun _ => True) (fun _ ho => trivial) rfl (by decide +kernel) (by decide +kernel) (by decide +kernel) rfl rfl (fun wq hq => (x_move r12_11)) (of_ne rfl (of_nil _ _)) ?_
    refine d_q (i := 2) (v := .int .i64 i) (fun _ => True) (fun _ ho => trivial) rfl (by decide +kernel) (by decide +kernel) (by decide +kernel) rfl rfl (fun wq hq => (x_move r12_12)) (of_ne rfl (of_nil _ _)) ?_
    refine d_q (i := 3) (v := .pointer (some ad37)) (fun _ => True) (fun _ ho => trivial) rfl (by decide +kernel) (by decide +kernel) (by decide +kernel) rfl rfl (fun wq hq => (x_index_own u23 ty3 rfl rfl a37 (by first|omega|(simp;omega)|assumption) (by first|omega|(simp;omega)|assumption))) (of_ne rfl (of_nil _ _)) ?_
    refine d_q (i := 4) (v := .int .i64 (at_ src i)) (CF ad37 [.int .i64 (at_ src i)]) (fun _ ho => ho _ (List.mem_of_getElem? (i := 0) rfl) rfl) rfl (by decide +kernel) (by decide +kernel) (by decide +kernel) rfl rfl (fun wq hq => (x_load (seg := [.int .i64 (at_ src i)]) ty3 rfl (by simp) rfl hq)) (of_eq hf42 (of_nil _ _)) ?_
    refine d_q (i := 5) (v := .int .u8 (first ((at_ m.spots (at_ src i)).set))) (fun _ => True) (fun _ ho => trivial) rfl (by decide +kernel) (by decide +kernel) (by decide +kernel) rfl rfl (fun wq hq => (x_move rfl)) (of_ne rfl (of_nil _ _)) ?_
    refine ra_one (i := 6) (by decide +kernel) ?_
    intro wd43 gd43
    have S44 := S41.keep gd43
    have hf45 := (CFs ad37 [.int .i64 (at_ src i)]).2 _ _ gd43 hf42
    obtain ⟨v46, w46, r46, g46, T46⟩ := e_build_ones (kd := (Kd.int .u8)) (xs := ([first ((at_ m.spots (at_ src i)).set)] : List Int)) (len := 1) [.int .u8 (first ((at_ m.spots (at_ src i)).set))] S44 u38 ty5 rfl rfl rfl rfl rfl (ones_cons rfl ones_nil) [.int .u8 (first ((at_ m.spots (at_ src i)).set))] (Elems.single (k := (Kd.int .u8)) (h := h12) (x := first ((at_ m.spots (at_ src i)).set)) (cs := [.int .u8 (first ((at_ m.spots (at_ src i)).set))]) ⟨rfl, in24_0⟩) rfl
    have S47 : St w.heap.size w h12 w46 [box b1 27 [.slice A0_0 m.spots.length c0_0, .slice A0_1 m.first.length c0_1, .slice A0_2 m.follow.length c0_2, .slice A0_3 m.last.length c0_3, .bool m.empty], row 9 Kd.string v_texts texts, row 4 Kd.bool v_seen (seen.set (at_ src i).toNat true), row 3 (Kd.int .i64) v10 src, row 5 (Kd.int .u8) v46 ([first ((at_ m.spots (at_ src i)).set)] : List Int)] := T46
    have hf48 := (CFs ad37 [.int .i64 (at_ src i)]).2 _ _ g46 hf45
    refine d_v (v := v46) rfl rfl rfl (y_build_slice (pv := [(0, .int .u8 (first ((at_ m.spots (at_ src i)).set)))]) rfl r46) (.inl g46) ?_
    obtain ⟨A49, c49, ev49, lc49, cm49⟩ := S47.row_val (j := 4) rfl
    have sz50 := str_small (xs := ([first ((at_ m.spots (at_ src i)).set)] : List Int)) (Nat.le_trans (And.intro lc49 cm49).1 (And.intro lc49 cm49).2); have bdsz50 := sz50; simp only [maxLen] at bdsz50
    obtain ⟨ad51, a51, at51⟩ := e_index_own (q := at_ src i) (m := 1) S47 (j := 1) rfl rfl (by first|omega|(simp;omega)|assumption) (by first|omega|(simp;omega)|assumption)
    have hf52 : (LeadsS (Kd.int .u8) A49 ([first ((at_ m.spots (at_ src i)).set)] : List Int)).1 w46 := (row_leads_eq S47 (j := 4) rfl ev49)
    refine ra_more [(7, LeadsS (Kd.int .u8) A49 ([first ((at_ m.spots (at_ src i)).set)] : List Int))] ?_
    refine d_q (i := 7) (v := .string (strOfNums ([first ((at_ m.spots (at_ src i)).set)] : List Int))) (fun wf => Leads (Kd.int .u8) (hp wf) A49 ([first ((at_ m.spots (at_ src i)).set)] : List Int)) (fun _ ho => ho _ (List.mem_of_getElem? (i := 0) rfl) rfl) rfl (by decide +kernel) (by decide +kernel) (by decide +kernel) rfl rfl (fun wq hq => (x_bytes_string u38 u5 u9 ev49 hq)) (of_eq hf52 (of_ne rfl (of_nil _ _))) ?_
    refine d_q (i := 8) (v := .pointer (some ad51)) (fun _ => True) (fun _ ho => trivial) rfl (by decide +kernel) (by decide +kernel) (by decide +kernel) rfl rfl (fun wq hq => (x_index_own u64 ty9 rfl rfl a51 (by first|omega|(simp;omega)|assumption) (by first|omega|(simp;omega)|assumption))) (of_ne rfl (of_ne rfl (of_nil _ _))) ?_
    refine ra_one (i := 9) (by decide +kernel) ?_
    intro wd53 gd53
    have S54 := S47.keep gd53
    have hf55 := (LeadsS (Kd.int .u8) A49 ([first ((at_ m.spots (at_ src i)).set)] : List Int)).2 _ _ gd53 hf52
    have hf56 := (CFs ad37 [.int .i64 (at_ src i)]).2 _ _ gd53 hf48
    obtain ⟨w57, r57, g57, T57⟩ := e_store_own (u := .string (strOfNums ([first ((at_ m.spots (at_ src i)).set)] : List Int))) (q := at_ src i) (strOfNums ([first ((at_ m.spots (at_ src i)).set)] : List Int)) (vs := [.string (strOfNums ([first ((at_ m.spots (at_ src i)).set)] : List Int))]) S54 ty9 rfl (j := 1) rfl rfl ⟨rfl, sz50⟩ at51 (by first|omega|(simp;omega)|assumption) (by first|omega|(simp;omega)|assumption)
    have S58 : St w.heap.size w h12 w57 [box b1 27 [.slice A0_0 m.spots.length c0_0, .slice A0_1 m.first.length c0_1, .slice A0_2 m.follow.length c0_2, .slice A0_3 m.last.length c0_3, .bool m.empty], row 9 Kd.string v_texts (texts.set (at_ src i).toNat (strOfNums ([first ((at_ m.spots (at_ src i)).set)] : List Int))), row 4 Kd.bool v_seen (seen.set (at_ src i).toNat true), row 3 (Kd.int .i64) v10 src, row 5 (Kd.int .u8) v46 ([first ((at_ m.spots (at_ src i)).set)] : List Int)] := T57
    have hf59 : (LeadsS (Kd.int .u8) A49 ([first ((at_ m.spots (at_ src i)).set)] : List Int)).1 w57 := (row_leads_eq S58 (j := 4) rfl ev49)
    obtain ⟨seg60, rp60, cf60⟩ := e_load_own (q := i) S58 (j := 3) rfl rfl at37 (by first|omega|(simp;omega)|assumption) (by first|omega|(simp;omega)|assumption)
    obtain ⟨rfl, _⟩ := rp60
    have hf61 : (CFs ad37 [.int .i64 (at_ src i)]).1 w57 := cf60
    refine d_s rfl rfl (x_store rfl rfl r57) (.inr (keep_w (by decide +kernel) (keep_w (by decide +kernel) trivial))) ?_
    refine ra_done (by decide +kernel) ?_
    intro wd62 gd62
    have S63 := S58.keep gd62
    refine run_inBlock ?_
    refine run_reg (l := [0, 1, 2]) rfl ?_
    refine p_v (v := .int .i64 i) rfl rfl rfl (x_move r12_12) ?_
    refine p_v (v := .int .i64 (i + 1)) rfl rfl rfl (x_add rfl rfl (in_i64 (by first|omega|(simp;omega)|assumption) (by first|omega|(simp;omega)|assumption))) ?_
    refine p_v (v := .int .i64 (i + 1)) rfl rfl rfl (x_assign rfl) ?_
    refine run_region_end ?_
    refine ih12 (texts.set (at_ src i).toNat (strOfNums ([first ((at_ m.spots (at_ src i)).set)] : List Int)), seen.set (at_ src i).toNat true, i + 1) _ _ (by dsimp only; omega) ⟨h12, v_texts, v_seen, le12, S63.sub [0, 1, 2, 3] (by decide) rfl _ rfl, r12_2, r12_3, r12_9, r12_10, r12_11, rfl, (in_i64 (by first|omega|(simp;omega)|assumption) (by first|omega|(simp;omega)|assumption)), (by exact ⟨by omega, by omega, way0_step hF_ hin_ hnd_ hI12.2.2 hI12.1 (by omega)⟩)⟩
  · skip
    refine run_exit rfl ?_
    refine run_seq ?_
    refine run_seq ?_
    refine run_reg (l := [0]) rfl ?_
    refine p_v (v := .int .i64 0) rfl rfl rfl (x_assign rfl) ?_
    refine run_region_end ?_
    refine run_block ?_
    refine run_loop (S := (List ByteArray) × (List Bool) × (List Int) × Int) (fun (q_ : (List ByteArray) × (List Bool) × (List Int) × Int) ρ w' => match q_ with | (texts2, seen2, todo, i2) => ∃ (h : Ghost) (v_texts2 : Value) (v_seen2 : Value) (v_todo : Value), Le h12 h ∧ St w.heap.size w h w' [box b1 27 [.slice A0_0 m.spots.length c0_0, .slice A0_1 m.first.length c0_1, .slice A0_2 m.follow.length c0_2, .slice A0_3 m.last.length c0_3, .bool m.empty], row 9 Kd.string v_texts2 texts2, row 4 Kd.bool v_seen2 seen2, row 3 (Kd.int .i64) v_todo todo] ∧ ρ 2 = .int .i64 tgt ∧ ρ 3 = .pointer (some ⟨b1, 0, none⟩) ∧ ρ 9 = v_texts2 ∧ ρ 10 = v_seen2 ∧ ρ 11 = v_todo ∧ ρ 15 = .int .i64 i2 ∧ inK .i64 i2 ∧ (0 ≤ i2 ∧ i2 ≤ (todo.length : Int) ∧ WayI m src tgt texts2 seen2 todo i2)) (fun q_ => match q_ with | (texts2, seen2, todo, i2) => (m.spots.length - i2).toNat) (texts, seen, src, 0) ⟨h12, v_texts, v_seen, v10, Le.refl _, S12.sub [0, 1, 2, 3] (by decide) rfl _ rfl, r12_2, r12_3, r12_9, r12_10, r12_11, rfl, (in_i64 (by first|omega|(simp;omega)|assumption) (by first|omega|(simp;omega)|assumption)), (by exact ⟨by omega, by omega, wayI_0 hin_ hnd_ hI12.2.2 (by omega)⟩)⟩ ?_
    rintro ⟨texts2, seen2, todo, i2⟩ ih64 ρ64 w64 ⟨h64, v_texts2, v_seen2, v_todo, le64, S64, r64_2, r64_3, r64_9, r64_10, r64_11, r64_15, f64_0, hI64⟩
    have lf64_0 := i64_lo f64_0; have hf64_0 := i64_hi f64_0
    have rl64_1 := S64.row_le (j := 1) rfl; simp only [maxLen] at rl64_1
    have rl64_2 := S64.row_le (j := 2) rfl; simp only [maxLen] at rl64_2
    have rl64_3 := S64.row_le (j := 3) rfl; simp only [maxLen] at rl64_3
    have hwl_ := way_len hI64.2.2.way; have hlt2_ := hI64.2.2.way.lenT; have hls2_ := hI64.2.2.way.lenS
    have hx2_ : i2 < (todo.length : Int) → 0 ≤ at_ todo i2 ∧ at_ todo i2 < (m.spots.length : Int) := fun h => hI64.2.2.way.inn _ (at_mem hI64.1 h)
    refine run_seq ?_
    refine run_seq ?_
    refine run_reg (l := [0, 1, 2, 3]) rfl ?_
    refine p_v (v := .int .i64 i2) rfl rfl rfl (x_move r64_15) ?_
    refine p_v (v := v_todo) rfl rfl rfl (x_move r64_11) ?_
    have lb65 := S64.row_le (j := 3) rfl; simp only [maxLen] at lb65
    refine p_v (v := .int .i64 (todo.length : Int)) rfl rfl rfl (x_len_own u23 rfl (e_len_own S64 (j := 3) rfl)) ?_
    refine p_v (v := .bool (decide (i2 < (todo.length : Int)))) rfl rfl rfl (x_lss rfl rfl) ?_
    refine run_region_end ?_
    refine run_cond_prop (p := i2 < (todo.length : Int)) rfl (fun hc66 => ?_) (fun hc66 => ?_)
    · skip
      refine run_skip ?_
      refine run_seq ?_
      refine run_block ?_
      refine run_seq ?_
      refine run_reg (l := [0, 1, 2, 3, 4]) rfl ?_
      refine p_v (v := v_todo) rfl rfl rfl (x_move r64_11) ?_
      refine p_v (v := .int .i64 i2) rfl rfl rfl (x_move r64_15) ?_
      obtain ⟨ad67, a67, at67⟩ := e_index_own (q := i2) (m := 1) S64 (j := 3) rfl rfl (by first|omega|(simp;omega)|assumption) (by first|omega|(simp;omega)|assumption)
      refine p_v (v := .pointer (some ad67)) rfl rfl rfl (x_index_own u23 ty3 rfl rfl a67 (by first|omega|(simp;omega)|assumption) (by first|omega|(simp;omega)|assumption)) ?_
      obtain ⟨seg68, rp68, cf68⟩ := e_load_own (q := i2) S64 (j := 3) rfl rfl at67 (by first|omega|(simp;omega)|assumption) (by first|omega|(simp;omega)|assumption)
      obtain ⟨rfl, in68⟩ := rp68
      have lo68 := i64_lo in68; have hi68 := i64_hi in68
      refine p_v (v := .int .i64 (at_ todo i2)) rfl rfl rfl (x_load (seg := [.int .i64 (at_ todo i2)]) ty3 rfl (by simp) rfl cf68) ?_
      refine p_v (v := .int .i64 (at_ todo i2)) rfl rfl rfl (x_assign rfl) ?_
      refine run_region_end ?_
      refine run_seq ?_
      refine run_seq ?_
      refine run_reg (l := [0, 1, 2]) rfl ?_
      refine p_v (v := .int .i64 (at_ todo i2)) rfl rfl rfl (x_move rfl) ?_
      refine p_v (v := .int .i64 tgt) rfl rfl rfl (x_move r64_2) ?_
      refine p_v (v := .bool (decide ((at_ todo i2) = tgt))) rfl rfl rfl (x_eql rfl rfl) ?_
      refine run_region_end ?_
      refine run_cond_prop (p := (at_ todo i2) = tgt) rfl (fun hc69 => ?_) (fun hc69 => ?_)
      · skip
        refine run_seq ?_
        refine run_reg (l := [0, 1, 2, 3, 4, 5]) rfl ?_
        refine p_v (v := v_texts2) rfl rfl rfl (x_move r64_9) ?_
        refine p_v (v := .int .i64 (at_ todo i2)) rfl rfl rfl (x_move rfl) ?_
        obtain ⟨ad70, a70, at70⟩ := e_index_own (q := at_ todo i2) (m := 1) S64 (j := 1) rfl rfl (by first|omega|(simp;omega)|assumption) (by first|omega|(simp;omega)|assumption)
        refine p_v (v := .pointer (some ad70)) rfl rfl rfl (x_index_own u64 ty9 rfl rfl a70 (by first|omega|(simp;omega)|assumption) (by first|omega|(simp;omega)|assumption)) ?_
        obtain ⟨seg71, rp71, cf71⟩ := e_load_own (q := at_ todo i2) S64 (j := 1) rfl rfl at70 (by first|omega|(simp;omega)|assumption) (by first|omega|(simp;omega)|assumption)
        obtain ⟨rfl, sz71⟩ := rp71
        refine p_v (v := .string (at_ texts2 (at_ todo i2))) rfl rfl rfl (x_load (seg := [.string (at_ texts2 (at_ todo i2))]) ty9 rfl (by simp) rfl cf71) ?_
        refine p_v (v := .string (at_ texts2 (at_ todo i2))) rfl rfl rfl (x_assign rfl) ?_
        refine p_v (v := .bool true) rfl rfl rfl (x_assign rfl) ?_
        refine run_region_end ?_
        refine run_ret Tryd.func11 (res2 rfl (res_tmp (v := .string (at_ texts2 (at_ todo i2))) rfl) (res_tmp (v := .bool true) rfl)) ?_
        have q0 : (at_ texts2 (at_ todo i2) : ByteArray) = at_ texts2 (at_ todo i2) := rfl
        have q1 : (at_ (reachM m src) tgt : Bool) = true := by
          exact (way_found hI64.2.2 hI64.1 (by omega) (by assumption)).2.1
        refine ⟨_, rfl, h64, at_ texts2 (at_ todo i2), ?_, ?_, ?_, ?_⟩
        · exact S64.sub [] (by decide) rfl _ rfl
        · first | rfl | (simp only [q1]; rfl) | (simp only [q1])
        · first | assumption | exact sz71
        · show Got m src tgt (at_ (reachM m src) tgt) (at_ texts2 (at_ todo i2))
          exact (way_found hI64.2.2 hI64.1 (by omega) (by assumption)).2.2
      · skip
        refine run_skip ?_
        refine run_seq ?_
        refine run_reg (l := [0]) rfl ?_
        refine p_v (v := .int .i64 0) rfl rfl rfl (x_assign rfl) ?_
        refine run_region_end ?_
        refine run_block ?_
        refine run_loop (S := (List ByteArray) × (List Bool) × (List Int) × Int) (fun (q_ : (List ByteArray) × (List Bool) × (List Int) × Int) ρ w' => match q_ with | (texts3, seen3, todo2, k) => ∃ (h : Ghost) (v_texts3 : Value) (v_seen3 : Value) (v_todo2 : Value), Le h64 h ∧ St w.heap.size w h w' [box b1 27 [.slice A0_0 m.spots.length c0_0, .slice A0_1 m.first.length c0_1, .slice A0_2 m.follow.length c0_2, .slice A0_3 m.last.length c0_3, .bool m.empty], row 9 Kd.string v_texts3 texts3, row 4 Kd.bool v_seen3 seen3, row 3 (Kd.int .i64) v_todo2 todo2] ∧ ρ 2 = .int .i64 tgt ∧ ρ 3 = .pointer (some ⟨b1, 0, none⟩) ∧ ρ 9 = v_texts3 ∧ ρ 10 = v_seen3 ∧ ρ 11 = v_todo2 ∧ ρ 15 = .int .i64 i2 ∧ ρ 16 = .int .i64 (at_ todo i2) ∧ ρ 17 = .int .i64 k ∧ inK .i64 k ∧ (0 ≤ k ∧ k ≤ ((at_ m.follow (at_ todo i2)).length : Int) ∧ WayK m src tgt (at_ todo i2) texts3 seen3 todo2 i2 k)) (fun q_ => match q_ with | (texts3, seen3, todo2, k) => ((at_ m.follow (at_ todo i2)).length - k).toNat) (texts2, seen2, todo, 0) ⟨h64, v_texts2, v_seen2, v_todo, Le.refl _, S64.sub [0, 1, 2, 3] (by decide) rfl _ rfl, r64_2, r64_3, r64_9, r64_10, r64_11, r64_15, rfl, rfl, (in_i64 (by first|omega|(simp;omega)|assumption) (by first|omega|(simp;omega)|assumption)), (by exact ⟨by omega, by omega, wayK_0 hI64.2.2 hI64.1 (by omega)⟩)⟩ ?_
        rintro ⟨texts3, seen3, todo2, k⟩ ih72 ρ72 w72 ⟨h72, v_texts3, v_seen3, v_todo2, le72, S72, r72_2, r72_3, r72_9, r72_10, r72_11, r72_15, r72_16, r72_17, f72_0, hI72⟩
        have lf72_0 := i64_lo f72_0; have hf72_0 := i64_hi f72_0
        have rl72_1 := S72.row_le (j := 1) rfl; simp only [maxLen] at rl72_1
        have rl72_2 := S72.row_le (j := 2) rfl; simp only [maxLen] at rl72_2
        have rl72_3 := S72.row_le (j := 3) rfl; simp only [maxLen] at rl72_3
        have hwl3_ := way_len hI72.2.2.base.way; have hlt3_ := hI72.2.2.base.way.lenT; have hls3_ := hI72.2.2.base.way.lenS; have hlo3_ := hI72.2.2.hi; have hsz3_ := hI72.2.2.size
        have hx3_ : k < ((at_ m.follow (at_ todo i2)).length : Int) → 0 ≤ at_ (at_ m.follow (at_ todo i2)) k ∧ at_ (at_ m.follow (at_ todo i2)) k < (m.spots.length : Int) := fun h => hR_.rows hI72.2.2.inn.1 hI72.2.2.inn.2 _ (at_mem hI72.1 h)
        refine run_seq ?_
        refine run_seq ?_
        refine run_reg (l := [0, 1, 2, 3, 4, 5, 6, 7]) rfl ?_
        refine p_v (v := .int .i64 k) rfl rfl rfl (x_move r72_17) ?_
        refine p_v (v := .pointer (some ⟨b1, 2, none⟩)) rfl rfl rfl (x_fieldAt fd27_2 ty24 rfl r72_3) ?_
        refine p_v (v := .slice A0_2 m.follow.length c0_2) rfl rfl rfl (x_load (seg := [.slice A0_2 m.follow.length c0_2]) ty24 rfl (by simp) rfl (CF.box (m := 1) (S72.box_at (j := 0) rfl) rfl)) ?_
        refine p_v (v := .int .i64 (at_ todo i2)) rfl rfl rfl (x_move r72_16) ?_
        obtain ⟨ad73, seg73, a73, rp73, ce73⟩ := e_index_ro (q := at_ todo i2) (m := 1) l0_2 rfl (by first|omega|(simp;omega)|assumption) (by first|omega|(simp;omega)|assumption)
        refine p_v (v := .pointer (some ad73)) rfl rfl rfl (x_index_ro u24 ty23 rfl rfl a73 (by first|omega|(simp;omega)|assumption) (by first|omega|(simp;omega)|assumption)) ?_
        obtain ⟨A73, c73, rfl, lc73, cm73, ld73⟩ := rp73
        have cn73 := cm73; simp only [maxLen] at cn73
        refine p_v (v := .slice A73 (at_ m.follow (at_ todo i2)).length c73) rfl rfl rfl (x_load (seg := [.slice A73 (at_ m.follow (at_ todo i2)).length c73]) ty23 rfl (by simp) rfl (CF.ghost ce73 (St.le0 S72))) ?_
        refine p_v (v := .int .i64 ((at_ m.follow (at_ todo i2)).length : Int)) rfl rfl rfl (x_len_slice u23 rfl) ?_
        refine p_v (v := .bool (decide (k < ((at_ m.follow (at_ todo i2)).length : Int)))) rfl rfl rfl (x_lss rfl rfl) ?_
        refine run_region_end ?_
        refine run_cond_prop (p := k < ((at_ m.follow (at_ todo i2)).length : Int)) rfl (fun hc74 => ?_) (fun hc74 => ?_)
        · skip
          refine run_skip ?_
          refine run_seq ?_
          refine run_block ?_
          refine run_seq ?_
          refine run_reg (l := [0, 1, 2, 3, 4, 5, 6, 7, 8]) rfl ?_
          refine p_v (v := .pointer (some ⟨b1, 2, none⟩)) rfl rfl rfl (x_fieldAt fd27_2 ty24 rfl r72_3) ?_
          refine p_v (v := .slice A0_2 m.follow.length c0_2) rfl rfl rfl (x_load (seg := [.slice A0_2 m.follow.length c0_2]) ty24 rfl (by simp) rfl (CF.box (m := 1) (S72.box_at (j := 0) rfl) rfl)) ?_
          refine p_v (v := .int .i64 (at_ todo i2)) rfl rfl rfl (x_move r72_16) ?_
          obtain ⟨ad75, seg75, a75, rp75, ce75⟩ := e_index_ro (q := at_ todo i2) (m := 1) l0_2 rfl (by first|omega|(simp;omega)|assumption) (by first|omega|(simp;omega)|assumption)
          refine p_v (v := .pointer (some ad75)) rfl rfl rfl (x_index_ro u24 ty23 rfl rfl a75 (by first|omega|(simp;omega)|assumption) (by first|omega|(simp;omega)|assumption)) ?_
          obtain ⟨A75, c75, rfl, lc75, cm75, ld75⟩ := rp75
          have cn75 := cm75; simp only [maxLen] at cn75
          refine p_v (v := .slice A75 (at_ m.follow (at_ todo i2)).length c75) rfl rfl rfl (x_load (seg := [.slice A75 (at_ m.follow (at_ todo i2)).length c75]) ty23 rfl (by simp) rfl (CF.ghost ce75 (St.le0 S72))) ?_
          refine p_v (v := .int .i64 k) rfl rfl rfl (x_move r72_17) ?_
          obtain ⟨ad76, seg76, a76, rp76, ce76⟩ := e_index_ro (q := k) (m := 1) ld75 rfl (by first|omega|(simp;omega)|assumption) (by first|omega|(simp;omega)|assumption)
          refine p_v (v := .pointer (some ad76)) rfl rfl rfl (x_index_ro u23 ty3 rfl rfl a76 (by first|omega|(simp;omega)|assumption) (by first|omega|(simp;omega)|assumption)) ?_
          obtain ⟨rfl, in76⟩ := rp76
          have lo76 := i64_lo in76; have hi76 := i64_hi in76
          refine p_v (v := .int .i64 (at_ (at_ m.follow (at_ todo i2)) k)) rfl rfl rfl (x_load (seg := [.int .i64 (at_ (at_ m.follow (at_ todo i2)) k)]) ty3 rfl (by simp) rfl (CF.ghost ce76 (St.le0 S72))) ?_
          refine p_v (v := .int .i64 (at_ (at_ m.follow (at_ todo i2)) k)) rfl rfl rfl (x_assign rfl) ?_
          refine run_region_end ?_
          refine run_seq ?_
          refine run_seq ?_
          refine run_reg (l := [0, 1, 2, 3]) rfl ?_
          refine p_v (v := v_seen3) rfl rfl rfl (x_move r72_10) ?_
          refine p_v (v := .int .i64 (at_ (at_ m.follow (at_ todo i2)) k)) rfl rfl rfl (x_move rfl) ?_
          obtain ⟨ad77, a77, at77⟩ := e_index_own (q := at_ (at_ m.follow (at_ todo i2)) k) (m := 1) S72 (j := 2) rfl rfl (by first|omega|(simp;omega)|assumption) (by first|omega|(simp;omega)|assumption)
          refine p_v (v := .pointer (some ad77)) rfl rfl rfl (x_index_own u25 ty4 rfl rfl a77 (by first|omega|(simp;omega)|assumption) (by first|omega|(simp;omega)|assumption)) ?_
          obtain ⟨seg78, rp78, cf78⟩ := e_load_own (q := at_ (at_ m.follow (at_ todo i2)) k) S72 (j := 2) rfl rfl at77 (by first|omega|(simp;omega)|assumption) (by first|omega|(simp;omega)|assumption)
          obtain ⟨rfl, _⟩ := rp78
          refine p_v (v := .bool (at_ seen3 (at_ (at_ m.follow (at_ todo i2)) k))) rfl rfl rfl (x_load (seg := [.bool (at_ seen3 (at_ (at_ m.follow (at_ todo i2)) k))]) ty4 rfl (by simp) rfl cf78) ?_
          refine run_region_end ?_
          refine run_cond_split (b := at_ seen3 (at_ (at_ m.follow (at_ todo i2)) k)) rfl (fun hc79 => ?_) (fun hc79 => ?_)
          · skip
            refine run_exit rfl ?_
            refine run_reg (l := [0, 1, 2]) rfl ?_
            refine p_v (v := .int .i64 k) rfl rfl rfl (x_move r72_17) ?_
            refine p_v (v := .int .i64 (k + 1)) rfl rfl rfl (x_add rfl rfl (in_i64 (by first|omega|(simp;omega)|assumption) (by first|omega|(simp;omega)|assumption))) ?_
            refine p_v (v := .int .i64 (k + 1)) rfl rfl rfl (x_assign rfl) ?_
            refine run_region_end ?_
            refine ih72 (texts3, seen3, todo2, k + 1) _ _ (by dsimp only; omega) ⟨h72, v_texts3, v_seen3, v_todo2, le72, S72.sub [0, 1, 2, 3] (by decide) rfl _ rfl, r72_2, r72_3, r72_9, r72_10, r72_11, r72_15, r72_16, rfl, (in_i64 (by first|omega|(simp;omega)|assumption) (by first|omega|(simp;omega)|assumption)), (by first | exact ⟨by omega, by omega, wayK_old hR_ hI72.2.2 hI72.1 (by omega) (by assumption)⟩ | exact ⟨by omega, by omega, wayK_new hR_ hF_ hI72.2.2 hI72.1 (by omega) (by assumption)⟩)⟩
          · skip
            refine run_skip ?_
            refine run_seq ?_
            refine run_reg (l := [0, 1, 2, 3]) rfl ?_
            refine p_v (v := v_seen3) rfl rfl rfl (x_move r72_10) ?_
            refine p_v (v := .int .i64 (at_ (at_ m.follow (at_ todo i2)) k)) rfl rfl rfl (x_move rfl) ?_
            obtain ⟨ad80, a80, at80⟩ := e_index_own (q := at_ (at_ m.follow (at_ todo i2)) k) (m := 1) S72 (j := 2) rfl rfl (by first|omega|(simp;omega)|assumption) (by first|omega|(simp;omega)|assumption)
            refine p_v (v := .pointer (some ad80)) rfl rfl rfl (x_index_own u25 ty4 rfl rfl a80 (by first|omega|(simp;omega)|assumption) (by first|omega|(simp;omega)|assumption)) ?_
            obtain ⟨w81, r81, g81, T81⟩ := e_store_own (u := .bool true) (q := at_ (at_ m.follow (at_ todo i2)) k) true (vs := [.bool true]) S72 ty4 rfl (j := 2) rfl rfl ⟨rfl, trivial⟩ at80 (by first|omega|(simp;omega)|assumption) (by first|omega|(simp;omega)|assumption)
            have S82 : St w.heap.size w h72 w81 [box b1 27 [.slice A0_0 m.spots.length c0_0, .slice A0_1 m.first.length c0_1, .slice A0_2 m.follow.length c0_2, .slice A0_3 m.last.length c0_3, .bool m.empty], row 9 Kd.string v_texts3 texts3, row 4 Kd.bool v_seen3 (seen3.set (at_ (at_ m.follow (at_ todo i2)) k).toNat true), row 3 (Kd.int .i64) v_todo2 todo2] := T81
            refine p_s rfl rfl (x_store rfl rfl r81) ?_
            refine run_region_end ?_
            refine run_seq ?_
            refine run_reg (l := [0, 1, 2, 3, 4, 5, 6, 7, 8, 9, 10, 11]) rfl ?_
            refine p_v (v := .pointer (some ⟨b1, 0, none⟩)) rfl rfl rfl (x_fieldAt fd27_0 ty22 rfl r72_3) ?_
            refine p_v (v := .slice A0_0 m.spots.length c0_0) rfl rfl rfl (x_load (seg := [.slice A0_0 m.spots.length c0_0]) ty22 rfl (by simp) rfl (CF.box (m := 1) (S82.box_at (j := 0) rfl) rfl)) ?_
            refine p_v (v := .int .i64 (at_ (at_ m.follow (at_ todo i2)) k)) rfl rfl rfl (x_move rfl) ?_
            obtain ⟨ad83, seg83, a83, rp83, ce83⟩ := e_index_ro (q := at_ (at_ m.follow (at_ todo i2)) k) (m := 5) l0_0 rfl (by first|omega|(simp;omega)|assumption) (by first|omega|(simp;omega)|assumption)
            refine p_v (v := .pointer (some ad83)) rfl rfl rfl (x_index_ro u22 ty55 rfl rfl a83 (by first|omega|(simp;omega)|assumption) (by first|omega|(simp;omega)|assumption)) ?_
            obtain ⟨rfl, ok83⟩ := rp83
            have slook83 := u8_lo ok83; have shiok83 := u8_hi ok83
            refine p_v (v := .pointer (some (ad83.add 0))) rfl rfl rfl (x_fieldAd fd55_0 ty49 rfl rfl) ?_
            refine p_v (v := .agg (encSet ((at_ m.spots (at_ (at_ m.follow (at_ todo i2)) k)).set)).toArray) rfl rfl rfl (x_load (seg := (encSet ((at_ m.spots (at_ (at_ m.follow (at_ todo i2)) k)).set))) ty49 rfl (by simp) rfl (CF.ghost (sub_seg (o := 0) (m := 4) (ds := (encSet ((at_ m.spots (at_ (at_ m.follow (at_ todo i2)) k)).set))) ce83 rfl) (St.le0 S82))) ?_
            refine p_c rfl rfl rfl (y_call (args := [.agg (encSet ((at_ m.spots (at_ (at_ m.follow (at_ todo i2)) k)).set)).toArray]) ca28 rfl rfl) (first_calls w81 ((at_ m.spots (at_ (at_ m.follow (at_ todo i2)) k)).set) (Block.st S82 tb)) ?_
            rintro _ w85 ⟨h85, T85, rfl, in85_0⟩
            have S86 := S82.keep (Chg.of_below T85.below)
            have lo_in85_0 := u8_lo in85_0; have hi_in85_0 := u8_hi in85_0
            refine p_v (v := .tuple #[.int .u8 (first ((at_ m.spots (at_ (at_ m.follow (at_ todo i2)) k)).set)), .bool (someIn ((at_ m.spots (at_ (at_ m.follow (at_ todo i2)) k)).set))]) rfl rfl rfl (x_move rfl) ?_
            refine p_v (v := .int .u8 (first ((at_ m.spots (at_ (at_ m.follow (at_ todo i2)) k)).set))) rfl rfl rfl (x_extract (vs := [.int .u8 (first ((at_ m.spots (at_ (at_ m.follow (at_ todo i2)) k)).set)), .bool (someIn ((at_ m.spots (at_ (at_ m.follow (at_ todo i2)) k)).set))]) rfl rfl) ?_
            refine p_v (v := .bool (someIn ((at_ m.spots (at_ (at_ m.follow (at_ todo i2)) k)).set))) rfl rfl rfl (x_extract (vs := [.int .u8 (first ((at_ m.spots (at_ (at_ m.follow (at_ todo i2)) k)).set)), .bool (someIn ((at_ m.spots (at_ (at_ m.follow (at_ todo i2)) k)).set))]) rfl rfl) ?_
            refine p_v (v := .int .u8 (first ((at_ m.spots (at_ (at_ m.follow (at_ todo i2)) k)).set))) rfl rfl rfl (x_assign rfl) ?_
            refine p_v (v := .bool (someIn ((at_ m.spots (at_ (at_ m.follow (at_ todo i2)) k)).set))) rfl rfl rfl (x_assign rfl) ?_
            refine run_region_end ?_
            refine run_seq ?_
            obtain ⟨ad87, a87, at87⟩ := e_index_own (q := at_ todo i2) (m := 1) S86 (j := 1) rfl rfl (by first|omega|(simp;omega)|assumption) (by first|omega|(simp;omega)|assumption)
            obtain ⟨seg88, rp88, cf88⟩ := e_load_own (q := at_ todo i2) S86 (j := 1) rfl rfl at87 (by first|omega|(simp;omega)|assumption) (by first|omega|(simp;omega)|assumption)
            obtain ⟨rfl, sz88⟩ := rp88
            have hf89 : (CFs ad87 [.string (at_ texts3 (at_ todo i2))]).1 w85 := cf88
            refine da_start [(5, CFs ad87 [.string (at_ texts3 (at_ todo i2))])] 12 rfl mixed ?_
            intro wd90 gd90 hd90
            have S91 := S86.keep gd90
            have hf92 := (CFs ad87 [.string (at_ texts3 (at_ todo i2))]).2 _ _ gd90 hf89
            refine d_q (i := 0) (v := v_texts3) (fun _ => True) (fun _ ho => trivial) rfl (by decide +kernel) (by decide +kernel) (by decide +kernel) rfl rfl (fun wq hq => (x_move r72_9)) (of_ne rfl (of_nil _ _)) ?_
            refine d_q (i := 1) (v := .int .i64 (at_ (at_ m.follow (at_ todo i2)) k)) (fun _ => True) (fun _ ho => trivial) rfl (by decide +kernel) (by decide +kernel) (by decide +kernel) rfl rfl (fun wq hq => (x_move rfl)) (of_ne rfl (of_nil _ _)) ?_
            refine d_q (i := 2) (v := v_texts3) (fun _ => True) (fun _ ho => trivial) rfl (by decide +kernel) (by decide +kernel) (by decide +kernel) rfl rfl (fun wq hq => (x_move r72_9)) (of_ne rfl (of_nil _ _)) ?_
            refine d_q (i := 3) (v := .int .i64 (at_ todo i2)) (fun _ => True) (fun _ ho => trivial) rfl (by decide +kernel) (by decide +kernel) (by decide +kernel) rfl rfl (fun wq hq => (x_move r72_16)) (of_ne rfl (of_nil _ _)) ?_
            refine d_q (i := 4) (v := .pointer (some ad87)) (fun _ => True) (fun _ ho => trivial) rfl (by decide +kernel) (by decide +kernel) (by decide +kernel) rfl rfl (fun wq hq => (x_index_own u64 ty9 rfl rfl a87 (by first|omega|(simp;omega)|assumption) (by first|omega|(simp;omega)|assumption))) (of_ne rfl (of_nil _ _)) ?_
            refine d_q (i := 5) (v := .string (at_ texts3 (at_ todo i2))) (CF ad87 [.string (at_ texts3 (at_ todo i2))]) (fun _ ho => ho _ (List.mem_of_getElem? (i := 0) rfl) rfl) rfl (by decide +kernel) (by decide +kernel) (by decide +kernel) rfl rfl (fun wq hq => (x_load (seg := [.string (at_ texts3 (at_ todo i2))]) ty9 rfl (by simp) rfl hq)) (of_eq hf92 (of_nil _ _)) ?_
            refine d_q (i := 6) (v := .int .u8 (first ((at_ m.spots (at_ (at_ m.follow (at_ todo i2)) k)).set))) (fun _ => True) (fun _ ho => trivial) rfl (by decide +kernel) (by decide +kernel) (by decide +kernel) rfl rfl (fun wq hq => (x_move rfl)) (of_ne rfl (of_nil _ _)) ?_
            refine ra_one (i := 7) (by decide +kernel) ?_
            intro wd93 gd93
            have S94 := S91.keep gd93
            have hf95 := (CFs ad87 [.string (at_ texts3 (at_ todo i2))]).2 _ _ gd93 hf92
            obtain ⟨v96, w96, r96, g96, T96⟩ := e_build_ones (kd := (Kd.int .u8)) (xs := ([first ((at_ m.spots (at_ (at_ m.follow (at_ todo i2)) k)).set)] : List Int)) (len := 1) [.int .u8 (first ((at_ m.spots (at_ (at_ m.follow (at_ todo i2)) k)).set))] S94 u38 ty5 rfl rfl rfl rfl rfl (ones_cons rfl ones_nil) [.int .u8 (first ((at_ m.spots (at_ (at_ m.follow (at_ todo i2)) k)).set))] (Elems.single (k := (Kd.int .u8)) (h := h72) (x := first ((at_ m.spots (at_ (at_ m.follow (at_ todo i2)) k)).set)) (cs := [.int .u8 (first ((at_ m.spots (at_ (at_ m.follow (at_ todo i2)) k)).set))]) ⟨rfl, in85_0⟩) rfl
            have S97 : St w.heap.size w h72 w96 [box b1 27 [.slice A0_0 m.spots.length c0_0, .slice A0_1 m.first.length c0_1, .slice A0_2 m.follow.length c0_2, .slice A0_3 m.last.length c0_3, .bool m.empty], row 9 Kd.string v_texts3 texts3, row 4 Kd.bool v_seen3 (seen3.set (at_ (at_ m.follow (at_ todo i2)) k).toNat true), row 3 (Kd.int .i64) v_todo2 todo2, row 5 (Kd.int .u8) v96 ([first ((at_ m.spots (at_ (at_ m.follow (at_ todo i2)) k)).set)] : List Int)] := T96
            have hf98 := (CFs ad87 [.string (at_ texts3 (at_ todo i2))]).2 _ _ g96 hf95
            refine d_v (v := v96) rfl rfl rfl (y_build_slice (pv := [(0, .int .u8 (first ((at_ m.spots (at_ (at_ m.follow (at_ todo i2)) k)).set)))]) rfl r96) (.inl g96) ?_
            obtain ⟨A99, c99, ev99, lc99, cm99⟩ := S97.row_val (j := 4) rfl
            have sz100 := str_small (xs := ([first ((at_ m.spots (at_ (at_ m.follow (at_ todo i2)) k)).set)] : List Int)) (Nat.le_trans (And.intro lc99 cm99).1 (And.intro lc99 cm99).2); have bdsz100 := sz100; simp only [maxLen] at bdsz100
            have sb101 : (at_ texts3 (at_ todo i2)).size + (strOfNums ([first ((at_ m.spots (at_ (at_ m.follow (at_ todo i2)) k)).set)] : List Int)).size ≤ 9223372036854775807 := by first | omega | (simp only [str_one]; omega)
            have sz101 : ((at_ texts3 (at_ todo i2)) ++ (strOfNums ([first ((at_ m.spots (at_ (at_ m.follow (at_ todo i2)) k)).set)] : List Int))).size ≤ maxLen := by rw [size_add]; unfold maxLen; exact sb101
            have st101 := size_add (at_ texts3 (at_ todo i2)) (strOfNums ([first ((at_ m.spots (at_ (at_ m.follow (at_ todo i2)) k)).set)] : List Int))
            obtain ⟨ad102, a102, at102⟩ := e_index_own (q := at_ (at_ m.follow (at_ todo i2)) k) (m := 1) S97 (j := 1) rfl rfl (by first|omega|(simp;omega)|assumption) (by first|omega|(simp;omega)|assumption)
            have hf103 : (LeadsS (Kd.int .u8) A99 ([first ((at_ m.spots (at_ (at_ m.follow (at_ todo i2)) k)).set)] : List Int)).1 w96 := (row_leads_eq S97 (j := 4) rfl ev99)
            refine ra_more [(8, LeadsS (Kd.int .u8) A99 ([first ((at_ m.spots (at_ (at_ m.follow (at_ todo i2)) k)).set)] : List Int))] ?_
            refine d_q (i := 8) (v := .string (strOfNums ([first ((at_ m.spots (at_ (at_ m.follow (at_ todo i2)) k)).set)] : List Int))) (fun wf => Leads (Kd.int .u8) (hp wf) A99 ([first ((at_ m.spots (at_ (at_ m.follow (at_ todo i2)) k)).set)] : List Int)) (fun _ ho => ho _ (List.mem_of_getElem? (i := 0) rfl) rfl) rfl (by decide +kernel) (by decide +kernel) (by decide +kernel) rfl rfl (fun wq hq => (x_bytes_string u38 u5 u9 ev99 hq)) (of_eq hf103 (of_ne rfl (of_nil _ _))) ?_
            refine d_q (i := 9) (v := .string ((at_ texts3 (at_ todo i2)) ++ (strOfNums ([first ((at_ m.spots (at_ (at_ m.follow (at_ todo i2)) k)).set)] : List Int)))) (fun _ => True) (fun _ ho => trivial) rfl (by decide +kernel) (by decide +kernel) (by decide +kernel) rfl rfl (fun wq hq => (x_add_str rfl rfl sb101)) (of_ne rfl (of_ne rfl (of_nil _ _))) ?_
            refine d_q (i := 10) (v := .pointer (some ad102)) (fun _ => True) (fun _ ho => trivial) rfl (by decide +kernel) (by decide +kernel) (by decide +kernel) rfl rfl (fun wq hq => (x_index_own u64 ty9 rfl rfl a102 (by first|omega|(simp;omega)|assumption) (by first|omega|(simp;omega)|assumption))) (of_ne rfl (of_ne rfl (of_nil _ _))) ?_
            refine ra_one (i := 11) (by decide +kernel) ?_
            intro wd104 gd104
            have S105 := S97.keep gd104
            have hf106 := (LeadsS (Kd.int .u8) A99 ([first ((at_ m.spots (at_ (at_ m.follow (at_ todo i2)) k)).set)] : List Int)).2 _ _ gd104 hf103
            have hf107 := (CFs ad87 [.string (at_ texts3 (at_ todo i2))]).2 _ _ gd104 hf98
            obtain ⟨w108, r108, g108, T108⟩ := e_store_own (u := .string ((at_ texts3 (at_ todo i2)) ++ (strOfNums ([first ((at_ m.spots (at_ (at_ m.follow (at_ todo i2)) k)).set)] : List Int)))) (q := at_ (at_ m.follow (at_ todo i2)) k) ((at_ texts3 (at_ todo i2)) ++ (strOfNums ([first ((at_ m.spots (at_ (at_ m.follow (at_ todo i2)) k)).set)] : List Int))) (vs := [.string ((at_ texts3 (at_ todo i2)) ++ (strOfNums ([first ((at_ m.spots (at_ (at_ m.follow (at_ todo i2)) k)).set)] : List Int)))]) S105 ty9 rfl (j := 1) rfl rfl ⟨rfl, sz101⟩ at102 (by first|omega|(simp;omega)|assumption) (by first|omega|(simp;omega)|assumption)
            have S109 : St w.heap.size w h72 w108 [box b1 27 [.slice A0_0 m.spots.length c0_0, .slice A0_1 m.first.length c0_1, .slice A0_2 m.follow.length c0_2, .slice A0_3 m.last.length c0_3, .bool m.empty], row 9 Kd.string v_texts3 (texts3.set (at_ (at_ m.follow (at_ todo i2)) k).toNat ((at_ texts3 (at_ todo i2)) ++ (strOfNums ([first ((at_ m.spots (at_ (at_ m.follow (at_ todo i2)) k)).set)] : List Int)))), row 4 Kd.bool v_seen3 (seen3.set (at_ (at_ m.follow (at_ todo i2)) k).toNat true), row 3 (Kd.int .i64) v_todo2 todo2, row 5 (Kd.int .u8) v96 ([first ((at_ m.spots (at_ (at_ m.follow (at_ todo i2)) k)).set)] : List Int)] := T108
            have hf110 : (LeadsS (Kd.int .u8) A99 ([first ((at_ m.spots (at_ (at_ m.follow (at_ todo i2)) k)).set)] : List Int)).1 w108 := (row_leads_eq S109 (j := 4) rfl ev99)
            refine d_s rfl rfl (x_store rfl rfl r108) (.inr (keep_w (by decide +kernel) (keep_w (by decide +kernel) trivial))) ?_
            refine ra_done (by decide +kernel) ?_
            intro wd111 gd111
            have S112 := S109.keep gd111
            refine run_reg (l := [0, 1, 2, 3, 4]) rfl ?_
            refine p_v (v := v_todo2) rfl rfl rfl (x_move r72_11) ?_
            refine p_v (v := .int .i64 (at_ (at_ m.follow (at_ todo i2)) k)) rfl rfl rfl (x_move rfl) ?_
            obtain ⟨v113, w113, r113, g113, T113⟩ := e_build_ones (kd := (Kd.int .i64)) (xs := ([at_ (at_ m.follow (at_ todo i2)) k] : List Int)) (len := 1) [.int .i64 (at_ (at_ m.follow (at_ todo i2)) k)] S112 u23 ty3 rfl rfl rfl rfl rfl (ones_cons rfl ones_nil) [.int .i64 (at_ (at_ m.follow (at_ todo i2)) k)] (Elems.single (k := (Kd.int .i64)) (h := h72) (x := at_ (at_ m.follow (at_ todo i2)) k) (cs := [.int .i64 (at_ (at_ m.follow (at_ todo i2)) k)]) ⟨rfl, (in_i64 (by first|omega|(simp;omega)|assumption) (by first|omega|(simp;omega)|assumption))⟩) rfl
            have S114 : St w.heap.size w h72 w113 [box b1 27 [.slice A0_0 m.spots.length c0_0, .slice A0_1 m.first.length c0_1, .slice A0_2 m.follow.length c0_2, .slice A0_3 m.last.length c0_3, .bool m.empty], row 9 Kd.string v_texts3 (texts3.set (at_ (at_ m.follow (at_ todo i2)) k).toNat ((at_ texts3 (at_ todo i2)) ++ (strOfNums ([first ((at_ m.spots (at_ (at_ m.follow (at_ todo i2)) k)).set)] : List Int)))), row 4 Kd.bool v_seen3 (seen3.set (at_ (at_ m.follow (at_ todo i2)) k).toNat true), row 3 (Kd.int .i64) v_todo2 todo2, row 5 (Kd.int .u8) v96 ([first ((at_ m.spots (at_ (at_ m.follow (at_ todo i2)) k)).set)] : List Int), row 3 (Kd.int .i64) v113 ([at_ (at_ m.follow (at_ todo i2)) k] : List Int)] := T113
            refine p_v (v := v113) rfl rfl rfl (y_build_slice (pv := [(0, .int .i64 (at_ (at_ m.follow (at_ todo i2)) k))]) rfl r113) ?_
            obtain ⟨A116, c116, ev116, lc116, cm116⟩ := S114.row_val (j := 5) rfl
            obtain ⟨v117, w117, r117, g117, T117⟩ := e_append (kd := (Kd.int .i64)) (A := A116) (c := c116) (ys := ([at_ (at_ m.follow (at_ todo i2)) k] : List Int)) (len := ([at_ (at_ m.follow (at_ todo i2)) k] : List Int).length) 23 S114 u23 ty3 rfl rfl (j := 3) rfl rfl (news_own S114 (j := 5) rfl ev116) (by first|omega|(simp;omega)|assumption) (by first|omega|(simp;omega)|assumption)
            have S118 : St w.heap.size w h72 w117 [box b1 27 [.slice A0_0 m.spots.length c0_0, .slice A0_1 m.first.length c0_1, .slice A0_2 m.follow.length c0_2, .slice A0_3 m.last.length c0_3, .bool m.empty], row 9 Kd.string v_texts3 (texts3.set (at_ (at_ m.follow (at_ todo i2)) k).toNat ((at_ texts3 (at_ todo i2)) ++ (strOfNums ([first ((at_ m.spots (at_ (at_ m.follow (at_ todo i2)) k)).set)] : List Int)))), row 4 Kd.bool v_seen3 (seen3.set (at_ (at_ m.follow (at_ todo i2)) k).toNat true), row 3 (Kd.int .i64) v117 (todo2 ++ ([at_ (at_ m.follow (at_ todo i2)) k] : List Int)), row 5 (Kd.int .u8) v96 ([first ((at_ m.spots (at_ (at_ m.follow (at_ todo i2)) k)).set)] : List Int), row 3 (Kd.int .i64) v113 ([at_ (at_ m.follow (at_ todo i2)) k] : List Int)] := T117
            refine p_v (v := v117) rfl rfl rfl (x_append rfl ev116 r117) ?_
            refine p_v (v := v117) rfl rfl rfl (x_assign rfl) ?_
            refine run_region_end ?_
            refine run_inBlock ?_
            refine run_reg (l := [0, 1, 2]) rfl ?_
            refine p_v (v := .int .i64 k) rfl rfl rfl (x_move r72_17) ?_
            refine p_v (v := .int .i64 (k + 1)) rfl rfl rfl (x_add rfl rfl (in_i64 (by first|omega|(simp;omega)|assumption) (by first|omega|(simp;omega)|assumption))) ?_
            refine p_v (v := .int .i64 (k + 1)) rfl rfl rfl (x_assign rfl) ?_
            refine run_region_end ?_
            refine ih72 (texts3.set (at_ (at_ m.follow (at_ todo i2)) k).toNat ((at_ texts3 (at_ todo i2)) ++ (strOfNums ([first ((at_ m.spots (at_ (at_ m.follow (at_ todo i2)) k)).set)] : List Int))), seen3.set (at_ (at_ m.follow (at_ todo i2)) k).toNat true, todo2 ++ ([at_ (at_ m.follow (at_ todo i2)) k] : List Int), k + 1) _ _ (by dsimp only; omega) ⟨h72, v_texts3, v_seen3, v117, le72, S118.sub [0, 1, 2, 3] (by decide) rfl _ rfl, r72_2, r72_3, r72_9, r72_10, rfl, r72_15, r72_16, rfl, (in_i64 (by first|omega|(simp;omega)|assumption) (by first|omega|(simp;omega)|assumption)), (by first | exact ⟨by omega, by omega, wayK_old hR_ hI72.2.2 hI72.1 (by omega) (by assumption)⟩ | exact ⟨by omega, by omega, wayK_new hR_ hF_ hI72.2.2 hI72.1 (by omega) (by assumption)⟩)⟩
        · skip
          refine run_exit rfl ?_
          refine run_inBlock ?_
          refine run_reg (l := [0, 1, 2]) rfl ?_
          refine p_v (v := .int .i64 i2) rfl rfl rfl (x_move r72_15) ?_
          refine p_v (v := .int .i64 (i2 + 1)) rfl rfl rfl (x_add rfl rfl (in_i64 (by first|omega|(simp;omega)|assumption) (by first|omega|(simp;omega)|assumption))) ?_
          refine p_v (v := .int .i64 (i2 + 1)) rfl rfl rfl (x_assign rfl) ?_
          refine run_region_end ?_
          refine ih64 (texts3, seen3, todo2, i2 + 1) _ _ (by dsimp only; omega) ⟨h72, v_texts3, v_seen3, v_todo2, ((le64).trans le72), S72.sub [0, 1, 2, 3] (by decide) rfl _ rfl, r72_2, r72_3, r72_9, r72_10, r72_11, rfl, (in_i64 (by first|omega|(simp;omega)|assumption) (by first|omega|(simp;omega)|assumption)), (by exact ⟨by omega, by omega, wayK_end hI72.2.2 (by omega) (by assumption)⟩)⟩
    · skip
      refine run_exit rfl ?_
      refine run_seq ?_
      refine run_reg (l := [0, 1]) rfl ?_
      refine p_v (v := .string (⟨#[]⟩ : ByteArray)) rfl rfl rfl (x_assign rfl) ?_
      refine p_v (v := .bool false) rfl rfl rfl (x_assign rfl) ?_
      refine run_region_end ?_
      refine run_ret Tryd.func11 (res2 rfl (res_tmp (v := .string (⟨#[]⟩ : ByteArray)) rfl) (res_tmp (v := .bool false) rfl)) ?_
      have q0 : ((⟨#[]⟩ : ByteArray) : ByteArray) = (⟨#[]⟩ : ByteArray) := rfl
      have q1 : (at_ (reachM m src) tgt : Bool) = false := by
        exact (way_lost hI64.2.2 hR_ h0_ h1_ (by omega)).1
      refine ⟨_, rfl, h64, (⟨#[]⟩ : ByteArray), ?_, ?_, ?_, ?_⟩
      · exact S64.sub [] (by decide) rfl _ rfl
      · first | rfl | (simp only [q1]; rfl) | (simp only [q1])
      · first | assumption | exact (by decide)
      · show Got m src tgt (at_ (reachM m src) tgt) (⟨#[]⟩ : ByteArray)
        exact (way_lost hI64.2.2 hR_ h0_ h1_ (by omega)).2
theorem goes_calls (w : World) (m : Mach) (A0_0 : Option Addr) (c0_0 : Nat) (b0_0 : m.spots.length ≤ c0_0 ∧ c0_0 ≤ maxLen) (l0_0 : Leads kSpot (hp w) A0_0 m.spots) (A0_1 : Option Addr) (c0_1 : Nat) (b0_1 : m.first.length ≤ c0_1 ∧ c0_1 ≤ maxLen) (l0_1 : Leads (Kd.int .i64) (hp w) A0_1 m.first) (A0_2 : Option Addr) (c0_2 : Nat) (b0_2 : m.follow.length ≤ c0_2 ∧ c0_2 ≤ maxLen) (l0_2 : Leads (Kd.int .i64).slice (hp w) A0_2 m.follow) (A0_3 : Option Addr) (c0_3 : Nat) (b0_3 : m.last.length ≤ c0_3 ∧ c0_3 ≤ maxLen) (l0_3 : Leads Kd.bool (hp w) A0_3 m.last) (src : Int) (i1 : inK .i64 src) (pre0 : Right m ∧ Full m ∧ 0 ≤ src ∧ src < (m.spots.length : Int)) (tb : Block 0 tzTab w) :
    Calls Tryd.prog 12 #[.agg #[.slice A0_0 m.spots.length c0_0, .slice A0_1 m.first.length c0_1, .slice A0_2 m.follow.length c0_2, .slice A0_3 m.last.length c0_3, .bool m.empty], .int .i64 src] w fun e w' => ∃ v, e = .returned v ∧ ∃ (hn : Ghost) (s_ : ByteArray), St w.heap.size w hn w' [] ∧ v = .tuple #[.string s_, .bool (goesB m src)] ∧ s_.size ≤ maxLen ∧ (GotR m src (goesB m src) s_) := by
  refine calls_of_run Tryd.func12 rfl Tryd.ntmps12 rfl ?_
  have S0 := St.init w
  have bb0_0 := b0_0.1; have bc0_0 := b0_0.2; simp only [maxLen] at bc0_0
  have bb0_1 := b0_1.1; have bc0_1 := b0_1.2; simp only [maxLen] at bc0_1
  have bb0_2 := b0_2.1; have bc0_2 := b0_2.2; simp only [maxLen] at bc0_2
  have bb0_3 := b0_3.1; have bc0_3 := b0_3.2; simp only [maxLen] at bc0_3
  have lo1 := i64_lo i1; have hi1 := i64_hi i1
  have hR_ := pre0.1; have hF_ := pre0.2.1; have h0_ := pre0.2.2.1; have h1_ := pre0.2.2.2; have hsm_ := hR_.small; have hfo_ := hR_.follow; have hla_ := hR_.last; have hss_ := hR_.small'
  refine run_seq ?_
  refine run_reg (l := [0, 1, 2]) rfl ?_
  obtain ⟨b1, w1, r1, g1, T1⟩ := e_box (P := Tryd.prog) S0 27 (v := .agg #[.slice A0_0 m.spots.length c0_0, .slice A0_1 m.first.length c0_1, .slice A0_2 m.follow.length c0_2, .slice A0_3 m.last.length c0_3, .bool m.empty]) [.slice A0_0 m.spots.length c0_0, .slice A0_1 m.first.length c0_1, .slice A0_2 m.follow.length c0_2, .slice A0_3 m.last.length c0_3, .bool m.empty] rfl
  have S2 : St w.heap.size w (fun _ => none) w1 [box b1 27 [.slice A0_0 m.spots.length c0_0, .slice A0_1 m.first.length c0_1, .slice A0_2 m.follow.length c0_2, .slice A0_3 m.last.length c0_3, .bool m.empty]] := T1
  refine p_v (v := .pointer (some ⟨b1, 0, none⟩)) rfl rfl rfl (x_box rfl r1) ?_
  refine p_v (v := .string (⟨#[]⟩ : ByteArray)) rfl rfl rfl (x_assign rfl) ?_
  refine p_v (v := .bool false) rfl rfl rfl (x_assign rfl) ?_
  refine run_region_end ?_
  refine run_seq ?_
  refine run_seq ?_
  refine run_reg (l := [0, 1, 2, 3, 4]) rfl ?_
  refine p_v (v := .pointer (some ⟨b1, 3, none⟩)) rfl rfl rfl (x_fieldAt fd27_3 ty25 rfl rfl) ?_
  refine p_v (v := .slice A0_3 m.last.length c0_3) rfl rfl rfl (x_load (seg := [.slice A0_3 m.last.length c0_3]) ty25 rfl (by simp) rfl (CF.box (m := 1) (S2.box_at (j := 0) rfl) rfl)) ?_
  refine p_v (v := .int .i64 src) rfl rfl rfl (x_move rfl) ?_
  obtain ⟨ad3, seg3, a3, rp3, ce3⟩ := e_index_ro (q := src) (m := 1) l0_3 rfl (by first|omega|(simp;omega)|assumption) (by first|omega|(simp;omega)|assumption)
  refine p_v (v := .pointer (some ad3)) rfl rfl rfl (x_index_ro u25 ty4 rfl rfl a3 (by first|omega|(simp;omega)|assumption) (by first|omega|(simp;omega)|assumption)) ?_
  obtain ⟨rfl, _⟩ := rp3
  refine p_v (v := .bool (at_ m.last src)) rfl rfl rfl (x_load (seg := [.bool (at_ m.last src)]) ty4 rfl (by simp) rfl (CF.ghost ce3 (St.le0 S2))) ?_
  refine run_region_end ?_
  refine run_cond_split (b := at_ m.last src) rfl (fun hc4 => ?_) (fun hc4 => ?_)
  · skip
    refine run_seq ?_
    refine run_reg (l := [0, 1]) rfl ?_
    refine p_v (v := .string (⟨#[]⟩ : ByteArray)) rfl rfl rfl (x_assign rfl) ?_
    refine p_v (v := .bool true) rfl rfl rfl (x_assign rfl) ?_
    refine run_region_end ?_
    refine run_ret Tryd.func12 (res2 rfl (res_tmp (v := .string (⟨#[]⟩ : ByteArray)) rfl) (res_tmp (v := .bool true) rfl)) ?_
    have q0 : ((⟨#[]⟩ : ByteArray) : ByteArray) = (⟨#[]⟩ : ByteArray) := rfl
    have q1 : (goesB m src : Bool) = true := by
      exact (goesB_last (by assumption)).1
    refine ⟨_, rfl, (fun _ => none), (⟨#[]⟩ : ByteArray), ?_, ?_, ?_, ?_⟩
    · exact S2.sub [] (by decide) rfl _ rfl
    · first | rfl | (simp only [q1]; rfl) | (simp only [q1])
    · first | assumption | exact (by decide)
    · show GotR m src (goesB m src) (⟨#[]⟩ : ByteArray)
      exact (goesB_last (by assumption)).2
  · skip
    refine run_skip ?_
    refine run_seq ?_
    refine run_seq ?_
    refine run_reg (l := [0]) rfl ?_
    refine p_v (v := .int .i64 0) rfl rfl rfl (x_assign rfl) ?_
    refine run_region_end ?_
    refine run_block ?_
    refine run_loop (S := Int) (fun (q_ : Int) ρ w' => match q_ with | i => ∃ (h : Ghost), Le (fun _ => none) h ∧ St w.heap.size w h w' [box b1 27 [.slice A0_0 m.spots.length c0_0, .slice A0_1 m.first.length c0_1, .slice A0_2 m.follow.length c0_2, .slice A0_3 m.last.length c0_3, .bool m.empty]] ∧ ρ 1 = .int .i64 src ∧ ρ 2 = .pointer (some ⟨b1, 0, none⟩) ∧ ρ 6 = .int .i64 i ∧ inK .i64 i ∧ (0 ≤ i ∧ i ≤ (m.spots.length : Int) ∧ goesTo m src i = false)) (fun q_ => match q_ with | i => (m.spots.length - i).toNat) (0) ⟨(fun _ => none), Le.refl _, S2.sub [0] (by decide) rfl _ rfl, rfl, rfl, rfl, (in_i64 (by first|omega|(simp;omega)|assumption) (by first|omega|(simp;omega)|assumption)), (by exact ⟨by omega, by omega, goesTo_0 m src⟩)⟩ ?_
    rintro i ih5 ρ5 w5 ⟨h5, le5, S5, r5_1, r5_2, r5_6, f5_0, hI5⟩
    have lf5_0 := i64_lo f5_0; have hf5_0 := i64_hi f5_0
    have hi0_ : 0 ≤ i := hI5.1
    refine run_seq ?_
    refine run_seq ?_
    refine run_reg (l := [0, 1, 2, 3, 4]) rfl ?_
    refine p_v (v := .int .i64 i) rfl rfl rfl (x_move r5_6) ?_
    refine p_v (v := .pointer (some ⟨b1, 0, none⟩)) rfl rfl rfl (x_fieldAt fd27_0 ty22 rfl r5_2) ?_
    refine p_v (v := .slice A0_0 m.spots.length c0_0) rfl rfl rfl (x_load (seg := [.slice A0_0 m.spots.length c0_0]) ty22 rfl (by simp) rfl (CF.box (m := 1) (S5.box_at (j := 0) rfl) rfl)) ?_
    refine p_v (v := .int .i64 (m.spots.length : Int)) rfl rfl rfl (x_len_slice u22 rfl) ?_
    refine p_v (v := .bool (decide (i < (m.spots.length : Int)))) rfl rfl rfl (x_lss rfl rfl) ?_
    refine run_region_end ?_
    refine run_cond_prop (p := i < (m.spots.length : Int)) rfl (fun hc6 => ?_) (fun hc6 => ?_)
    · skip
      refine run_skip ?_
      refine run_seq ?_
      refine run_block ?_
      refine run_seq ?_
      refine run_seq ?_
      refine run_reg (l := [0, 1, 2, 3, 4, 5]) rfl ?_
      refine p_v (v := .pointer (some ⟨b1, 3, none⟩)) rfl rfl rfl (x_fieldAt fd27_3 ty25 rfl r5_2) ?_
      refine p_v (v := .slice A0_3 m.last.length c0_3) rfl rfl rfl (x_load (seg := [.slice A0_3 m.last.length c0_3]) ty25 rfl (by simp) rfl (CF.box (m := 1) (S5.box_at (j := 0) rfl) rfl)) ?_
      refine p_v (v := .int .i64 i) rfl rfl rfl (x_move r5_6) ?_
      obtain ⟨ad7, seg7, a7, rp7, ce7⟩ := e_index_ro (q := i) (m := 1) l0_3 rfl (by first|omega|(simp;omega)|assumption) (by first|omega|(simp;omega)|assumption)
      refine p_v (v := .pointer (some ad7)) rfl rfl rfl (x_index_ro u25 ty4 rfl rfl a7 (by first|omega|(simp;omega)|assumption) (by first|omega|(simp;omega)|assumption)) ?_
      obtain ⟨rfl, _⟩ := rp7
      refine p_v (v := .bool (at_ m.last i)) rfl rfl rfl (x_load (seg := [.bool (at_ m.last i)]) ty4 rfl (by simp) rfl (CF.ghost ce7 (St.le0 S5))) ?_
      refine p_v (v := .bool (!(at_ m.last i))) rfl rfl rfl (x_not rfl) ?_
      refine run_region_end ?_
      refine run_cond_nsplit (b := at_ m.last i) rfl (fun hc8 => ?_) (fun hc8 => ?_)
      · skip
        refine run_exit rfl ?_
        refine run_reg (l := [0, 1, 2]) rfl ?_
        refine p_v (v := .int .i64 i) rfl rfl rfl (x_move r5_6) ?_
        refine p_v (v := .int .i64 (i + 1)) rfl rfl rfl (x_add rfl rfl (in_i64 (by first|omega|(simp;omega)|assumption) (by first|omega|(simp;omega)|assumption))) ?_
        refine p_v (v := .int .i64 (i + 1)) rfl rfl rfl (x_assign rfl) ?_
        refine run_region_end ?_
        refine ih5 (i + 1) _ _ (by dsimp only; omega) ⟨h5, le5, S5.sub [0] (by decide) rfl _ rfl, r5_1, r5_2, rfl, (in_i64 (by first|omega|(simp;omega)|assumption) (by first|omega|(simp;omega)|assumption)), (by first | exact ⟨by omega, by omega, goesTo_step m src hI5.1 hI5.2.2 (by rw [(by assumption : at_ m.last i = false)]; rfl)⟩ | exact ⟨by omega, by omega, goesTo_step m src hI5.1 hI5.2.2 (by rw [(by assumption : at_ (reachM m (at_ m.follow src)) i = false)]; simp)⟩)⟩
      · skip
        refine run_skip ?_
        refine run_seq ?_
        obtain ⟨ad9, seg9, a9, rp9, ce9⟩ := e_index_ro (q := src) (m := 1) l0_2 rfl (by first|omega|(simp;omega)|assumption) (by first|omega|(simp;omega)|assumption)
        obtain ⟨A9, c9, rfl, lc9, cm9, ld9⟩ := rp9
        have cn9 := cm9; simp only [maxLen] at cn9
        have hf10 : (CFs ⟨b1, 0, none⟩ [.slice A0_0 m.spots.length c0_0, .slice A0_1 m.first.length c0_1, .slice A0_2 m.follow.length c0_2, .slice A0_3 m.last.length c0_3, .bool m.empty]).1 w5 := (CF.box (m := 5) (S5.box_at (j := 0) rfl) rfl)
        have hf11 : (CFs ⟨b1, 2, none⟩ [.slice A0_2 m.follow.length c0_2]).1 w5 := (CF.box (m := 1) (S5.box_at (j := 0) rfl) rfl)
        have hf12 : (CFs ad9 [.slice A9 (at_ m.follow src).length c9]).1 w5 := (CF.ghost ce9 (St.le0 S5))
        refine da_start [(0, CFs ⟨b1, 0, none⟩ [.slice A0_0 m.spots.length c0_0, .slice A0_1 m.first.length c0_1, .slice A0_2 m.follow.length c0_2, .slice A0_3 m.last.length c0_3, .bool m.empty]), (2, CFs ⟨b1, 2, none⟩ [.slice A0_2 m.follow.length c0_2]), (5, CFs ad9 [.slice A9 (at_ m.follow src).length c9])] 13 rfl mixed ?_
        intro wd13 gd13 hd13
        have S14 := S5.keep gd13
        have hf15 := (CFs ⟨b1, 0, none⟩ [.slice A0_0 m.spots.length c0_0, .slice A0_1 m.first.length c0_1, .slice A0_2 m.follow.length c0_2, .slice A0_3 m.last.length c0_3, .bool m.empty]).2 _ _ gd13 hf10
        have hf16 := (CFs ⟨b1, 2, none⟩ [.slice A0_2 m.follow.length c0_2]).2 _ _ gd13 hf11
        have hf17 := (CFs ad9 [.slice A9 (at_ m.follow src).length c9]).2 _ _ gd13 hf12
        refine d_q (i := 0) (v := .agg #[.slice A0_0 m.spots.length c0_0, .slice A0_1 m.first.length c0_1, .slice A0_2 m.follow.length c0_2, .slice A0_3 m.last.length c0_3, .bool m.empty]) (CF ⟨b1, 0, none⟩ [.slice A0_0 m.spots.length c0_0, .slice A0_1 m.first.length c0_1, .slice A0_2 m.follow.length c0_2, .slice A0_3 m.last.length c0_3, .bool m.empty]) (fun _ ho => ho _ (List.mem_of_getElem? (i := 0) rfl) rfl) rfl (by decide +kernel) (by decide +kernel) (by decide +kernel) rfl rfl (fun wq hq => (x_load (seg := [.slice A0_0 m.spots.length c0_0, .slice A0_1 m.first.length c0_1, .slice A0_2 m.follow.length c0_2, .slice A0_3 m.last.length c0_3, .bool m.empty]) ty27 rfl (by simp) r5_2 hq)) (of_eq hf15 (of_ne rfl (of_ne rfl (of_nil _ _)))) ?_
        refine d_q (i := 1) (v := .pointer (some ⟨b1, 2, none⟩)) (fun _ => True) (fun _ ho => trivial) rfl (by decide +kernel) (by decide +kernel) (by decide +kernel) rfl rfl (fun wq hq => (x_fieldAt fd27_2 ty24 rfl r5_2)) (of_ne rfl (of_ne rfl (of_ne rfl (of_nil _ _)))) ?_
        refine d_q (i := 2) (v := .slice A0_2 m.follow.length c0_2) (CF ⟨b1, 2, none⟩ [.slice A0_2 m.follow.length c0_2]) (fun _ ho => ho _ (List.mem_of_getElem? (i := 1) rfl) rfl) rfl (by decide +kernel) (by decide +kernel) (by decide +kernel) rfl rfl (fun wq hq => (x_load (seg := [.slice A0_2 m.follow.length c0_2]) ty24 rfl (by simp) rfl hq)) (of_ne rfl (of_eq hf16 (of_ne rfl (of_nil _ _)))) ?_
        refine d_q (i := 3) (v := .int .i64 src) (fun _ => True) (fun _ ho => trivial) rfl (by decide +kernel) (by decide +kernel) (by decide +kernel) rfl rfl (fun wq hq => (x_move r5_1)) (of_ne rfl (of_ne rfl (of_ne rfl (of_nil _ _)))) ?_
        refine d_q (i := 4) (v := .pointer (some ad9)) (fun _ => True) (fun _ ho => trivial) rfl (by decide +kernel) (by decide +kernel) (by decide +kernel) rfl rfl (fun wq hq => (x_index_ro u24 ty23 rfl rfl a9 (by first|omega|(simp;omega)|assumption) (by first|omega|(simp;omega)|assumption))) (of_ne rfl (of_ne rfl (of_ne rfl (of_nil _ _)))) ?_
        refine d_q (i := 5) (v := .slice A9 (at_ m.follow src).length c9) (CF ad9 [.slice A9 (at_ m.follow src).length c9]) (fun _ ho => ho _ (List.mem_of_getElem? (i := 2) rfl) rfl) rfl (by decide +kernel) (by decide +kernel) (by decide +kernel) rfl rfl (fun wq hq => (x_load (seg := [.slice A9 (at_ m.follow src).length c9]) ty23 rfl (by simp) rfl hq)) (of_ne rfl (of_ne rfl (of_eq hf17 (of_nil _ _)))) ?_
        refine d_q (i := 6) (v := .int .i64 i) (fun _ => True) (fun _ ho => trivial) rfl (by decide +kernel) (by decide +kernel) (by decide +kernel) rfl rfl (fun wq hq => (x_move r5_6)) (of_ne rfl (of_ne rfl (of_ne rfl (of_nil _ _)))) ?_
        refine ra_one (i := 7) (by decide +kernel) ?_
        intro wd18 gd18
        have S19 := S14.keep gd18
        have hf20 := (CFs ⟨b1, 0, none⟩ [.slice A0_0 m.spots.length c0_0, .slice A0_1 m.first.length c0_1, .slice A0_2 m.follow.length c0_2, .slice A0_3 m.last.length c0_3, .bool m.empty]).2 _ _ gd18 hf15
        have hf21 := (CFs ⟨b1, 2, none⟩ [.slice A0_2 m.follow.length c0_2]).2 _ _ gd18 hf16
        have hf22 := (CFs ad9 [.slice A9 (at_ m.follow src).length c9]).2 _ _ gd18 hf17
        refine d_c rfl rfl rfl (y_call (args := [.agg #[.slice A0_0 m.spots.length c0_0, .slice A0_1 m.first.length c0_1, .slice A0_2 m.follow.length c0_2, .slice A0_3 m.last.length c0_3, .bool m.empty], .slice A9 (at_ m.follow src).length c9, .int .i64 i]) ca11 rfl rfl) (way_calls wd18 m A0_0 c0_0 b0_0 (l0_0.mono (St.le0 S19)) A0_1 c0_1 b0_1 (l0_1.mono (St.le0 S19)) A0_2 c0_2 b0_2 (l0_2.mono (St.le0 S19)) A0_3 c0_3 b0_3 (l0_3.mono (St.le0 S19)) (at_ m.follow src) A9 c9 (And.intro lc9 cm9) (ld9.mono (St.le0 S19)) i f5_0 (by first | assumption | exact ⟨by assumption, by assumption, hR_.row _ (by omega) (by omega), by omega, by omega⟩ | exact ⟨by assumption, by assumption, (by assumption : Right (trimM m)).first, by omega, by omega⟩) (Block.st S19 tb)) ?_
        rintro _ w23 ⟨h23, s_23, T23, rfl, sz23_0, fx23⟩
        have S24 := S19.keep (Chg.of_below T23.below)
        have bd_sz23_0 := sz23_0; simp only [maxLen] at bd_sz23_0
        have fz23 := fx23.1
        have hf25 := (CFs ⟨b1, 0, none⟩ [.slice A0_0 m.spots.length c0_0, .slice A0_1 m.first.length c0_1, .slice A0_2 m.follow.length c0_2, .slice A0_3 m.last.length c0_3, .bool m.empty]).2 _ _ (Chg.of_below T23.below) hf20
        have hf26 := (CFs ⟨b1, 2, none⟩ [.slice A0_2 m.follow.length c0_2]).2 _ _ (Chg.of_below T23.below) hf21
        have hf27 := (CFs ad9 [.slice A9 (at_ m.follow src).length c9]).2 _ _ (Chg.of_below T23.below) hf22
        refine ⟨.inl (Chg.of_below T23.below), ?_⟩
        refine d_q (i := 8) (v := .tuple #[.string s_23, .bool (at_ (reachM m (at_ m.follow src)) i)]) (fun _ => True) (fun _ ho => trivial) rfl (by decide +kernel) (by decide +kernel) (by decide +kernel) rfl rfl (fun wq hq => (x_move rfl)) (of_ne rfl (of_ne rfl (of_ne rfl (of_nil _ _)))) ?_
        refine d_q (i := 9) (v := .string s_23) (fun _ => True) (fun _ ho => trivial) rfl (by decide +kernel) (by decide +kernel) (by decide +kernel) rfl rfl (fun wq hq => (x_extract (vs := [.string s_23, .bool (at_ (reachM m (at_ m.follow src)) i)]) rfl rfl)) (of_ne rfl (of_ne rfl (of_ne rfl (of_nil _ _)))) ?_
        refine d_q (i := 10) (v := .bool (at_ (reachM m (at_ m.follow src)) i)) (fun _ => True) (fun _ ho => trivial) rfl (by decide +kernel) (by decide +kernel) (by decide +kernel) rfl rfl (fun wq hq => (x_extract (vs := [.string s_23, .bool (at_ (reachM m (at_ m.follow src)) i)]) rfl rfl)) (of_ne rfl (of_ne rfl (of_ne rfl (of_nil _ _)))) ?_
        refine d_q (i := 11) (v := .string s_23) (fun _ => True) (fun _ ho => trivial) rfl (by decide +kernel) (by decide +kernel) (by decide +kernel) rfl rfl (fun wq hq => (x_assign rfl)) (of_ne rfl (of_ne rfl (of_ne rfl (of_nil _ _)))) ?_
        refine d_q (i := 12) (v := .bool (at_ (reachM m (at_ m.follow src)) i)) (fun _ => True) (fun _ ho => trivial) rfl (by decide +kernel) (by decide +kernel) (by decide +kernel) rfl rfl (fun wq hq => (x_assign rfl)) (of_ne rfl (of_ne rfl (of_ne rfl (of_nil _ _)))) ?_
        refine ra_done (by decide +kernel) ?_
        intro wd28 gd28
        have S29 := S24.keep gd28
        refine run_seq ?_
        refine run_reg (l := [0]) rfl ?_
        refine p_v (v := .bool (at_ (reachM m (at_ m.follow src)) i)) rfl rfl rfl (x_move rfl) ?_
        refine run_region_end ?_
        refine run_cond_split (b := at_ (reachM m (at_ m.follow src)) i) rfl (fun hc30 => ?_) (fun hc30 => ?_)
        · skip
          refine run_seq ?_
          refine run_reg (l := [0, 1, 2]) rfl ?_
          refine p_v (v := .string s_23) rfl rfl rfl (x_move rfl) ?_
          refine p_v (v := .string s_23) rfl rfl rfl (x_assign rfl) ?_
          refine p_v (v := .bool true) rfl rfl rfl (x_assign rfl) ?_
          refine run_region_end ?_
          refine run_ret Tryd.func12 (res2 rfl (res_tmp (v := .string s_23) rfl) (res_tmp (v := .bool true) rfl)) ?_
          have q0 : (s_23 : ByteArray) = s_23 := rfl
          have q1 : (goesB m src : Bool) = true := by
            exact (goesB_way hI5.1 (by omega) (by assumption) (by assumption) (by assumption)).1
          refine ⟨_, rfl, h5, s_23, ?_, ?_, ?_, ?_⟩
          · exact S29.sub [] (by decide) rfl _ rfl
          · first | rfl | (simp only [q1]; rfl) | (simp only [q1])
          · first | assumption | exact sz23_0
          · show GotR m src (goesB m src) s_23
            exact (goesB_way hI5.1 (by omega) (by assumption) (by assumption) (by assumption)).2
        · skip
          refine run_skip ?_
          refine run_inBlock ?_
          refine run_reg (l := [0, 1, 2]) rfl ?_
          refine p_v (v := .int .i64 i) rfl rfl rfl (x_move r5_6) ?_
          refine p_v (v := .int .i64 (i + 1)) rfl rfl rfl (x_add rfl rfl (in_i64 (by first|omega|(simp;omega)|assumption) (by first|omega|(simp;omega)|assumption))) ?_
          refine p_v (v := .int .i64 (i + 1)) rfl rfl rfl (x_assign rfl) ?_
          refine run_region_end ?_
          refine ih5 (i + 1) _ _ (by dsimp only; omega) ⟨h5, le5, S29.sub [0] (by decide) rfl _ rfl, r5_1, r5_2, rfl, (in_i64 (by first|omega|(simp;omega)|assumption) (by first|omega|(simp;omega)|assumption)), (by first | exact ⟨by omega, by omega, goesTo_step m src hI5.1 hI5.2.2 (by rw [(by assumption : at_ m.last i = false)]; rfl)⟩ | exact ⟨by omega, by omega, goesTo_step m src hI5.1 hI5.2.2 (by rw [(by assumption : at_ (reachM m (at_ m.follow src)) i = false)]; simp)⟩)⟩
    · skip
      refine run_exit rfl ?_
      refine run_seq ?_
      refine run_reg (l := [0, 1]) rfl ?_
      refine p_v (v := .string (⟨#[]⟩ : ByteArray)) rfl rfl rfl (x_assign rfl) ?_
      refine p_v (v := .bool false) rfl rfl rfl (x_assign rfl) ?_
      refine run_region_end ?_
      refine run_ret Tryd.func12 (res2 rfl (res_tmp (v := .string (⟨#[]⟩ : ByteArray)) rfl) (res_tmp (v := .bool false) rfl)) ?_
      have q0 : ((⟨#[]⟩ : ByteArray) : ByteArray) = (⟨#[]⟩ : ByteArray) := rfl
      have q1 : (goesB m src : Bool) = false := by
        exact (goesB_no (by assumption) hI5.2.2 (by omega)).1
      refine ⟨_, rfl, h5, (⟨#[]⟩ : ByteArray), ?_, ?_, ?_, ?_⟩
      · exact S5.sub [] (by decide) rfl _ rfl
      · first | rfl | (simp only [q1]; rfl) | (simp only [q1])
      · first | assumption | exact (by decide)
      · show GotR m src (goesB m src) (⟨#[]⟩ : ByteArray)
        exact (goesB_no (by assumption) hI5.2.2 (by omega)).2
theorem nfaUseful_calls (w : World) (m : Mach) (A0_0 : Option Addr) (c0_0 : Nat) (b0_0 : m.spots.length ≤ c0_0 ∧ c0_0 ≤ maxLen) (l0_0 : Leads kSpot (hp w) A0_0 m.spots) (A0_1 : Option Addr) (c0_1 : Nat) (b0_1 : m.first.length ≤ c0_1 ∧ c0_1 ≤ maxLen) (l0_1 : Leads (Kd.int .i64) (hp w) A0_1 m.first) (A0_2 : Option Addr) (c0_2 : Nat) (b0_2 : m.follow.length ≤ c0_2 ∧ c0_2 ≤ maxLen) (l0_2 : Leads (Kd.int .i64).slice (hp w) A0_2 m.follow) (A0_3 : Option Addr) (c0_3 : Nat) (b0_3 : m.last.length ≤ c0_3 ∧ c0_3 ≤ maxLen) (l0_3 : Leads Kd.bool (hp w) A0_3 m.last) (xw : ByteArray) (s1 : xw.size ≤ maxLen) (tb : Block 0 tzTab w) :
    Calls Tryd.prog 3 #[.agg #[.slice A0_0 m.spots.length c0_0, .slice A0_1 m.first.length c0_1, .slice A0_2 m.follow.length c0_2, .slice A0_3 m.last.length c0_3, .bool m.empty], .string xw] w fun e w' => ∃ v, e = .returned v ∧ ∃ (hn : Ghost), St w.heap.size w hn w' [] ∧ v = .bool true := by
  refine calls_of_run Tryd.func3 rfl Tryd.ntmps3 rfl ?_
  have S0 := St.init w
  have bb0_0 := b0_0.1; have bc0_0 := b0_0.2; simp only [maxLen] at bc0_0
  have bb0_1 := b0_1.1; have bc0_1 := b0_1.2; simp only [maxLen] at bc0_1
  have bb0_2 := b0_2.1; have bc0_2 := b0_2.2; simp only [maxLen] at bc0_2
  have bb0_3 := b0_3.1; have bc0_3 := b0_3.2; simp only [maxLen] at bc0_3
  have sz1 := s1; simp only [maxLen] at sz1
  refine run_seq ?_
  refine run_reg (l := [0, 1]) rfl ?_
  obtain ⟨b1, w1, r1, g1, T1⟩ := e_box (P := Tryd.prog) S0 27 (v := .agg #[.slice A0_0 m.spots.length c0_0, .slice A0_1 m.first.length c0_1, .slice A0_2 m.follow.length c0_2, .slice A0_3 m.last.length c0_3, .bool m.empty]) [.slice A0_0 m.spots.length c0_0, .slice A0_1 m.first.length c0_1, .slice A0_2 m.follow.length c0_2, .slice A0_3 m.last.length c0_3, .bool m.empty] rfl
  have S2 : St w.heap.size w (fun _ => none) w1 [box b1 27 [.slice A0_0 m.spots.length c0_0, .slice A0_1 m.first.length c0_1, .slice A0_2 m.follow.length c0_2, .slice A0_3 m.last.length c0_3, .bool m.empty]] := T1
  refine p_v (v := .pointer (some ⟨b1, 0, none⟩)) rfl rfl rfl (x_box rfl r1) ?_
  refine p_v (v := .bool false) rfl rfl rfl (x_assign rfl) ?_
  refine run_region_end ?_
  refine run_seq ?_
  refine run_seq ?_
  refine run_reg (l := [0, 1, 2, 3, 4, 5, 6]) rfl ?_
  refine p_v (v := .agg #[.slice A0_0 m.spots.length c0_0, .slice A0_1 m.first.length c0_1, .slice A0_2 m.follow.length c0_2, .slice A0_3 m.last.length c0_3, .bool m.empty]) rfl rfl rfl (x_load (seg := [.slice A0_0 m.spots.length c0_0, .slice A0_1 m.first.length c0_1, .slice A0_2 m.follow.length c0_2, .slice A0_3 m.last.length c0_3, .bool m.empty]) ty27 rfl (by simp) rfl (CF.box (m := 5) (S2.box_at (j := 0) rfl) rfl)) ?_
  refine p_c rfl rfl rfl (y_call (args := [.agg #[.slice A0_0 m.spots.length c0_0, .slice A0_1 m.first.length c0_1, .slice A0_2 m.follow.length c0_2, .slice A0_3 m.last.length c0_3, .bool m.empty]]) ca5 rfl rfl) (great_calls w1 m A0_0 c0_0 b0_0 (l0_0.mono (St.le0 S2)) A0_1 c0_1 b0_1 (l0_1.mono (St.le0 S2)) A0_2 c0_2 b0_2 (l0_2.mono (St.le0 S2)) A0_3 c0_3 b0_3 (l0_3.mono (St.le0 S2))) ?_
  rintro _ w3 ⟨h3, T3, rfl⟩
  have S4 := S2.keep (Chg.of_below T3.below)
  refine p_v (v := .bool (greatM m)) rfl rfl rfl (x_move rfl) ?_
  rcases Bool.eq_false_or_eq_true (greatM m) with hc5 | hc5
  · skip
    refine p_off rfl (wanted_of (j := 2) (want := false) (d := 16) (b := true) rfl rfl (congrArg Value.bool hc5) rfl) rfl ?_
    refine p_off rfl (wanted_of (j := 2) (want := false) (d := 16) (b := true) rfl rfl (congrArg Value.bool hc5) rfl) rfl ?_
    refine p_off rfl (wanted_of (j := 2) (want := false) (d := 16) (b := true) rfl rfl (congrArg Value.bool hc5) rfl) rfl ?_
    refine p_v (v := .bool true) rfl rfl rfl (x_pick_t (congrArg Value.bool hc5) rfl) ?_
    refine run_region_end ?_
    refine run_cond (b := true) rfl ?_
    simp only [if_true, if_false, Bool.false_eq_true]
    refine run_seq ?_
    refine run_reg (l := [0, 1]) rfl ?_
    refine p_c rfl rfl rfl (y_call (args := []) ca6 rfl rfl) (awake10_calls w3 ) ?_
    rintro _ w6 ⟨h6, T6, rfl⟩
    have S7 := S4.keep (Chg.of_below T6.below)
    refine p_v (v := .bool true) rfl rfl rfl (x_assign rfl) ?_
    refine run_region_end ?_
    refine run_ret Tryd.func3 (res1 rfl (res_tmp (v := .bool true) rfl)) ?_
    have q0 : (true : Bool) = true := rfl
    refine ⟨_, rfl, (fun _ => none), ?_, ?_⟩
    · exact S7.sub [] (by decide) rfl _ rfl
    · rfl
  · skip
    have hsm_ := small_of hc5
    refine p_v (v := .string xw) rfl (wanted_of (j := 2) (want := false) (d := 16) (b := false) rfl rfl (congrArg Value.bool hc5) rfl) rfl (x_move rfl) ?_
    refine p_v (v := .int .i64 (xw.size : Int)) rfl (wanted_of (j := 2) (want := false) (d := 16) (b := false) rfl rfl (congrArg Value.bool hc5) rfl) rfl (x_len_string u9 rfl) ?_
    refine p_v (v := .bool (decide (200 < (xw.size : Int)))) rfl (wanted_of (j := 2) (want := false) (d := 16) (b := false) rfl rfl (congrArg Value.bool hc5) rfl) rfl (x_gtr rfl rfl) ?_
    refine p_v (v := .bool (decide (200 < (xw.size : Int)))) rfl rfl rfl (x_pick_f (congrArg Value.bool hc5) rfl) ?_
    refine run_region_end ?_
    refine run_cond_prop (p := 200 < (xw.size : Int)) rfl (fun hc9 => ?_) (fun hc9 => ?_)
    · skip
      refine run_seq ?_
      refine run_reg (l := [0, 1]) rfl ?_
      refine p_c rfl rfl rfl (y_call (args := []) ca6 rfl rfl) (awake10_calls w3 ) ?_
      rintro _ w10 ⟨h10, T10, rfl⟩
      have S11 := S4.keep (Chg.of_below T10.below)
      refine p_v (v := .bool true) rfl rfl rfl (x_assign rfl) ?_
      refine run_region_end ?_
      refine run_ret Tryd.func3 (res1 rfl (res_tmp (v := .bool true) rfl)) ?_
      have q0 : (true : Bool) = true := rfl
      refine ⟨_, rfl, (fun _ => none), ?_, ?_⟩
      · exact S11.sub [] (by decide) rfl _ rfl
      · rfl
    · skip
      refine run_skip ?_
      refine run_seq ?_
      refine run_reg (l := [0, 1, 2, 3, 4, 5, 6, 7]) rfl ?_
      refine p_v (v := .agg #[.slice A0_0 m.spots.length c0_0, .slice A0_1 m.first.length c0_1, .slice A0_2 m.follow.length c0_2, .slice A0_3 m.last.length c0_3, .bool m.empty]) rfl rfl rfl (x_load (seg := [.slice A0_0 m.spots.length c0_0, .slice A0_1 m.first.length c0_1, .slice A0_2 m.follow.length c0_2, .slice A0_3 m.last.length c0_3, .bool m.empty]) ty27 rfl (by simp) rfl (CF.box (m := 5) (S4.box_at (j := 0) rfl) rfl)) ?_
      refine p_c rfl rfl rfl (y_call (args := [.agg #[.slice A0_0 m.spots.length c0_0, .slice A0_1 m.first.length c0_1, .slice A0_2 m.follow.length c0_2, .slice A0_3 m.last.length c0_3, .bool m.empty]]) ca7 rfl rfl) (trimN_calls w3 m A0_0 c0_0 b0_0 (l0_0.mono (St.le0 S4)) A0_1 c0_1 b0_1 (l0_1.mono (St.le0 S4)) A0_2 c0_2 b0_2 (l0_2.mono (St.le0 S4)) A0_3 c0_3 b0_3 (l0_3.mono (St.le0 S4))) ?_
      rintro _ w13 ⟨h13, v13_0, v13_1, v13_2, v13_3, T13, rfl, in13_0⟩
      obtain ⟨k13, lk13, ll13, U13⟩ := call_joins S4 T13
      have S14 : St w.heap.size w k13 w13 [box b1 27 [.slice A0_0 m.spots.length c0_0, .slice A0_1 m.first.length c0_1, .slice A0_2 m.follow.length c0_2, .slice A0_3 m.last.length c0_3, .bool m.empty], row 55 kSpot v13_0 ((trimM m).spots), row 3 (Kd.int .i64) v13_1 ((trimM m).first), row 23 (Kd.int .i64).slice v13_2 ((trimM m).follow), row 4 Kd.bool v13_3 ((trimM m).last)] := U13
      have lo_in13_0 := i64_lo in13_0; have hi_in13_0 := i64_hi in13_0
      obtain ⟨h15, le15, T15, rp15⟩ := S14.freeze (i := 1) rfl
      have lf15_0 := (lk13).trans le15
      have S16 : St w.heap.size w h15 w13 [box b1 27 [.slice A0_0 m.spots.length c0_0, .slice A0_1 m.first.length c0_1, .slice A0_2 m.follow.length c0_2, .slice A0_3 m.last.length c0_3, .bool m.empty], emp, row 3 (Kd.int .i64) v13_1 ((trimM m).first), row 23 (Kd.int .i64).slice v13_2 ((trimM m).follow), row 4 Kd.bool v13_3 ((trimM m).last)] := T15
      obtain ⟨A15, c15, e15, lc15, cm15, ld15⟩ := rp15
      injection e15 with e15 _; subst e15
      have cn15 := cm15; simp only [maxLen] at cn15
      obtain ⟨h17, le17, T17, rp17⟩ := S16.freeze (i := 2) rfl
      have lf17_0 := (lf15_0).trans le17
      have lf17_1 := (le15).trans le17
      have S18 : St w.heap.size w h17 w13 [box b1 27 [.slice A0_0 m.spots.length c0_0, .slice A0_1 m.first.length c0_1, .slice A0_2 m.follow.length c0_2, .slice A0_3 m.last.length c0_3, .bool m.empty], emp, emp, row 23 (Kd.int .i64).slice v13_2 ((trimM m).follow), row 4 Kd.bool v13_3 ((trimM m).last)] := T17
      obtain ⟨A17, c17, e17, lc17, cm17, ld17⟩ := rp17
      injection e17 with e17 _; subst e17
      have cn17 := cm17; simp only [maxLen] at cn17
      obtain ⟨h19, le19, T19, rp19⟩ := S18.freeze (i := 3) rfl
      have lf19_0 := (lf17_0).trans le19
      have lf19_1 := (lf17_1).trans le19
      have lf19_2 := (le17).trans le19
      have S20 : St w.heap.size w h19 w13 [box b1 27 [.slice A0_0 m.spots.length c0_0, .slice A0_1 m.first.length c0_1, .slice A0_2 m.follow.length c0_2, .slice A0_3 m.last.length c0_3, .bool m.empty], emp, emp, emp, row 4 Kd.bool v13_3 ((trimM m).last)] := T19
      obtain ⟨A19, c19, e19, lc19, cm19, ld19⟩ := rp19
      injection e19 with e19 _; subst e19
      have cn19 := cm19; simp only [maxLen] at cn19
      obtain ⟨h21, le21, T21, rp21⟩ := S20.freeze (i := 4) rfl
      have lf21_0 := (lf19_0).trans le21
      have lf21_1 := (lf19_1).trans le21
      have lf21_2 := (lf19_2).trans le21
      have lf21_3 := (le19).trans le21
      have S22 : St w.heap.size w h21 w13 [box b1 27 [.slice A0_0 m.spots.length c0_0, .slice A0_1 m.first.length c0_1, .slice A0_2 m.follow.length c0_2, .slice A0_3 m.last.length c0_3, .bool m.empty], emp, emp, emp, emp] := T21
      obtain ⟨A21, c21, e21, lc21, cm21, ld21⟩ := rp21
      injection e21 with e21 _; subst e21
      have cn21 := cm21; simp only [maxLen] at cn21
      refine p_v (v := .tuple #[.agg #[.slice A15 ((trimM m).spots).length c15, .slice A17 ((trimM m).first).length c17, .slice A19 ((trimM m).follow).length c19, .slice A21 ((trimM m).last).length c21, .bool ((trimM m).empty)], .int .i64 (errM m)]) rfl rfl rfl (x_move rfl) ?_
      refine p_v (v := .agg #[.slice A15 ((trimM m).spots).length c15, .slice A17 ((trimM m).first).length c17, .slice A19 ((trimM m).follow).length c19, .slice A21 ((trimM m).last).length c21, .bool ((trimM m).empty)]) rfl rfl rfl (x_extract (vs := [.agg #[.slice A15 ((trimM m).spots).length c15, .slice A17 ((trimM m).first).length c17, .slice A19 ((trimM m).follow).length c19, .slice A21 ((trimM m).last).length c21, .bool ((trimM m).empty)], .int .i64 (errM m)]) rfl rfl) ?_
      refine p_v (v := .int .i64 (errM m)) rfl rfl rfl (x_extract (vs := [.agg #[.slice A15 ((trimM m).spots).length c15, .slice A17 ((trimM m).first).length c17, .slice A19 ((trimM m).follow).length c19, .slice A21 ((trimM m).last).length c21, .bool ((trimM m).empty)], .int .i64 (errM m)]) rfl rfl) ?_
      obtain ⟨b23, w23, r23, g23, T23⟩ := e_box (P := Tryd.prog) S22 27 (v := (.agg #[.slice none 0 0, .slice none 0 0, .slice none 0 0, .slice none 0 0, .bool false])) [.slice none 0 0, .slice none 0 0, .slice none 0 0, .slice none 0 0, .bool false] rfl
      have S24 : St w.heap.size w h21 w23 [box b1 27 [.slice A0_0 m.spots.length c0_0, .slice A0_1 m.first.length c0_1, .slice A0_2 m.follow.length c0_2, .slice A0_3 m.last.length c0_3, .bool m.empty], emp, emp, emp, emp, box b23 27 [.slice none 0 0, .slice none 0 0, .slice none 0 0, .slice none 0 0, .bool false]] := T23
      refine p_v (v := .pointer (some ⟨b23, 0, none⟩)) rfl rfl rfl (x_alloc ty27 r23) ?_
      obtain ⟨w25, r25, g25, T25⟩ := e_store (P := Tryd.prog) (off := 0) (v := .agg #[.slice A15 ((trimM m).spots).length c15, .slice A17 ((trimM m).first).length c17, .slice A19 ((trimM m).follow).length c19, .slice A21 ((trimM m).last).length c21, .bool ((trimM m).empty)]) (vs := [.slice A15 ((trimM m).spots).length c15, .slice A17 ((trimM m).first).length c17, .slice A19 ((trimM m).follow).length c19, .slice A21 ((trimM m).last).length c21, .bool ((trimM m).empty)]) S24 ty27 rfl rfl (j := 5) rfl (by first | decide | exact Nat.le_of_ble_eq_true rfl) (by simp [Value.oneCell'])
      have S26 : St w.heap.size w h21 w25 [box b1 27 [.slice A0_0 m.spots.length c0_0, .slice A0_1 m.first.length c0_1, .slice A0_2 m.follow.length c0_2, .slice A0_3 m.last.length c0_3, .bool m.empty], emp, emp, emp, emp, box b23 27 [.slice A15 ((trimM m).spots).length c15, .slice A17 ((trimM m).first).length c17, .slice A19 ((trimM m).follow).length c19, .slice A21 ((trimM m).last).length c21, .bool ((trimM m).empty)]] := T25
      refine p_s rfl rfl (x_store rfl rfl r25) ?_
      refine p_v (v := .int .i64 (errM m)) rfl rfl rfl (x_assign rfl) ?_
      refine run_region_end ?_
      refine run_seq ?_
      refine run_seq ?_
      refine run_reg (l := [0, 1]) rfl ?_
      refine p_v (v := .int .i64 (errM m)) rfl rfl rfl (x_move rfl) ?_
      refine p_v (v := .bool (decide ((errM m) ≠ 0))) rfl rfl rfl (x_neq rfl rfl) ?_
      refine run_region_end ?_
      refine run_cond_prop (p := (errM m) ≠ 0) rfl (fun hc27 => ?_) (fun hc27 => ?_)
      · skip
        have hw_ : rightM m = false := by
          cases h : rightM m with
          | false => rfl
          | true => exact (hc27 (err_right h)).elim
        refine run_seq ?_
        refine run_reg (l := [0, 1, 2, 3, 4, 5, 6, 7, 8, 9, 10]) rfl ?_
        refine p_v (v := .int .i64 (errM m)) rfl rfl rfl (x_move rfl) ?_
        refine p_v (v := .bool (decide ((errM m) = 1))) rfl rfl rfl (x_eql rfl rfl) ?_
        refine p_v (v := .bool (decide ((errM m) = 1))) rfl rfl rfl (x_move rfl) ?_
        have hc28 : ((errM m) = 1) := by
          exact err_wrong hw_
        refine p_v (v := .agg #[.slice A0_0 m.spots.length c0_0, .slice A0_1 m.first.length c0_1, .slice A0_2 m.follow.length c0_2, .slice A0_3 m.last.length c0_3, .bool m.empty]) rfl (wanted_of (j := 2) (want := true) (d := 31) (b := true) rfl rfl (congrArg Value.bool (decide_eq_true hc28)) rfl) rfl (x_load (seg := [.slice A0_0 m.spots.length c0_0, .slice A0_1 m.first.length c0_1, .slice A0_2 m.follow.length c0_2, .slice A0_3 m.last.length c0_3, .bool m.empty]) ty27 rfl (by simp) rfl (CF.box (m := 5) (S26.box_at (j := 0) rfl) rfl)) ?_
        refine p_c rfl (wanted_of (j := 2) (want := true) (d := 31) (b := true) rfl rfl (congrArg Value.bool (decide_eq_true hc28)) rfl) rfl (y_call (args := [.agg #[.slice A0_0 m.spots.length c0_0, .slice A0_1 m.first.length c0_1, .slice A0_2 m.follow.length c0_2, .slice A0_3 m.last.length c0_3, .bool m.empty]]) ca8 rfl rfl) (rightN_calls w25 m A0_0 c0_0 b0_0 (l0_0.mono (St.le0 S26)) A0_1 c0_1 b0_1 (l0_1.mono (St.le0 S26)) A0_2 c0_2 b0_2 (l0_2.mono (St.le0 S26)) A0_3 c0_3 b0_3 (l0_3.mono (St.le0 S26))) ?_
        rintro _ w29 ⟨h29, T29, rfl⟩
        have S30 := S26.keep (Chg.of_below T29.below)
        refine p_v (v := .bool (!(rightM m))) rfl (wanted_of (j := 2) (want := true) (d := 31) (b := true) rfl rfl (congrArg Value.bool (decide_eq_true hc28)) rfl) rfl (x_not rfl) ?_
        refine p_v (v := .bool (!(rightM m))) rfl rfl rfl (x_pick_t (congrArg Value.bool (decide_eq_true hc28)) rfl) ?_
        refine p_v (v := .bool (!(rightM m))) rfl rfl rfl (x_move rfl) ?_
        have hc31 : (rightM m) = false := by
          exact hw_
        refine p_c rfl (wanted_of (j := 7) (want := true) (d := 36) (b := true) rfl rfl (congrArg (fun z => Value.bool (!z)) hc31) rfl) rfl (y_call (args := []) ca6 rfl rfl) (awake10_calls w29 ) ?_
        rintro _ w32 ⟨h32, T32, rfl⟩
        have S33 := S30.keep (Chg.of_below T32.below)
        refine p_v (v := .bool true) rfl rfl rfl (x_pick_t (congrArg (fun z => Value.bool (!z)) hc31) rfl) ?_
        refine p_v (v := .bool true) rfl rfl rfl (x_assign rfl) ?_
        refine run_region_end ?_
        refine run_ret Tryd.func3 (res1 rfl (res_tmp (v := .bool true) rfl)) ?_
        have q0 : (true : Bool) = true := rfl
        refine ⟨_, rfl, h21, ?_, ?_⟩
        · exact S33.sub [] (by decide) rfl _ rfl
        · rfl
      · skip
        have hrt_ : rightM m = true := by
          cases h : rightM m with
          | true => rfl
          | false => have := err_wrong h; omega
        have hR_ := right_iff.1 hrt_; have hT_ := trim_Right hR_; have hTF_ := trim_Full hR_; have hrt2_ := right_iff.2 hT_; have hsm2_ := hT_.small
        refine run_skip ?_
        refine run_seq ?_
        refine run_reg (l := [0, 1, 2, 3, 4, 5, 6, 7]) rfl ?_
        refine p_v (v := .agg #[.slice A15 ((trimM m).spots).length c15, .slice A17 ((trimM m).first).length c17, .slice A19 ((trimM m).follow).length c19, .slice A21 ((trimM m).last).length c21, .bool ((trimM m).empty)]) rfl rfl rfl (x_load (seg := [.slice A15 ((trimM m).spots).length c15, .slice A17 ((trimM m).first).length c17, .slice A19 ((trimM m).follow).length c19, .slice A21 ((trimM m).last).length c21, .bool ((trimM m).empty)]) ty27 rfl (by simp) rfl (CF.box (m := 5) (S26.box_at (j := 5) rfl) rfl)) ?_
        refine p_c rfl rfl rfl (y_call (args := [.agg #[.slice A15 ((trimM m).spots).length c15, .slice A17 ((trimM m).first).length c17, .slice A19 ((trimM m).follow).length c19, .slice A21 ((trimM m).last).length c21, .bool ((trimM m).empty)]]) ca7 rfl rfl) (trimN_calls w25 (trimM m) A15 c15 (And.intro lc15 cm15) (ld15.mono (lf21_2.trans S26.ghost)) A17 c17 (And.intro lc17 cm17) (ld17.mono (lf21_3.trans S26.ghost)) A19 c19 (And.intro lc19 cm19) (ld19.mono (le21.trans S26.ghost)) A21 c21 (And.intro lc21 cm21) (ld21.mono ((Le.refl _).trans S26.ghost))) ?_
        rintro _ w35 ⟨h35, v35_0, v35_1, v35_2, v35_3, T35, rfl, in35_0⟩
        obtain ⟨k35, lk35, ll35, U35⟩ := call_joins S26 T35
        have lc35_0 := (lf21_0).trans lk35
        have lc35_1 := (lf21_1).trans lk35
        have lc35_2 := (lf21_2).trans lk35
        have lc35_3 := (lf21_3).trans lk35
        have lc35_4 := (le21).trans lk35
        have S36 : St w.heap.size w k35 w35 [box b1 27 [.slice A0_0 m.spots.length c0_0, .slice A0_1 m.first.length c0_1, .slice A0_2 m.follow.length c0_2, .slice A0_3 m.last.length c0_3, .bool m.empty], emp, emp, emp, emp, box b23 27 [.slice A15 ((trimM m).spots).length c15, .slice A17 ((trimM m).first).length c17, .slice A19 ((trimM m).follow).length c19, .slice A21 ((trimM m).last).length c21, .bool ((trimM m).empty)], row 55 kSpot v35_0 ((trimM (trimM m)).spots), row 3 (Kd.int .i64) v35_1 ((trimM (trimM m)).first), row 23 (Kd.int .i64).slice v35_2 ((trimM (trimM m)).follow), row 4 Kd.bool v35_3 ((trimM (trimM m)).last)] := U35
        have lo_in35_0 := i64_lo in35_0; have hi_in35_0 := i64_hi in35_0
        obtain ⟨h37, le37, T37, rp37⟩ := S36.freeze (i := 6) rfl
        have lf37_0 := (lc35_0).trans le37
        have lf37_1 := (lc35_1).trans le37
        have lf37_2 := (lc35_2).trans le37
        have lf37_3 := (lc35_3).trans le37
        have lf37_4 := (lc35_4).trans le37
        have lf37_5 := (lk35).trans le37
        have S38 : St w.heap.size w h37 w35 [box b1 27 [.slice A0_0 m.spots.length c0_0, .slice A0_1 m.first.length c0_1, .slice A0_2 m.follow.length c0_2, .slice A0_3 m.last.length c0_3, .bool m.empty], emp, emp, emp, emp, box b23 27 [.slice A15 ((trimM m).spots).length c15, .slice A17 ((trimM m).first).length c17, .slice A19 ((trimM m).follow).length c19, .slice A21 ((trimM m).last).length c21, .bool ((trimM m).empty)], emp, row 3 (Kd.int .i64) v35_1 ((trimM (trimM m)).first), row 23 (Kd.int .i64).slice v35_2 ((trimM (trimM m)).follow), row 4 Kd.bool v35_3 ((trimM (trimM m)).last)] := T37
        obtain ⟨A37, c37, e37, lc37, cm37, ld37⟩ := rp37
        injection e37 with e37 _; subst e37
        have cn37 := cm37; simp only [maxLen] at cn37
        obtain ⟨h39, le39, T39, rp39⟩ := S38.freeze (i := 7) rfl
        have lf39_0 := (lf37_0).trans le39
        have lf39_1 := (lf37_1).trans le39
        have lf39_2 := (lf37_2).trans le39
        have lf39_3 := (lf37_3).trans le39
        have lf39_4 := (lf37_4).trans le39
        have lf39_5 := (lf37_5).trans le39
        have lf39_6 := (le37).trans le39
        have S40 : St w.heap.size w h39 w35 [box b1 27 [.slice A0_0 m.spots.length c0_0, .slice A0_1 m.first.length c0_1, .slice A0_2 m.follow.length c0_2, .slice A0_3 m.last.length c0_3, .bool m.empty], emp, emp, emp, emp, box b23 27 [.slice A15 ((trimM m).spots).length c15, .slice A17 ((trimM m).first).length c17, .slice A19 ((trimM m).follow).length c19, .slice A21 ((trimM m).last).length c21, .bool ((trimM m).empty)], emp, emp, row 23 (Kd.int .i64).slice v35_2 ((trimM (trimM m)).follow), row 4 Kd.bool v35_3 ((trimM (trimM m)).last)] := T39
        obtain ⟨A39, c39, e39, lc39, cm39, ld39⟩ := rp39
        injection e39 with e39 _; subst e39
        have cn39 := cm39; simp only [maxLen] at cn39
        obtain ⟨h41, le41, T41, rp41⟩ := S40.freeze (i := 8) rfl
        have lf41_0 := (lf39_0).trans le41
        have lf41_1 := (lf39_1).trans le41
        have lf41_2 := (lf39_2).trans le41
        have lf41_3 := (lf39_3).trans le41
        have lf41_4 := (lf39_4).trans le41
        have lf41_5 := (lf39_5).trans le41
        have lf41_6 := (lf39_6).trans le41
        have lf41_7 := (le39).trans le41
        have S42 : St w.heap.size w h41 w35 [box b1 27 [.slice A0_0 m.spots.length c0_0, .slice A0_1 m.first.length c0_1, .slice A0_2 m.follow.length c0_2, .slice A0_3 m.last.length c0_3, .bool m.empty], emp, emp, emp, emp, box b23 27 [.slice A15 ((trimM m).spots).length c15, .slice A17 ((trimM m).first).length c17, .slice A19 ((trimM m).follow).length c19, .slice A21 ((trimM m).last).length c21, .bool ((trimM m).empty)], emp, emp, emp, row 4 Kd.bool v35_3 ((trimM (trimM m)).last)] := T41
        obtain ⟨A41, c41, e41, lc41, cm41, ld41⟩ := rp41
        injection e41 with e41 _; subst e41
        have cn41 := cm41; simp only [maxLen] at cn41
        obtain ⟨h43, le43, T43, rp43⟩ := S42.freeze (i := 9) rfl
        have lf43_0 := (lf41_0).trans le43
        have lf43_1 := (lf41_1).trans le43
        have lf43_2 := (lf41_2).trans le43
        have lf43_3 := (lf41_3).trans le43
        have lf43_4 := (lf41_4).trans le43
        have lf43_5 := (lf41_5).trans le43
        have lf43_6 := (lf41_6).trans le43
        have lf43_7 := (lf41_7).trans le43
        have lf43_8 := (le41).trans le43
        have S44 : St w.heap.size w h43 w35 [box b1 27 [.slice A0_0 m.spots.length c0_0, .slice A0_1 m.first.length c0_1, .slice A0_2 m.follow.length c0_2, .slice A0_3 m.last.length c0_3, .bool m.empty], emp, emp, emp, emp, box b23 27 [.slice A15 ((trimM m).spots).length c15, .slice A17 ((trimM m).first).length c17, .slice A19 ((trimM m).follow).length c19, .slice A21 ((trimM m).last).length c21, .bool ((trimM m).empty)], emp, emp, emp, emp] := T43
        obtain ⟨A43, c43, e43, lc43, cm43, ld43⟩ := rp43
        injection e43 with e43 _; subst e43
        have cn43 := cm43; simp only [maxLen] at cn43
        refine p_v (v := .tuple #[.agg #[.slice A37 ((trimM (trimM m)).spots).length c37, .slice A39 ((trimM (trimM m)).first).length c39, .slice A41 ((trimM (trimM m)).follow).length c41, .slice A43 ((trimM (trimM m)).last).length c43, .bool ((trimM (trimM m)).empty)], .int .i64 (errM (trimM m))]) rfl rfl rfl (x_move rfl) ?_
        refine p_v (v := .agg #[.slice A37 ((trimM (trimM m)).spots).length c37, .slice A39 ((trimM (trimM m)).first).length c39, .slice A41 ((trimM (trimM m)).follow).length c41, .slice A43 ((trimM (trimM m)).last).length c43, .bool ((trimM (trimM m)).empty)]) rfl rfl rfl (x_extract (vs := [.agg #[.slice A37 ((trimM (trimM m)).spots).length c37, .slice A39 ((trimM (trimM m)).first).length c39, .slice A41 ((trimM (trimM m)).follow).length c41, .slice A43 ((trimM (trimM m)).last).length c43, .bool ((trimM (trimM m)).empty)], .int .i64 (errM (trimM m))]) rfl rfl) ?_
        refine p_v (v := .int .i64 (errM (trimM m))) rfl rfl rfl (x_extract (vs := [.agg #[.slice A37 ((trimM (trimM m)).spots).length c37, .slice A39 ((trimM (trimM m)).first).length c39, .slice A41 ((trimM (trimM m)).follow).length c41, .slice A43 ((trimM (trimM m)).last).length c43, .bool ((trimM (trimM m)).empty)], .int .i64 (errM (trimM m))]) rfl rfl) ?_
        obtain ⟨b45, w45, r45, g45, T45⟩ := e_box (P := Tryd.prog) S44 27 (v := (.agg #[.slice none 0 0, .slice none 0 0, .slice none 0 0, .slice none 0 0, .bool false])) [.slice none 0 0, .slice none 0 0, .slice none 0 0, .slice none 0 0, .bool false] rfl
        have S46 : St w.heap.size w h43 w45 [box b1 27 [.slice A0_0 m.spots.length c0_0, .slice A0_1 m.first.length c0_1, .slice A0_2 m.follow.length c0_2, .slice A0_3 m.last.length c0_3, .bool m.empty], emp, emp, emp, emp, box b23 27 [.slice A15 ((trimM m).spots).length c15, .slice A17 ((trimM m).first).length c17, .slice A19 ((trimM m).follow).length c19, .slice A21 ((trimM m).last).length c21, .bool ((trimM m).empty)], emp, emp, emp, emp, box b45 27 [.slice none 0 0, .slice none 0 0, .slice none 0 0, .slice none 0 0, .bool false]] := T45
        refine p_v (v := .pointer (some ⟨b45, 0, none⟩)) rfl rfl rfl (x_alloc ty27 r45) ?_
        obtain ⟨w47, r47, g47, T47⟩ := e_store (P := Tryd.prog) (off := 0) (v := .agg #[.slice A37 ((trimM (trimM m)).spots).length c37, .slice A39 ((trimM (trimM m)).first).length c39, .slice A41 ((trimM (trimM m)).follow).length c41, .slice A43 ((trimM (trimM m)).last).length c43, .bool ((trimM (trimM m)).empty)]) (vs := [.slice A37 ((trimM (trimM m)).spots).length c37, .slice A39 ((trimM (trimM m)).first).length c39, .slice A41 ((trimM (trimM m)).follow).length c41, .slice A43 ((trimM (trimM m)).last).length c43, .bool ((trimM (trimM m)).empty)]) S46 ty27 rfl rfl (j := 10) rfl (by first | decide | exact Nat.le_of_ble_eq_true rfl) (by simp [Value.oneCell'])
        have S48 : St w.heap.size w h43 w47 [box b1 27 [.slice A0_0 m.spots.length c0_0, .slice A0_1 m.first.length c0_1, .slice A0_2 m.follow.length c0_2, .slice A0_3 m.last.length c0_3, .bool m.empty], emp, emp, emp, emp, box b23 27 [.slice A15 ((trimM m).spots).length c15, .slice A17 ((trimM m).first).length c17, .slice A19 ((trimM m).follow).length c19, .slice A21 ((trimM m).last).length c21, .bool ((trimM m).empty)], emp, emp, emp, emp, box b45 27 [.slice A37 ((trimM (trimM m)).spots).length c37, .slice A39 ((trimM (trimM m)).first).length c39, .slice A41 ((trimM (trimM m)).follow).length c41, .slice A43 ((trimM (trimM m)).last).length c43, .bool ((trimM (trimM m)).empty)]] := T47
        refine p_s rfl rfl (x_store rfl rfl r47) ?_
        refine p_v (v := .int .i64 (errM (trimM m))) rfl rfl rfl (x_assign rfl) ?_
        refine run_region_end ?_
        refine run_seq ?_
        refine run_seq ?_
        have hc50 : (rightM m) = true := by
          exact hrt_
        have hc52 : (rightM (trimM m)) = true := by
          exact hrt2_
        have hc53 : ¬ ((errM (trimM m)) ≠ 0) := by
          exact fun h => h (err_right hrt2_)
        have hc55 : (decide ((trimM m) = (trimM (trimM m)))) = true := by
          exact decide_eq_true (trim_trim hR_).symm
        have hf58 : (CFs ⟨b1, 0, none⟩ [.slice A0_0 m.spots.length c0_0, .slice A0_1 m.first.length c0_1, .slice A0_2 m.follow.length c0_2, .slice A0_3 m.last.length c0_3, .bool m.empty]).1 w47 := (CF.box (m := 5) (S48.box_at (j := 0) rfl) rfl)
        have hf59 : (LeadsS kSpot A0_0 m.spots).1 w47 := (l0_0.mono (St.le0 S48))
        have hf60 : (LeadsS (Kd.int .i64) A0_1 m.first).1 w47 := (l0_1.mono (St.le0 S48))
        have hf61 : (LeadsS (Kd.int .i64).slice A0_2 m.follow).1 w47 := (l0_2.mono (St.le0 S48))
        have hf62 : (LeadsS Kd.bool A0_3 m.last).1 w47 := (l0_3.mono (St.le0 S48))
        have hf63 : (CFs ⟨b23, 0, none⟩ [.slice A15 ((trimM m).spots).length c15, .slice A17 ((trimM m).first).length c17, .slice A19 ((trimM m).follow).length c19, .slice A21 ((trimM m).last).length c21, .bool ((trimM m).empty)]).1 w47 := (CF.box (m := 5) (S48.box_at (j := 5) rfl) rfl)
        have hf64 : (LeadsS kSpot A15 ((trimM m).spots)).1 w47 := (ld15.mono (lf43_2.trans S48.ghost))
        have hf65 : (LeadsS (Kd.int .i64) A17 ((trimM m).first)).1 w47 := (ld17.mono (lf43_3.trans S48.ghost))
        have hf66 : (LeadsS (Kd.int .i64).slice A19 ((trimM m).follow)).1 w47 := (ld19.mono (lf43_4.trans S48.ghost))
        have hf67 : (LeadsS Kd.bool A21 ((trimM m).last)).1 w47 := (ld21.mono (lf43_5.trans S48.ghost))
        have hf68 : (CFs ⟨b23, 0, none⟩ [.slice A15 ((trimM m).spots).length c15, .slice A17 ((trimM m).first).length c17, .slice A19 ((trimM m).follow).length c19, .slice A21 ((trimM m).last).length c21, .bool ((trimM m).empty)]).1 w47 := (CF.box (m := 5) (S48.box_at (j := 5) rfl) rfl)
        have hf69 : (CFs ⟨b45, 0, none⟩ [.slice A37 ((trimM (trimM m)).spots).length c37, .slice A39 ((trimM (trimM m)).first).length c39, .slice A41 ((trimM (trimM m)).follow).length c41, .slice A43 ((trimM (trimM m)).last).length c43, .bool ((trimM (trimM m)).empty)]).1 w47 := (CF.box (m := 5) (S48.box_at (j := 10) rfl) rfl)
        have hf70 : (LeadsS kSpot A15 ((trimM m).spots)).1 w47 := (ld15.mono (lf43_2.trans S48.ghost))
        have hf71 : (LeadsS (Kd.int .i64) A17 ((trimM m).first)).1 w47 := (ld17.mono (lf43_3.trans S48.ghost))
        have hf72 : (LeadsS (Kd.int .i64).slice A19 ((trimM m).follow)).1 w47 := (ld19.mono (lf43_4.trans S48.ghost))
        have hf73 : (LeadsS Kd.bool A21 ((trimM m).last)).1 w47 := (ld21.mono (lf43_5.trans S48.ghost))
        have hf74 : (LeadsS kSpot A37 ((trimM (trimM m)).spots)).1 w47 := (ld37.mono (lf43_7.trans S48.ghost))
        have hf75 : (LeadsS (Kd.int .i64) A39 ((trimM (trimM m)).first)).1 w47 := (ld39.mono (lf43_8.trans S48.ghost))
        have hf76 : (LeadsS (Kd.int .i64).slice A41 ((trimM (trimM m)).follow)).1 w47 := (ld41.mono (le43.trans S48.ghost))
        have hf77 : (LeadsS Kd.bool A43 ((trimM (trimM m)).last)).1 w47 := (ld43.mono ((Le.refl _).trans S48.ghost))
        have hf78 : (CFs ⟨b23, 0, none⟩ [.slice A15 ((trimM m).spots).length c15, .slice A17 ((trimM m).first).length c17, .slice A19 ((trimM m).follow).length c19, .slice A21 ((trimM m).last).length c21, .bool ((trimM m).empty)]).1 w47 := (CF.box (m := 5) (S48.box_at (j := 5) rfl) rfl)
        have hf79 : (LeadsS kSpot A15 ((trimM m).spots)).1 w47 := (ld15.mono (lf43_2.trans S48.ghost))
        have hf80 : (LeadsS (Kd.int .i64) A17 ((trimM m).first)).1 w47 := (ld17.mono (lf43_3.trans S48.ghost))
        have hf81 : (LeadsS (Kd.int .i64).slice A19 ((trimM m).follow)).1 w47 := (ld19.mono (lf43_4.trans S48.ghost))
        have hf82 : (LeadsS Kd.bool A21 ((trimM m).last)).1 w47 := (ld21.mono (lf43_5.trans S48.ghost))
        have hf83 : (CFs ⟨b1, 0, none⟩ [.slice A0_0 m.spots.length c0_0, .slice A0_1 m.first.length c0_1, .slice A0_2 m.follow.length c0_2, .slice A0_3 m.last.length c0_3, .bool m.empty]).1 w47 := (CF.box (m := 5) (S48.box_at (j := 0) rfl) rfl)
        have hf84 : (LeadsS kSpot A0_0 m.spots).1 w47 := (l0_0.mono (St.le0 S48))
        have hf85 : (LeadsS (Kd.int .i64) A0_1 m.first).1 w47 := (l0_1.mono (St.le0 S48))
        have hf86 : (LeadsS (Kd.int .i64).slice A0_2 m.follow).1 w47 := (l0_2.mono (St.le0 S48))
        have hf87 : (LeadsS Kd.bool A0_3 m.last).1 w47 := (l0_3.mono (St.le0 S48))
        refine da_start [(0, CFs ⟨b1, 0, none⟩ [.slice A0_0 m.spots.length c0_0, .slice A0_1 m.first.length c0_1, .slice A0_2 m.follow.length c0_2, .slice A0_3 m.last.length c0_3, .bool m.empty]), (1, LeadsS kSpot A0_0 m.spots), (1, LeadsS (Kd.int .i64) A0_1 m.first), (1, LeadsS (Kd.int .i64).slice A0_2 m.follow), (1, LeadsS Kd.bool A0_3 m.last), (4, CFs ⟨b23, 0, none⟩ [.slice A15 ((trimM m).spots).length c15, .slice A17 ((trimM m).first).length c17, .slice A19 ((trimM m).follow).length c19, .slice A21 ((trimM m).last).length c21, .bool ((trimM m).empty)]), (5, LeadsS kSpot A15 ((trimM m).spots)), (5, LeadsS (Kd.int .i64) A17 ((trimM m).first)), (5, LeadsS (Kd.int .i64).slice A19 ((trimM m).follow)), (5, LeadsS Kd.bool A21 ((trimM m).last)), (13, CFs ⟨b23, 0, none⟩ [.slice A15 ((trimM m).spots).length c15, .slice A17 ((trimM m).first).length c17, .slice A19 ((trimM m).follow).length c19, .slice A21 ((trimM m).last).length c21, .bool ((trimM m).empty)]), (14, CFs ⟨b45, 0, none⟩ [.slice A37 ((trimM (trimM m)).spots).length c37, .slice A39 ((trimM (trimM m)).first).length c39, .slice A41 ((trimM (trimM m)).follow).length c41, .slice A43 ((trimM (trimM m)).last).length c43, .bool ((trimM (trimM m)).empty)]), (15, LeadsS kSpot A15 ((trimM m).spots)), (15, LeadsS (Kd.int .i64) A17 ((trimM m).first)), (15, LeadsS (Kd.int .i64).slice A19 ((trimM m).follow)), (15, LeadsS Kd.bool A21 ((trimM m).last)), (15, LeadsS kSpot A37 ((trimM (trimM m)).spots)), (15, LeadsS (Kd.int .i64) A39 ((trimM (trimM m)).first)), (15, LeadsS (Kd.int .i64).slice A41 ((trimM (trimM m)).follow)), (15, LeadsS Kd.bool A43 ((trimM (trimM m)).last)), (19, CFs ⟨b23, 0, none⟩ [.slice A15 ((trimM m).spots).length c15, .slice A17 ((trimM m).first).length c17, .slice A19 ((trimM m).follow).length c19, .slice A21 ((trimM m).last).length c21, .bool ((trimM m).empty)]), (21, LeadsS kSpot A15 ((trimM m).spots)), (21, LeadsS (Kd.int .i64) A17 ((trimM m).first)), (21, LeadsS (Kd.int .i64).slice A19 ((trimM m).follow)), (21, LeadsS Kd.bool A21 ((trimM m).last)), (22, CFs ⟨b1, 0, none⟩ [.slice A0_0 m.spots.length c0_0, .slice A0_1 m.first.length c0_1, .slice A0_2 m.follow.length c0_2, .slice A0_3 m.last.length c0_3, .bool m.empty]), (24, LeadsS kSpot A0_0 m.spots), (24, LeadsS (Kd.int .i64) A0_1 m.first), (24, LeadsS (Kd.int .i64).slice A0_2 m.follow), (24, LeadsS Kd.bool A0_3 m.last)] 27 rfl mixed ?_
        intro wd88 gd88 hd88
        have S89 := S48.keep gd88
        have hf90 := (CFs ⟨b1, 0, none⟩ [.slice A0_0 m.spots.length c0_0, .slice A0_1 m.first.length c0_1, .slice A0_2 m.follow.length c0_2, .slice A0_3 m.last.length c0_3, .bool m.empty]).2 _ _ gd88 hf58
        have hf91 := (LeadsS kSpot A0_0 m.spots).2 _ _ gd88 hf59
        have hf92 := (LeadsS (Kd.int .i64) A0_1 m.first).2 _ _ gd88 hf60
        have hf93 := (LeadsS (Kd.int .i64).slice A0_2 m.follow).2 _ _ gd88 hf61
        have hf94 := (LeadsS Kd.bool A0_3 m.last).2 _ _ gd88 hf62
        have hf95 := (CFs ⟨b23, 0, none⟩ [.slice A15 ((trimM m).spots).length c15, .slice A17 ((trimM m).first).length c17, .slice A19 ((trimM m).follow).length c19, .slice A21 ((trimM m).last).length c21, .bool ((trimM m).empty)]).2 _ _ gd88 hf63
        have hf96 := (LeadsS kSpot A15 ((trimM m).spots)).2 _ _ gd88 hf64
        have hf97 := (LeadsS (Kd.int .i64) A17 ((trimM m).first)).2 _ _ gd88 hf65
        have hf98 := (LeadsS (Kd.int .i64).slice A19 ((trimM m).follow)).2 _ _ gd88 hf66
        have hf99 := (LeadsS Kd.bool A21 ((trimM m).last)).2 _ _ gd88 hf67
        have hf100 := (CFs ⟨b23, 0, none⟩ [.slice A15 ((trimM m).spots).length c15, .slice A17 ((trimM m).first).length c17, .slice A19 ((trimM m).follow).length c19, .slice A21 ((trimM m).last).length c21, .bool ((trimM m).empty)]).2 _ _ gd88 hf68
        have hf101 := (CFs ⟨b45, 0, none⟩ [.slice A37 ((trimM (trimM m)).spots).length c37, .slice A39 ((trimM (trimM m)).first).length c39, .slice A41 ((trimM (trimM m)).follow).length c41, .slice A43 ((trimM (trimM m)).last).length c43, .bool ((trimM (trimM m)).empty)]).2 _ _ gd88 hf69
        have hf102 := (LeadsS kSpot A15 ((trimM m).spots)).2 _ _ gd88 hf70
        have hf103 := (LeadsS (Kd.int .i64) A17 ((trimM m).first)).2 _ _ gd88 hf71
        have hf104 := (LeadsS (Kd.int .i64).slice A19 ((trimM m).follow)).2 _ _ gd88 hf72
        have hf105 := (LeadsS Kd.bool A21 ((trimM m).last)).2 _ _ gd88 hf73
        have hf106 := (LeadsS kSpot A37 ((trimM (trimM m)).spots)).2 _ _ gd88 hf74
        have hf107 := (LeadsS (Kd.int .i64) A39 ((trimM (trimM m)).first)).2 _ _ gd88 hf75
        have hf108 := (LeadsS (Kd.int .i64).slice A41 ((trimM (trimM m)).follow)).2 _ _ gd88 hf76
        have hf109 := (LeadsS Kd.bool A43 ((trimM (trimM m)).last)).2 _ _ gd88 hf77
        have hf110 := (CFs ⟨b23, 0, none⟩ [.slice A15 ((trimM m).spots).length c15, .slice A17 ((trimM m).first).length c17, .slice A19 ((trimM m).follow).length c19, .slice A21 ((trimM m).last).length c21, .bool ((trimM m).empty)]).2 _ _ gd88 hf78
        have hf111 := (LeadsS kSpot A15 ((trimM m).spots)).2 _ _ gd88 hf79
        have hf112 := (LeadsS (Kd.int .i64) A17 ((trimM m).first)).2 _ _ gd88 hf80
        have hf113 := (LeadsS (Kd.int .i64).slice A19 ((trimM m).follow)).2 _ _ gd88 hf81
        have hf114 := (LeadsS Kd.bool A21 ((trimM m).last)).2 _ _ gd88 hf82
        have hf115 := (CFs ⟨b1, 0, none⟩ [.slice A0_0 m.spots.length c0_0, .slice A0_1 m.first.length c0_1, .slice A0_2 m.follow.length c0_2, .slice A0_3 m.last.length c0_3, .bool m.empty]).2 _ _ gd88 hf83
        have hf116 := (LeadsS kSpot A0_0 m.spots).2 _ _ gd88 hf84
        have hf117 := (LeadsS (Kd.int .i64) A0_1 m.first).2 _ _ gd88 hf85
        have hf118 := (LeadsS (Kd.int .i64).slice A0_2 m.follow).2 _ _ gd88 hf86
        have hf119 := (LeadsS Kd.bool A0_3 m.last).2 _ _ gd88 hf87
        refine d_q (i := 0) (v := .agg #[.slice A0_0 m.spots.length c0_0, .slice A0_1 m.first.length c0_1, .slice A0_2 m.follow.length c0_2, .slice A0_3 m.last.length c0_3, .bool m.empty]) (CF ⟨b1, 0, none⟩ [.slice A0_0 m.spots.length c0_0, .slice A0_1 m.first.length c0_1, .slice A0_2 m.follow.length c0_2, .slice A0_3 m.last.length c0_3, .bool m.empty]) (fun _ ho => ho _ (List.mem_of_getElem? (i := 0) rfl) rfl) rfl (by decide +kernel) (by decide +kernel) (by decide +kernel) rfl rfl (fun wq hq => (x_load (seg := [.slice A0_0 m.spots.length c0_0, .slice A0_1 m.first.length c0_1, .slice A0_2 m.follow.length c0_2, .slice A0_3 m.last.length c0_3, .bool m.empty]) ty27 rfl (by simp) rfl hq)) (of_eq hf90 (of_ne rfl (of_ne rfl (of_ne rfl (of_ne rfl (of_ne rfl (of_ne rfl (of_ne rfl (of_ne rfl (of_ne rfl (of_ne rfl (of_ne rfl (of_ne rfl (of_ne rfl (of_ne rfl (of_ne rfl (of_ne rfl (of_ne rfl (of_ne rfl (of_ne rfl (of_ne rfl (of_ne rfl (of_ne rfl (of_ne rfl (of_ne rfl (of_ne rfl (of_ne rfl (of_ne rfl (of_ne rfl (of_ne rfl (of_nil _ _))))))))))))))))))))))))))))))) ?_
        refine d_m (i := 1) (v := .bool (rightM m)) (fun wf => Leads kSpot (hp wf) A0_0 m.spots ∧ Leads (Kd.int .i64) (hp wf) A0_1 m.first ∧ Leads (Kd.int .i64).slice (hp wf) A0_2 m.follow ∧ Leads Kd.bool (hp wf) A0_3 m.last) (fun _ ho => ⟨ho _ (List.mem_of_getElem? (i := 1) rfl) rfl, ho _ (List.mem_of_getElem? (i := 2) rfl) rfl, ho _ (List.mem_of_getElem? (i := 3) rfl) rfl, ho _ (List.mem_of_getElem? (i := 4) rfl) rfl⟩) rfl (by decide +kernel) (by decide +kernel) (by decide +kernel) rfl rfl (fun wq => (y_call (args := [.agg #[.slice A0_0 m.spots.length c0_0, .slice A0_1 m.first.length c0_1, .slice A0_2 m.follow.length c0_2, .slice A0_3 m.last.length c0_3, .bool m.empty]]) ca8 rfl rfl)) (fun wq hq => (rightN_calls wq m A0_0 c0_0 b0_0 hq.1 A0_1 c0_1 b0_1 hq.2.1 A0_2 c0_2 b0_2 hq.2.2.1 A0_3 c0_3 b0_3 hq.2.2.2).mono fun e w2 he => by obtain ⟨_, rfl, _, T, rfl⟩ := he; exact ⟨rfl, Chg.of_below T.below⟩) (of_ne rfl (of_eq hf91 (of_eq hf92 (of_eq hf93 (of_eq hf94 (of_ne rfl (of_ne rfl (of_ne rfl (of_ne rfl (of_ne rfl (of_ne rfl (of_ne rfl (of_ne rfl (of_ne rfl (of_ne rfl (of_ne rfl (of_ne rfl (of_ne rfl (of_ne rfl (of_ne rfl (of_ne rfl (of_ne rfl (of_ne rfl (of_ne rfl (of_ne rfl (of_ne rfl (of_ne rfl (of_ne rfl (of_ne rfl (of_ne rfl (of_nil _ _))))))))))))))))))))))))))))))) ?_
        refine d_q (i := 2) (v := .bool (!(rightM m))) (fun _ => True) (fun _ ho => trivial) rfl (by decide +kernel) (by decide +kernel) (by decide +kernel) rfl rfl (fun wq hq => (x_not rfl)) (of_ne rfl (of_ne rfl (of_ne rfl (of_ne rfl (of_ne rfl (of_ne rfl (of_ne rfl (of_ne rfl (of_ne rfl (of_ne rfl (of_ne rfl (of_ne rfl (of_ne rfl (of_ne rfl (of_ne rfl (of_ne rfl (of_ne rfl (of_ne rfl (of_ne rfl (of_ne rfl (of_ne rfl (of_ne rfl (of_ne rfl (of_ne rfl (of_ne rfl (of_ne rfl (of_ne rfl (of_ne rfl (of_ne rfl (of_ne rfl (of_nil _ _))))))))))))))))))))))))))))))) ?_
        refine d_q (i := 3) (v := .bool (!(rightM m))) (fun _ => True) (fun _ ho => trivial) rfl (by decide +kernel) (by decide +kernel) (by decide +kernel) rfl rfl (fun wq hq => (x_move rfl)) (of_ne rfl (of_ne rfl (of_ne rfl (of_ne rfl (of_ne rfl (of_ne rfl (of_ne rfl (of_ne rfl (of_ne rfl (of_ne rfl (of_ne rfl (of_ne rfl (of_ne rfl (of_ne rfl (of_ne rfl (of_ne rfl (of_ne rfl (of_ne rfl (of_ne rfl (of_ne rfl (of_ne rfl (of_ne rfl (of_ne rfl (of_ne rfl (of_ne rfl (of_ne rfl (of_ne rfl (of_ne rfl (of_ne rfl (of_ne rfl (of_nil _ _))))))))))))))))))))))))))))))) ?_
        refine d_q (i := 4) (v := .agg #[.slice A15 ((trimM m).spots).length c15, .slice A17 ((trimM m).first).length c17, .slice A19 ((trimM m).follow).length c19, .slice A21 ((trimM m).last).length c21, .bool ((trimM m).empty)]) (CF ⟨b23, 0, none⟩ [.slice A15 ((trimM m).spots).length c15, .slice A17 ((trimM m).first).length c17, .slice A19 ((trimM m).follow).length c19, .slice A21 ((trimM m).last).length c21, .bool ((trimM m).empty)]) (fun _ ho => ho _ (List.mem_of_getElem? (i := 5) rfl) rfl) rfl (by decide +kernel) (by decide +kernel) (by decide +kernel) (wanted_of (j := 3) (want := false) (d := 47) (b := false) rfl rfl (congrArg (fun z => Value.bool (!z)) hc50) rfl) rfl (fun wq hq => (x_load (seg := [.slice A15 ((trimM m).spots).length c15, .slice A17 ((trimM m).first).length c17, .slice A19 ((trimM m).follow).length c19, .slice A21 ((trimM m).last).length c21, .bool ((trimM m).empty)]) ty27 rfl (by simp) rfl hq)) (of_ne rfl (of_ne rfl (of_ne rfl (of_ne rfl (of_ne rfl (of_eq hf95 (of_ne rfl (of_ne rfl (of_ne rfl (of_ne rfl (of_ne rfl (of_ne rfl (of_ne rfl (of_ne rfl (of_ne rfl (of_ne rfl (of_ne rfl (of_ne rfl (of_ne rfl (of_ne rfl (of_ne rfl (of_ne rfl (of_ne rfl (of_ne rfl (of_ne rfl (of_ne rfl (of_ne rfl (of_ne rfl (of_ne rfl (of_ne rfl (of_nil _ _))))))))))))))))))))))))))))))) ?_
        refine d_m (i := 5) (v := .bool (rightM (trimM m))) (fun wf => Leads kSpot (hp wf) A15 ((trimM m).spots) ∧ Leads (Kd.int .i64) (hp wf) A17 ((trimM m).first) ∧ Leads (Kd.int .i64).slice (hp wf) A19 ((trimM m).follow) ∧ Leads Kd.bool (hp wf) A21 ((trimM m).last)) (fun _ ho => ⟨ho _ (List.mem_of_getElem? (i := 6) rfl) rfl, ho _ (List.mem_of_getElem? (i := 7) rfl) rfl, ho _ (List.mem_of_getElem? (i := 8) rfl) rfl, ho _ (List.mem_of_getElem? (i := 9) rfl) rfl⟩) rfl (by decide +kernel) (by decide +kernel) (by decide +kernel) (wanted_of (j := 3) (want := false) (d := 47) (b := false) rfl rfl (congrArg (fun z => Value.bool (!z)) hc50) rfl) rfl (fun wq => (y_call (args := [.agg #[.slice A15 ((trimM m).spots).length c15, .slice A17 ((trimM m).first).length c17, .slice A19 ((trimM m).follow).length c19, .slice A21 ((trimM m).last).length c21, .bool ((trimM m).empty)]]) ca8 rfl rfl)) (fun wq hq => (rightN_calls wq (trimM m) A15 c15 (And.intro lc15 cm15) hq.1 A17 c17 (And.intro lc17 cm17) hq.2.1 A19 c19 (And.intro lc19 cm19) hq.2.2.1 A21 c21 (And.intro lc21 cm21) hq.2.2.2).mono fun e w2 he => by obtain ⟨_, rfl, _, T, rfl⟩ := he; exact ⟨rfl, Chg.of_below T.below⟩) (of_ne rfl (of_ne rfl (of_ne rfl (of_ne rfl (of_ne rfl (of_ne rfl (of_eq hf96 (of_eq hf97 (of_eq hf98 (of_eq hf99 (of_ne rfl (of_ne rfl (of_ne rfl (of_ne rfl (of_ne rfl (of_ne rfl (of_ne rfl (of_ne rfl (of_ne rfl (of_ne rfl (of_ne rfl (of_ne rfl (of_ne rfl (of_ne rfl (of_ne rfl (of_ne rfl (of_ne rfl (of_ne rfl (of_ne rfl (of_ne rfl (of_nil _ _))))))))))))))))))))))))))))))) ?_
        refine d_q (i := 6) (v := .bool (!(rightM (trimM m)))) (fun _ => True) (fun _ ho => trivial) rfl (by decide +kernel) (by decide +kernel) (by decide +kernel) (wanted_of (j := 3) (want := false) (d := 47) (b := false) rfl rfl (congrArg (fun z => Value.bool (!z)) hc50) rfl) rfl (fun wq hq => (x_not rfl)) (of_ne rfl (of_ne rfl (of_ne rfl (of_ne rfl (of_ne rfl (of_ne rfl (of_ne rfl (of_ne rfl (of_ne rfl (of_ne rfl (of_ne rfl (of_ne rfl (of_ne rfl (of_ne rfl (of_ne rfl (of_ne rfl (of_ne rfl (of_ne rfl (of_ne rfl (of_ne rfl (of_ne rfl (of_ne rfl (of_ne rfl (of_ne rfl (of_ne rfl (of_ne rfl (of_ne rfl (of_ne rfl (of_ne rfl (of_ne rfl (of_nil _ _))))))))))))))))))))))))))))))) ?_
        refine d_q (i := 7) (v := .bool (!(rightM (trimM m)))) (fun _ => True) (fun _ ho => trivial) rfl (by decide +kernel) (by decide +kernel) (by decide +kernel) rfl rfl (fun wq hq => (x_pick_f (congrArg (fun z => Value.bool (!z)) hc50) rfl)) (of_ne rfl (of_ne rfl (of_ne rfl (of_ne rfl (of_ne rfl (of_ne rfl (of_ne rfl (of_ne rfl (of_ne rfl (of_ne rfl (of_ne rfl (of_ne rfl (of_ne rfl (of_ne rfl (of_ne rfl (of_ne rfl (of_ne rfl (of_ne rfl (of_ne rfl (of_ne rfl (of_ne rfl (of_ne rfl (of_ne rfl (of_ne rfl (of_ne rfl (of_ne rfl (of_ne rfl (of_ne rfl (of_ne rfl (of_ne rfl (of_nil _ _))))))))))))))))))))))))))))))) ?_
        refine d_q (i := 8) (v := .bool (!(rightM (trimM m)))) (fun _ => True) (fun _ ho => trivial) rfl (by decide +kernel) (by decide +kernel) (by decide +kernel) rfl rfl (fun wq hq => (x_move rfl)) (of_ne rfl (of_ne rfl (of_ne rfl (of_ne rfl (of_ne rfl (of_ne rfl (of_ne rfl (of_ne rfl (of_ne rfl (of_ne rfl (of_ne rfl (of_ne rfl (of_ne rfl (of_ne rfl (of_ne rfl (of_ne rfl (of_ne rfl (of_ne rfl (of_ne rfl (of_ne rfl (of_ne rfl (of_ne rfl (of_ne rfl (of_ne rfl (of_ne rfl (of_ne rfl (of_ne rfl (of_ne rfl (of_ne rfl (of_ne rfl (of_nil _ _))))))))))))))))))))))))))))))) ?_
        refine d_q (i := 9) (v := .int .i64 (errM (trimM m))) (fun _ => True) (fun _ ho => trivial) rfl (by decide +kernel) (by decide +kernel) (by decide +kernel) (wanted_of (j := 8) (want := false) (d := 52) (b := false) rfl rfl (congrArg (fun z => Value.bool (!z)) hc52) rfl) rfl (fun wq hq => (x_move rfl)) (of_ne rfl (of_ne rfl (of_ne rfl (of_ne rfl (of_ne rfl (of_ne rfl (of_ne rfl (of_ne rfl (of_ne rfl (of_ne rfl (of_ne rfl (of_ne rfl (of_ne rfl (of_ne rfl (of_ne rfl (of_ne rfl (of_ne rfl (of_ne rfl (of_ne rfl (of_ne rfl (of_ne rfl (of_ne rfl (of_ne rfl (of_ne rfl (of_ne rfl (of_ne rfl (of_ne rfl (of_ne rfl (of_ne rfl (of_ne rfl (of_nil _ _))))))))))))))))))))))))))))))) ?_
        refine d_q (i := 10) (v := .bool (decide ((errM (trimM m)) ≠ 0))) (fun _ => True) (fun _ ho => trivial) rfl (by decide +kernel) (by decide +kernel) (by decide +kernel) (wanted_of (j := 8) (want := false) (d := 52) (b := false) rfl rfl (congrArg (fun z => Value.bool (!z)) hc52) rfl) rfl (fun wq hq => (x_neq rfl rfl)) (of_ne rfl (of_ne rfl (of_ne rfl (of_ne rfl (of_ne rfl (of_ne rfl (of_ne rfl (of_ne rfl (of_ne rfl (of_ne rfl (of_ne rfl (of_ne rfl (of_ne rfl (of_ne rfl (of_ne rfl (of_ne rfl (of_ne rfl (of_ne rfl (of_ne rfl (of_ne rfl (of_ne rfl (of_ne rfl (of_ne rfl (of_ne rfl (of_ne rfl (of_ne rfl (of_ne rfl (of_ne rfl (of_ne rfl (of_ne rfl (of_nil _ _))))))))))))))))))))))))))))))) ?_
        refine d_q (i := 11) (v := .bool (decide ((errM (trimM m)) ≠ 0))) (fun _ => True) (fun _ ho => trivial) rfl (by decide +kernel) (by decide +kernel) (by decide +kernel) rfl rfl (fun wq hq => (x_pick_f (congrArg (fun z => Value.bool (!z)) hc52) rfl)) (of_ne rfl (of_ne rfl (of_ne rfl (of_ne rfl (of_ne rfl (of_ne rfl (of_ne rfl (of_ne rfl (of_ne rfl (of_ne rfl (of_ne rfl (of_ne rfl (of_ne rfl (of_ne rfl (of_ne rfl (of_ne rfl (of_ne rfl (of_ne rfl (of_ne rfl (of_ne rfl (of_ne rfl (of_ne rfl (of_ne rfl (of_ne rfl (of_ne rfl (of_ne rfl (of_ne rfl (of_ne rfl (of_ne rfl (of_ne rfl (of_nil _ _))))))))))))))))))))))))))))))) ?_
        refine d_q (i := 12) (v := .bool (decide ((errM (trimM m)) ≠ 0))) (fun _ => True) (fun _ ho => trivial) rfl (by decide +kernel) (by decide +kernel) (by decide +kernel) rfl rfl (fun wq hq => (x_move rfl)) (of_ne rfl (of_ne rfl (of_ne rfl (of_ne rfl (of_ne rfl (of_ne rfl (of_ne rfl (of_ne rfl (of_ne rfl (of_ne rfl (of_ne rfl (of_ne rfl (of_ne rfl (of_ne rfl (of_ne rfl (of_ne rfl (of_ne rfl (of_ne rfl (of_ne rfl (of_ne rfl (of_ne rfl (of_ne rfl (of_ne rfl (of_ne rfl (of_ne rfl (of_ne rfl (of_ne rfl (of_ne rfl (of_ne rfl (of_ne rfl (of_nil _ _))))))))))))))))))))))))))))))) ?_
        refine d_q (i := 13) (v := .agg #[.slice A15 ((trimM m).spots).length c15, .slice A17 ((trimM m).first).length c17, .slice A19 ((trimM m).follow).length c19, .slice A21 ((trimM m).last).length c21, .bool ((trimM m).empty)]) (CF ⟨b23, 0, none⟩ [.slice A15 ((trimM m).spots).length c15, .slice A17 ((trimM m).first).length c17, .slice A19 ((trimM m).follow).length c19, .slice A21 ((trimM m).last).length c21, .bool ((trimM m).empty)]) (fun _ ho => ho _ (List.mem_of_getElem? (i := 10) rfl) rfl) rfl (by decide +kernel) (by decide +kernel) (by decide +kernel) (wanted_of (j := 12) (want := false) (d := 56) (b := false) rfl rfl (congrArg Value.bool (decide_eq_false hc53)) rfl) rfl (fun wq hq => (x_load (seg := [.slice A15 ((trimM m).spots).length c15, .slice A17 ((trimM m).first).length c17, .slice A19 ((trimM m).follow).length c19, .slice A21 ((trimM m).last).length c21, .bool ((trimM m).empty)]) ty27 rfl (by simp) rfl hq)) (of_ne rfl (of_ne rfl (of_ne rfl (of_ne rfl (of_ne rfl (of_ne rfl (of_ne rfl (of_ne rfl (of_ne rfl (of_ne rfl (of_eq hf100 (of_ne rfl (of_ne rfl (of_ne rfl (of_ne rfl (of_ne rfl (of_ne rfl (of_ne rfl (of_ne rfl (of_ne rfl (of_ne rfl (of_ne rfl (of_ne rfl (of_ne rfl (of_ne rfl (of_ne rfl (of_ne rfl (of_ne rfl (of_ne rfl (of_ne rfl (of_nil _ _))))))))))))))))))))))))))))))) ?_
        refine d_q (i := 14) (v := .agg #[.slice A37 ((trimM (trimM m)).spots).length c37, .slice A39 ((trimM (trimM m)).first).length c39, .slice A41 ((trimM (trimM m)).follow).length c41, .slice A43 ((trimM (trimM m)).last).length c43, .bool ((trimM (trimM m)).empty)]) (CF ⟨b45, 0, none⟩ [.slice A37 ((trimM (trimM m)).spots).length c37, .slice A39 ((trimM (trimM m)).first).length c39, .slice A41 ((trimM (trimM m)).follow).length c41, .slice A43 ((trimM (trimM m)).last).length c43, .bool ((trimM (trimM m)).empty)]) (fun _ ho => ho _ (List.mem_of_getElem? (i := 11) rfl) rfl) rfl (by decide +kernel) (by decide +kernel) (by decide +kernel) (wanted_of (j := 12) (want := false) (d := 56) (b := false) rfl rfl (congrArg Value.bool (decide_eq_false hc53)) rfl) rfl (fun wq hq => (x_load (seg := [.slice A37 ((trimM (trimM m)).spots).length c37, .slice A39 ((trimM (trimM m)).first).length c39, .slice A41 ((trimM (trimM m)).follow).length c41, .slice A43 ((trimM (trimM m)).last).length c43, .bool ((trimM (trimM m)).empty)]) ty27 rfl (by simp) rfl hq)) (of_ne rfl (of_ne rfl (of_ne rfl (of_ne rfl (of_ne rfl (of_ne rfl (of_ne rfl (of_ne rfl (of_ne rfl (of_ne rfl (of_ne rfl (of_eq hf101 (of_ne rfl (of_ne rfl (of_ne rfl (of_ne rfl (of_ne rfl (of_ne rfl (of_ne rfl (of_ne rfl (of_ne rfl (of_ne rfl (of_ne rfl (of_ne rfl (of_ne rfl (of_ne rfl (of_ne rfl (of_ne rfl (of_ne rfl (of_ne rfl (of_nil _ _))))))))))))))))))))))))))))))) ?_
        refine d_m (i := 15) (v := .bool (decide ((trimM m) = (trimM (trimM m))))) (fun wf => Leads kSpot (hp wf) A15 ((trimM m).spots) ∧ Leads (Kd.int .i64) (hp wf) A17 ((trimM m).first) ∧ Leads (Kd.int .i64).slice (hp wf) A19 ((trimM m).follow) ∧ Leads Kd.bool (hp wf) A21 ((trimM m).last) ∧ Leads kSpot (hp wf) A37 ((trimM (trimM m)).spots) ∧ Leads (Kd.int .i64) (hp wf) A39 ((trimM (trimM m)).first) ∧ Leads (Kd.int .i64).slice (hp wf) A41 ((trimM (trimM m)).follow) ∧ Leads Kd.bool (hp wf) A43 ((trimM (trimM m)).last)) (fun _ ho => ⟨ho _ (List.mem_of_getElem? (i := 12) rfl) rfl, ho _ (List.mem_of_getElem? (i := 13) rfl) rfl, ho _ (List.mem_of_getElem? (i := 14) rfl) rfl, ho _ (List.mem_of_getElem? (i := 15) rfl) rfl, ho _ (List.mem_of_getElem? (i := 16) rfl) rfl, ho _ (List.mem_of_getElem? (i := 17) rfl) rfl, ho _ (List.mem_of_getElem? (i := 18) rfl) rfl, ho _ (List.mem_of_getElem? (i := 19) rfl) rfl⟩) rfl (by decide +kernel) (by decide +kernel) (by decide +kernel) (wanted_of (j := 12) (want := false) (d := 56) (b := false) rfl rfl (congrArg Value.bool (decide_eq_false hc53)) rfl) rfl (fun wq => (y_call (args := [.agg #[.slice A15 ((trimM m).spots).length c15, .slice A17 ((trimM m).first).length c17, .slice A19 ((trimM m).follow).length c19, .slice A21 ((trimM m).last).length c21, .bool ((trimM m).empty)], .agg #[.slice A37 ((trimM (trimM m)).spots).length c37, .slice A39 ((trimM (trimM m)).first).length c39, .slice A41 ((trimM (trimM m)).follow).length c41, .slice A43 ((trimM (trimM m)).last).length c43, .bool ((trimM (trimM m)).empty)]]) ca9 rfl rfl)) (fun wq hq => (sameN_calls wq (trimM m) A15 c15 (And.intro lc15 cm15) hq.1 A17 c17 (And.intro lc17 cm17) hq.2.1 A19 c19 (And.intro lc19 cm19) hq.2.2.1 A21 c21 (And.intro lc21 cm21) hq.2.2.2.1 (trimM (trimM m)) A37 c37 (And.intro lc37 cm37) hq.2.2.2.2.1 A39 c39 (And.intro lc39 cm39) hq.2.2.2.2.2.1 A41 c41 (And.intro lc41 cm41) hq.2.2.2.2.2.2.1 A43 c43 (And.intro lc43 cm43) hq.2.2.2.2.2.2.2).mono fun e w2 he => by obtain ⟨_, rfl, _, T, rfl⟩ := he; exact ⟨rfl, Chg.of_below T.below⟩) (of_ne rfl (of_ne rfl (of_ne rfl (of_ne rfl (of_ne rfl (of_ne rfl (of_ne rfl (of_ne rfl (of_ne rfl (of_ne rfl (of_ne rfl (of_ne rfl (of_eq hf102 (of_eq hf103 (of_eq hf104 (of_eq hf105 (of_eq hf106 (of_eq hf107 (of_eq hf108 (of_eq hf109 (of_ne rfl (of_ne rfl (of_ne rfl (of_ne rfl (of_ne rfl (of_ne rfl (of_ne rfl (of_ne rfl (of_ne rfl (of_ne rfl (of_nil _ _))))))))))))))))))))))))))))))) ?_
        refine d_q (i := 16) (v := .bool (!(decide ((trimM m) = (trimM (trimM m)))))) (fun _ => True) (fun _ ho => trivial) rfl (by decide +kernel) (by decide +kernel) (by decide +kernel) (wanted_of (j := 12) (want := false) (d := 56) (b := false) rfl rfl (congrArg Value.bool (decide_eq_false hc53)) rfl) rfl (fun wq hq => (x_not rfl)) (of_ne rfl (of_ne rfl (of_ne rfl (of_ne rfl (of_ne rfl (of_ne rfl (of_ne rfl (of_ne rfl (of_ne rfl (of_ne rfl (of_ne rfl (of_ne rfl (of_ne rfl (of_ne rfl (of_ne rfl (of_ne rfl (of_ne rfl (of_ne rfl (of_ne rfl (of_ne rfl (of_ne rfl (of_ne rfl (of_ne rfl (of_ne rfl (of_ne rfl (of_ne rfl (of_ne rfl (of_ne rfl (of_ne rfl (of_ne rfl (of_nil _ _))))))))))))))))))))))))))))))) ?_
        refine d_q (i := 17) (v := .bool (!(decide ((trimM m) = (trimM (trimM m)))))) (fun _ => True) (fun _ ho => trivial) rfl (by decide +kernel) (by decide +kernel) (by decide +kernel) rfl rfl (fun wq hq => (x_pick_f (congrArg Value.bool (decide_eq_false hc53)) rfl)) (of_ne rfl (of_ne rfl (of_ne rfl (of_ne rfl (of_ne rfl (of_ne rfl (of_ne rfl (of_ne rfl (of_ne rfl (of_ne rfl (of_ne rfl (of_ne rfl (of_ne rfl (of_ne rfl (of_ne rfl (of_ne rfl (of_ne rfl (of_ne rfl (of_ne rfl (of_ne rfl (of_ne rfl (of_ne rfl (of_ne rfl (of_ne rfl (of_ne rfl (of_ne rfl (of_ne rfl (of_ne rfl (of_ne rfl (of_ne rfl (of_nil _ _))))))))))))))))))))))))))))))) ?_
        refine d_q (i := 18) (v := .bool (!(decide ((trimM m) = (trimM (trimM m)))))) (fun _ => True) (fun _ ho => trivial) rfl (by decide +kernel) (by decide +kernel) (by decide +kernel) rfl rfl (fun wq hq => (x_move rfl)) (of_ne rfl (of_ne rfl (of_ne rfl (of_ne rfl (of_ne rfl (of_ne rfl (of_ne rfl (of_ne rfl (of_ne rfl (of_ne rfl (of_ne rfl (of_ne rfl (of_ne rfl (of_ne rfl (of_ne rfl (of_ne rfl (of_ne rfl (of_ne rfl (of_ne rfl (of_ne rfl (of_ne rfl (of_ne rfl (of_ne rfl (of_ne rfl (of_ne rfl (of_ne rfl (of_ne rfl (of_ne rfl (of_ne rfl (of_ne rfl (of_nil _ _))))))))))))))))))))))))))))))) ?_
        refine d_q (i := 19) (v := .agg #[.slice A15 ((trimM m).spots).length c15, .slice A17 ((trimM m).first).length c17, .slice A19 ((trimM m).follow).length c19, .slice A21 ((trimM m).last).length c21, .bool ((trimM m).empty)]) (CF ⟨b23, 0, none⟩ [.slice A15 ((trimM m).spots).length c15, .slice A17 ((trimM m).first).length c17, .slice A19 ((trimM m).follow).length c19, .slice A21 ((trimM m).last).length c21, .bool ((trimM m).empty)]) (fun _ ho => ho _ (List.mem_of_getElem? (i := 20) rfl) rfl) rfl (by decide +kernel) (by decide +kernel) (by decide +kernel) (wanted_of (j := 18) (want := false) (d := 62) (b := false) rfl rfl (congrArg (fun z => Value.bool (!z)) hc55) rfl) rfl (fun wq hq => (x_load (seg := [.slice A15 ((trimM m).spots).length c15, .slice A17 ((trimM m).first).length c17, .slice A19 ((trimM m).follow).length c19, .slice A21 ((trimM m).last).length c21, .bool ((trimM m).empty)]) ty27 rfl (by simp) rfl hq)) (of_ne rfl (of_ne rfl (of_ne rfl (of_ne rfl (of_ne rfl (of_ne rfl (of_ne rfl (of_ne rfl (of_ne rfl (of_ne rfl (of_ne rfl (of_ne rfl (of_ne rfl (of_ne rfl (of_ne rfl (of_ne rfl (of_ne rfl (of_ne rfl (of_ne rfl (of_ne rfl (of_eq hf110 (of_ne rfl (of_ne rfl (of_ne rfl (of_ne rfl (of_ne rfl (of_ne rfl (of_ne rfl (of_ne rfl (of_ne rfl (of_nil _ _))))))))))))))))))))))))))))))) ?_
        refine d_q (i := 20) (v := .string xw) (fun _ => True) (fun _ ho => trivial) rfl (by decide +kernel) (by decide +kernel) (by decide +kernel) (wanted_of (j := 18) (want := false) (d := 62) (b := false) rfl rfl (congrArg (fun z => Value.bool (!z)) hc55) rfl) rfl (fun wq hq => (x_move rfl)) (of_ne rfl (of_ne rfl (of_ne rfl (of_ne rfl (of_ne rfl (of_ne rfl (of_ne rfl (of_ne rfl (of_ne rfl (of_ne rfl (of_ne rfl (of_ne rfl (of_ne rfl (of_ne rfl (of_ne rfl (of_ne rfl (of_ne rfl (of_ne rfl (of_ne rfl (of_ne rfl (of_ne rfl (of_ne rfl (of_ne rfl (of_ne rfl (of_ne rfl (of_ne rfl (of_ne rfl (of_ne rfl (of_ne rfl (of_ne rfl (of_nil _ _))))))))))))))))))))))))))))))) ?_
        refine d_m (i := 21) (v := .bool (runM (trimM m) xw)) (fun wf => Leads kSpot (hp wf) A15 ((trimM m).spots) ∧ Leads (Kd.int .i64) (hp wf) A17 ((trimM m).first) ∧ Leads (Kd.int .i64).slice (hp wf) A19 ((trimM m).follow) ∧ Leads Kd.bool (hp wf) A21 ((trimM m).last)) (fun _ ho => ⟨ho _ (List.mem_of_getElem? (i := 21) rfl) rfl, ho _ (List.mem_of_getElem? (i := 22) rfl) rfl, ho _ (List.mem_of_getElem? (i := 23) rfl) rfl, ho _ (List.mem_of_getElem? (i := 24) rfl) rfl⟩) rfl (by decide +kernel) (by decide +kernel) (by decide +kernel) (wanted_of (j := 18) (want := false) (d := 62) (b := false) rfl rfl (congrArg (fun z => Value.bool (!z)) hc55) rfl) rfl (fun wq => (y_call (args := [.agg #[.slice A15 ((trimM m).spots).length c15, .slice A17 ((trimM m).first).length c17, .slice A19 ((trimM m).follow).length c19, .slice A21 ((trimM m).last).length c21, .bool ((trimM m).empty)], .string xw]) ca10 rfl rfl)) (fun wq hq => (runN_calls wq (trimM m) A15 c15 (And.intro lc15 cm15) hq.1 A17 c17 (And.intro lc17 cm17) hq.2.1 A19 c19 (And.intro lc19 cm19) hq.2.2.1 A21 c21 (And.intro lc21 cm21) hq.2.2.2 xw s1).mono fun e w2 he => by obtain ⟨_, rfl, _, T, rfl⟩ := he; exact ⟨rfl, Chg.of_below T.below⟩) (of_ne rfl (of_ne rfl (of_ne rfl (of_ne rfl (of_ne rfl (of_ne rfl (of_ne rfl (of_ne rfl (of_ne rfl (of_ne rfl (of_ne rfl (of_ne rfl (of_ne rfl (of_ne rfl (of_ne rfl (of_ne rfl (of_ne rfl (of_ne rfl (of_ne rfl (of_ne rfl (of_ne rfl (of_eq hf111 (of_eq hf112 (of_eq hf113 (of_eq hf114 (of_ne rfl (of_ne rfl (of_ne rfl (of_ne rfl (of_ne rfl (of_nil _ _))))))))))))))))))))))))))))))) ?_
        refine d_q (i := 22) (v := .agg #[.slice A0_0 m.spots.length c0_0, .slice A0_1 m.first.length c0_1, .slice A0_2 m.follow.length c0_2, .slice A0_3 m.last.length c0_3, .bool m.empty]) (CF ⟨b1, 0, none⟩ [.slice A0_0 m.spots.length c0_0, .slice A0_1 m.first.length c0_1, .slice A0_2 m.follow.length c0_2, .slice A0_3 m.last.length c0_3, .bool m.empty]) (fun _ ho => ho _ (List.mem_of_getElem? (i := 25) rfl) rfl) rfl (by decide +kernel) (by decide +kernel) (by decide +kernel) (wanted_of (j := 18) (want := false) (d := 62) (b := false) rfl rfl (congrArg (fun z => Value.bool (!z)) hc55) rfl) rfl (fun wq hq => (x_load (seg := [.slice A0_0 m.spots.length c0_0, .slice A0_1 m.first.length c0_1, .slice A0_2 m.follow.length c0_2, .slice A0_3 m.last.length c0_3, .bool m.empty]) ty27 rfl (by simp) rfl hq)) (of_ne rfl (of_ne rfl (of_ne rfl (of_ne rfl (of_ne rfl (of_ne rfl (of_ne rfl (of_ne rfl (of_ne rfl (of_ne rfl (of_ne rfl (of_ne rfl (of_ne rfl (of_ne rfl (of_ne rfl (of_ne rfl (of_ne rfl (of_ne rfl (of_ne rfl (of_ne rfl (of_ne rfl (of_ne rfl (of_ne rfl (of_ne rfl (of_ne rfl (of_eq hf115 (of_ne rfl (of_ne rfl (of_ne rfl (of_ne rfl (of_nil _ _))))))))))))))))))))))))))))))) ?_
        refine d_q (i := 23) (v := .string xw) (fun _ => True) (fun _ ho => trivial) rfl (by decide +kernel) (by decide +kernel) (by decide +kernel) (wanted_of (j := 18) (want := false) (d := 62) (b := false) rfl rfl (congrArg (fun z => Value.bool (!z)) hc55) rfl) rfl (fun wq hq => (x_move rfl)) (of_ne rfl (of_ne rfl (of_ne rfl (of_ne rfl (of_ne rfl (of_ne rfl (of_ne rfl (of_ne rfl (of_ne rfl (of_ne rfl (of_ne rfl (of_ne rfl (of_ne rfl (of_ne rfl (of_ne rfl (of_ne rfl (of_ne rfl (of_ne rfl (of_ne rfl (of_ne rfl (of_ne rfl (of_ne rfl (of_ne rfl (of_ne rfl (of_ne rfl (of_ne rfl (of_ne rfl (of_ne rfl (of_ne rfl (of_ne rfl (of_nil _ _))))))))))))))))))))))))))))))) ?_
        refine d_m (i := 24) (v := .bool (runM m xw)) (fun wf => Leads kSpot (hp wf) A0_0 m.spots ∧ Leads (Kd.int .i64) (hp wf) A0_1 m.first ∧ Leads (Kd.int .i64).slice (hp wf) A0_2 m.follow ∧ Leads Kd.bool (hp wf) A0_3 m.last) (fun _ ho => ⟨ho _ (List.mem_of_getElem? (i := 26) rfl) rfl, ho _ (List.mem_of_getElem? (i := 27) rfl) rfl, ho _ (List.mem_of_getElem? (i := 28) rfl) rfl, ho _ (List.mem_of_getElem? (i := 29) rfl) rfl⟩) rfl (by decide +kernel) (by decide +kernel) (by decide +kernel) (wanted_of (j := 18) (want := false) (d := 62) (b := false) rfl rfl (congrArg (fun z => Value.bool (!z)) hc55) rfl) rfl (fun wq => (y_call (args := [.agg #[.slice A0_0 m.spots.length c0_0, .slice A0_1 m.first.length c0_1, .slice A0_2 m.follow.length c0_2, .slice A0_3 m.last.length c0_3, .bool m.empty], .string xw]) ca10 rfl rfl)) (fun wq hq => (runN_calls wq m A0_0 c0_0 b0_0 hq.1 A0_1 c0_1 b0_1 hq.2.1 A0_2 c0_2 b0_2 hq.2.2.1 A0_3 c0_3 b0_3 hq.2.2.2 xw s1).mono fun e w2 he => by obtain ⟨_, rfl, _, T, rfl⟩ := he; exact ⟨rfl, Chg.of_below T.below⟩) (of_ne rfl (of_ne rfl (of_ne rfl (of_ne rfl (of_ne rfl (of_ne rfl (of_ne rfl (of_ne rfl (of_ne rfl (of_ne rfl (of_ne rfl (of_ne rfl (of_ne rfl (of_ne rfl (of_ne rfl (of_ne rfl (of_ne rfl (of_ne rfl (of_ne rfl (of_ne rfl (of_ne rfl (of_ne rfl (of_ne rfl (of_ne rfl (of_ne rfl (of_ne rfl (of_eq hf116 (of_eq hf117 (of_eq hf118 (of_eq hf119 (of_nil _ _))))))))))))))))))))))))))))))) ?_
        refine d_q (i := 25) (v := .bool (decide ((runM (trimM m) xw) ≠ (runM m xw)))) (fun _ => True) (fun _ ho => trivial) rfl (by decide +kernel) (by decide +kernel) (by decide +kernel) (wanted_of (j := 18) (want := false) (d := 62) (b := false) rfl rfl (congrArg (fun z => Value.bool (!z)) hc55) rfl) rfl (fun wq hq => (x_neq_bool u4 rfl rfl)) (of_ne rfl (of_ne rfl (of_ne rfl (of_ne rfl (of_ne rfl (of_ne rfl (of_ne rfl (of_ne rfl (of_ne rfl (of_ne rfl (of_ne rfl (of_ne rfl (of_ne rfl (of_ne rfl (of_ne rfl (of_ne rfl (of_ne rfl (of_ne rfl (of_ne rfl (of_ne rfl (of_ne rfl (of_ne rfl (of_ne rfl (of_ne rfl (of_ne rfl (of_ne rfl (of_ne rfl (of_ne rfl (of_ne rfl (of_ne rfl (of_nil _ _))))))))))))))))))))))))))))))) ?_
        refine d_q (i := 26) (v := .bool (decide ((runM (trimM m) xw) ≠ (runM m xw)))) (fun _ => True) (fun _ ho => trivial) rfl (by decide +kernel) (by decide +kernel) (by decide +kernel) rfl rfl (fun wq hq => (x_pick_f (congrArg (fun z => Value.bool (!z)) hc55) rfl)) (of_ne rfl (of_ne rfl (of_ne rfl (of_ne rfl (of_ne rfl (of_ne rfl (of_ne rfl (of_ne rfl (of_ne rfl (of_ne rfl (of_ne rfl (of_ne rfl (of_ne rfl (of_ne rfl (of_ne rfl (of_ne rfl (of_ne rfl (of_ne rfl (of_ne rfl (of_ne rfl (of_ne rfl (of_ne rfl (of_ne rfl (of_ne rfl (of_ne rfl (of_ne rfl (of_ne rfl (of_ne rfl (of_ne rfl (of_ne rfl (of_nil _ _))))))))))))))))))))))))))))))) ?_
        refine ra_done (by decide +kernel) ?_
        intro wd120 gd120
        have S121 := S89.keep gd120
        have hc122 : ¬ ((runM (trimM m) xw) ≠ (runM m xw)) := by
          exact fun h => h (trim_run hR_ xw)
        refine run_cond (b := false) (congrArg Value.bool (decide_eq_false hc122)) ?_
        simp only [if_true, if_false, Bool.false_eq_true]
        refine run_skip ?_
        refine run_seq ?_
        refine run_seq ?_
        refine run_reg (l := [0]) rfl ?_
        refine p_v (v := .int .i64 0) rfl rfl rfl (x_assign rfl) ?_
        refine run_region_end ?_
        refine run_block ?_
        refine run_loop (S := Int) (fun (q_ : Int) ρ w' => match q_ with | i => ∃ (h : Ghost), Le h43 h ∧ St w.heap.size w h w' [box b1 27 [.slice A0_0 m.spots.length c0_0, .slice A0_1 m.first.length c0_1, .slice A0_2 m.follow.length c0_2, .slice A0_3 m.last.length c0_3, .bool m.empty], box b23 27 [.slice A15 ((trimM m).spots).length c15, .slice A17 ((trimM m).first).length c17, .slice A19 ((trimM m).follow).length c19, .slice A21 ((trimM m).last).length c21, .bool ((trimM m).empty)]] ∧ ρ 2 = .pointer (some ⟨b1, 0, none⟩) ∧ ρ 5 = .pointer (some ⟨b23, 0, none⟩) ∧ ρ 9 = .int .i64 i ∧ inK .i64 i ∧ (0 ≤ i)) (fun q_ => match q_ with | i => ((trimM m).spots.length - i).toNat) (0) ⟨h43, Le.refl _, S121.sub [0, 5] (by decide) rfl _ rfl, rfl, rfl, rfl, (in_i64 (by first|omega|(simp;omega)|assumption) (by first|omega|(simp;omega)|assumption)), (by omega)⟩ ?_
        rintro i ih123 ρ123 w123 ⟨h123, le123, S123, r123_2, r123_5, r123_9, f123_0, hI123⟩
        have lf123_0 := i64_lo f123_0; have hf123_0 := i64_hi f123_0
        have hi0_ : 0 ≤ i := hI123
        refine run_seq ?_
        refine run_seq ?_
        refine run_reg (l := [0, 1, 2, 3, 4]) rfl ?_
        refine p_v (v := .int .i64 i) rfl rfl rfl (x_move r123_9) ?_
        refine p_v (v := .pointer (some ⟨b23, 0, none⟩)) rfl rfl rfl (x_fieldAt fd27_0 ty22 rfl r123_5) ?_
        refine p_v (v := .slice A15 ((trimM m).spots).length c15) rfl rfl rfl (x_load (seg := [.slice A15 ((trimM m).spots).length c15]) ty22 rfl (by simp) rfl (CF.box (m := 1) (S123.box_at (j := 1) rfl) rfl)) ?_
        refine p_v (v := .int .i64 (((trimM m).spots).length : Int)) rfl rfl rfl (x_len_slice u22 rfl) ?_
        refine p_v (v := .bool (decide (i < (((trimM m).spots).length : Int)))) rfl rfl rfl (x_lss rfl rfl) ?_
        refine run_region_end ?_
        refine run_cond_prop (p := i < (((trimM m).spots).length : Int)) rfl (fun hc124 => ?_) (fun hc124 => ?_)
        · skip
          refine run_skip ?_
          refine run_seq ?_
          refine run_block ?_
          refine run_seq ?_
          refine run_reg (l := [0, 1, 2, 3, 4, 5, 6, 7, 8, 9]) rfl ?_
          refine p_v (v := .agg #[.slice A15 ((trimM m).spots).length c15, .slice A17 ((trimM m).first).length c17, .slice A19 ((trimM m).follow).length c19, .slice A21 ((trimM m).last).length c21, .bool ((trimM m).empty)]) rfl rfl rfl (x_load (seg := [.slice A15 ((trimM m).spots).length c15, .slice A17 ((trimM m).first).length c17, .slice A19 ((trimM m).follow).length c19, .slice A21 ((trimM m).last).length c21, .bool ((trimM m).empty)]) ty27 rfl (by simp) r123_5 (CF.box (m := 5) (S123.box_at (j := 1) rfl) rfl)) ?_
          refine p_v (v := .pointer (some ⟨b23, 1, none⟩)) rfl rfl rfl (x_fieldAt fd27_1 ty23 rfl r123_5) ?_
          refine p_v (v := .slice A17 ((trimM m).first).length c17) rfl rfl rfl (x_load (seg := [.slice A17 ((trimM m).first).length c17]) ty23 rfl (by simp) rfl (CF.box (m := 1) (S123.box_at (j := 1) rfl) rfl)) ?_
          refine p_v (v := .int .i64 i) rfl rfl rfl (x_move r123_9) ?_
          refine p_c rfl rfl rfl (y_call (args := [.agg #[.slice A15 ((trimM m).spots).length c15, .slice A17 ((trimM m).first).length c17, .slice A19 ((trimM m).follow).length c19, .slice A21 ((trimM m).last).length c21, .bool ((trimM m).empty)], .slice A17 ((trimM m).first).length c17, .int .i64 i]) ca11 rfl rfl) (way_calls w123 (trimM m) A15 c15 (And.intro lc15 cm15) (ld15.mono (((lf43_2).trans le123).trans S123.ghost)) A17 c17 (And.intro lc17 cm17) (ld17.mono (((lf43_3).trans le123).trans S123.ghost)) A19 c19 (And.intro lc19 cm19) (ld19.mono (((lf43_4).trans le123).trans S123.ghost)) A21 c21 (And.intro lc21 cm21) (ld21.mono (((lf43_5).trans le123).trans S123.ghost)) ((trimM m).first) A17 c17 (And.intro lc17 cm17) (ld17.mono (((lf43_3).trans le123).trans S123.ghost)) i f123_0 (by first | assumption | exact ⟨by assumption, by assumption, hR_.row _ (by omega) (by omega), by omega, by omega⟩ | exact ⟨by assumption, by assumption, (by assumption : Right (trimM m)).first, by omega, by omega⟩) (Block.st S123 tb)) ?_
          rintro _ w125 ⟨h125, s_125, T125, rfl, sz125_0, fx125⟩
          have S126 := S123.keep (Chg.of_below T125.below)
          have bd_sz125_0 := sz125_0; simp only [maxLen] at bd_sz125_0
          have fz125 := fx125.1
          refine p_v (v := .tuple #[.string s_125, .bool (at_ (reachM (trimM m) ((trimM m).first)) i)]) rfl rfl rfl (x_move rfl) ?_
          refine p_v (v := .string s_125) rfl rfl rfl (x_extract (vs := [.string s_125, .bool (at_ (reachM (trimM m) ((trimM m).first)) i)]) rfl rfl) ?_
          refine p_v (v := .bool (at_ (reachM (trimM m) ((trimM m).first)) i)) rfl rfl rfl (x_extract (vs := [.string s_125, .bool (at_ (reachM (trimM m) ((trimM m).first)) i)]) rfl rfl) ?_
          refine p_v (v := .string s_125) rfl rfl rfl (x_assign rfl) ?_
          refine p_v (v := .bool (at_ (reachM (trimM m) ((trimM m).first)) i)) rfl rfl rfl (x_assign rfl) ?_
          refine run_region_end ?_
          refine run_seq ?_
          refine run_reg (l := [0, 1, 2, 3, 4, 5, 6, 7]) rfl ?_
          refine p_v (v := .agg #[.slice A15 ((trimM m).spots).length c15, .slice A17 ((trimM m).first).length c17, .slice A19 ((trimM m).follow).length c19, .slice A21 ((trimM m).last).length c21, .bool ((trimM m).empty)]) rfl rfl rfl (x_load (seg := [.slice A15 ((trimM m).spots).length c15, .slice A17 ((trimM m).first).length c17, .slice A19 ((trimM m).follow).length c19, .slice A21 ((trimM m).last).length c21, .bool ((trimM m).empty)]) ty27 rfl (by simp) r123_5 (CF.box (m := 5) (S126.box_at (j := 1) rfl) rfl)) ?_
          refine p_v (v := .int .i64 i) rfl rfl rfl (x_move r123_9) ?_
          refine p_c rfl rfl rfl (y_call (args := [.agg #[.slice A15 ((trimM m).spots).length c15, .slice A17 ((trimM m).first).length c17, .slice A19 ((trimM m).follow).length c19, .slice A21 ((trimM m).last).length c21, .bool ((trimM m).empty)], .int .i64 i]) ca12 rfl rfl) (goes_calls w125 (trimM m) A15 c15 (And.intro lc15 cm15) (ld15.mono (((lf43_2).trans le123).trans S126.ghost)) A17 c17 (And.intro lc17 cm17) (ld17.mono (((lf43_3).trans le123).trans S126.ghost)) A19 c19 (And.intro lc19 cm19) (ld19.mono (((lf43_4).trans le123).trans S126.ghost)) A21 c21 (And.intro lc21 cm21) (ld21.mono (((lf43_5).trans le123).trans S126.ghost)) i f123_0 (by first | assumption | exact ⟨by assumption, by assumption, by omega, by omega⟩) (Block.st S126 tb)) ?_
          rintro _ w127 ⟨h127, s_127, T127, rfl, sz127_0, fx127⟩
          have S128 := S126.keep (Chg.of_below T127.below)
          have bd_sz127_0 := sz127_0; simp only [maxLen] at bd_sz127_0
          have fz127 := fx127.1
          refine p_v (v := .tuple #[.string s_127, .bool (goesB (trimM m) i)]) rfl rfl rfl (x_move rfl) ?_
          refine p_v (v := .string s_127) rfl rfl rfl (x_extract (vs := [.string s_127, .bool (goesB (trimM m) i)]) rfl rfl) ?_
          refine p_v (v := .bool (goesB (trimM m) i)) rfl rfl rfl (x_extract (vs := [.string s_127, .bool (goesB (trimM m) i)]) rfl rfl) ?_
          refine p_v (v := .string s_127) rfl rfl rfl (x_assign rfl) ?_
          refine p_v (v := .bool (goesB (trimM m) i)) rfl rfl rfl (x_assign rfl) ?_
          refine run_region_end ?_
          refine run_seq ?_
          refine run_reg (l := [0, 1, 2, 3, 4, 5, 6, 7, 8, 9, 10, 11, 12, 13, 14, 15, 16, 17, 18, 19, 20, 21]) rfl ?_
          refine p_v (v := .bool (at_ (reachM (trimM m) ((trimM m).first)) i)) rfl rfl rfl (x_move rfl) ?_
          refine p_v (v := .bool (!(at_ (reachM (trimM m) ((trimM m).first)) i))) rfl rfl rfl (x_not rfl) ?_
          refine p_v (v := .bool (!(at_ (reachM (trimM m) ((trimM m).first)) i))) rfl rfl rfl (x_move rfl) ?_
          have hc129 : (at_ (reachM (trimM m) ((trimM m).first)) i) = true := by
            exact trim_ahead hR_ hi0_ (by omega)
          refine p_v (v := .bool (goesB (trimM m) i)) rfl (wanted_of (j := 2) (want := false) (d := 94) (b := false) rfl rfl (congrArg (fun z => Value.bool (!z)) hc129) rfl) rfl (x_move rfl) ?_
          refine p_v (v := .bool (!(goesB (trimM m) i))) rfl (wanted_of (j := 2) (want := false) (d := 94) (b := false) rfl rfl (congrArg (fun z => Value.bool (!z)) hc129) rfl) rfl (x_not rfl) ?_
          refine p_v (v := .bool (!(goesB (trimM m) i))) rfl rfl rfl (x_pick_f (congrArg (fun z => Value.bool (!z)) hc129) rfl) ?_
          refine p_v (v := .bool (!(goesB (trimM m) i))) rfl rfl rfl (x_move rfl) ?_
          have hc130 : (goesB (trimM m) i) = true := by
            exact trim_behind hR_ hi0_ (by omega)
          refine p_v (v := .agg #[.slice A15 ((trimM m).spots).length c15, .slice A17 ((trimM m).first).length c17, .slice A19 ((trimM m).follow).length c19, .slice A21 ((trimM m).last).length c21, .bool ((trimM m).empty)]) rfl (wanted_of (j := 6) (want := false) (d := 98) (b := false) rfl rfl (congrArg (fun z => Value.bool (!z)) hc130) rfl) rfl (x_load (seg := [.slice A15 ((trimM m).spots).length c15, .slice A17 ((trimM m).first).length c17, .slice A19 ((trimM m).follow).length c19, .slice A21 ((trimM m).last).length c21, .bool ((trimM m).empty)]) ty27 rfl (by simp) r123_5 (CF.box (m := 5) (S128.box_at (j := 1) rfl) rfl)) ?_
          refine p_v (v := .string s_125) rfl (wanted_of (j := 6) (want := false) (d := 98) (b := false) rfl rfl (congrArg (fun z => Value.bool (!z)) hc130) rfl) rfl (x_move rfl) ?_
          refine p_v (v := .string s_127) rfl (wanted_of (j := 6) (want := false) (d := 98) (b := false) rfl rfl (congrArg (fun z => Value.bool (!z)) hc130) rfl) rfl (x_move rfl) ?_
          have sb131 : s_125.size + s_127.size ≤ 9223372036854775807 := by first | omega | (simp only [str_one]; omega)
          have sz131 : (s_125 ++ s_127).size ≤ maxLen := by rw [size_add]; unfold maxLen; exact sb131
          have st131 := size_add s_125 s_127
          refine p_v (v := .string (s_125 ++ s_127)) rfl (wanted_of (j := 6) (want := false) (d := 98) (b := false) rfl rfl (congrArg (fun z => Value.bool (!z)) hc130) rfl) rfl (x_add_str rfl rfl sb131) ?_
          refine p_c rfl (wanted_of (j := 6) (want := false) (d := 98) (b := false) rfl rfl (congrArg (fun z => Value.bool (!z)) hc130) rfl) rfl (y_call (args := [.agg #[.slice A15 ((trimM m).spots).length c15, .slice A17 ((trimM m).first).length c17, .slice A19 ((trimM m).follow).length c19, .slice A21 ((trimM m).last).length c21, .bool ((trimM m).empty)], .string (s_125 ++ s_127)]) ca10 rfl rfl) (runN_calls w127 (trimM m) A15 c15 (And.intro lc15 cm15) (ld15.mono (((lf43_2).trans le123).trans S128.ghost)) A17 c17 (And.intro lc17 cm17) (ld17.mono (((lf43_3).trans le123).trans S128.ghost)) A19 c19 (And.intro lc19 cm19) (ld19.mono (((lf43_4).trans le123).trans S128.ghost)) A21 c21 (And.intro lc21 cm21) (ld21.mono (((lf43_5).trans le123).trans S128.ghost)) (s_125 ++ s_127) sz131) ?_
          rintro _ w132 ⟨h132, T132, rfl⟩
          have S133 := S128.keep (Chg.of_below T132.below)
          refine p_v (v := .bool (!(runM (trimM m) (s_125 ++ s_127)))) rfl (wanted_of (j := 6) (want := false) (d := 98) (b := false) rfl rfl (congrArg (fun z => Value.bool (!z)) hc130) rfl) rfl (x_not rfl) ?_
          refine p_v (v := .bool (!(runM (trimM m) (s_125 ++ s_127)))) rfl rfl rfl (x_pick_f (congrArg (fun z => Value.bool (!z)) hc130) rfl) ?_
          refine p_v (v := .bool (!(runM (trimM m) (s_125 ++ s_127)))) rfl rfl rfl (x_move rfl) ?_
          have hc134 : (runM (trimM m) (s_125 ++ s_127)) = true := by
            exact trim_text hR_ hi0_ (by omega) (by assumption) (by assumption)
          refine p_v (v := .agg #[.slice A0_0 m.spots.length c0_0, .slice A0_1 m.first.length c0_1, .slice A0_2 m.follow.length c0_2, .slice A0_3 m.last.length c0_3, .bool m.empty]) rfl (wanted_of (j := 14) (want := false) (d := 106) (b := false) rfl rfl (congrArg (fun z => Value.bool (!z)) hc134) rfl) rfl (x_load (seg := [.slice A0_0 m.spots.length c0_0, .slice A0_1 m.first.length c0_1, .slice A0_2 m.follow.length c0_2, .slice A0_3 m.last.length c0_3, .bool m.empty]) ty27 rfl (by simp) r123_2 (CF.box (m := 5) (S133.box_at (j := 0) rfl) rfl)) ?_
          refine p_v (v := .string s_125) rfl (wanted_of (j := 14) (want := false) (d := 106) (b := false) rfl rfl (congrArg (fun z => Value.bool (!z)) hc134) rfl) rfl (x_move rfl) ?_
          refine p_v (v := .string s_127) rfl (wanted_of (j := 14) (want := false) (d := 106) (b := false) rfl rfl (congrArg (fun z => Value.bool (!z)) hc134) rfl) rfl (x_move rfl) ?_
          have sb135 : s_125.size + s_127.size ≤ 9223372036854775807 := by first | omega | (simp only [str_one]; omega)
          have sz135 : (s_125 ++ s_127).size ≤ maxLen := by rw [size_add]; unfold maxLen; exact sb135
          have st135 := size_add s_125 s_127
          refine p_v (v := .string (s_125 ++ s_127)) rfl (wanted_of (j := 14) (want := false) (d := 106) (b := false) rfl rfl (congrArg (fun z => Value.bool (!z)) hc134) rfl) rfl (x_add_str rfl rfl sb135) ?_
          refine p_c rfl (wanted_of (j := 14) (want := false) (d := 106) (b := false) rfl rfl (congrArg (fun z => Value.bool (!z)) hc134) rfl) rfl (y_call (args := [.agg #[.slice A0_0 m.spots.length c0_0, .slice A0_1 m.first.length c0_1, .slice A0_2 m.follow.length c0_2, .slice A0_3 m.last.length c0_3, .bool m.empty], .string (s_125 ++ s_127)]) ca10 rfl rfl) (runN_calls w132 m A0_0 c0_0 b0_0 (l0_0.mono (St.le0 S133)) A0_1 c0_1 b0_1 (l0_1.mono (St.le0 S133)) A0_2 c0_2 b0_2 (l0_2.mono (St.le0 S133)) A0_3 c0_3 b0_3 (l0_3.mono (St.le0 S133)) (s_125 ++ s_127) sz135) ?_
          rintro _ w136 ⟨h136, T136, rfl⟩
          have S137 := S133.keep (Chg.of_below T136.below)
          refine p_v (v := .bool (!(runM m (s_125 ++ s_127)))) rfl (wanted_of (j := 14) (want := false) (d := 106) (b := false) rfl rfl (congrArg (fun z => Value.bool (!z)) hc134) rfl) rfl (x_not rfl) ?_
          refine p_v (v := .bool (!(runM m (s_125 ++ s_127)))) rfl rfl rfl (x_pick_f (congrArg (fun z => Value.bool (!z)) hc134) rfl) ?_
          refine run_region_end ?_
          have hc138 : (runM m (s_125 ++ s_127)) = true := by
            exact trim_text2 hR_ hi0_ (by omega) (by assumption) (by assumption)
          refine run_cond (b := false) (congrArg (fun z => Value.bool (!z)) hc138) ?_
          simp only [if_true, if_false, Bool.false_eq_true]
          refine run_skip ?_
          refine run_inBlock ?_
          refine run_reg (l := [0, 1, 2]) rfl ?_
          refine p_v (v := .int .i64 i) rfl rfl rfl (x_move r123_9) ?_
          refine p_v (v := .int .i64 (i + 1)) rfl rfl rfl (x_add rfl rfl (in_i64 (by first|omega|(simp;omega)|assumption) (by first|omega|(simp;omega)|assumption))) ?_
          refine p_v (v := .int .i64 (i + 1)) rfl rfl rfl (x_assign rfl) ?_
          refine run_region_end ?_
          refine ih123 (i + 1) _ _ (by dsimp only; omega) ⟨h123, le123, S137.sub [0, 1] (by decide) rfl _ rfl, r123_2, r123_5, rfl, (in_i64 (by first|omega|(simp;omega)|assumption) (by first|omega|(simp;omega)|assumption)), (by omega)⟩
        · skip
          refine run_exit rfl ?_
          refine run_seq ?_
          refine run_reg (l := [0, 1]) rfl ?_
          refine p_c rfl rfl rfl (y_call (args := []) ca6 rfl rfl) (awake10_calls w123 ) ?_
          rintro _ w139 ⟨h139, T139, rfl⟩
          have S140 := S123.keep (Chg.of_below T139.below)
          refine p_v (v := .bool true) rfl rfl rfl (x_assign rfl) ?_
          refine run_region_end ?_
          refine run_ret Tryd.func3 (res1 rfl (res_tmp (v := .bool true) rfl)) ?_
          have q0 : (true : Bool) = true := rfl
          refine ⟨_, rfl, h123, ?_, ?_⟩
          · exact S140.sub [] (by decide) rfl _ rfl
          · rfl
end Go.Proofs.YtdfkpjchnndniaaDoor
