/- My own library for walks through the translated code, and the walks of the functions that the law SeekPaths comes to, part 6; no conditions but those that each contract tells. -/
import Derived.Test.YtfoemogojbnfhaaDoorLSeekPaths4
namespace Go.Proofs.YtfoemogojbnfhaaDoor
open Go Go.RowKit Gx
set_option maxHeartbeats 1000000
set_option linter.unusedVariables false
set_option linter.unusedSimpArgs false
set_option maxRecDepth 8000
attribute [local irreducible] listOf count first someIn has setOf wbits Lib.ctz rises rightM rowOk tab markP intoP behindP runTo endsIn runM anyTo allTo lessL lessW strLt cmpW cmpI orI wordW okW wordS wordT revTo leL
theorem key3 : KeyK Tryd.prog 3 (fun x : Int => Value.int .i64 x) := keyk_int u3
theorem path_calls (w : World) (m : Mach) (A0_0 : Option Addr) (c0_0 : Nat) (b0_0 : m.spots.length ≤ c0_0 ∧ c0_0 ≤ maxLen) (l0_0 : Leads kSpot (hp w) A0_0 m.spots) (A0_1 : Option Addr) (c0_1 : Nat) (b0_1 : m.first.length ≤ c0_1 ∧ c0_1 ≤ maxLen) (l0_1 : Leads (Kd.int .i64) (hp w) A0_1 m.first) (A0_2 : Option Addr) (c0_2 : Nat) (b0_2 : m.follow.length ≤ c0_2 ∧ c0_2 ≤ maxLen) (l0_2 : Leads (Kd.int .i64).slice (hp w) A0_2 m.follow) (A0_3 : Option Addr) (c0_3 : Nat) (b0_3 : m.last.length ≤ c0_3 ∧ c0_3 ≤ maxLen) (l0_3 : Leads Kd.bool (hp w) A0_3 m.last) (tb : Block 0 tzTab w) :
    Calls Tryd.prog 62 #[.agg #[.slice A0_0 m.spots.length c0_0, .slice A0_1 m.first.length c0_1, .slice A0_2 m.follow.length c0_2, .slice A0_3 m.last.length c0_3, .bool m.empty]] w fun e w' => ∃ v, e = .returned v ∧ ∃ (hn : Ghost), St w.heap.size w hn w' [] ∧ v = .tuple #[.string (wordW (runM m)), .bool (okW (runM m))] ∧ (wordW (runM m)).size ≤ maxLen ∧ ((okW (runM m) = true → ((wordW (runM m)).size : Int) ≤ m.spots.length) ∧ (okW (runM m) = false → ∀ w, runM m w = false)) := by
 refine calls_of_run Tryd.func62 rfl Tryd.ntmps62 rfl ?_
 have S0 := St.init w
 have bb0_0 := b0_0.1; have bc0_0 := b0_0.2; simp only [maxLen] at bc0_0
 have bb0_1 := b0_1.1; have bc0_1 := b0_1.2; simp only [maxLen] at bc0_1
 have bb0_2 := b0_2.1; have bc0_2 := b0_2.2; simp only [maxLen] at bc0_2
 have bb0_3 := b0_3.1; have bc0_3 := b0_3.2; simp only [maxLen] at bc0_3
 refine run_seq ?_
 refine run_reg (l := [0, 1, 2]) rfl ?_
 obtain ⟨b1, w1, r1, g1, T1⟩ := e_box (P := Tryd.prog) S0 27 (v := .agg #[.slice A0_0 m.spots.length c0_0, .slice A0_1 m.first.length c0_1, .slice A0_2 m.follow.length c0_2, .slice A0_3 m.last.length c0_3, .bool m.empty]) [.slice A0_0 m.spots.length c0_0, .slice A0_1 m.first.length c0_1, .slice A0_2 m.follow.length c0_2, .slice A0_3 m.last.length c0_3, .bool m.empty] rfl
 have S2 := T1
 dsimp only [lAa, lAn, lA0, lAs] at S2
 refine p_v (v := .pointer (some ⟨b1, 0, none⟩)) rfl rfl rfl (x_box rfl r1) ?_
 refine p_v (v := .string (⟨#[]⟩ : ByteArray)) rfl rfl rfl (x_assign rfl) ?_
 refine p_v (v := .bool false) rfl rfl rfl (x_assign rfl) ?_
 refine run_region_end ?_
 refine run_seq ?_
 refine run_block ?_
 refine run_seq ?_
 refine run_reg (l := [0, 1, 2, 3]) rfl ?_
 refine p_v (v := .agg #[.slice A0_0 m.spots.length c0_0, .slice A0_1 m.first.length c0_1, .slice A0_2 m.follow.length c0_2, .slice A0_3 m.last.length c0_3, .bool m.empty]) rfl rfl rfl (x_load (seg := [.slice A0_0 m.spots.length c0_0, .slice A0_1 m.first.length c0_1, .slice A0_2 m.follow.length c0_2, .slice A0_3 m.last.length c0_3, .bool m.empty]) ty27 rfl (by simp) rfl (CF.box (m := 5) (S2.box_at (j := 0) rfl) rfl)) ?_
 refine p_c rfl rfl rfl (y_call (args := [.agg #[.slice A0_0 m.spots.length c0_0, .slice A0_1 m.first.length c0_1, .slice A0_2 m.follow.length c0_2, .slice A0_3 m.last.length c0_3, .bool m.empty]]) ca37 rfl rfl) (rightN_calls w1 m A0_0 c0_0 b0_0 (l0_0.mono (St.le0 S2)) A0_1 c0_1 b0_1 (l0_1.mono (St.le0 S2)) A0_2 c0_2 b0_2 (l0_2.mono (St.le0 S2)) A0_3 c0_3 b0_3 (l0_3.mono (St.le0 S2))) ?_
 rintro _ w3 ⟨h3, T3, rfl⟩
 have S4 := S2.keep (Chg.of_below T3.below)
 refine p_v (v := .bool (!(rightM m))) rfl rfl rfl (x_not rfl) ?_
 refine p_v (v := .bool (!(rightM m))) rfl rfl rfl (x_assign rfl) ?_
 refine run_region_end ?_
 refine run_cond_nsplit (b := rightM m) rfl (fun hc5 => ?_) (fun hc5 => ?_)
 ·skip
  refine run_seq ?_
  refine run_reg (l := [0, 1]) rfl ?_
  refine p_v (v := .string (⟨#[]⟩ : ByteArray)) rfl rfl rfl (x_assign rfl) ?_
  refine p_v (v := .bool false) rfl rfl rfl (x_assign rfl) ?_
  refine run_region_end ?_
  refine run_ret Tryd.func62 (res2 rfl (res_tmp (v := .string (⟨#[]⟩ : ByteArray)) rfl) (res_tmp (v := .bool false) rfl)) ?_
  have q0 : (wordW (runM m) : ByteArray) = (⟨#[]⟩ : ByteArray) := by
   first | exact (word_no (fun w => run_wrong m w (by assumption))).1 | exact (word_is (empty_least hrm_ (by assumption))).1 | exact (word_is (lev_found hL_ hR_ he_ hE4_ hd2_).1).1 | exact (word_no (lev_none hL_ hR_ he_ (List.eq_nil_of_length_eq_zero (by omega)))).1
  have q1 : (okW (runM m) : Bool) = false := by
   first | exact (word_no (fun w => run_wrong m w (by assumption))).2 | exact (word_is (empty_least hrm_ (by assumption))).2 | exact (word_is (lev_found hL_ hR_ he_ hE4_ hd2_).1).2 | exact (word_no (lev_none hL_ hR_ he_ (List.eq_nil_of_length_eq_zero (by omega)))).2
  refine ⟨_, rfl, (fun _ => none), ?_, ?_, ?_, ?_⟩
  · exact S4.sub [] (by decide) rfl _ rfl
  · first | rfl | (simp only [q0, q1]; rfl) | (simp only [q0, q1])
  · rw [q0]; first | assumption | exact (by decide)
  ·show (okW (runM m) = true → ((wordW (runM m)).size : Int) ≤ m.spots.length) ∧ (okW (runM m) = false → ∀ w, runM m w = false)
   first | exact path_size0 (fun w => run_wrong m w (by assumption)) | exact path_size (empty_least hrm_ (by assumption)) (by show (0 : Int) ≤ _; omega) | exact path_size (lev_found hL_ hR_ he_ hE4_ hd2_).1 (by rw [(lev_found hL_ hR_ he_ hE4_ hd2_).2]; exact lev_less hL_ hne_) | exact path_size0 (lev_none hL_ hR_ he_ (List.eq_nil_of_length_eq_zero (by omega)))
 ·skip
  have hrm_ := hc5; have hR_ := right_iff.1 hc5
  have hsm_ := hR_.small; have hfo_ := hR_.follow; have hla_ := hR_.last
  refine run_seq ?_
  refine run_reg (l := [0, 1, 2]) rfl ?_
  refine p_v (v := .pointer (some ⟨b1, 4, none⟩)) rfl rfl rfl (x_fieldAt fd27_4 ty4 rfl rfl) ?_
  refine p_v (v := .bool m.empty) rfl rfl rfl (x_load (seg := [.bool m.empty]) ty4 rfl (by simp) rfl (CF.box (m := 1) (S4.box_at (j := 0) rfl) rfl)) ?_
  refine p_v (v := .bool m.empty) rfl rfl rfl (x_assign rfl) ?_
  refine run_region_end ?_
  refine run_cond_split (b := m.empty) rfl (fun hc6 => ?_) (fun hc6 => ?_)
  ·skip
   refine run_seq ?_
   refine run_reg (l := [0, 1]) rfl ?_
   refine p_v (v := .string (⟨#[]⟩ : ByteArray)) rfl rfl rfl (x_assign rfl) ?_
   refine p_v (v := .bool true) rfl rfl rfl (x_assign rfl) ?_
   refine run_region_end ?_
   refine run_ret Tryd.func62 (res2 rfl (res_tmp (v := .string (⟨#[]⟩ : ByteArray)) rfl) (res_tmp (v := .bool true) rfl)) ?_
   have q0 : (wordW (runM m) : ByteArray) = (⟨#[]⟩ : ByteArray) := by
    first | exact (word_no (fun w => run_wrong m w (by assumption))).1 | exact (word_is (empty_least hrm_ (by assumption))).1 | exact (word_is (lev_found hL_ hR_ he_ hE4_ hd2_).1).1 | exact (word_no (lev_none hL_ hR_ he_ (List.eq_nil_of_length_eq_zero (by omega)))).1
   have q1 : (okW (runM m) : Bool) = true := by
    first | exact (word_no (fun w => run_wrong m w (by assumption))).2 | exact (word_is (empty_least hrm_ (by assumption))).2 | exact (word_is (lev_found hL_ hR_ he_ hE4_ hd2_).1).2 | exact (word_no (lev_none hL_ hR_ he_ (List.eq_nil_of_length_eq_zero (by omega)))).2
   refine ⟨_, rfl, (fun _ => none), ?_, ?_, ?_, ?_⟩
   · exact S4.sub [] (by decide) rfl _ rfl
   · first | rfl | (simp only [q0, q1]; rfl) | (simp only [q0, q1])
   · rw [q0]; first | assumption | exact (by decide)
   ·show (okW (runM m) = true → ((wordW (runM m)).size : Int) ≤ m.spots.length) ∧ (okW (runM m) = false → ∀ w, runM m w = false)
    first | exact path_size0 (fun w => run_wrong m w (by assumption)) | exact path_size (empty_least hrm_ (by assumption)) (by show (0 : Int) ≤ _; omega) | exact path_size (lev_found hL_ hR_ he_ hE4_ hd2_).1 (by rw [(lev_found hL_ hR_ he_ hE4_ hd2_).2]; exact lev_less hL_ hne_) | exact path_size0 (lev_none hL_ hR_ he_ (List.eq_nil_of_length_eq_zero (by omega)))
  ·skip
   have he_ := hc6
   refine run_skip ?_
   refine run_inBlock ?_
   refine run_seq ?_
   refine run_reg (l := [0, 1, 2, 3, 4]) rfl ?_
   refine p_v (v := .pointer (some ⟨b1, 0, none⟩)) rfl rfl rfl (x_fieldAt fd27_0 ty22 rfl rfl) ?_
   refine p_v (v := .slice A0_0 m.spots.length c0_0) rfl rfl rfl (x_load (seg := [.slice A0_0 m.spots.length c0_0]) ty22 rfl (by simp) rfl (CF.box (m := 1) (S4.box_at (j := 0) rfl) rfl)) ?_
   refine p_v (v := .int .i64 (m.spots.length : Int)) rfl rfl rfl (x_len_slice u22 rfl) ?_
   obtain ⟨v7, w7, r7, g7, T7⟩ := e_make (kk := .i64) (kk' := .i64) (kd := Kd.bool) (q := (m.spots.length : Int)) (z := false) (zc := [.bool false]) S4 u25 ty4 rfl rfl ⟨rfl, trivial⟩ (by first|omega|(simp;omega)|assumption|simp) (by first|omega|(simp;omega)|assumption|simp) (by first|omega|(simp;omega)|assumption|simp)
   have S8 := T7
   dsimp only [lAa, lAn, lA0, lAs] at S8
   refine p_v (v := v7) rfl rfl rfl (x_make rfl rfl r7) ?_
   refine p_v (v := v7) rfl rfl rfl (x_assign rfl) ?_
   refine run_region_end ?_
   refine run_seq ?_
   refine run_reg (l := [0, 1]) rfl ?_
   obtain ⟨b9, w9, r9, g9, T9⟩ := e_makeMap (P := Tryd.prog) S8 169 (fun x : Int => Value.int .i64 x) (fun x : ByteArray => Value.string x)
   have S10 := T9
   dsimp only [lAa, lAn, lA0, lAs] at S10
   refine p_v (v := .map (some b9)) rfl rfl rfl (x_makeMap r9) ?_
   refine p_v (v := .map (some b9)) rfl rfl rfl (x_assign rfl) ?_
   refine run_region_end ?_
   refine run_seq ?_
   refine run_seq ?_
   refine run_reg (l := [0, 1, 2, 3]) rfl ?_
   refine p_v (v := .pointer (some ⟨b1, 1, none⟩)) rfl rfl rfl (x_fieldAt fd27_1 ty23 rfl rfl) ?_
   refine p_v (v := .slice A0_1 m.first.length c0_1) rfl rfl rfl (x_load (seg := [.slice A0_1 m.first.length c0_1]) ty23 rfl (by simp) rfl (CF.box (m := 1) (S10.box_at (j := 0) rfl) rfl)) ?_
   refine p_v (v := .int .i64 (m.first.length : Int)) rfl rfl rfl (x_len_slice u23 rfl) ?_
   refine p_v (v := .int .i64 0) rfl rfl rfl (x_move rfl) ?_
   refine run_region_end ?_
   refine run_block ?_
   refine run_loop (S := (List (Int × ByteArray)) × Int) (fun (q_ : (List (Int × ByteArray)) × Int) ρ w' => match q_ with | (xat, t31) => ∃ (h : Ghost), Le (fun _ => none) h ∧ St w.heap.size w h w' [box b1 27 [.slice A0_0 m.spots.length c0_0, .slice A0_1 m.first.length c0_1, .slice A0_2 m.follow.length c0_2, .slice A0_3 m.last.length c0_3, .bool m.empty], row 4 Kd.bool v7 (List.replicate ((m.spots.length : Int)).toNat false), amap (fun x : Int => Value.int .i64 x) (fun x : ByteArray => Value.string x) b9 xat] ∧ ρ 1 = .pointer (some ⟨b1, 0, none⟩) ∧ ρ 4 = v7 ∧ ρ 5 = .map (some b9) ∧ ρ 29 = .slice A0_1 m.first.length c0_1 ∧ ρ 30 = .int .i64 (m.first.length : Int) ∧ ρ 31 = .int .i64 t31 ∧ inK .i64 t31 ∧ (0 ≤ t31 ∧ t31 ≤ (m.first.length : Int) ∧ Off 1 (O1 m t31) xat)) (fun q_ => match q_ with | (xat, t31) => (m.first.length - t31).toNat) (([] : List (Int × ByteArray)), 0) ⟨(fun _ => none), Le.refl _, S10.sub [0, 1, 2] (by decide) rfl _ rfl, rfl, rfl, rfl, rfl, rfl, rfl, (in_i64 (by first|omega|(simp;omega)|assumption|simp) (by first|omega|(simp;omega)|assumption|simp)), (by exact ⟨by omega, by omega, o1_0 m⟩)⟩ ?_
   rintro ⟨xat, t31⟩ ih11 ρ11 w11 ⟨h11, le11, S11, r11_1, r11_4, r11_5, r11_29, r11_30, r11_31, f11_0, hI11⟩
   have lf11_0 := i64_lo f11_0; have hf11_0 := i64_hi f11_0
   have rl11_1 := S11.row_le (j := 1) rfl; simp only [maxLen] at rl11_1
   have hx0_ : t31 < (m.first.length : Int) → 0 ≤ at_ m.first t31 ∧ at_ m.first t31 < (m.spots.length : Int) := fun h => hR_.firsts _ (at_mem hI11.1 h)
   refine run_seq ?_
   refine run_reg (l := [0]) rfl ?_
   refine p_v (v := .bool (decide (t31 < (m.first.length : Int)))) rfl rfl rfl (x_lss r11_31 r11_30) ?_
   refine run_region_end ?_
   refine run_seq ?_
   refine run_cond_prop (p := t31 < (m.first.length : Int)) rfl (fun hc12 => ?_) (fun hc12 => ?_)
   ·skip
    refine run_skip ?_
    refine run_seq ?_
    refine run_block ?_
    refine run_seq ?_
    refine run_reg (l := [0, 1, 2]) rfl ?_
    obtain ⟨ad13, seg13, a13, rp13, ce13⟩ := e_index_ro (q := t31) (m := 1) l0_1 rfl (by first|omega|(simp;omega)|assumption|simp) (by first|omega|(simp;omega)|assumption|simp)
    refine p_v (v := .pointer (some ad13)) rfl rfl rfl (x_index_ro u23 ty3 r11_29 r11_31 a13 (by first|omega|(simp;omega)|assumption|simp) (by first|omega|(simp;omega)|assumption|simp)) ?_
    obtain ⟨rfl, in13⟩ := rp13
    have lo13 := i64_lo in13; have hi13 := i64_hi in13
    refine p_v (v := .int .i64 (at_ m.first t31)) rfl rfl rfl (x_load (seg := [.int .i64 (at_ m.first t31)]) ty3 rfl (by simp) rfl (CF.ghost ce13 (St.le0 S11))) ?_
    refine p_v (v := .int .i64 (at_ m.first t31)) rfl rfl rfl (x_assign rfl) ?_
    refine run_region_end ?_
    refine run_reg (l := [0, 1, 2, 3]) rfl ?_
    refine p_v (v := .map (some b9)) rfl rfl rfl (x_move r11_5) ?_
    refine p_v (v := .agg #[.slice A0_0 m.spots.length c0_0, .slice A0_1 m.first.length c0_1, .slice A0_2 m.follow.length c0_2, .slice A0_3 m.last.length c0_3, .bool m.empty]) rfl rfl rfl (x_load (seg := [.slice A0_0 m.spots.length c0_0, .slice A0_1 m.first.length c0_1, .slice A0_2 m.follow.length c0_2, .slice A0_3 m.last.length c0_3, .bool m.empty]) ty27 rfl (by simp) r11_1 (CF.box (m := 5) (S11.box_at (j := 0) rfl) rfl)) ?_
    refine p_v (v := .int .i64 (at_ m.first t31)) rfl rfl rfl (x_move rfl) ?_
    refine p_i rfl rfl rfl (y_call (args := [.map (some b9), .agg #[.slice A0_0 m.spots.length c0_0, .slice A0_1 m.first.length c0_1, .slice A0_2 m.follow.length c0_2, .slice A0_3 m.last.length c0_3, .bool m.empty], .int .i64 (at_ m.first t31), .string (⟨#[]⟩ : ByteArray)]) ca124 rfl rfl) (calls_of_run Tryd.func124 rfl Tryd.ntmps124 rfl ?_)
    refine run_seq ?_
    refine run_reg (l := [0]) rfl ?_
    obtain ⟨b14, w14, r14, g14, T14⟩ := e_box (P := Tryd.prog) S11 27 (v := .agg #[.slice A0_0 m.spots.length c0_0, .slice A0_1 m.first.length c0_1, .slice A0_2 m.follow.length c0_2, .slice A0_3 m.last.length c0_3, .bool m.empty]) [.slice A0_0 m.spots.length c0_0, .slice A0_1 m.first.length c0_1, .slice A0_2 m.follow.length c0_2, .slice A0_3 m.last.length c0_3, .bool m.empty] rfl
    have S15 := T14
    dsimp only [lAa, lAn, lA0, lAs] at S15
    refine p_v (v := .pointer (some ⟨b14, 0, none⟩)) rfl rfl rfl (x_box rfl r14) ?_
    refine run_region_end ?_
    refine run_seq ?_
    refine run_reg (l := [0, 1, 2, 3, 4, 5, 6, 7, 8, 9, 10, 11]) rfl ?_
    refine p_v (v := .pointer (some ⟨b14, 0, none⟩)) rfl rfl rfl (x_fieldAt fd27_0 ty22 rfl rfl) ?_
    refine p_v (v := .slice A0_0 m.spots.length c0_0) rfl rfl rfl (x_load (seg := [.slice A0_0 m.spots.length c0_0]) ty22 rfl (by simp) rfl (CF.box (m := 1) (S15.box_at (j := 3) rfl) rfl)) ?_
    refine p_v (v := .int .i64 (at_ m.first t31)) rfl rfl rfl (x_move rfl) ?_
    obtain ⟨ad16, seg16, a16, rp16, ce16⟩ := e_index_ro (q := at_ m.first t31) (m := 5) l0_0 rfl (by first|omega|(simp;omega)|assumption|simp) (by first|omega|(simp;omega)|assumption|simp)
    refine p_v (v := .pointer (some ad16)) rfl rfl rfl (x_index_ro u22 ty101 rfl rfl a16 (by first|omega|(simp;omega)|assumption|simp) (by first|omega|(simp;omega)|assumption|simp)) ?_
    obtain ⟨rfl, ok16⟩ := rp16
    have slook16 := u8_lo ok16; have shiok16 := u8_hi ok16
    refine p_v (v := .pointer (some (ad16.add 0))) rfl rfl rfl (x_fieldAd fd101_0 ty74 rfl rfl) ?_
    refine p_v (v := .agg (encSet ((at_ m.spots (at_ m.first t31)).set)).toArray) rfl rfl rfl (x_load (seg := (encSet ((at_ m.spots (at_ m.first t31)).set))) ty74 rfl (by simp) rfl (CF.ghost (sub_seg (o := 0) (m := 4) (ds := (encSet ((at_ m.spots (at_ m.first t31)).set))) ce16 rfl) (St.le0 S15))) ?_
    refine p_c rfl rfl rfl (y_call (args := [.agg (encSet ((at_ m.spots (at_ m.first t31)).set)).toArray]) ca158 rfl rfl) (first_calls w14 ((at_ m.spots (at_ m.first t31)).set) (Block.st S15 tb)) ?_
    rintro _ w18 ⟨h18, T18, rfl, in18_0⟩
    have S19 := S15.keep (Chg.of_below T18.below)
    have lo_in18_0 := u8_lo in18_0; have hi_in18_0 := u8_hi in18_0
    refine p_v (v := .tuple #[.int .u8 (first ((at_ m.spots (at_ m.first t31)).set)), .bool (someIn ((at_ m.spots (at_ m.first t31)).set))]) rfl rfl rfl (x_move rfl) ?_
    refine p_v (v := .int .u8 (first ((at_ m.spots (at_ m.first t31)).set))) rfl rfl rfl (x_extract (vs := [.int .u8 (first ((at_ m.spots (at_ m.first t31)).set)), .bool (someIn ((at_ m.spots (at_ m.first t31)).set))]) rfl rfl) ?_
    refine p_v (v := .bool (someIn ((at_ m.spots (at_ m.first t31)).set))) rfl rfl rfl (x_extract (vs := [.int .u8 (first ((at_ m.spots (at_ m.first t31)).set)), .bool (someIn ((at_ m.spots (at_ m.first t31)).set))]) rfl rfl) ?_
    refine p_v (v := .int .u8 (first ((at_ m.spots (at_ m.first t31)).set))) rfl rfl rfl (x_assign rfl) ?_
    refine p_v (v := .bool (someIn ((at_ m.spots (at_ m.first t31)).set))) rfl rfl rfl (x_assign rfl) ?_
    refine run_region_end ?_
    refine run_seq ?_
    refine run_seq ?_
    refine run_reg (l := [0, 1]) rfl ?_
    refine p_v (v := .bool (someIn ((at_ m.spots (at_ m.first t31)).set))) rfl rfl rfl (x_move rfl) ?_
    refine p_v (v := .bool (!(someIn ((at_ m.spots (at_ m.first t31)).set)))) rfl rfl rfl (x_not rfl) ?_
    refine run_region_end ?_
    refine run_cond_nsplit (b := someIn ((at_ m.spots (at_ m.first t31)).set)) rfl (fun hc20 => ?_) (fun hc20 => ?_)
    ·skip
     refine run_ret Tryd.func124 (res0 rfl) ?_
     refine ⟨_, rfl, ?_⟩
     refine run_region_end ?_
     refine run_inBlock ?_
     refine run_reg (l := [0, 1]) rfl ?_
     refine p_v (v := .int .i64 (t31 + 1)) rfl rfl rfl (x_add r11_31 rfl (in_i64 (by first|omega|(simp;omega)|assumption|simp) (by first|omega|(simp;omega)|assumption|simp))) ?_
     refine p_v (v := .int .i64 (t31 + 1)) rfl rfl rfl (x_move rfl) ?_
     refine run_region_end ?_
     refine ih11 (xat, t31 + 1) _ _ (by dsimp only; omega) ⟨h11, le11, S19.sub [0, 1, 2] (by decide) rfl _ rfl, r11_1, r11_4, r11_5, r11_29, r11_30, rfl, (in_i64 (by first|omega|(simp;omega)|assumption|simp) (by first|omega|(simp;omega)|assumption|simp)), (by first | exact ⟨by omega, by omega, o1_none hI11.2.2 (by assumption)⟩ | exact ⟨by omega, by omega, o1_put hI11.1 hI11.2.2 (by assumption) (.inl (by assumption))⟩ | exact ⟨by omega, by omega, o1_put hI11.1 hI11.2.2 (by assumption) (.inr (by assumption))⟩ | exact ⟨by omega, by omega, o1_keep hI11.1 hI11.2.2 (by assumption) (by assumption) (by assumption)⟩)⟩
    ·skip
     refine run_skip ?_
     refine run_seq ?_
     refine run_reg (l := [0, 1, 2, 3, 4, 5]) rfl ?_
     refine p_v (v := .string (⟨#[]⟩ : ByteArray)) rfl rfl rfl (x_move rfl) ?_
     refine p_v (v := .int .u8 (first ((at_ m.spots (at_ m.first t31)).set))) rfl rfl rfl (x_move rfl) ?_
     obtain ⟨v21, w21, r21, g21, T21⟩ := e_build_ones (kd := (Kd.int .u8)) (xs := ([first ((at_ m.spots (at_ m.first t31)).set)] : List Int)) (len := 1) [.int .u8 (first ((at_ m.spots (at_ m.first t31)).set))] S19 u39 ty5 rfl rfl rfl rfl rfl (ones_cons rfl ones_nil) [.int .u8 (first ((at_ m.spots (at_ m.first t31)).set))] (Elems.single (k := (Kd.int .u8)) (h := h11) (x := first ((at_ m.spots (at_ m.first t31)).set)) (cs := [.int .u8 (first ((at_ m.spots (at_ m.first t31)).set))]) ⟨rfl, in18_0⟩) rfl
     have S22 := T21
     dsimp only [lAa, lAn, lA0, lAs] at S22
     refine p_v (v := v21) rfl rfl rfl (y_build_slice (pv := [(0, .int .u8 (first ((at_ m.spots (at_ m.first t31)).set)))]) rfl r21) ?_
     obtain ⟨A23, c23, ev23, lc23, cm23⟩ := S22.row_val (j := 4) rfl
     have sz24 := str_small (xs := ([first ((at_ m.spots (at_ m.first t31)).set)] : List Int)) (Nat.le_trans (And.intro lc23 cm23).1 (And.intro lc23 cm23).2); have bdsz24 := sz24; simp only [maxLen] at bdsz24
     refine p_v (v := .string (strOfNums ([first ((at_ m.spots (at_ m.first t31)).set)] : List Int))) rfl rfl rfl (x_bytes_string u39 u5 u9 ev23 (row_leads_eq S22 (j := 4) rfl ev23)) ?_
     have sb25 : (⟨#[]⟩ : ByteArray).size + (strOfNums ([first ((at_ m.spots (at_ m.first t31)).set)] : List Int)).size ≤ 9223372036854775807 := by first | omega | (simp only [str_one]; omega) | (simp only [str_one, size_nil]; omega)
     have sz25 : ((⟨#[]⟩ : ByteArray) ++ (strOfNums ([first ((at_ m.spots (at_ m.first t31)).set)] : List Int))).size ≤ maxLen := by rw [size_add]; unfold maxLen; exact sb25
     have st25 := size_add (⟨#[]⟩ : ByteArray) (strOfNums ([first ((at_ m.spots (at_ m.first t31)).set)] : List Int))
     refine p_v (v := .string ((⟨#[]⟩ : ByteArray) ++ (strOfNums ([first ((at_ m.spots (at_ m.first t31)).set)] : List Int)))) rfl rfl rfl (x_add_str rfl rfl sb25) ?_
     refine p_v (v := .string ((⟨#[]⟩ : ByteArray) ++ (strOfNums ([first ((at_ m.spots (at_ m.first t31)).set)] : List Int)))) rfl rfl rfl (x_assign rfl) ?_
     refine run_region_end ?_
     refine run_seq ?_
     refine run_reg (l := [0, 1, 2, 3, 4, 5, 6, 7]) rfl ?_
     refine p_v (v := .map (some b9)) rfl rfl rfl (x_move rfl) ?_
     refine p_v (v := .int .i64 (at_ m.first t31)) rfl rfl rfl (x_move rfl) ?_
     have sz26 : ((valAt (at_ m.first t31) xat).getD (⟨#[]⟩ : ByteArray)).size ≤ maxLen := by
      first | (have hz_ := val_size hI_.2.2 (n := (at_ m.first t31)) (by omega); unfold maxLen; omega) | (have hz_ := val_size hI11.2.2 (n := (at_ m.first t31)) (by omega); unfold maxLen; omega)
     refine p_v (v := .tuple #[.string ((valAt (at_ m.first t31) xat).getD (⟨#[]⟩ : ByteArray)), .bool ((valAt (at_ m.first t31) xat).isSome)]) rfl rfl rfl (x_lookup (a := .map (some b9)) (k := .int .i64 (at_ m.first t31)) rfl rfl (e_lookup_h (kvs := xat) key3 (S22.map_at (j := 2) rfl) u169 (zero_cells ty9) (⟨#[]⟩ : ByteArray) (at_ m.first t31))) ?_
     refine p_v (v := .tuple #[.string ((valAt (at_ m.first t31) xat).getD (⟨#[]⟩ : ByteArray)), .bool ((valAt (at_ m.first t31) xat).isSome)]) rfl rfl rfl (x_move rfl) ?_
     refine p_v (v := .string ((valAt (at_ m.first t31) xat).getD (⟨#[]⟩ : ByteArray))) rfl rfl rfl (x_extract (vs := [.string ((valAt (at_ m.first t31) xat).getD (⟨#[]⟩ : ByteArray)), .bool ((valAt (at_ m.first t31) xat).isSome)]) rfl rfl) ?_
     refine p_v (v := .bool ((valAt (at_ m.first t31) xat).isSome)) rfl rfl rfl (x_extract (vs := [.string ((valAt (at_ m.first t31) xat).getD (⟨#[]⟩ : ByteArray)), .bool ((valAt (at_ m.first t31) xat).isSome)]) rfl rfl) ?_
     refine p_v (v := .string ((valAt (at_ m.first t31) xat).getD (⟨#[]⟩ : ByteArray))) rfl rfl rfl (x_assign rfl) ?_
     refine p_v (v := .bool ((valAt (at_ m.first t31) xat).isSome)) rfl rfl rfl (x_assign rfl) ?_
     refine run_region_end ?_
     refine run_seq ?_
     refine run_reg (l := [0, 1, 2, 3, 4, 5, 6]) rfl ?_
     refine p_v (v := .bool ((valAt (at_ m.first t31) xat).isSome)) rfl rfl rfl (x_move rfl) ?_
     refine p_v (v := .bool (!((valAt (at_ m.first t31) xat).isSome))) rfl rfl rfl (x_not rfl) ?_
     refine p_v (v := .bool (!((valAt (at_ m.first t31) xat).isSome))) rfl rfl rfl (x_move rfl) ?_
     rcases Bool.eq_false_or_eq_true ((valAt (at_ m.first t31) xat).isSome) with hc27 | hc27
     ·skip
      refine p_v (v := .string ((⟨#[]⟩ : ByteArray) ++ (strOfNums ([first ((at_ m.spots (at_ m.first t31)).set)] : List Int)))) rfl (wanted_of (j := 2) (want := false) (d := 38) (b := false) rfl rfl (congrArg (fun z => Value.bool (!z)) hc27) rfl) rfl (x_move rfl) ?_
      refine p_v (v := .string ((valAt (at_ m.first t31) xat).getD (⟨#[]⟩ : ByteArray))) rfl (wanted_of (j := 2) (want := false) (d := 38) (b := false) rfl rfl (congrArg (fun z => Value.bool (!z)) hc27) rfl) rfl (x_move rfl) ?_
      refine p_v (v := .bool (strLt ((⟨#[]⟩ : ByteArray) ++ (strOfNums ([first ((at_ m.spots (at_ m.first t31)).set)] : List Int))) ((valAt (at_ m.first t31) xat).getD (⟨#[]⟩ : ByteArray)))) rfl (wanted_of (j := 2) (want := false) (d := 38) (b := false) rfl rfl (congrArg (fun z => Value.bool (!z)) hc27) rfl) rfl (x_lss_string rfl rfl) ?_
      refine p_v (v := .bool (strLt ((⟨#[]⟩ : ByteArray) ++ (strOfNums ([first ((at_ m.spots (at_ m.first t31)).set)] : List Int))) ((valAt (at_ m.first t31) xat).getD (⟨#[]⟩ : ByteArray)))) rfl rfl rfl (x_pick_f (congrArg (fun z => Value.bool (!z)) hc27) rfl) ?_
      refine run_region_end ?_
      refine run_cond_split (b := strLt ((⟨#[]⟩ : ByteArray) ++ (strOfNums ([first ((at_ m.spots (at_ m.first t31)).set)] : List Int))) ((valAt (at_ m.first t31) xat).getD (⟨#[]⟩ : ByteArray))) rfl (fun hc28 => ?_) (fun hc28 => ?_)
      ·skip
       refine run_reg (l := [0, 1, 2, 3]) rfl ?_
       refine p_v (v := .map (some b9)) rfl rfl rfl (x_move rfl) ?_
       refine p_v (v := .int .i64 (at_ m.first t31)) rfl rfl rfl (x_move rfl) ?_
       refine p_v (v := .string ((⟨#[]⟩ : ByteArray) ++ (strOfNums ([first ((at_ m.spots (at_ m.first t31)).set)] : List Int)))) rfl rfl rfl (x_move rfl) ?_
       obtain ⟨w29, r29, g29, T29⟩ := e_mapUpdate key3 S22 (j := 2) rfl u169 (at_ m.first t31) ((⟨#[]⟩ : ByteArray) ++ (strOfNums ([first ((at_ m.spots (at_ m.first t31)).set)] : List Int)))
       have S30 := T29.fx 2 (amap (fun x : Int => Value.int .i64 x) (fun x : ByteArray => Value.string x) b9 (putAt (at_ m.first t31) ((⟨#[]⟩ : ByteArray) ++ (strOfNums ([first ((at_ m.spots (at_ m.first t31)).set)] : List Int))) xat)) rfl
       dsimp only [lAa, lAn, lA0, lAs] at S30
       refine p_s rfl rfl (x_mapUpdate rfl rfl rfl r29) ?_
       refine run_region_end ?_
       refine run_end Tryd.func124 (res0 rfl) ?_
       refine ⟨_, rfl, ?_⟩
       refine run_region_end ?_
       refine run_inBlock ?_
       refine run_reg (l := [0, 1]) rfl ?_
       refine p_v (v := .int .i64 (t31 + 1)) rfl rfl rfl (x_add r11_31 rfl (in_i64 (by first|omega|(simp;omega)|assumption|simp) (by first|omega|(simp;omega)|assumption|simp))) ?_
       refine p_v (v := .int .i64 (t31 + 1)) rfl rfl rfl (x_move rfl) ?_
       refine run_region_end ?_
       refine ih11 (putAt (at_ m.first t31) ((⟨#[]⟩ : ByteArray) ++ (strOfNums ([first ((at_ m.spots (at_ m.first t31)).set)] : List Int))) xat, t31 + 1) _ _ (by dsimp only; omega) ⟨h11, le11, S30.sub [0, 1, 2] (by decide) rfl _ rfl, r11_1, r11_4, r11_5, r11_29, r11_30, rfl, (in_i64 (by first|omega|(simp;omega)|assumption|simp) (by first|omega|(simp;omega)|assumption|simp)), (by first | exact ⟨by omega, by omega, o1_none hI11.2.2 (by assumption)⟩ | exact ⟨by omega, by omega, o1_put hI11.1 hI11.2.2 (by assumption) (.inl (by assumption))⟩ | exact ⟨by omega, by omega, o1_put hI11.1 hI11.2.2 (by assumption) (.inr (by assumption))⟩ | exact ⟨by omega, by omega, o1_keep hI11.1 hI11.2.2 (by assumption) (by assumption) (by assumption)⟩)⟩
      ·skip
       refine run_skip ?_
       refine run_end Tryd.func124 (res0 rfl) ?_
       refine ⟨_, rfl, ?_⟩
       refine run_region_end ?_
       refine run_inBlock ?_
       refine run_reg (l := [0, 1]) rfl ?_
       refine p_v (v := .int .i64 (t31 + 1)) rfl rfl rfl (x_add r11_31 rfl (in_i64 (by first|omega|(simp;omega)|assumption|simp) (by first|omega|(simp;omega)|assumption|simp))) ?_
       refine p_v (v := .int .i64 (t31 + 1)) rfl rfl rfl (x_move rfl) ?_
       refine run_region_end ?_
       refine ih11 (xat, t31 + 1) _ _ (by dsimp only; omega) ⟨h11, le11, S22.sub [0, 1, 2] (by decide) rfl _ rfl, r11_1, r11_4, r11_5, r11_29, r11_30, rfl, (in_i64 (by first|omega|(simp;omega)|assumption|simp) (by first|omega|(simp;omega)|assumption|simp)), (by first | exact ⟨by omega, by omega, o1_none hI11.2.2 (by assumption)⟩ | exact ⟨by omega, by omega, o1_put hI11.1 hI11.2.2 (by assumption) (.inl (by assumption))⟩ | exact ⟨by omega, by omega, o1_put hI11.1 hI11.2.2 (by assumption) (.inr (by assumption))⟩ | exact ⟨by omega, by omega, o1_keep hI11.1 hI11.2.2 (by assumption) (by assumption) (by assumption)⟩)⟩
     ·skip
      refine p_off rfl (wanted_of (j := 2) (want := false) (d := 38) (b := true) rfl rfl (congrArg (fun z => Value.bool (!z)) hc27) rfl) rfl ?_
      refine p_off rfl (wanted_of (j := 2) (want := false) (d := 38) (b := true) rfl rfl (congrArg (fun z => Value.bool (!z)) hc27) rfl) rfl ?_
      refine p_off rfl (wanted_of (j := 2) (want := false) (d := 38) (b := true) rfl rfl (congrArg (fun z => Value.bool (!z)) hc27) rfl) rfl ?_
      refine p_v (v := .bool true) rfl rfl rfl (x_pick_t (congrArg (fun z => Value.bool (!z)) hc27) rfl) ?_
      refine run_region_end ?_
      refine run_cond (b := true) rfl ?_
      simp only [if_true, if_false, Bool.false_eq_true]
      refine run_reg (l := [0, 1, 2, 3]) rfl ?_
      refine p_v (v := .map (some b9)) rfl rfl rfl (x_move rfl) ?_
      refine p_v (v := .int .i64 (at_ m.first t31)) rfl rfl rfl (x_move rfl) ?_
      refine p_v (v := .string ((⟨#[]⟩ : ByteArray) ++ (strOfNums ([first ((at_ m.spots (at_ m.first t31)).set)] : List Int)))) rfl rfl rfl (x_move rfl) ?_
      obtain ⟨w31, r31, g31, T31⟩ := e_mapUpdate key3 S22 (j := 2) rfl u169 (at_ m.first t31) ((⟨#[]⟩ : ByteArray) ++ (strOfNums ([first ((at_ m.spots (at_ m.first t31)).set)] : List Int)))
      have S32 := T31.fx 2 (amap (fun x : Int => Value.int .i64 x) (fun x : ByteArray => Value.string x) b9 (putAt (at_ m.first t31) ((⟨#[]⟩ : ByteArray) ++ (strOfNums ([first ((at_ m.spots (at_ m.first t31)).set)] : List Int))) xat)) rfl
      dsimp only [lAa, lAn, lA0, lAs] at S32
      refine p_s rfl rfl (x_mapUpdate rfl rfl rfl r31) ?_
      refine run_region_end ?_
      refine run_end Tryd.func124 (res0 rfl) ?_
      refine ⟨_, rfl, ?_⟩
      refine run_region_end ?_
      refine run_inBlock ?_
      refine run_reg (l := [0, 1]) rfl ?_
      refine p_v (v := .int .i64 (t31 + 1)) rfl rfl rfl (x_add r11_31 rfl (in_i64 (by first|omega|(simp;omega)|assumption|simp) (by first|omega|(simp;omega)|assumption|simp))) ?_
      refine p_v (v := .int .i64 (t31 + 1)) rfl rfl rfl (x_move rfl) ?_
      refine run_region_end ?_
      refine ih11 (putAt (at_ m.first t31) ((⟨#[]⟩ : ByteArray) ++ (strOfNums ([first ((at_ m.spots (at_ m.first t31)).set)] : List Int))) xat, t31 + 1) _ _ (by dsimp only; omega) ⟨h11, le11, S32.sub [0, 1, 2] (by decide) rfl _ rfl, r11_1, r11_4, r11_5, r11_29, r11_30, rfl, (in_i64 (by first|omega|(simp;omega)|assumption|simp) (by first|omega|(simp;omega)|assumption|simp)), (by first | exact ⟨by omega, by omega, o1_none hI11.2.2 (by assumption)⟩ | exact ⟨by omega, by omega, o1_put hI11.1 hI11.2.2 (by assumption) (.inl (by assumption))⟩ | exact ⟨by omega, by omega, o1_put hI11.1 hI11.2.2 (by assumption) (.inr (by assumption))⟩ | exact ⟨by omega, by omega, o1_keep hI11.1 hI11.2.2 (by assumption) (by assumption) (by assumption)⟩)⟩
   ·skip
    refine run_exit rfl ?_
    refine run_seq ?_
    refine run_block ?_
    refine run_loop (S := (List Bool) × (List (Int × ByteArray))) (fun (q_ : (List Bool) × (List (Int × ByteArray))) ρ w' => match q_ with | (seen, xat2) => ∃ (h : Ghost) (b_at : Nat) (v_seen : Value), Le h11 h ∧ St w.heap.size w h w' [box b1 27 [.slice A0_0 m.spots.length c0_0, .slice A0_1 m.first.length c0_1, .slice A0_2 m.follow.length c0_2, .slice A0_3 m.last.length c0_3, .bool m.empty], row 4 Kd.bool v_seen seen, amap (fun x : Int => Value.int .i64 x) (fun x : ByteArray => Value.string x) b_at xat2] ∧ ρ 1 = .pointer (some ⟨b1, 0, none⟩) ∧ ρ 4 = v_seen ∧ ρ 5 = .map (some b_at) ∧ (∃ t, Lev m seen xat2 t)) (fun q_ => match q_ with | (seen, xat2) => ((m.spots.length : Int) - ((seen.filter id).length : Int)).toNat) (List.replicate ((m.spots.length : Int)).toNat false, xat) ⟨h11, b9, v7, Le.refl _, S11.sub [0, 1, 2] (by decide) rfl _ rfl, r11_1, r11_4, r11_5, (by exact ⟨1, lev_1 hR_ hI11.2.2 (by omega)⟩)⟩ ?_
    rintro ⟨seen, xat2⟩ ih33 ρ33 w33 ⟨h33, b_at, v_seen, le33, S33, r33_1, r33_4, r33_5, hI33⟩
    have rl33_1 := S33.row_le (j := 1) rfl; simp only [maxLen] at rl33_1
    obtain ⟨t_, hL_⟩ := hI33; have hsn_ := hL_.slen; have ht1_ := hL_.t1
    refine run_seq ?_
    refine run_seq ?_
    refine run_reg (l := [0, 1, 2]) rfl ?_
    refine p_v (v := .map (some b_at)) rfl rfl rfl (x_move r33_5) ?_
    refine p_v (v := .int .i64 (xat2.length : Int)) rfl rfl rfl (x_len_map rfl (e_len_map S33 (j := 2) rfl u169)) ?_
    refine p_v (v := .bool (decide (0 < (xat2.length : Int)))) rfl rfl rfl (x_gtr rfl rfl) ?_
    refine run_region_end ?_
    refine run_cond_prop (p := 0 < (xat2.length : Int)) rfl (fun hc34 => ?_) (fun hc34 => ?_)
    ·skip
     have hne_ : xat2 ≠ [] := fun e => by rw [e] at hc34; simp at hc34
     refine run_skip ?_
     refine run_block ?_
     refine run_seq ?_
     refine run_seq ?_
     refine run_reg (l := [0, 1, 2, 3, 4, 5, 6, 7]) rfl ?_
     refine p_v (v := .map (some b_at)) rfl rfl rfl (x_move r33_5) ?_
     refine p_v (v := .agg #[.slice A0_0 m.spots.length c0_0, .slice A0_1 m.first.length c0_1, .slice A0_2 m.follow.length c0_2, .slice A0_3 m.last.length c0_3, .bool m.empty]) rfl rfl rfl (x_load (seg := [.slice A0_0 m.spots.length c0_0, .slice A0_1 m.first.length c0_1, .slice A0_2 m.follow.length c0_2, .slice A0_3 m.last.length c0_3, .bool m.empty]) ty27 rfl (by simp) r33_1 (CF.box (m := 5) (S33.box_at (j := 0) rfl) rfl)) ?_
     refine p_i rfl rfl rfl (y_call (args := [.map (some b_at), .agg #[.slice A0_0 m.spots.length c0_0, .slice A0_1 m.first.length c0_1, .slice A0_2 m.follow.length c0_2, .slice A0_3 m.last.length c0_3, .bool m.empty]]) ca125 rfl rfl) (calls_of_run Tryd.func125 rfl Tryd.ntmps125 rfl ?_)
     refine run_seq ?_
     refine run_reg (l := [0, 1, 2]) rfl ?_
     obtain ⟨b35, w35, r35, g35, T35⟩ := e_box (P := Tryd.prog) S33 27 (v := .agg #[.slice A0_0 m.spots.length c0_0, .slice A0_1 m.first.length c0_1, .slice A0_2 m.follow.length c0_2, .slice A0_3 m.last.length c0_3, .bool m.empty]) [.slice A0_0 m.spots.length c0_0, .slice A0_1 m.first.length c0_1, .slice A0_2 m.follow.length c0_2, .slice A0_3 m.last.length c0_3, .bool m.empty] rfl
     have S36 := T35
     dsimp only [lAa, lAn, lA0, lAs] at S36
     refine p_v (v := .pointer (some ⟨b35, 0, none⟩)) rfl rfl rfl (x_box rfl r35) ?_
     refine p_v (v := .string (⟨#[]⟩ : ByteArray)) rfl rfl rfl (x_assign rfl) ?_
     refine p_v (v := .bool false) rfl rfl rfl (x_assign rfl) ?_
     refine run_region_end ?_
     refine run_seq ?_
     refine run_reg (l := [0, 1]) rfl ?_
     refine p_v (v := .string (⟨#[]⟩ : ByteArray)) rfl rfl rfl (x_assign rfl) ?_
     refine p_v (v := .bool false) rfl rfl rfl (x_assign rfl) ?_
     refine run_region_end ?_
     refine run_seq ?_
     refine run_seq ?_
     refine run_reg (l := [0, 1]) rfl ?_
     refine p_v (v := .map (some b_at)) rfl rfl rfl (x_move rfl) ?_
     obtain ⟨r37, w37, rr37, g37, T37⟩ := e_range (P := Tryd.prog) S36 (j := 2) rfl u169
     have S38 := T37.fx 2 (mit (fun x : Int => Value.int .i64 x) (fun x : ByteArray => Value.string x) b_at r37 xat2 xat2) rfl
     dsimp only [lAa, lAn, lA0, lAs] at S38
     refine p_v (v := .pointer (some ⟨r37, 0, none⟩)) rfl rfl rfl (x_range rfl rr37) ?_
     refine run_region_end ?_
     refine run_block ?_
     refine run_loop (S := (List (Int × ByteArray)) × ByteArray × Bool) (fun (q_ : (List (Int × ByteArray)) × ByteArray × Bool) ρ w' => match q_ with | (left, best, found) => ∃ (h : Ghost), Le h33 h ∧ St w.heap.size w h w' [box b1 27 [.slice A0_0 m.spots.length c0_0, .slice A0_1 m.first.length c0_1, .slice A0_2 m.follow.length c0_2, .slice A0_3 m.last.length c0_3, .bool m.empty], row 4 Kd.bool v_seen seen, mit (fun x : Int => Value.int .i64 x) (fun x : ByteArray => Value.string x) b_at r37 xat2 left, box b35 27 [.slice A0_0 m.spots.length c0_0, .slice A0_1 m.first.length c0_1, .slice A0_2 m.follow.length c0_2, .slice A0_3 m.last.length c0_3, .bool m.empty]] ∧ ρ 3 = .pointer (some ⟨b35, 0, none⟩) ∧ ρ 6 = .string best ∧ ρ 7 = .bool found ∧ ρ 11 = .pointer (some ⟨r37, 0, none⟩) ∧ best.size ≤ maxLen ∧ (∃ done, (done ++ left).Perm xat2 ∧ EndB m done best found)) (fun q_ => match q_ with | (left, best, found) => left.length) (xat2, (⟨#[]⟩ : ByteArray), false) ⟨h33, Le.refl _, S38.sub [0, 1, 2, 3] (by decide) rfl _ rfl, rfl, rfl, rfl, rfl, (by decide), (by exact ⟨[], perm_0 _, endB_0 m⟩)⟩ ?_
     rintro ⟨left, best, found⟩ ih39 ρ39 w39 ⟨h39, le39, S39, r39_3, r39_6, r39_7, r39_11, f39_0, hI39⟩
     have bl39_6 := f39_0; simp only [maxLen] at bl39_6
     have rl39_1 := S39.row_le (j := 1) rfl; simp only [maxLen] at rl39_1
     refine run_seq ?_
     refine run_reg (l := [0, 1]) rfl ?_
     rcases e_next (P := Tryd.prog) (ty := 0) S39 (j := 2) rfl with ⟨hx40, rx40⟩ | ⟨la40, p40, lb40, w40, hx40, rx40, g40, T40⟩
     ·skip
      have T40 := e_over S39 (j := 2) rfl
      have S41 := T40.fx 2 (amap (fun x : Int => Value.int .i64 x) (fun x : ByteArray => Value.string x) b_at xat2) rfl
      dsimp only [lAa, lAn, lA0, lAs] at S41
      refine p_v (v := .tuple #[.bool false]) rfl rfl rfl (x_next r39_11 rx40) ?_
      obtain ⟨dn2_, hq2_, hE2_⟩ := hI39; have hd2_ := perm_end hq2_ hx40
      refine p_v (v := .bool false) rfl rfl rfl (x_extract (vs := [.bool false]) rfl rfl) ?_
      refine run_region_end ?_
      refine run_seq ?_
      refine run_cond (b := false) rfl ?_
      simp only [if_true, if_false, Bool.false_eq_true]
      refine run_exit rfl ?_
      refine run_seq ?_
      refine run_reg (l := [0, 1, 2, 3]) rfl ?_
      refine p_v (v := .string best) rfl rfl rfl (x_move r39_6) ?_
      refine p_v (v := .bool found) rfl rfl rfl (x_move r39_7) ?_
      refine p_v (v := .string best) rfl rfl rfl (x_assign rfl) ?_
      refine p_v (v := .bool found) rfl rfl rfl (x_assign rfl) ?_
      refine run_region_end ?_
      refine run_ret Tryd.func125 (res2 rfl (res_tmp (v := .string best) rfl) (res_tmp (v := .bool found) rfl)) ?_
      refine ⟨_, rfl, ?_⟩
      refine p_v (v := .tuple #[.string best, .bool found]) rfl rfl rfl (x_move rfl) ?_
      refine p_v (v := .string best) rfl rfl rfl (x_extract (vs := [.string best, .bool found]) rfl rfl) ?_
      refine p_v (v := .bool found) rfl rfl rfl (x_extract (vs := [.string best, .bool found]) rfl rfl) ?_
      refine p_v (v := .string best) rfl rfl rfl (x_assign rfl) ?_
      refine p_v (v := .bool found) rfl rfl rfl (x_assign rfl) ?_
      refine run_region_end ?_
      refine run_seq ?_
      refine run_reg (l := [0]) rfl ?_
      refine p_v (v := .bool found) rfl rfl rfl (x_move rfl) ?_
      refine run_region_end ?_
      refine run_cond_split (b := found) rfl (fun hc42 => ?_) (fun hc42 => ?_)
      ·skip
       first | have hE4_ := endB_at hE2_ hc42 | skip
       refine run_seq ?_
       refine run_reg (l := [0, 1, 2]) rfl ?_
       refine p_v (v := .string best) rfl rfl rfl (x_move rfl) ?_
       refine p_v (v := .string best) rfl rfl rfl (x_assign rfl) ?_
       refine p_v (v := .bool true) rfl rfl rfl (x_assign rfl) ?_
       refine run_region_end ?_
       refine run_ret Tryd.func62 (res2 rfl (res_tmp (v := .string best) rfl) (res_tmp (v := .bool true) rfl)) ?_
       have q0 : (wordW (runM m) : ByteArray) = best := by
        first | exact (word_no (fun w => run_wrong m w (by assumption))).1 | exact (word_is (empty_least hrm_ (by assumption))).1 | exact (word_is (lev_found hL_ hR_ he_ hE4_ hd2_).1).1 | exact (word_no (lev_none hL_ hR_ he_ (List.eq_nil_of_length_eq_zero (by omega)))).1
       have q1 : (okW (runM m) : Bool) = true := by
        first | exact (word_no (fun w => run_wrong m w (by assumption))).2 | exact (word_is (empty_least hrm_ (by assumption))).2 | exact (word_is (lev_found hL_ hR_ he_ hE4_ hd2_).1).2 | exact (word_no (lev_none hL_ hR_ he_ (List.eq_nil_of_length_eq_zero (by omega)))).2
       refine ⟨_, rfl, h39, ?_, ?_, ?_, ?_⟩
       · exact S41.sub [] (by decide) rfl _ rfl
       · first | rfl | (simp only [q0, q1]; rfl) | (simp only [q0, q1])
       · rw [q0]; first | assumption | exact f39_0
       ·show (okW (runM m) = true → ((wordW (runM m)).size : Int) ≤ m.spots.length) ∧ (okW (runM m) = false → ∀ w, runM m w = false)
        first | exact path_size0 (fun w => run_wrong m w (by assumption)) | exact path_size (empty_least hrm_ (by assumption)) (by show (0 : Int) ≤ _; omega) | exact path_size (lev_found hL_ hR_ he_ hE4_ hd2_).1 (by rw [(lev_found hL_ hR_ he_ hE4_ hd2_).2]; exact lev_less hL_ hne_) | exact path_size0 (lev_none hL_ hR_ he_ (List.eq_nil_of_length_eq_zero (by omega)))
      ·skip
       first | have hE3_ := endB_at hE2_ hc42 | skip
       refine run_skip ?_
       refine run_seq ?_
       refine run_seq ?_
       refine run_reg (l := [0, 1]) rfl ?_
       refine p_v (v := .map (some b_at)) rfl rfl rfl (x_move r33_5) ?_
       obtain ⟨r43, w43, rr43, g43, T43⟩ := e_range (P := Tryd.prog) S41 (j := 2) rfl u169
       have S44 := T43.fx 2 (mit (fun x : Int => Value.int .i64 x) (fun x : ByteArray => Value.string x) b_at r43 xat2 xat2) rfl
       dsimp only [lAa, lAn, lA0, lAs] at S44
       refine p_v (v := .pointer (some ⟨r43, 0, none⟩)) rfl rfl rfl (x_range rfl rr43) ?_
       refine run_region_end ?_
       refine run_block ?_
       refine run_loop (S := (List Bool) × (List (Int × ByteArray))) (fun (q_ : (List Bool) × (List (Int × ByteArray))) ρ w' => match q_ with | (seen2, left2) => ∃ (h : Ghost) (v_seen2 : Value), Le h39 h ∧ St w.heap.size w h w' [box b1 27 [.slice A0_0 m.spots.length c0_0, .slice A0_1 m.first.length c0_1, .slice A0_2 m.follow.length c0_2, .slice A0_3 m.last.length c0_3, .bool m.empty], row 4 Kd.bool v_seen2 seen2, mit (fun x : Int => Value.int .i64 x) (fun x : ByteArray => Value.string x) b_at r43 xat2 left2] ∧ ρ 1 = .pointer (some ⟨b1, 0, none⟩) ∧ ρ 4 = v_seen2 ∧ ρ 5 = .map (some b_at) ∧ ρ 52 = .pointer (some ⟨r43, 0, none⟩) ∧ (∃ done, (done ++ left2).Perm xat2 ∧ Mk m seen done seen2)) (fun q_ => match q_ with | (seen2, left2) => left2.length) (seen, xat2) ⟨h39, v_seen, Le.refl _, S44.sub [0, 1, 2] (by decide) rfl _ rfl, r33_1, r33_4, r33_5, rfl, (by exact ⟨[], perm_0 _, mk_0 hL_.slen⟩)⟩ ?_
       rintro ⟨seen2, left2⟩ ih45 ρ45 w45 ⟨h45, v_seen2, le45, S45, r45_1, r45_4, r45_5, r45_52, hI45⟩
       have rl45_1 := S45.row_le (j := 1) rfl; simp only [maxLen] at rl45_1
       have hlm0_ : (seen2.length : Int) = m.spots.length := by obtain ⟨_, _, h⟩ := hI45; exact h.len
       refine run_seq ?_
       refine run_reg (l := [0, 1]) rfl ?_
       rcases e_next (P := Tryd.prog) (ty := 0) S45 (j := 2) rfl with ⟨hx46, rx46⟩ | ⟨la46, p46, lb46, w46, hx46, rx46, g46, T46⟩
       ·skip
        have T46 := e_over S45 (j := 2) rfl
        have S47 := T46.fx 2 (amap (fun x : Int => Value.int .i64 x) (fun x : ByteArray => Value.string x) b_at xat2) rfl
        dsimp only [lAa, lAn, lA0, lAs] at S47
        refine p_v (v := .tuple #[.bool false]) rfl rfl rfl (x_next r45_52 rx46) ?_
        obtain ⟨dn5_, hq3_, hM_⟩ := hI45; have hd3_ := perm_end hq3_ hx46; have hlm2_ := hM_.len
        refine p_v (v := .bool false) rfl rfl rfl (x_extract (vs := [.bool false]) rfl rfl) ?_
        refine run_region_end ?_
        refine run_seq ?_
        refine run_cond (b := false) rfl ?_
        simp only [if_true, if_false, Bool.false_eq_true]
        refine run_exit rfl ?_
        refine run_seq ?_
        refine run_reg (l := [0, 1]) rfl ?_
        obtain ⟨b48, w48, r48, g48, T48⟩ := e_makeMap (P := Tryd.prog) S47 169 (fun x : Int => Value.int .i64 x) (fun x : ByteArray => Value.string x)
        have S49 := T48
        dsimp only [lAa, lAn, lA0, lAs] at S49
        refine p_v (v := .map (some b48)) rfl rfl rfl (x_makeMap r48) ?_
        refine p_v (v := .map (some b48)) rfl rfl rfl (x_assign rfl) ?_
        refine run_region_end ?_
        refine run_seq ?_
        refine run_seq ?_
        refine run_reg (l := [0, 1]) rfl ?_
        refine p_v (v := .map (some b_at)) rfl rfl rfl (x_move r45_5) ?_
        obtain ⟨r50, w50, rr50, g50, T50⟩ := e_range (P := Tryd.prog) S49 (j := 2) rfl u169
        have S51 := T50.fx 2 (mit (fun x : Int => Value.int .i64 x) (fun x : ByteArray => Value.string x) b_at r50 xat2 xat2) rfl
        dsimp only [lAa, lAn, lA0, lAs] at S51
        refine p_v (v := .pointer (some ⟨r50, 0, none⟩)) rfl rfl rfl (x_range rfl rr50) ?_
        refine run_region_end ?_
        refine run_block ?_
        refine run_loop (S := (List (Int × ByteArray)) × (List (Int × ByteArray))) (fun (q_ : (List (Int × ByteArray)) × (List (Int × ByteArray))) ρ w' => match q_ with | (left3, next) => ∃ (h : Ghost), Le h45 h ∧ St w.heap.size w h w' [box b1 27 [.slice A0_0 m.spots.length c0_0, .slice A0_1 m.first.length c0_1, .slice A0_2 m.follow.length c0_2, .slice A0_3 m.last.length c0_3, .bool m.empty], row 4 Kd.bool v_seen2 seen2, mit (fun x : Int => Value.int .i64 x) (fun x : ByteArray => Value.string x) b_at r50 xat2 left3, amap (fun x : Int => Value.int .i64 x) (fun x : ByteArray => Value.string x) b48 next] ∧ ρ 1 = .pointer (some ⟨b1, 0, none⟩) ∧ ρ 4 = v_seen2 ∧ ρ 11 = .map (some b48) ∧ ρ 62 = .pointer (some ⟨r50, 0, none⟩) ∧ (∃ done, (done ++ left3).Perm xat2 ∧ Off (t_ + 1) (O2 m seen2 done) next)) (fun q_ => match q_ with | (left3, next) => left3.length) (xat2, ([] : List (Int × ByteArray))) ⟨h45, Le.refl _, S51.sub [0, 1, 2, 3] (by decide) rfl _ rfl, r45_1, r45_4, rfl, rfl, (by exact ⟨[], perm_0 _, o2_0 m seen2 _⟩)⟩ ?_
        rintro ⟨left3, next⟩ ih52 ρ52 w52 ⟨h52, le52, S52, r52_1, r52_4, r52_11, r52_62, hI52⟩
        have rl52_1 := S52.row_le (j := 1) rfl; simp only [maxLen] at rl52_1
        refine run_seq ?_
        refine run_reg (l := [0, 1]) rfl ?_
        rcases e_next (P := Tryd.prog) (ty := 0) S52 (j := 2) rfl with ⟨hx53, rx53⟩ | ⟨la53, p53, lb53, w53, hx53, rx53, g53, T53⟩
        ·skip
         have T53 := e_over S52 (j := 2) rfl
         have S54 := T53.fx 2 (amap (fun x : Int => Value.int .i64 x) (fun x : ByteArray => Value.string x) b_at xat2) rfl
         dsimp only [lAa, lAn, lA0, lAs] at S54
         refine p_v (v := .tuple #[.bool false]) rfl rfl rfl (x_next r52_62 rx53) ?_
         obtain ⟨dn8_, hq8_, hF8_⟩ := hI52; have hd8_ := perm_end hq8_ hx53
         refine p_v (v := .bool false) rfl rfl rfl (x_extract (vs := [.bool false]) rfl rfl) ?_
         refine run_region_end ?_
         refine run_seq ?_
         refine run_cond (b := false) rfl ?_
         simp only [if_true, if_false, Bool.false_eq_true]
         refine run_exit rfl ?_
         refine run_reg (l := [0, 1]) rfl ?_
         refine p_v (v := .map (some b48)) rfl rfl rfl (x_move r52_11) ?_
         refine p_v (v := .map (some b48)) rfl rfl rfl (x_assign rfl) ?_
         refine run_region_end ?_
         refine run_inBlock ?_
         refine ih33 (seen2, next) _ _ (by dsimp only; exact mk_dec hL_ hM_ hd3_ hne_) ⟨h52, b48, v_seen2, ((((((le33).trans le39)).trans le45)).trans le52), S54.sub [0, 1, 3] (by decide) rfl _ rfl, r52_1, r52_4, rfl, (by exact ⟨_, lev_next hL_ hR_ hE3_ hd2_ hM_ hd3_ hF8_ hd8_ hne_⟩)⟩
        ·skip
         have S55 := T53.fx 2 (mitc (fun x : Int => Value.int .i64 x) (fun x : ByteArray => Value.string x) b_at r50 xat2 (la53 ++ lb53) p53) rfl
         dsimp only [lAa, lAn, lA0, lAs] at S55
         refine p_v (v := .tuple #[.bool true, .int .i64 p53.1, .string p53.2]) rfl rfl rfl (x_next r52_62 rx53) ?_
         obtain ⟨dn6_, hp6_, hF6_⟩ := hI52; obtain ⟨hp7_, hm6_⟩ := perm_next hp6_ hx53; obtain ⟨hne6_, hr6_, hz6_, ht256_, hzz6_⟩ := lev_small hL_ hR_ hm6_; have hra6_ := hr6_.1; have hrb6_ := hr6_.2
         refine p_v (v := .bool true) rfl rfl rfl (x_extract (vs := [.bool true, .int .i64 p53.1, .string p53.2]) rfl rfl) ?_
         refine run_region_end ?_
         refine run_seq ?_
         refine run_cond (b := true) rfl ?_
         simp only [if_true, if_false, Bool.false_eq_true]
         refine run_skip ?_
         refine run_block ?_
         refine run_seq ?_
         refine run_reg (l := [0, 1, 2, 3, 4]) rfl ?_
         obtain ⟨r56, T56⟩ := e_entry (P := Tryd.prog) S55 (j := 2) rfl
         have S57 := T56.fx 2 (mit (fun x : Int => Value.int .i64 x) (fun x : ByteArray => Value.string x) b_at r50 xat2 (la53 ++ lb53)) rfl
         dsimp only [lAa, lAn, lA0, lAs] at S57
         refine p_v (v := .tuple #[.int .i64 p53.1, .string p53.2]) rfl rfl rfl (x_entry r52_62 r56) ?_
         refine p_v (v := .int .i64 p53.1) rfl rfl rfl (x_extract (vs := [.int .i64 p53.1, .string p53.2]) rfl rfl) ?_
         refine p_v (v := .string p53.2) rfl rfl rfl (x_extract (vs := [.int .i64 p53.1, .string p53.2]) rfl rfl) ?_
         refine p_v (v := .int .i64 p53.1) rfl rfl rfl (x_assign rfl) ?_
         refine p_v (v := .string p53.2) rfl rfl rfl (x_assign rfl) ?_
         refine run_region_end ?_
         refine run_seq ?_
         refine run_reg (l := [0, 1, 2, 3, 4, 5, 6]) rfl ?_
         refine p_v (v := .pointer (some ⟨b1, 2, none⟩)) rfl rfl rfl (x_fieldAt fd27_2 ty24 rfl r52_1) ?_
         refine p_v (v := .slice A0_2 m.follow.length c0_2) rfl rfl rfl (x_load (seg := [.slice A0_2 m.follow.length c0_2]) ty24 rfl (by simp) rfl (CF.box (m := 1) (S57.box_at (j := 0) rfl) rfl)) ?_
         refine p_v (v := .int .i64 p53.1) rfl rfl rfl (x_move rfl) ?_
         obtain ⟨ad58, seg58, a58, rp58, ce58⟩ := e_index_ro (q := p53.1) (m := 1) l0_2 rfl (by first|omega|(simp;omega)|assumption|simp) (by first|omega|(simp;omega)|assumption|simp)
         refine p_v (v := .pointer (some ad58)) rfl rfl rfl (x_index_ro u24 ty23 rfl rfl a58 (by first|omega|(simp;omega)|assumption|simp) (by first|omega|(simp;omega)|assumption|simp)) ?_
         obtain ⟨A58, c58, rfl, lc58, cm58, ld58⟩ := rp58
         have cn58 := cm58; simp only [maxLen] at cn58
         refine p_v (v := .slice A58 (at_ m.follow p53.1).length c58) rfl rfl rfl (x_load (seg := [.slice A58 (at_ m.follow p53.1).length c58]) ty23 rfl (by simp) rfl (CF.ghost ce58 (St.le0 S57))) ?_
         refine p_v (v := .int .i64 ((at_ m.follow p53.1).length : Int)) rfl rfl rfl (x_len_slice u23 rfl) ?_
         refine p_v (v := .int .i64 0) rfl rfl rfl (x_move rfl) ?_
         refine run_region_end ?_
         refine run_block ?_
         refine run_loop (S := (List (Int × ByteArray)) × Int) (fun (q_ : (List (Int × ByteArray)) × Int) ρ w' => match q_ with | (next2, t74) => ∃ (h : Ghost), Le h52 h ∧ St w.heap.size w h w' [box b1 27 [.slice A0_0 m.spots.length c0_0, .slice A0_1 m.first.length c0_1, .slice A0_2 m.follow.length c0_2, .slice A0_3 m.last.length c0_3, .bool m.empty], row 4 Kd.bool v_seen2 seen2, mit (fun x : Int => Value.int .i64 x) (fun x : ByteArray => Value.string x) b_at r50 xat2 (la53 ++ lb53), amap (fun x : Int => Value.int .i64 x) (fun x : ByteArray => Value.string x) b48 next2] ∧ ρ 1 = .pointer (some ⟨b1, 0, none⟩) ∧ ρ 4 = v_seen2 ∧ ρ 11 = .map (some b48) ∧ ρ 13 = .string p53.2 ∧ ρ 62 = .pointer (some ⟨r50, 0, none⟩) ∧ ρ 72 = .slice A58 (at_ m.follow p53.1).length c58 ∧ ρ 73 = .int .i64 ((at_ m.follow p53.1).length : Int) ∧ ρ 74 = .int .i64 t74 ∧ inK .i64 t74 ∧ (0 ≤ t74 ∧ t74 ≤ ((at_ m.follow p53.1).length : Int) ∧ Off (t_ + 1) (O3 m seen2 dn6_ p53 t74) next2)) (fun q_ => match q_ with | (next2, t74) => ((at_ m.follow p53.1).length - t74).toNat) (next, 0) ⟨h52, Le.refl _, S57.sub [0, 1, 2, 3] (by decide) rfl _ rfl, r52_1, r52_4, r52_11, rfl, r52_62, rfl, rfl, rfl, (in_i64 (by first|omega|(simp;omega)|assumption|simp) (by first|omega|(simp;omega)|assumption|simp)), (by exact ⟨by omega, by omega, o3_0 hF6_ _⟩)⟩ ?_
         rintro ⟨next2, t74⟩ ih59 ρ59 w59 ⟨h59, le59, S59, r59_1, r59_4, r59_11, r59_13, r59_62, r59_72, r59_73, r59_74, f59_0, hI59⟩
         have lf59_0 := i64_lo f59_0; have hf59_0 := i64_hi f59_0
         have rl59_1 := S59.row_le (j := 1) rfl; simp only [maxLen] at rl59_1
         have hx5_ : t74 < ((at_ m.follow p53.1).length : Int) → 0 ≤ at_ (at_ m.follow p53.1) t74 ∧ at_ (at_ m.follow p53.1) t74 < (m.spots.length : Int) := fun h => hR_.rows hr6_.1 hr6_.2 _ (at_mem hI59.1 h)
         refine run_seq ?_
         refine run_reg (l := [0]) rfl ?_
         refine p_v (v := .bool (decide (t74 < ((at_ m.follow p53.1).length : Int)))) rfl rfl rfl (x_lss r59_74 r59_73) ?_
         refine run_region_end ?_
         refine run_seq ?_
         refine run_cond_prop (p := t74 < ((at_ m.follow p53.1).length : Int)) rfl (fun hc60 => ?_) (fun hc60 => ?_)
         ·skip
          refine run_skip ?_
          refine run_seq ?_
          refine run_block ?_
          refine run_seq ?_
          refine run_reg (l := [0, 1, 2]) rfl ?_
          obtain ⟨ad61, seg61, a61, rp61, ce61⟩ := e_index_ro (q := t74) (m := 1) ld58 rfl (by first|omega|(simp;omega)|assumption|simp) (by first|omega|(simp;omega)|assumption|simp)
          refine p_v (v := .pointer (some ad61)) rfl rfl rfl (x_index_ro u23 ty3 r59_72 r59_74 a61 (by first|omega|(simp;omega)|assumption|simp) (by first|omega|(simp;omega)|assumption|simp)) ?_
          obtain ⟨rfl, in61⟩ := rp61
          have lo61 := i64_lo in61; have hi61 := i64_hi in61
          refine p_v (v := .int .i64 (at_ (at_ m.follow p53.1) t74)) rfl rfl rfl (x_load (seg := [.int .i64 (at_ (at_ m.follow p53.1) t74)]) ty3 rfl (by simp) rfl (CF.ghost ce61 (St.le0 S59))) ?_
          refine p_v (v := .int .i64 (at_ (at_ m.follow p53.1) t74)) rfl rfl rfl (x_assign rfl) ?_
          refine run_region_end ?_
          refine run_seq ?_
          refine run_reg (l := [0, 1, 2, 3, 4]) rfl ?_
          refine p_v (v := v_seen2) rfl rfl rfl (x_move r59_4) ?_
          refine p_v (v := .int .i64 (at_ (at_ m.follow p53.1) t74)) rfl rfl rfl (x_move rfl) ?_
          obtain ⟨ad62, a62, at62⟩ := e_index_own (q := at_ (at_ m.follow p53.1) t74) (m := 1) S59 (j := 1) rfl rfl (by first|omega|(simp;omega)|assumption|simp) (by first|omega|(simp;omega)|assumption|simp)
          refine p_v (v := .pointer (some ad62)) rfl rfl rfl (x_index_own u25 ty4 rfl rfl a62 (by first|omega|(simp;omega)|assumption|simp) (by first|omega|(simp;omega)|assumption|simp)) ?_
          obtain ⟨seg63, rp63, cf63⟩ := e_load_own (q := at_ (at_ m.follow p53.1) t74) S59 (j := 1) rfl rfl at62 (by first|omega|(simp;omega)|assumption|simp) (by first|omega|(simp;omega)|assumption|simp)
          obtain ⟨rfl, _⟩ := rp63
          refine p_v (v := .bool (at_ seen2 (at_ (at_ m.follow p53.1) t74))) rfl rfl rfl (x_load (seg := [.bool (at_ seen2 (at_ (at_ m.follow p53.1) t74))]) ty4 rfl (by simp) rfl cf63) ?_
          refine p_v (v := .bool (!(at_ seen2 (at_ (at_ m.follow p53.1) t74)))) rfl rfl rfl (x_not rfl) ?_
          refine run_region_end ?_
          refine run_cond_nsplit (b := at_ seen2 (at_ (at_ m.follow p53.1) t74)) rfl (fun hc64 => ?_) (fun hc64 => ?_)
          ·skip
           refine run_reg (l := [0, 1, 2, 3, 4]) rfl ?_
           refine p_v (v := .map (some b48)) rfl rfl rfl (x_move r59_11) ?_
           refine p_v (v := .agg #[.slice A0_0 m.spots.length c0_0, .slice A0_1 m.first.length c0_1, .slice A0_2 m.follow.length c0_2, .slice A0_3 m.last.length c0_3, .bool m.empty]) rfl rfl rfl (x_load (seg := [.slice A0_0 m.spots.length c0_0, .slice A0_1 m.first.length c0_1, .slice A0_2 m.follow.length c0_2, .slice A0_3 m.last.length c0_3, .bool m.empty]) ty27 rfl (by simp) r59_1 (CF.box (m := 5) (S59.box_at (j := 0) rfl) rfl)) ?_
           refine p_v (v := .int .i64 (at_ (at_ m.follow p53.1) t74)) rfl rfl rfl (x_move rfl) ?_
           refine p_v (v := .string p53.2) rfl rfl rfl (x_move r59_13) ?_
           refine p_i rfl rfl rfl (y_call (args := [.map (some b48), .agg #[.slice A0_0 m.spots.length c0_0, .slice A0_1 m.first.length c0_1, .slice A0_2 m.follow.length c0_2, .slice A0_3 m.last.length c0_3, .bool m.empty], .int .i64 (at_ (at_ m.follow p53.1) t74), .string p53.2]) ca124 rfl rfl) (calls_of_run Tryd.func124 rfl Tryd.ntmps124 rfl ?_)
           refine run_seq ?_
           refine run_reg (l := [0]) rfl ?_
           obtain ⟨b65, w65, r65, g65, T65⟩ := e_box (P := Tryd.prog) S59 27 (v := .agg #[.slice A0_0 m.spots.length c0_0, .slice A0_1 m.first.length c0_1, .slice A0_2 m.follow.length c0_2, .slice A0_3 m.last.length c0_3, .bool m.empty]) [.slice A0_0 m.spots.length c0_0, .slice A0_1 m.first.length c0_1, .slice A0_2 m.follow.length c0_2, .slice A0_3 m.last.length c0_3, .bool m.empty] rfl
           have S66 := T65
           dsimp only [lAa, lAn, lA0, lAs] at S66
           refine p_v (v := .pointer (some ⟨b65, 0, none⟩)) rfl rfl rfl (x_box rfl r65) ?_
           refine run_region_end ?_
           refine run_seq ?_
           refine run_reg (l := [0, 1, 2, 3, 4, 5, 6, 7, 8, 9, 10, 11]) rfl ?_
           refine p_v (v := .pointer (some ⟨b65, 0, none⟩)) rfl rfl rfl (x_fieldAt fd27_0 ty22 rfl rfl) ?_
           refine p_v (v := .slice A0_0 m.spots.length c0_0) rfl rfl rfl (x_load (seg := [.slice A0_0 m.spots.length c0_0]) ty22 rfl (by simp) rfl (CF.box (m := 1) (S66.box_at (j := 4) rfl) rfl)) ?_
           refine p_v (v := .int .i64 (at_ (at_ m.follow p53.1) t74)) rfl rfl rfl (x_move rfl) ?_
           obtain ⟨ad67, seg67, a67, rp67, ce67⟩ := e_index_ro (q := at_ (at_ m.follow p53.1) t74) (m := 5) l0_0 rfl (by first|omega|(simp;omega)|assumption|simp) (by first|omega|(simp;omega)|assumption|simp)
           refine p_v (v := .pointer (some ad67)) rfl rfl rfl (x_index_ro u22 ty101 rfl rfl a67 (by first|omega|(simp;omega)|assumption|simp) (by first|omega|(simp;omega)|assumption|simp)) ?_
           obtain ⟨rfl, ok67⟩ := rp67
           have slook67 := u8_lo ok67; have shiok67 := u8_hi ok67
           refine p_v (v := .pointer (some (ad67.add 0))) rfl rfl rfl (x_fieldAd fd101_0 ty74 rfl rfl) ?_
           refine p_v (v := .agg (encSet ((at_ m.spots (at_ (at_ m.follow p53.1) t74)).set)).toArray) rfl rfl rfl (x_load (seg := (encSet ((at_ m.spots (at_ (at_ m.follow p53.1) t74)).set))) ty74 rfl (by simp) rfl (CF.ghost (sub_seg (o := 0) (m := 4) (ds := (encSet ((at_ m.spots (at_ (at_ m.follow p53.1) t74)).set))) ce67 rfl) (St.le0 S66))) ?_
           refine p_c rfl rfl rfl (y_call (args := [.agg (encSet ((at_ m.spots (at_ (at_ m.follow p53.1) t74)).set)).toArray]) ca158 rfl rfl) (first_calls w65 ((at_ m.spots (at_ (at_ m.follow p53.1) t74)).set) (Block.st S66 tb)) ?_
           rintro _ w69 ⟨h69, T69, rfl, in69_0⟩
           have S70 := S66.keep (Chg.of_below T69.below)
           have lo_in69_0 := u8_lo in69_0; have hi_in69_0 := u8_hi in69_0
           refine p_v (v := .tuple #[.int .u8 (first ((at_ m.spots (at_ (at_ m.follow p53.1) t74)).set)), .bool (someIn ((at_ m.spots (at_ (at_ m.follow p53.1) t74)).set))]) rfl rfl rfl (x_move rfl) ?_
           refine p_v (v := .int .u8 (first ((at_ m.spots (at_ (at_ m.follow p53.1) t74)).set))) rfl rfl rfl (x_extract (vs := [.int .u8 (first ((at_ m.spots (at_ (at_ m.follow p53.1) t74)).set)), .bool (someIn ((at_ m.spots (at_ (at_ m.follow p53.1) t74)).set))]) rfl rfl) ?_
           refine p_v (v := .bool (someIn ((at_ m.spots (at_ (at_ m.follow p53.1) t74)).set))) rfl rfl rfl (x_extract (vs := [.int .u8 (first ((at_ m.spots (at_ (at_ m.follow p53.1) t74)).set)), .bool (someIn ((at_ m.spots (at_ (at_ m.follow p53.1) t74)).set))]) rfl rfl) ?_
           refine p_v (v := .int .u8 (first ((at_ m.spots (at_ (at_ m.follow p53.1) t74)).set))) rfl rfl rfl (x_assign rfl) ?_
           refine p_v (v := .bool (someIn ((at_ m.spots (at_ (at_ m.follow p53.1) t74)).set))) rfl rfl rfl (x_assign rfl) ?_
           refine run_region_end ?_
           refine run_seq ?_
           refine run_seq ?_
           refine run_reg (l := [0, 1]) rfl ?_
           refine p_v (v := .bool (someIn ((at_ m.spots (at_ (at_ m.follow p53.1) t74)).set))) rfl rfl rfl (x_move rfl) ?_
           refine p_v (v := .bool (!(someIn ((at_ m.spots (at_ (at_ m.follow p53.1) t74)).set)))) rfl rfl rfl (x_not rfl) ?_
           refine run_region_end ?_
           refine run_cond_nsplit (b := someIn ((at_ m.spots (at_ (at_ m.follow p53.1) t74)).set)) rfl (fun hc71 => ?_) (fun hc71 => ?_)
           ·skip
            refine run_ret Tryd.func124 (res0 rfl) ?_
            refine ⟨_, rfl, ?_⟩
            refine run_region_end ?_
            refine run_inBlock ?_
            refine run_reg (l := [0, 1]) rfl ?_
            refine p_v (v := .int .i64 (t74 + 1)) rfl rfl rfl (x_add r59_74 rfl (in_i64 (by first|omega|(simp;omega)|assumption|simp) (by first|omega|(simp;omega)|assumption|simp))) ?_
            refine p_v (v := .int .i64 (t74 + 1)) rfl rfl rfl (x_move rfl) ?_
            refine run_region_end ?_
            refine ih59 (next2, t74 + 1) _ _ (by dsimp only; omega) ⟨h59, le59, S70.sub [0, 1, 2, 3] (by decide) rfl _ rfl, r59_1, r59_4, r59_11, r59_13, r59_62, r59_72, r59_73, rfl, (in_i64 (by first|omega|(simp;omega)|assumption|simp) (by first|omega|(simp;omega)|assumption|simp)), (by first | exact ⟨by omega, by omega, o3_skip hI59.2.2 (.inl (by assumption))⟩ | exact ⟨by omega, by omega, o3_skip hI59.2.2 (.inr (by assumption))⟩ | exact ⟨by omega, by omega, o3_put hI59.1 hI59.2.2 (by omega) (by assumption) (by assumption) (.inl (by assumption))⟩ | exact ⟨by omega, by omega, o3_put hI59.1 hI59.2.2 (by omega) (by assumption) (by assumption) (.inr (by assumption))⟩ | exact ⟨by omega, by omega, o3_keep hI59.1 hI59.2.2 (by omega) (by assumption) (by assumption) (by assumption) (by assumption)⟩)⟩
           ·skip
            refine run_skip ?_
            refine run_seq ?_
            refine run_reg (l := [0, 1, 2, 3, 4, 5]) rfl ?_
            refine p_v (v := .string p53.2) rfl rfl rfl (x_move rfl) ?_
            refine p_v (v := .int .u8 (first ((at_ m.spots (at_ (at_ m.follow p53.1) t74)).set))) rfl rfl rfl (x_move rfl) ?_
            obtain ⟨v72, w72, r72, g72, T72⟩ := e_build_ones (kd := (Kd.int .u8)) (xs := ([first ((at_ m.spots (at_ (at_ m.follow p53.1) t74)).set)] : List Int)) (len := 1) [.int .u8 (first ((at_ m.spots (at_ (at_ m.follow p53.1) t74)).set))] S70 u39 ty5 rfl rfl rfl rfl rfl (ones_cons rfl ones_nil) [.int .u8 (first ((at_ m.spots (at_ (at_ m.follow p53.1) t74)).set))] (Elems.single (k := (Kd.int .u8)) (h := h59) (x := first ((at_ m.spots (at_ (at_ m.follow p53.1) t74)).set)) (cs := [.int .u8 (first ((at_ m.spots (at_ (at_ m.follow p53.1) t74)).set))]) ⟨rfl, in69_0⟩) rfl
            have S73 := T72
            dsimp only [lAa, lAn, lA0, lAs] at S73
            refine p_v (v := v72) rfl rfl rfl (y_build_slice (pv := [(0, .int .u8 (first ((at_ m.spots (at_ (at_ m.follow p53.1) t74)).set)))]) rfl r72) ?_
            obtain ⟨A74, c74, ev74, lc74, cm74⟩ := S73.row_val (j := 5) rfl
            have sz75 := str_small (xs := ([first ((at_ m.spots (at_ (at_ m.follow p53.1) t74)).set)] : List Int)) (Nat.le_trans (And.intro lc74 cm74).1 (And.intro lc74 cm74).2); have bdsz75 := sz75; simp only [maxLen] at bdsz75
            refine p_v (v := .string (strOfNums ([first ((at_ m.spots (at_ (at_ m.follow p53.1) t74)).set)] : List Int))) rfl rfl rfl (x_bytes_string u39 u5 u9 ev74 (row_leads_eq S73 (j := 5) rfl ev74)) ?_
            have sb76 : p53.2.size + (strOfNums ([first ((at_ m.spots (at_ (at_ m.follow p53.1) t74)).set)] : List Int)).size ≤ 9223372036854775807 := by first | omega | (simp only [str_one]; omega) | (simp only [str_one, size_nil]; omega)
            have sz76 : (p53.2 ++ (strOfNums ([first ((at_ m.spots (at_ (at_ m.follow p53.1) t74)).set)] : List Int))).size ≤ maxLen := by rw [size_add]; unfold maxLen; exact sb76
            have st76 := size_add p53.2 (strOfNums ([first ((at_ m.spots (at_ (at_ m.follow p53.1) t74)).set)] : List Int))
            refine p_v (v := .string (p53.2 ++ (strOfNums ([first ((at_ m.spots (at_ (at_ m.follow p53.1) t74)).set)] : List Int)))) rfl rfl rfl (x_add_str rfl rfl sb76) ?_
            refine p_v (v := .string (p53.2 ++ (strOfNums ([first ((at_ m.spots (at_ (at_ m.follow p53.1) t74)).set)] : List Int)))) rfl rfl rfl (x_assign rfl) ?_
            refine run_region_end ?_
            refine run_seq ?_
            refine run_reg (l := [0, 1, 2, 3, 4, 5, 6, 7]) rfl ?_
            refine p_v (v := .map (some b48)) rfl rfl rfl (x_move rfl) ?_
            refine p_v (v := .int .i64 (at_ (at_ m.follow p53.1) t74)) rfl rfl rfl (x_move rfl) ?_
            have sz77 : ((valAt (at_ (at_ m.follow p53.1) t74) next2).getD (⟨#[]⟩ : ByteArray)).size ≤ maxLen := by
             first | (have hz_ := val_size hI59.2.2 (n := (at_ (at_ m.follow p53.1) t74)) (by omega); unfold maxLen; omega) | (have hz_ := val_size hI11.2.2 (n := (at_ (at_ m.follow p53.1) t74)) (by omega); unfold maxLen; omega)
            refine p_v (v := .tuple #[.string ((valAt (at_ (at_ m.follow p53.1) t74) next2).getD (⟨#[]⟩ : ByteArray)), .bool ((valAt (at_ (at_ m.follow p53.1) t74) next2).isSome)]) rfl rfl rfl (x_lookup (a := .map (some b48)) (k := .int .i64 (at_ (at_ m.follow p53.1) t74)) rfl rfl (e_lookup_h (kvs := next2) key3 (S73.map_at (j := 3) rfl) u169 (zero_cells ty9) (⟨#[]⟩ : ByteArray) (at_ (at_ m.follow p53.1) t74))) ?_
            refine p_v (v := .tuple #[.string ((valAt (at_ (at_ m.follow p53.1) t74) next2).getD (⟨#[]⟩ : ByteArray)), .bool ((valAt (at_ (at_ m.follow p53.1) t74) next2).isSome)]) rfl rfl rfl (x_move rfl) ?_
            refine p_v (v := .string ((valAt (at_ (at_ m.follow p53.1) t74) next2).getD (⟨#[]⟩ : ByteArray))) rfl rfl rfl (x_extract (vs := [.string ((valAt (at_ (at_ m.follow p53.1) t74) next2).getD (⟨#[]⟩ : ByteArray)), .bool ((valAt (at_ (at_ m.follow p53.1) t74) next2).isSome)]) rfl rfl) ?_
            refine p_v (v := .bool ((valAt (at_ (at_ m.follow p53.1) t74) next2).isSome)) rfl rfl rfl (x_extract (vs := [.string ((valAt (at_ (at_ m.follow p53.1) t74) next2).getD (⟨#[]⟩ : ByteArray)), .bool ((valAt (at_ (at_ m.follow p53.1) t74) next2).isSome)]) rfl rfl) ?_
            refine p_v (v := .string ((valAt (at_ (at_ m.follow p53.1) t74) next2).getD (⟨#[]⟩ : ByteArray))) rfl rfl rfl (x_assign rfl) ?_
            refine p_v (v := .bool ((valAt (at_ (at_ m.follow p53.1) t74) next2).isSome)) rfl rfl rfl (x_assign rfl) ?_
            refine run_region_end ?_
            refine run_seq ?_
            refine run_reg (l := [0, 1, 2, 3, 4, 5, 6]) rfl ?_
            refine p_v (v := .bool ((valAt (at_ (at_ m.follow p53.1) t74) next2).isSome)) rfl rfl rfl (x_move rfl) ?_
            refine p_v (v := .bool (!((valAt (at_ (at_ m.follow p53.1) t74) next2).isSome))) rfl rfl rfl (x_not rfl) ?_
            refine p_v (v := .bool (!((valAt (at_ (at_ m.follow p53.1) t74) next2).isSome))) rfl rfl rfl (x_move rfl) ?_
            rcases Bool.eq_false_or_eq_true ((valAt (at_ (at_ m.follow p53.1) t74) next2).isSome) with hc78 | hc78
            ·skip
             refine p_v (v := .string (p53.2 ++ (strOfNums ([first ((at_ m.spots (at_ (at_ m.follow p53.1) t74)).set)] : List Int)))) rfl (wanted_of (j := 2) (want := false) (d := 38) (b := false) rfl rfl (congrArg (fun z => Value.bool (!z)) hc78) rfl) rfl (x_move rfl) ?_
             refine p_v (v := .string ((valAt (at_ (at_ m.follow p53.1) t74) next2).getD (⟨#[]⟩ : ByteArray))) rfl (wanted_of (j := 2) (want := false) (d := 38) (b := false) rfl rfl (congrArg (fun z => Value.bool (!z)) hc78) rfl) rfl (x_move rfl) ?_
             refine p_v (v := .bool (strLt (p53.2 ++ (strOfNums ([first ((at_ m.spots (at_ (at_ m.follow p53.1) t74)).set)] : List Int))) ((valAt (at_ (at_ m.follow p53.1) t74) next2).getD (⟨#[]⟩ : ByteArray)))) rfl (wanted_of (j := 2) (want := false) (d := 38) (b := false) rfl rfl (congrArg (fun z => Value.bool (!z)) hc78) rfl) rfl (x_lss_string rfl rfl) ?_
             refine p_v (v := .bool (strLt (p53.2 ++ (strOfNums ([first ((at_ m.spots (at_ (at_ m.follow p53.1) t74)).set)] : List Int))) ((valAt (at_ (at_ m.follow p53.1) t74) next2).getD (⟨#[]⟩ : ByteArray)))) rfl rfl rfl (x_pick_f (congrArg (fun z => Value.bool (!z)) hc78) rfl) ?_
             refine run_region_end ?_
             refine run_cond_split (b := strLt (p53.2 ++ (strOfNums ([first ((at_ m.spots (at_ (at_ m.follow p53.1) t74)).set)] : List Int))) ((valAt (at_ (at_ m.follow p53.1) t74) next2).getD (⟨#[]⟩ : ByteArray))) rfl (fun hc79 => ?_) (fun hc79 => ?_)
             ·skip
              refine run_reg (l := [0, 1, 2, 3]) rfl ?_
              refine p_v (v := .map (some b48)) rfl rfl rfl (x_move rfl) ?_
              refine p_v (v := .int .i64 (at_ (at_ m.follow p53.1) t74)) rfl rfl rfl (x_move rfl) ?_
              refine p_v (v := .string (p53.2 ++ (strOfNums ([first ((at_ m.spots (at_ (at_ m.follow p53.1) t74)).set)] : List Int)))) rfl rfl rfl (x_move rfl) ?_
              obtain ⟨w80, r80, g80, T80⟩ := e_mapUpdate key3 S73 (j := 3) rfl u169 (at_ (at_ m.follow p53.1) t74) (p53.2 ++ (strOfNums ([first ((at_ m.spots (at_ (at_ m.follow p53.1) t74)).set)] : List Int)))
              have S81 := T80.fx 3 (amap (fun x : Int => Value.int .i64 x) (fun x : ByteArray => Value.string x) b48 (putAt (at_ (at_ m.follow p53.1) t74) (p53.2 ++ (strOfNums ([first ((at_ m.spots (at_ (at_ m.follow p53.1) t74)).set)] : List Int))) next2)) rfl
              dsimp only [lAa, lAn, lA0, lAs] at S81
              refine p_s rfl rfl (x_mapUpdate rfl rfl rfl r80) ?_
              refine run_region_end ?_
              refine run_end Tryd.func124 (res0 rfl) ?_
              refine ⟨_, rfl, ?_⟩
              refine run_region_end ?_
              refine run_inBlock ?_
              refine run_reg (l := [0, 1]) rfl ?_
              refine p_v (v := .int .i64 (t74 + 1)) rfl rfl rfl (x_add r59_74 rfl (in_i64 (by first|omega|(simp;omega)|assumption|simp) (by first|omega|(simp;omega)|assumption|simp))) ?_
              refine p_v (v := .int .i64 (t74 + 1)) rfl rfl rfl (x_move rfl) ?_
              refine run_region_end ?_
              refine ih59 (putAt (at_ (at_ m.follow p53.1) t74) (p53.2 ++ (strOfNums ([first ((at_ m.spots (at_ (at_ m.follow p53.1) t74)).set)] : List Int))) next2, t74 + 1) _ _ (by dsimp only; omega) ⟨h59, le59, S81.sub [0, 1, 2, 3] (by decide) rfl _ rfl, r59_1, r59_4, r59_11, r59_13, r59_62, r59_72, r59_73, rfl, (in_i64 (by first|omega|(simp;omega)|assumption|simp) (by first|omega|(simp;omega)|assumption|simp)), (by first | exact ⟨by omega, by omega, o3_skip hI59.2.2 (.inl (by assumption))⟩ | exact ⟨by omega, by omega, o3_skip hI59.2.2 (.inr (by assumption))⟩ | exact ⟨by omega, by omega, o3_put hI59.1 hI59.2.2 (by omega) (by assumption) (by assumption) (.inl (by assumption))⟩ | exact ⟨by omega, by omega, o3_put hI59.1 hI59.2.2 (by omega) (by assumption) (by assumption) (.inr (by assumption))⟩ | exact ⟨by omega, by omega, o3_keep hI59.1 hI59.2.2 (by omega) (by assumption) (by assumption) (by assumption) (by assumption)⟩)⟩
             ·skip
              refine run_skip ?_
              refine run_end Tryd.func124 (res0 rfl) ?_
              refine ⟨_, rfl, ?_⟩
              refine run_region_end ?_
              refine run_inBlock ?_
              refine run_reg (l := [0, 1]) rfl ?_
              refine p_v (v := .int .i64 (t74 + 1)) rfl rfl rfl (x_add r59_74 rfl (in_i64 (by first|omega|(simp;omega)|assumption|simp) (by first|omega|(simp;omega)|assumption|simp))) ?_
              refine p_v (v := .int .i64 (t74 + 1)) rfl rfl rfl (x_move rfl) ?_
              refine run_region_end ?_
              refine ih59 (next2, t74 + 1) _ _ (by dsimp only; omega) ⟨h59, le59, S73.sub [0, 1, 2, 3] (by decide) rfl _ rfl, r59_1, r59_4, r59_11, r59_13, r59_62, r59_72, r59_73, rfl, (in_i64 (by first|omega|(simp;omega)|assumption|simp) (by first|omega|(simp;omega)|assumption|simp)), (by first | exact ⟨by omega, by omega, o3_skip hI59.2.2 (.inl (by assumption))⟩ | exact ⟨by omega, by omega, o3_skip hI59.2.2 (.inr (by assumption))⟩ | exact ⟨by omega, by omega, o3_put hI59.1 hI59.2.2 (by omega) (by assumption) (by assumption) (.inl (by assumption))⟩ | exact ⟨by omega, by omega, o3_put hI59.1 hI59.2.2 (by omega) (by assumption) (by assumption) (.inr (by assumption))⟩ | exact ⟨by omega, by omega, o3_keep hI59.1 hI59.2.2 (by omega) (by assumption) (by assumption) (by assumption) (by assumption)⟩)⟩
            ·skip
             refine p_off rfl (wanted_of (j := 2) (want := false) (d := 38) (b := true) rfl rfl (congrArg (fun z => Value.bool (!z)) hc78) rfl) rfl ?_
             refine p_off rfl (wanted_of (j := 2) (want := false) (d := 38) (b := true) rfl rfl (congrArg (fun z => Value.bool (!z)) hc78) rfl) rfl ?_
             refine p_off rfl (wanted_of (j := 2) (want := false) (d := 38) (b := true) rfl rfl (congrArg (fun z => Value.bool (!z)) hc78) rfl) rfl ?_
             refine p_v (v := .bool true) rfl rfl rfl (x_pick_t (congrArg (fun z => Value.bool (!z)) hc78) rfl) ?_
             refine run_region_end ?_
             refine run_cond (b := true) rfl ?_
             simp only [if_true, if_false, Bool.false_eq_true]
             refine run_reg (l := [0, 1, 2, 3]) rfl ?_
             refine p_v (v := .map (some b48)) rfl rfl rfl (x_move rfl) ?_
             refine p_v (v := .int .i64 (at_ (at_ m.follow p53.1) t74)) rfl rfl rfl (x_move rfl) ?_
             refine p_v (v := .string (p53.2 ++ (strOfNums ([first ((at_ m.spots (at_ (at_ m.follow p53.1) t74)).set)] : List Int)))) rfl rfl rfl (x_move rfl) ?_
             obtain ⟨w82, r82, g82, T82⟩ := e_mapUpdate key3 S73 (j := 3) rfl u169 (at_ (at_ m.follow p53.1) t74) (p53.2 ++ (strOfNums ([first ((at_ m.spots (at_ (at_ m.follow p53.1) t74)).set)] : List Int)))
             have S83 := T82.fx 3 (amap (fun x : Int => Value.int .i64 x) (fun x : ByteArray => Value.string x) b48 (putAt (at_ (at_ m.follow p53.1) t74) (p53.2 ++ (strOfNums ([first ((at_ m.spots (at_ (at_ m.follow p53.1) t74)).set)] : List Int))) next2)) rfl
             dsimp only [lAa, lAn, lA0, lAs] at S83
             refine p_s rfl rfl (x_mapUpdate rfl rfl rfl r82) ?_
             refine run_region_end ?_
             refine run_end Tryd.func124 (res0 rfl) ?_
             refine ⟨_, rfl, ?_⟩
             refine run_region_end ?_
             refine run_inBlock ?_
             refine run_reg (l := [0, 1]) rfl ?_
             refine p_v (v := .int .i64 (t74 + 1)) rfl rfl rfl (x_add r59_74 rfl (in_i64 (by first|omega|(simp;omega)|assumption|simp) (by first|omega|(simp;omega)|assumption|simp))) ?_
             refine p_v (v := .int .i64 (t74 + 1)) rfl rfl rfl (x_move rfl) ?_
             refine run_region_end ?_
             refine ih59 (putAt (at_ (at_ m.follow p53.1) t74) (p53.2 ++ (strOfNums ([first ((at_ m.spots (at_ (at_ m.follow p53.1) t74)).set)] : List Int))) next2, t74 + 1) _ _ (by dsimp only; omega) ⟨h59, le59, S83.sub [0, 1, 2, 3] (by decide) rfl _ rfl, r59_1, r59_4, r59_11, r59_13, r59_62, r59_72, r59_73, rfl, (in_i64 (by first|omega|(simp;omega)|assumption|simp) (by first|omega|(simp;omega)|assumption|simp)), (by first | exact ⟨by omega, by omega, o3_skip hI59.2.2 (.inl (by assumption))⟩ | exact ⟨by omega, by omega, o3_skip hI59.2.2 (.inr (by assumption))⟩ | exact ⟨by omega, by omega, o3_put hI59.1 hI59.2.2 (by omega) (by assumption) (by assumption) (.inl (by assumption))⟩ | exact ⟨by omega, by omega, o3_put hI59.1 hI59.2.2 (by omega) (by assumption) (by assumption) (.inr (by assumption))⟩ | exact ⟨by omega, by omega, o3_keep hI59.1 hI59.2.2 (by omega) (by assumption) (by assumption) (by assumption) (by assumption)⟩)⟩
          ·skip
           refine run_skip ?_
           refine run_inBlock ?_
           refine run_reg (l := [0, 1]) rfl ?_
           refine p_v (v := .int .i64 (t74 + 1)) rfl rfl rfl (x_add r59_74 rfl (in_i64 (by first|omega|(simp;omega)|assumption|simp) (by first|omega|(simp;omega)|assumption|simp))) ?_
           refine p_v (v := .int .i64 (t74 + 1)) rfl rfl rfl (x_move rfl) ?_
           refine run_region_end ?_
           refine ih59 (next2, t74 + 1) _ _ (by dsimp only; omega) ⟨h59, le59, S59.sub [0, 1, 2, 3] (by decide) rfl _ rfl, r59_1, r59_4, r59_11, r59_13, r59_62, r59_72, r59_73, rfl, (in_i64 (by first|omega|(simp;omega)|assumption|simp) (by first|omega|(simp;omega)|assumption|simp)), (by first | exact ⟨by omega, by omega, o3_skip hI59.2.2 (.inl (by assumption))⟩ | exact ⟨by omega, by omega, o3_skip hI59.2.2 (.inr (by assumption))⟩ | exact ⟨by omega, by omega, o3_put hI59.1 hI59.2.2 (by omega) (by assumption) (by assumption) (.inl (by assumption))⟩ | exact ⟨by omega, by omega, o3_put hI59.1 hI59.2.2 (by omega) (by assumption) (by assumption) (.inr (by assumption))⟩ | exact ⟨by omega, by omega, o3_keep hI59.1 hI59.2.2 (by omega) (by assumption) (by assumption) (by assumption) (by assumption)⟩)⟩
         ·skip
          refine run_exit rfl ?_
          refine run_inBlock ?_
          refine ih52 (la53 ++ lb53, next2) _ _ (by dsimp only; exact left_dec hx53) ⟨h59, ((le52).trans le59), S59.sub [0, 1, 2, 3] (by decide) rfl _ rfl, r59_1, r59_4, r59_11, r59_62, (by exact ⟨_, hp7_, o3_end hI59.2.2 (by omega)⟩)⟩
       ·skip
        have S84 := T46.fx 2 (mitc (fun x : Int => Value.int .i64 x) (fun x : ByteArray => Value.string x) b_at r43 xat2 (la46 ++ lb46) p46) rfl
        dsimp only [lAa, lAn, lA0, lAs] at S84
        refine p_v (v := .tuple #[.bool true, .int .i64 p46.1, .string p46.2]) rfl rfl rfl (x_next r45_52 rx46) ?_
        obtain ⟨dn3_, hp3_, hM3_⟩ := hI45; obtain ⟨hp4_, hm3_⟩ := perm_next hp3_ hx46; obtain ⟨hne3_, hr3_, hz3_, ht253_, hzz3_⟩ := lev_small hL_ hR_ hm3_; have hra_ := hr3_.1; have hrb_ := hr3_.2
        refine p_v (v := .bool true) rfl rfl rfl (x_extract (vs := [.bool true, .int .i64 p46.1, .string p46.2]) rfl rfl) ?_
        refine run_region_end ?_
        refine run_seq ?_
        refine run_cond (b := true) rfl ?_
        simp only [if_true, if_false, Bool.false_eq_true]
        refine run_skip ?_
        refine run_block ?_
        refine run_seq ?_
        refine run_reg (l := [0, 1, 2]) rfl ?_
        obtain ⟨r85, T85⟩ := e_entry (P := Tryd.prog) S84 (j := 2) rfl
        have S86 := T85.fx 2 (mit (fun x : Int => Value.int .i64 x) (fun x : ByteArray => Value.string x) b_at r43 xat2 (la46 ++ lb46)) rfl
        dsimp only [lAa, lAn, lA0, lAs] at S86
        refine p_v (v := .tuple #[.int .i64 p46.1, .string p46.2]) rfl rfl rfl (x_entry r45_52 r85) ?_
        refine p_v (v := .int .i64 p46.1) rfl rfl rfl (x_extract (vs := [.int .i64 p46.1, .string p46.2]) rfl rfl) ?_
        refine p_v (v := .int .i64 p46.1) rfl rfl rfl (x_assign rfl) ?_
        refine run_region_end ?_
        refine run_reg (l := [0, 1, 2, 3]) rfl ?_
        refine p_v (v := v_seen2) rfl rfl rfl (x_move r45_4) ?_
        refine p_v (v := .int .i64 p46.1) rfl rfl rfl (x_move rfl) ?_
        obtain ⟨ad87, a87, at87⟩ := e_index_own (q := p46.1) (m := 1) S86 (j := 1) rfl rfl (by first|omega|(simp;omega)|assumption|simp) (by first|omega|(simp;omega)|assumption|simp)
        refine p_v (v := .pointer (some ad87)) rfl rfl rfl (x_index_own u25 ty4 rfl rfl a87 (by first|omega|(simp;omega)|assumption|simp) (by first|omega|(simp;omega)|assumption|simp)) ?_
        obtain ⟨w88, r88, g88, T88⟩ := e_store_own (u := .bool true) (q := p46.1) true (vs := [.bool true]) S86 ty4 rfl (j := 1) rfl rfl ⟨rfl, trivial⟩ at87 (by first|omega|(simp;omega)|assumption|simp) (by first|omega|(simp;omega)|assumption|simp)
        have S89 := T88.fx 1 (row 4 Kd.bool v_seen2 (seen2.set (p46.1).toNat true)) rfl
        dsimp only [lAa, lAn, lA0, lAs] at S89
        refine p_s rfl rfl (x_store rfl rfl r88) ?_
        refine run_region_end ?_
        refine run_inBlock ?_
        refine ih45 (seen2.set (p46.1).toNat true, la46 ++ lb46) _ _ (by dsimp only; exact left_dec hx46) ⟨h45, v_seen2, le45, S89.sub [0, 1, 2] (by decide) rfl _ rfl, r45_1, r45_4, r45_5, r45_52, (by exact ⟨_, hp4_, mk_step hM3_ hra_ hrb_⟩)⟩
     ·skip
      have S90 := T40.fx 2 (mitc (fun x : Int => Value.int .i64 x) (fun x : ByteArray => Value.string x) b_at r37 xat2 (la40 ++ lb40) p40) rfl
      dsimp only [lAa, lAn, lA0, lAs] at S90
      refine p_v (v := .tuple #[.bool true, .int .i64 p40.1, .string p40.2]) rfl rfl rfl (x_next r39_11 rx40) ?_
      obtain ⟨dn_, hp_, hE_⟩ := hI39; obtain ⟨hp1_, hm_⟩ := perm_next hp_ hx40; obtain ⟨hne2_, hr_, hz_, ht250_, hzz_⟩ := lev_small hL_ hR_ hm_; have hra0_ := hr_.1; have hrb0_ := hr_.2
      refine p_v (v := .bool true) rfl rfl rfl (x_extract (vs := [.bool true, .int .i64 p40.1, .string p40.2]) rfl rfl) ?_
      refine run_region_end ?_
      refine run_seq ?_
      refine run_cond (b := true) rfl ?_
      simp only [if_true, if_false, Bool.false_eq_true]
      refine run_skip ?_
      refine run_block ?_
      refine run_seq ?_
      refine run_reg (l := [0, 1, 2, 3, 4]) rfl ?_
      obtain ⟨r91, T91⟩ := e_entry (P := Tryd.prog) S90 (j := 2) rfl
      have S92 := T91.fx 2 (mit (fun x : Int => Value.int .i64 x) (fun x : ByteArray => Value.string x) b_at r37 xat2 (la40 ++ lb40)) rfl
      dsimp only [lAa, lAn, lA0, lAs] at S92
      refine p_v (v := .tuple #[.int .i64 p40.1, .string p40.2]) rfl rfl rfl (x_entry r39_11 r91) ?_
      refine p_v (v := .int .i64 p40.1) rfl rfl rfl (x_extract (vs := [.int .i64 p40.1, .string p40.2]) rfl rfl) ?_
      refine p_v (v := .string p40.2) rfl rfl rfl (x_extract (vs := [.int .i64 p40.1, .string p40.2]) rfl rfl) ?_
      refine p_v (v := .int .i64 p40.1) rfl rfl rfl (x_assign rfl) ?_
      refine p_v (v := .string p40.2) rfl rfl rfl (x_assign rfl) ?_
      refine run_region_end ?_
      refine run_seq ?_
      refine run_reg (l := [0, 1, 2, 3, 4, 5, 6, 7, 8, 9, 10, 11, 12, 13]) rfl ?_
      refine p_v (v := .pointer (some ⟨b35, 3, none⟩)) rfl rfl rfl (x_fieldAt fd27_3 ty25 rfl r39_3) ?_
      refine p_v (v := .slice A0_3 m.last.length c0_3) rfl rfl rfl (x_load (seg := [.slice A0_3 m.last.length c0_3]) ty25 rfl (by simp) rfl (CF.box (m := 1) (S92.box_at (j := 3) rfl) rfl)) ?_
      refine p_v (v := .int .i64 p40.1) rfl rfl rfl (x_move rfl) ?_
      obtain ⟨ad93, seg93, a93, rp93, ce93⟩ := e_index_ro (q := p40.1) (m := 1) l0_3 rfl (by first|omega|(simp;omega)|assumption|simp) (by first|omega|(simp;omega)|assumption|simp)
      refine p_v (v := .pointer (some ad93)) rfl rfl rfl (x_index_ro u25 ty4 rfl rfl a93 (by first|omega|(simp;omega)|assumption|simp) (by first|omega|(simp;omega)|assumption|simp)) ?_
      obtain ⟨rfl, _⟩ := rp93
      refine p_v (v := .bool (at_ m.last p40.1)) rfl rfl rfl (x_load (seg := [.bool (at_ m.last p40.1)]) ty4 rfl (by simp) rfl (CF.ghost ce93 (St.le0 S92))) ?_
      refine p_v (v := .bool (at_ m.last p40.1)) rfl rfl rfl (x_move rfl) ?_
      rcases Bool.eq_false_or_eq_true (at_ m.last p40.1) with hc94 | hc94
      ·skip
       refine p_v (v := .bool found) rfl (wanted_of (j := 5) (want := true) (d := 22) (b := true) rfl rfl (congrArg Value.bool hc94) rfl) rfl (x_move r39_7) ?_
       refine p_v (v := .bool (!found)) rfl (wanted_of (j := 5) (want := true) (d := 22) (b := true) rfl rfl (congrArg Value.bool hc94) rfl) rfl (x_not rfl) ?_
       refine p_v (v := .bool (!found)) rfl (wanted_of (j := 5) (want := true) (d := 22) (b := true) rfl rfl (congrArg Value.bool hc94) rfl) rfl (x_move rfl) ?_
       rcases Bool.eq_false_or_eq_true found with hc95 | hc95
       ·skip
        first | have hE4_ := endB_at hE2_ hc95 | skip
        refine p_v (v := .string p40.2) rfl (wanted_of (j := 8) (want := false) (d := 25) (b := false) rfl rfl (congrArg (fun z => Value.bool (!z)) hc95) rfl) rfl (x_move rfl) ?_
        refine p_v (v := .string best) rfl (wanted_of (j := 8) (want := false) (d := 25) (b := false) rfl rfl (congrArg (fun z => Value.bool (!z)) hc95) rfl) rfl (x_move r39_6) ?_
        refine p_v (v := .bool (strLt p40.2 best)) rfl (wanted_of (j := 8) (want := false) (d := 25) (b := false) rfl rfl (congrArg (fun z => Value.bool (!z)) hc95) rfl) rfl (x_lss_string rfl rfl) ?_
        refine p_v (v := .bool (strLt p40.2 best)) rfl (wanted_of (j := 5) (want := true) (d := 22) (b := true) rfl rfl (congrArg Value.bool hc94) rfl) rfl (x_pick_f (congrArg (fun z => Value.bool (!z)) hc95) rfl) ?_
        refine p_v (v := .bool (strLt p40.2 best)) rfl rfl rfl (x_pick_t (congrArg Value.bool hc94) rfl) ?_
        refine run_region_end ?_
        refine run_cond_split (b := strLt p40.2 best) rfl (fun hc96 => ?_) (fun hc96 => ?_)
        ·skip
         refine run_reg (l := [0, 1, 2]) rfl ?_
         refine p_v (v := .string p40.2) rfl rfl rfl (x_move rfl) ?_
         refine p_v (v := .string p40.2) rfl rfl rfl (x_assign rfl) ?_
         refine p_v (v := .bool true) rfl rfl rfl (x_assign rfl) ?_
         refine run_region_end ?_
         refine run_inBlock ?_
         refine ih39 (la40 ++ lb40, p40.2, true) _ _ (by dsimp only; exact left_dec hx40) ⟨h39, le39, S92.sub [0, 1, 2, 3] (by decide) rfl _ rfl, r39_3, rfl, rfl, r39_11, (by assumption), (by exact ⟨_, hp1_, by first | exact endB_take hE_ (by assumption) (.inl (by assumption)) | exact endB_take hE_ (by assumption) (.inr (by assumption)) | exact endB_skip hE_ (.inl (by assumption)) | exact endB_skip hE_ (.inr ⟨by assumption, by assumption⟩) | exact endB_at (endB_skip hE_ (.inr ⟨by assumption, by assumption⟩)) (by assumption)⟩)⟩
        ·skip
         refine run_skip ?_
         refine run_inBlock ?_
         refine ih39 (la40 ++ lb40, best, true) _ _ (by dsimp only; exact left_dec hx40) ⟨h39, le39, S92.sub [0, 1, 2, 3] (by decide) rfl _ rfl, r39_3, r39_6, (r39_7.trans (congrArg Value.bool hc95)), r39_11, f39_0, (by exact ⟨_, hp1_, by first | exact endB_take hE_ (by assumption) (.inl (by assumption)) | exact endB_take hE_ (by assumption) (.inr (by assumption)) | exact endB_skip hE_ (.inl (by assumption)) | exact endB_skip hE_ (.inr ⟨by assumption, by assumption⟩) | exact endB_at (endB_skip hE_ (.inr ⟨by assumption, by assumption⟩)) (by assumption)⟩)⟩
       ·skip
        first | have hE3_ := endB_at hE2_ hc95 | skip
        refine p_off rfl (wanted_of (j := 8) (want := false) (d := 25) (b := true) rfl rfl (congrArg (fun z => Value.bool (!z)) hc95) rfl) rfl ?_
        refine p_off rfl (wanted_of (j := 8) (want := false) (d := 25) (b := true) rfl rfl (congrArg (fun z => Value.bool (!z)) hc95) rfl) rfl ?_
        refine p_off rfl (wanted_of (j := 8) (want := false) (d := 25) (b := true) rfl rfl (congrArg (fun z => Value.bool (!z)) hc95) rfl) rfl ?_
        refine p_v (v := .bool true) rfl (wanted_of (j := 5) (want := true) (d := 22) (b := true) rfl rfl (congrArg Value.bool hc94) rfl) rfl (x_pick_t (congrArg (fun z => Value.bool (!z)) hc95) rfl) ?_
        refine p_v (v := .bool true) rfl rfl rfl (x_pick_t (congrArg Value.bool hc94) rfl) ?_
        refine run_region_end ?_
        refine run_cond (b := true) rfl ?_
        simp only [if_true, if_false, Bool.false_eq_true]
        refine run_reg (l := [0, 1, 2]) rfl ?_
        refine p_v (v := .string p40.2) rfl rfl rfl (x_move rfl) ?_
        refine p_v (v := .string p40.2) rfl rfl rfl (x_assign rfl) ?_
        refine p_v (v := .bool true) rfl rfl rfl (x_assign rfl) ?_
        refine run_region_end ?_
        refine run_inBlock ?_
        refine ih39 (la40 ++ lb40, p40.2, true) _ _ (by dsimp only; exact left_dec hx40) ⟨h39, le39, S92.sub [0, 1, 2, 3] (by decide) rfl _ rfl, r39_3, rfl, rfl, r39_11, (by assumption), (by exact ⟨_, hp1_, by first | exact endB_take hE_ (by assumption) (.inl (by assumption)) | exact endB_take hE_ (by assumption) (.inr (by assumption)) | exact endB_skip hE_ (.inl (by assumption)) | exact endB_skip hE_ (.inr ⟨by assumption, by assumption⟩) | exact endB_at (endB_skip hE_ (.inr ⟨by assumption, by assumption⟩)) (by assumption)⟩)⟩
      ·skip
       refine p_off rfl (wanted_of (j := 5) (want := true) (d := 22) (b := false) rfl rfl (congrArg Value.bool hc94) rfl) rfl ?_
       refine p_off rfl (wanted_of (j := 5) (want := true) (d := 22) (b := false) rfl rfl (congrArg Value.bool hc94) rfl) rfl ?_
       refine p_off rfl (wanted_of (j := 5) (want := true) (d := 22) (b := false) rfl rfl (congrArg Value.bool hc94) rfl) rfl ?_
       refine p_off rfl rfl rfl ?_
       refine p_off rfl rfl rfl ?_
       refine p_off rfl rfl rfl ?_
       refine p_off rfl (wanted_of (j := 5) (want := true) (d := 22) (b := false) rfl rfl (congrArg Value.bool hc94) rfl) rfl ?_
       refine p_v (v := .bool false) rfl rfl rfl (x_pick_f (congrArg Value.bool hc94) rfl) ?_
       refine run_region_end ?_
       refine run_cond (b := false) rfl ?_
       simp only [if_true, if_false, Bool.false_eq_true]
       refine run_skip ?_
       refine run_inBlock ?_
       refine ih39 (la40 ++ lb40, best, found) _ _ (by dsimp only; exact left_dec hx40) ⟨h39, le39, S92.sub [0, 1, 2, 3] (by decide) rfl _ rfl, r39_3, r39_6, r39_7, r39_11, f39_0, (by exact ⟨_, hp1_, by first | exact endB_take hE_ (by assumption) (.inl (by assumption)) | exact endB_take hE_ (by assumption) (.inr (by assumption)) | exact endB_skip hE_ (.inl (by assumption)) | exact endB_skip hE_ (.inr ⟨by assumption, by assumption⟩) | exact endB_at (endB_skip hE_ (.inr ⟨by assumption, by assumption⟩)) (by assumption)⟩)⟩
    ·skip
     refine run_exit rfl ?_
     refine run_seq ?_
     refine run_reg (l := [0, 1]) rfl ?_
     refine p_v (v := .string (⟨#[]⟩ : ByteArray)) rfl rfl rfl (x_assign rfl) ?_
     refine p_v (v := .bool false) rfl rfl rfl (x_assign rfl) ?_
     refine run_region_end ?_
     refine run_ret Tryd.func62 (res2 rfl (res_tmp (v := .string (⟨#[]⟩ : ByteArray)) rfl) (res_tmp (v := .bool false) rfl)) ?_
     have q0 : (wordW (runM m) : ByteArray) = (⟨#[]⟩ : ByteArray) := by
      first | exact (word_no (fun w => run_wrong m w (by assumption))).1 | exact (word_is (empty_least hrm_ (by assumption))).1 | exact (word_is (lev_found hL_ hR_ he_ hE4_ hd2_).1).1 | exact (word_no (lev_none hL_ hR_ he_ (List.eq_nil_of_length_eq_zero (by omega)))).1
     have q1 : (okW (runM m) : Bool) = false := by
      first | exact (word_no (fun w => run_wrong m w (by assumption))).2 | exact (word_is (empty_least hrm_ (by assumption))).2 | exact (word_is (lev_found hL_ hR_ he_ hE4_ hd2_).1).2 | exact (word_no (lev_none hL_ hR_ he_ (List.eq_nil_of_length_eq_zero (by omega)))).2
     refine ⟨_, rfl, h33, ?_, ?_, ?_, ?_⟩
     · exact S33.sub [] (by decide) rfl _ rfl
     · first | rfl | (simp only [q0, q1]; rfl) | (simp only [q0, q1])
     · rw [q0]; first | assumption | exact (by decide)
     ·show (okW (runM m) = true → ((wordW (runM m)).size : Int) ≤ m.spots.length) ∧ (okW (runM m) = false → ∀ w, runM m w = false)
      first | exact path_size0 (fun w => run_wrong m w (by assumption)) | exact path_size (empty_least hrm_ (by assumption)) (by show (0 : Int) ≤ _; omega) | exact path_size (lev_found hL_ hR_ he_ hE4_ hd2_).1 (by rw [(lev_found hL_ hR_ he_ hE4_ hd2_).2]; exact lev_less hL_ hne_) | exact path_size0 (lev_none hL_ hR_ he_ (List.eq_nil_of_length_eq_zero (by omega)))
end Go.Proofs.YtfoemogojbnfhaaDoor
namespace Go.Proofs.YtfoemogojbnfhaaDoor
open Go Go.RowKit Gx
set_option maxHeartbeats 1000000
set_option linter.unusedVariables false
set_option linter.unusedSimpArgs false
set_option maxRecDepth 8000
attribute [local irreducible] listOf count first someIn has setOf wbits Lib.ctz badQ badRow rightD goD runD nextB nextC outTo readTo rowIn finalB lastB leastB leastBTo buildM errB fitsP madeM allM bfs numbered putB beginB okB lessL lessW strLt cmpW cmpI orI wordW okW wordS wordT revTo leL
theorem bare_calls (w : World) :
    Calls Tryd.prog 119 #[] w fun e w' => ∃ v, e = .returned v ∧ ∃ (hn : Ghost) (r0 : Value) (r1 : Value) (r2 : Value) (r3 : Value), St w.heap.size w hn w' [row 101 kSpot r0 bareM.spots, row 3 (Kd.int .i64) r1 bareM.first, row 23 (Kd.int .i64).slice r2 bareM.follow, row 4 Kd.bool r3 bareM.last] ∧ v = .agg #[r0, r1, r2, r3, .bool bareM.empty] := by
 refine calls_of_run Tryd.func119 rfl Tryd.ntmps119 rfl ?_
 have S0 := St.init w
 refine run_seq ?_
 refine run_reg (l := [0]) rfl ?_
 obtain ⟨b1, w1, r1, g1, T1⟩ := e_box (P := Tryd.prog) S0 27 (v := (.agg #[.slice none 0 0, .slice none 0 0, .slice none 0 0, .slice none 0 0, .bool false])) [.slice none 0 0, .slice none 0 0, .slice none 0 0, .slice none 0 0, .bool false] rfl
 have S2 := T1
 dsimp only [lAa, lAn, lA0, lAs] at S2
 refine p_v (v := .pointer (some ⟨b1, 0, none⟩)) rfl rfl rfl (x_alloc ty27 r1) ?_
 refine run_region_end ?_
 refine run_seq ?_
 refine run_reg (l := [0, 1, 2]) rfl ?_
 refine p_c rfl rfl rfl (y_call (args := []) ca46 rfl rfl) (some10_calls w1 ) ?_
 rintro _ w3 ⟨h3, v3_0, v3_1, v3_2, v3_3, T3, rfl⟩
 obtain ⟨k3, lk3, ll3, U3⟩ := call_joins S2 T3
 have S4 := U3
 dsimp only [lAa, lAn, lA0, lAs] at S4
 obtain ⟨b5, w5, r5, g5, T5⟩ := e_box (P := Tryd.prog) S4 27 (v := (.agg #[.slice none 0 0, .slice none 0 0, .slice none 0 0, .slice none 0 0, .bool false])) [.slice none 0 0, .slice none 0 0, .slice none 0 0, .slice none 0 0, .bool false] rfl
 have S6 := T5
 dsimp only [lAa, lAn, lA0, lAs] at S6
 refine p_v (v := .pointer (some ⟨b5, 0, none⟩)) rfl rfl rfl (x_alloc ty27 r5) ?_
 have oc8 := row_one S6 (j := 1) rfl
 have oc9 := row_one S6 (j := 2) rfl
 have oc10 := row_one S6 (j := 3) rfl
 have oc11 := row_one S6 (j := 4) rfl
 obtain ⟨w7, r7, g7, T7⟩ := e_store (P := Tryd.prog) (off := 0) (v := .agg #[v3_0, v3_1, v3_2, v3_3, .bool someM.empty]) (vs := [v3_0, v3_1, v3_2, v3_3, .bool someM.empty]) S6 ty27 rfl rfl (j := 5) rfl (by first | decide | exact Nat.le_of_ble_eq_true rfl) (one_cons oc8 (one_cons oc9 (one_cons oc10 (one_cons oc11 (one_cons rfl one_nil)))))
 have S12 := T7.fx 5 (box b5 27 [v3_0, v3_1, v3_2, v3_3, .bool someM.empty]) rfl
 dsimp only [lAa, lAn, lA0, lAs] at S12
 refine p_s rfl rfl (x_store rfl rfl r7) ?_
 refine run_region_end ?_
 refine run_seq ?_
 refine run_reg (l := [0, 1]) rfl ?_
 refine p_v (v := .pointer (some ⟨b5, 4, none⟩)) rfl rfl rfl (x_fieldAt fd27_4 ty4 rfl rfl) ?_
 obtain ⟨w13, r13, g13, T13⟩ := e_store (P := Tryd.prog) (off := 4) (v := .bool false) (vs := [.bool false]) S12 ty4 rfl rfl (j := 5) rfl (by first | decide | exact Nat.le_of_ble_eq_true rfl) (by simp [Value.oneCell'])
 have S14 := T13.fx 5 (box b5 27 [v3_0, v3_1, v3_2, v3_3, .bool false]) rfl
 dsimp only [lAa, lAn, lA0, lAs] at S14
 refine p_s rfl rfl (x_store rfl rfl r13) ?_
 refine run_region_end ?_
 refine run_seq ?_
 refine run_reg (l := [0, 1]) rfl ?_
 refine p_v (v := .agg #[v3_0, v3_1, v3_2, v3_3, .bool false]) rfl rfl rfl (x_load (seg := [v3_0, v3_1, v3_2, v3_3, .bool false]) ty27 rfl (by simp) rfl (CF.box (m := 5) (S14.box_at (j := 5) rfl) rfl)) ?_
 have oc16 := row_one S14 (j := 1) rfl
 have oc17 := row_one S14 (j := 2) rfl
 have oc18 := row_one S14 (j := 3) rfl
 have oc19 := row_one S14 (j := 4) rfl
 obtain ⟨w15, r15, g15, T15⟩ := e_store (P := Tryd.prog) (off := 0) (v := .agg #[v3_0, v3_1, v3_2, v3_3, .bool false]) (vs := [v3_0, v3_1, v3_2, v3_3, .bool false]) S14 ty27 rfl rfl (j := 0) rfl (by first | decide | exact Nat.le_of_ble_eq_true rfl) (one_cons oc16 (one_cons oc17 (one_cons oc18 (one_cons oc19 (one_cons rfl one_nil)))))
 have S20 := T15.fx 0 (box b1 27 [v3_0, v3_1, v3_2, v3_3, .bool false]) rfl
 dsimp only [lAa, lAn, lA0, lAs] at S20
 refine p_s rfl rfl (x_store rfl rfl r15) ?_
 refine run_region_end ?_
 refine run_ret Tryd.func119 (res1 rfl (res_cell S20 ty27 rfl (j := 0) rfl rfl (by simp) rfl)) ?_
 have q0 : (bareM.spots : List Spot) = someM.spots := by
  unfold bareM; rfl
 have q1 : (bareM.first : List Int) = someM.first := by
  unfold bareM; rfl
 have q2 : (bareM.follow : List (List Int)) = someM.follow := by
  unfold bareM; rfl
 have q3 : (bareM.last : List Bool) = someM.last := by
  unfold bareM; rfl
 have q4 : (bareM.empty : Bool) = false := by
  unfold bareM; rfl
 refine ⟨_, rfl, k3, v3_0, v3_1, v3_2, v3_3, ?_, ?_⟩
 · rw [q0]; rw [q1]; rw [q2]; rw [q3]; exact S20.sub [1, 2, 3, 4] (by decide) rfl _ rfl
 · first | rfl | (simp only [q0, q1, q2, q3, q4]; rfl) | (simp only [q0, q1, q2, q3, q4])
theorem awake13_calls (w : World) (tb : Block 0 tzTab w) :
    Calls Tryd.prog 55 #[] w fun e w' => ∃ v, e = .returned v ∧ ∃ (hn : Ghost), St w.heap.size w hn w' [] ∧ v = .bool true := by
 refine calls_of_run Tryd.func55 rfl Tryd.ntmps55 rfl ?_
 have S0 := St.init w
 have hbl_ := bare_len
 refine run_seq ?_
 refine run_reg (l := [0]) rfl ?_
 refine p_v (v := .bool false) rfl rfl rfl (x_assign rfl) ?_
 refine run_region_end ?_
 refine run_seq ?_
 refine run_reg (l := [0, 1, 2]) rfl ?_
 refine p_c rfl rfl rfl (y_call (args := []) ca119 rfl rfl) (bare_calls w ) ?_
 rintro _ w1 ⟨h1, v1_0, v1_1, v1_2, v1_3, T1, rfl⟩
 obtain ⟨k1, lk1, ll1, U1⟩ := call_joins S0 T1
 have S2 := U1
 dsimp only [lAa, lAn, lA0, lAs] at S2
 obtain ⟨h3, le3, T3, rp3⟩ := S2.freeze (i := 0) rfl
 have lf3_0 := (lk1).trans le3
 have S4 := T3.fx 0 (emp) rfl
 dsimp only [lAa, lAn, lA0, lAs] at S4
 obtain ⟨A3, c3, e3, lc3, cm3, ld3⟩ := rp3
 injection e3 with e3 _; subst e3
 have cn3 := cm3; simp only [maxLen] at cn3
 obtain ⟨h5, le5, T5, rp5⟩ := S4.freeze (i := 1) rfl
 have lf5_0 := (lf3_0).trans le5
 have lf5_1 := (le3).trans le5
 have S6 := T5.fx 1 (emp) rfl
 dsimp only [lAa, lAn, lA0, lAs] at S6
 obtain ⟨A5, c5, e5, lc5, cm5, ld5⟩ := rp5
 injection e5 with e5 _; subst e5
 have cn5 := cm5; simp only [maxLen] at cn5
 obtain ⟨h7, le7, T7, rp7⟩ := S6.freeze (i := 2) rfl
 have lf7_0 := (lf5_0).trans le7
 have lf7_1 := (lf5_1).trans le7
 have lf7_2 := (le5).trans le7
 have S8 := T7.fx 2 (emp) rfl
 dsimp only [lAa, lAn, lA0, lAs] at S8
 obtain ⟨A7, c7, e7, lc7, cm7, ld7⟩ := rp7
 injection e7 with e7 _; subst e7
 have cn7 := cm7; simp only [maxLen] at cn7
 obtain ⟨h9, le9, T9, rp9⟩ := S8.freeze (i := 3) rfl
 have lf9_0 := (lf7_0).trans le9
 have lf9_1 := (lf7_1).trans le9
 have lf9_2 := (lf7_2).trans le9
 have lf9_3 := (le7).trans le9
 have S10 := T9.fx 3 (emp) rfl
 dsimp only [lAa, lAn, lA0, lAs] at S10
 obtain ⟨A9, c9, e9, lc9, cm9, ld9⟩ := rp9
 injection e9 with e9 _; subst e9
 have cn9 := cm9; simp only [maxLen] at cn9
 obtain ⟨b11, w11, r11, g11, T11⟩ := e_box (P := Tryd.prog) S10 27 (v := (.agg #[.slice none 0 0, .slice none 0 0, .slice none 0 0, .slice none 0 0, .bool false])) [.slice none 0 0, .slice none 0 0, .slice none 0 0, .slice none 0 0, .bool false] rfl
 have S12 := T11
 dsimp only [lAa, lAn, lA0, lAs] at S12
 refine p_v (v := .pointer (some ⟨b11, 0, none⟩)) rfl rfl rfl (x_alloc ty27 r11) ?_
 obtain ⟨w13, r13, g13, T13⟩ := e_store (P := Tryd.prog) (off := 0) (v := .agg #[.slice A3 bareM.spots.length c3, .slice A5 bareM.first.length c5, .slice A7 bareM.follow.length c7, .slice A9 bareM.last.length c9, .bool bareM.empty]) (vs := [.slice A3 bareM.spots.length c3, .slice A5 bareM.first.length c5, .slice A7 bareM.follow.length c7, .slice A9 bareM.last.length c9, .bool bareM.empty]) S12 ty27 rfl rfl (j := 4) rfl (by first | decide | exact Nat.le_of_ble_eq_true rfl) (by simp [Value.oneCell'])
 have S14 := T13.fx 4 (box b11 27 [.slice A3 bareM.spots.length c3, .slice A5 bareM.first.length c5, .slice A7 bareM.follow.length c7, .slice A9 bareM.last.length c9, .bool bareM.empty]) rfl
 dsimp only [lAa, lAn, lA0, lAs] at S14
 refine p_s rfl rfl (x_store rfl rfl r13) ?_
 refine run_region_end ?_
 refine run_seq ?_
 have hf15 : (CFs ⟨b11, 0, none⟩ [.slice A3 bareM.spots.length c3, .slice A5 bareM.first.length c5, .slice A7 bareM.follow.length c7, .slice A9 bareM.last.length c9, .bool bareM.empty]).1 w13 := (CF.box (m := 5) (S14.box_at (j := 4) rfl) rfl)
 have hf16 : (CFs ⟨b11, 0, none⟩ [.slice A3 bareM.spots.length c3, .slice A5 bareM.first.length c5, .slice A7 bareM.follow.length c7, .slice A9 bareM.last.length c9, .bool bareM.empty]).1 w13 := (CF.box (m := 5) (S14.box_at (j := 4) rfl) rfl)
 refine daS (hkC 0 hf15 (hkC 1 hf16 (hkN (w := w13)))) 11 rfl mixed ?_
 intro wd17 gd17 hd17
 have S18 := S14.keep gd17
 have hf19 := spUp gd17 hf15
 have hf20 := spUp gd17 hf16
 refine qd1 0 (i := 0) (v := .agg #[.slice A3 bareM.spots.length c3, .slice A5 bareM.first.length c5, .slice A7 bareM.follow.length c7, .slice A9 bareM.last.length c9, .bool bareM.empty]) rfl rfl (by decide +kernel) rfl rfl (fun wq hq => (x_load (seg := [.slice A3 bareM.spots.length c3, .slice A5 bareM.first.length c5, .slice A7 bareM.follow.length c7, .slice A9 bareM.last.length c9, .bool bareM.empty]) ty27 rfl (by simp) rfl hq)) (of_eq hf19 (of_no rfl)) ?_
 refine qd1 1 (i := 1) (v := .agg #[.slice A3 bareM.spots.length c3, .slice A5 bareM.first.length c5, .slice A7 bareM.follow.length c7, .slice A9 bareM.last.length c9, .bool bareM.empty]) rfl rfl (by decide +kernel) rfl rfl (fun wq hq => (x_load (seg := [.slice A3 bareM.spots.length c3, .slice A5 bareM.first.length c5, .slice A7 bareM.follow.length c7, .slice A9 bareM.last.length c9, .bool bareM.empty]) ty27 rfl (by simp) rfl hq)) (of_ne rfl (of_eq hf20 (of_no rfl))) ?_
 refine ra_join (fun ρ w' => ∃ (h : Ghost) (j69_b52 : Nat) (j69_A43 : Option Addr) (j69_c43 : Nat) (j69_A45 : Option Addr) (j69_c45 : Nat), Le h9 h ∧ St w.heap.size w h w' [box b11 27 [.slice A3 bareM.spots.length c3, .slice A5 bareM.first.length c5, .slice A7 bareM.follow.length c7, .slice A9 bareM.last.length c9, .bool bareM.empty], box j69_b52 35 ((encPart ((buildM bareM (refineP (setsM bareM))).part)) ++ ([.slice j69_A43 ((buildM bareM (refineP (setsM bareM))).next).length j69_c43, .slice j69_A45 ((buildM bareM (refineP (setsM bareM))).final).length j69_c45] : List Value))] ∧ ρ 1 = .pointer (some ⟨b11, 0, none⟩) ∧ ρ 2 = .pointer (some ⟨j69_b52, 0, none⟩) ∧ ρ 3 = .int .i64 (errB bareM (refineP (setsM bareM))) ∧ inK .i64 (errB bareM (refineP (setsM bareM))) ∧ okPart ((buildM bareM (refineP (setsM bareM))).part) ∧ (((buildM bareM (refineP (setsM bareM))).next).length ≤ j69_c43 ∧ j69_c43 ≤ maxLen) ∧ Leads (Kd.int .i64).slice h j69_A43 ((buildM bareM (refineP (setsM bareM))).next) ∧ (((buildM bareM (refineP (setsM bareM))).final).length ≤ j69_c45 ∧ j69_c45 ≤ maxLen) ∧ Leads Kd.bool h j69_A45 ((buildM bareM (refineP (setsM bareM))).final)) ?_ (fun jn69 => ?_)
 ·skip
  rintro ρj69 wj69 ⟨hj69, j69_b52, j69_A43, j69_c43, j69_A45, j69_c45, lej69, Sj69, rj69_1, rj69_2, rj69_3, jf69_0, jf69_1, jf69_2, jf69_3, jf69_4, jf69_5⟩
  have jl69_0 := i64_lo jf69_0; have jh69_0 := i64_hi jf69_0
  have jb69_2 := jf69_2.1; have jc69_2 := jf69_2.2; simp only [maxLen] at jc69_2
  have jb69_4 := jf69_4.1; have jc69_4 := jf69_4.2; simp only [maxLen] at jc69_4
  refine run_seq ?_
  refine run_reg (l := [0, 1, 2, 3, 4, 5, 6]) rfl ?_
  refine p_v (v := .agg ((encPart ((buildM bareM (refineP (setsM bareM))).part)) ++ ([.slice j69_A43 ((buildM bareM (refineP (setsM bareM))).next).length j69_c43, .slice j69_A45 ((buildM bareM (refineP (setsM bareM))).final).length j69_c45] : List Value)).toArray) rfl rfl rfl (x_load (seg := ((encPart ((buildM bareM (refineP (setsM bareM))).part)) ++ ([.slice j69_A43 ((buildM bareM (refineP (setsM bareM))).next).length j69_c43, .slice j69_A45 ((buildM bareM (refineP (setsM bareM))).final).length j69_c45] : List Value))) ty35 (len_app (encPart_len jf69_1) rfl) (by simp) rj69_2 (CF.box (m := 259) (Sj69.box_at (j := 1) rfl) (take_all (len_app (encPart_len jf69_1) rfl)))) ?_
  refine p_c rfl rfl rfl (y_call (args := [.agg ((encPart ((buildM bareM (refineP (setsM bareM))).part)) ++ ([.slice j69_A43 ((buildM bareM (refineP (setsM bareM))).next).length j69_c43, .slice j69_A45 ((buildM bareM (refineP (setsM bareM))).final).length j69_c45] : List Value)).toArray]) ca58 rfl rfl) (wordD_calls wj69 (buildM bareM (refineP (setsM bareM))) jf69_1 j69_A43 j69_c43 jf69_2 (jf69_3.mono ((Le.refl _).trans Sj69.ghost)) j69_A45 j69_c45 jf69_4 (jf69_5.mono ((Le.refl _).trans Sj69.ghost)) (by first | assumption | omega | decide) (Block.st Sj69 tb)) ?_
  rintro _ w70 ⟨h70, T70, rfl, sz70_0, fx70⟩
  have S71 := Sj69.keep (Chg.of_below T70.below)
  have bd_sz70_0 := sz70_0; simp only [maxLen] at bd_sz70_0
  have hwA_ := fx70.1; have hwB_ := fx70.2
  refine p_v (v := .tuple #[.string (wordW (runD (buildM bareM (refineP (setsM bareM))))), .bool (okW (runD (buildM bareM (refineP (setsM bareM)))))]) rfl rfl rfl (x_move rfl) ?_
  refine p_v (v := .string (wordW (runD (buildM bareM (refineP (setsM bareM)))))) rfl rfl rfl (x_extract (vs := [.string (wordW (runD (buildM bareM (refineP (setsM bareM))))), .bool (okW (runD (buildM bareM (refineP (setsM bareM)))))]) rfl rfl) ?_
  refine p_v (v := .bool (okW (runD (buildM bareM (refineP (setsM bareM)))))) rfl rfl rfl (x_extract (vs := [.string (wordW (runD (buildM bareM (refineP (setsM bareM))))), .bool (okW (runD (buildM bareM (refineP (setsM bareM)))))]) rfl rfl) ?_
  refine p_v (v := .string (wordW (runD (buildM bareM (refineP (setsM bareM)))))) rfl rfl rfl (x_assign rfl) ?_
  refine p_v (v := .bool (okW (runD (buildM bareM (refineP (setsM bareM)))))) rfl rfl rfl (x_assign rfl) ?_
  refine run_region_end ?_
  refine run_seq ?_
  refine run_reg (l := [0, 1, 2, 3, 4, 5, 6]) rfl ?_
  refine p_v (v := .agg #[.slice A3 bareM.spots.length c3, .slice A5 bareM.first.length c5, .slice A7 bareM.follow.length c7, .slice A9 bareM.last.length c9, .bool bareM.empty]) rfl rfl rfl (x_load (seg := [.slice A3 bareM.spots.length c3, .slice A5 bareM.first.length c5, .slice A7 bareM.follow.length c7, .slice A9 bareM.last.length c9, .bool bareM.empty]) ty27 rfl (by simp) rj69_1 (CF.box (m := 5) (S71.box_at (j := 0) rfl) rfl)) ?_
  refine p_c rfl rfl rfl (y_call (args := [.agg #[.slice A3 bareM.spots.length c3, .slice A5 bareM.first.length c5, .slice A7 bareM.follow.length c7, .slice A9 bareM.last.length c9, .bool bareM.empty]]) ca62 rfl rfl) (path_calls w70 bareM A3 c3 (And.intro lc3 cm3) (ld3.mono (((lf9_2).trans lej69).trans S71.ghost)) A5 c5 (And.intro lc5 cm5) (ld5.mono (((lf9_3).trans lej69).trans S71.ghost)) A7 c7 (And.intro lc7 cm7) (ld7.mono (((le9).trans lej69).trans S71.ghost)) A9 c9 (And.intro lc9 cm9) (ld9.mono (lej69.trans S71.ghost)) (Block.st S71 tb)) ?_
  rintro _ w72 ⟨h72, T72, rfl, sz72_0, fx72⟩
  have S73 := S71.keep (Chg.of_below T72.below)
  have bd_sz72_0 := sz72_0; simp only [maxLen] at bd_sz72_0
  have hpA_ := fx72.1; have hpB_ := fx72.2
  refine p_v (v := .tuple #[.string (wordW (runM bareM)), .bool (okW (runM bareM))]) rfl rfl rfl (x_move rfl) ?_
  refine p_v (v := .string (wordW (runM bareM))) rfl rfl rfl (x_extract (vs := [.string (wordW (runM bareM)), .bool (okW (runM bareM))]) rfl rfl) ?_
  refine p_v (v := .bool (okW (runM bareM))) rfl rfl rfl (x_extract (vs := [.string (wordW (runM bareM)), .bool (okW (runM bareM))]) rfl rfl) ?_
  refine p_v (v := .string (wordW (runM bareM))) rfl rfl rfl (x_assign rfl) ?_
  refine p_v (v := .bool (okW (runM bareM))) rfl rfl rfl (x_assign rfl) ?_
  refine run_region_end ?_
  refine run_seq ?_
  refine run_reg (l := [0, 1, 2, 3, 4, 5, 6, 7, 8, 9, 10, 11, 12, 13, 14, 15, 16, 17, 18, 19, 20, 21, 22, 23, 24]) rfl ?_
  refine p_v (v := .int .i64 (errB bareM (refineP (setsM bareM)))) rfl rfl rfl (x_move rj69_3) ?_
  refine p_v (v := .bool (decide ((errB bareM (refineP (setsM bareM))) = 0))) rfl rfl rfl (x_eql rfl rfl) ?_
  refine p_v (v := .bool (decide ((errB bareM (refineP (setsM bareM))) = 0))) rfl rfl rfl (x_move rfl) ?_
  have hc74 : ((errB bareM (refineP (setsM bareM))) = 0) := by
   exact bare_1
  refine p_v (v := .string (wordW (runD (buildM bareM (refineP (setsM bareM)))))) rfl (wanted_of (j := 2) (want := true) (d := 29) (b := true) rfl rfl (congrArg Value.bool (decide_eq_true hc74)) rfl) rfl (x_move rfl) ?_
  refine p_v (v := .bool (decide ((wordW (runD (buildM bareM (refineP (setsM bareM))))) = (⟨#[97, 98]⟩ : ByteArray)))) rfl (wanted_of (j := 2) (want := true) (d := 29) (b := true) rfl rfl (congrArg Value.bool (decide_eq_true hc74)) rfl) rfl (x_eql_string rfl rfl) ?_
  refine p_v (v := .bool (decide ((wordW (runD (buildM bareM (refineP (setsM bareM))))) = (⟨#[97, 98]⟩ : ByteArray)))) rfl rfl rfl (x_pick_t (congrArg Value.bool (decide_eq_true hc74)) rfl) ?_
  refine p_v (v := .bool (decide ((wordW (runD (buildM bareM (refineP (setsM bareM))))) = (⟨#[97, 98]⟩ : ByteArray)))) rfl rfl rfl (x_move rfl) ?_
  have hc75 : ((wordW (runD (buildM bareM (refineP (setsM bareM))))) = (⟨#[97, 98]⟩ : ByteArray)) := by
   exact bare_2
  refine p_v (v := .bool (okW (runD (buildM bareM (refineP (setsM bareM)))))) rfl (wanted_of (j := 6) (want := true) (d := 33) (b := true) rfl rfl (congrArg Value.bool (decide_eq_true hc75)) rfl) rfl (x_move rfl) ?_
  refine p_v (v := .bool (okW (runD (buildM bareM (refineP (setsM bareM)))))) rfl rfl rfl (x_pick_t (congrArg Value.bool (decide_eq_true hc75)) rfl) ?_
  refine p_v (v := .bool (okW (runD (buildM bareM (refineP (setsM bareM)))))) rfl rfl rfl (x_move rfl) ?_
  have hc76 : (okW (runD (buildM bareM (refineP (setsM bareM))))) = true := by
   exact bare_3
  refine p_v (v := .string (wordW (runM bareM))) rfl (wanted_of (j := 9) (want := true) (d := 36) (b := true) rfl rfl (congrArg Value.bool hc76) rfl) rfl (x_move rfl) ?_
  refine p_v (v := .bool (decide ((wordW (runM bareM)) = (⟨#[97, 98]⟩ : ByteArray)))) rfl (wanted_of (j := 9) (want := true) (d := 36) (b := true) rfl rfl (congrArg Value.bool hc76) rfl) rfl (x_eql_string rfl rfl) ?_
  refine p_v (v := .bool (decide ((wordW (runM bareM)) = (⟨#[97, 98]⟩ : ByteArray)))) rfl rfl rfl (x_pick_t (congrArg Value.bool hc76) rfl) ?_
  refine p_v (v := .bool (decide ((wordW (runM bareM)) = (⟨#[97, 98]⟩ : ByteArray)))) rfl rfl rfl (x_move rfl) ?_
  have hc77 : ((wordW (runM bareM)) = (⟨#[97, 98]⟩ : ByteArray)) := by
   exact bare_4
  refine p_v (v := .bool (okW (runM bareM))) rfl (wanted_of (j := 13) (want := true) (d := 40) (b := true) rfl rfl (congrArg Value.bool (decide_eq_true hc77)) rfl) rfl (x_move rfl) ?_
  refine p_v (v := .bool (okW (runM bareM))) rfl rfl rfl (x_pick_t (congrArg Value.bool (decide_eq_true hc77)) rfl) ?_
  refine p_v (v := .bool (okW (runM bareM))) rfl rfl rfl (x_move rfl) ?_
  have hc78 : (okW (runM bareM)) = true := by
   exact bare_5
  refine p_v (v := .agg ((encPart ((buildM bareM (refineP (setsM bareM))).part)) ++ ([.slice j69_A43 ((buildM bareM (refineP (setsM bareM))).next).length j69_c43, .slice j69_A45 ((buildM bareM (refineP (setsM bareM))).final).length j69_c45] : List Value)).toArray) rfl (wanted_of (j := 16) (want := true) (d := 43) (b := true) rfl rfl (congrArg Value.bool hc78) rfl) rfl (x_load (seg := ((encPart ((buildM bareM (refineP (setsM bareM))).part)) ++ ([.slice j69_A43 ((buildM bareM (refineP (setsM bareM))).next).length j69_c43, .slice j69_A45 ((buildM bareM (refineP (setsM bareM))).final).length j69_c45] : List Value))) ty35 (len_app (encPart_len jf69_1) rfl) (by simp) rj69_2 (CF.box (m := 259) (S73.box_at (j := 1) rfl) (take_all (len_app (encPart_len jf69_1) rfl)))) ?_
  refine p_c rfl (wanted_of (j := 16) (want := true) (d := 43) (b := true) rfl rfl (congrArg Value.bool hc78) rfl) rfl (y_call (args := [.agg ((encPart ((buildM bareM (refineP (setsM bareM))).part)) ++ ([.slice j69_A43 ((buildM bareM (refineP (setsM bareM))).next).length j69_c43, .slice j69_A45 ((buildM bareM (refineP (setsM bareM))).final).length j69_c45] : List Value)).toArray]) ca59 rfl rfl) (emptyD_calls w72 (buildM bareM (refineP (setsM bareM))) jf69_1 j69_A43 j69_c43 jf69_2 (jf69_3.mono ((Le.refl _).trans S73.ghost)) j69_A45 j69_c45 jf69_4 (jf69_5.mono ((Le.refl _).trans S73.ghost)) (by first | assumption | omega | decide) (Block.st S73 tb)) ?_
  rintro _ w79 ⟨h79, T79, rfl⟩
  have S80 := S73.keep (Chg.of_below T79.below)
  refine p_v (v := .bool (!(!okW (runD (buildM bareM (refineP (setsM bareM))))))) rfl (wanted_of (j := 16) (want := true) (d := 43) (b := true) rfl rfl (congrArg Value.bool hc78) rfl) rfl (x_not rfl) ?_
  refine p_v (v := .bool (!(!okW (runD (buildM bareM (refineP (setsM bareM))))))) rfl rfl rfl (x_pick_t (congrArg Value.bool hc78) rfl) ?_
  refine p_v (v := .bool (!(!okW (runD (buildM bareM (refineP (setsM bareM))))))) rfl rfl rfl (x_move rfl) ?_
  have hc81 : (!okW (runD (buildM bareM (refineP (setsM bareM))))) = false := by
   rw [bare_3]; rfl
  refine p_c rfl (wanted_of (j := 21) (want := true) (d := 48) (b := true) rfl rfl (congrArg (fun z => Value.bool (!z)) hc81) rfl) rfl (y_call (args := [.string (⟨#[98]⟩ : ByteArray), .string (⟨#[97, 98]⟩ : ByteArray)]) ca56 rfl rfl) (less_calls w79 (⟨#[98]⟩ : ByteArray) (by decide) (⟨#[97, 98]⟩ : ByteArray) (by decide)) ?_
  rintro _ w82 ⟨h82, T82, rfl⟩
  have S83 := S80.keep (Chg.of_below T82.below)
  refine p_v (v := .bool (lessW (⟨#[98]⟩ : ByteArray) (⟨#[97, 98]⟩ : ByteArray))) rfl rfl rfl (x_pick_t (congrArg (fun z => Value.bool (!z)) hc81) rfl) ?_
  refine p_v (v := .bool (lessW (⟨#[98]⟩ : ByteArray) (⟨#[97, 98]⟩ : ByteArray))) rfl rfl rfl (x_assign rfl) ?_
  refine run_region_end ?_
  have hc84 : (lessW (⟨#[98]⟩ : ByteArray) (⟨#[97, 98]⟩ : ByteArray)) = true := by
   exact bare_6
  refine run_ret Tryd.func55 (res1 rfl (res_tmp (v := .bool true) (congrArg Value.bool hc84))) ?_
  have q0 : (true : Bool) = true := rfl
  refine ⟨_, rfl, hj69, ?_, ?_⟩
  · exact S83.sub [] (by decide) rfl _ rfl
  · rfl
 ·skip
  refine ra_two (i := 2) (i2 := 8) (by decide +kernel) ?_ ?_
  ·skip
   intro wd85 gd85
   have S86 := S18.keep gd85
   have hf87 := spUp gd85 hf19
   have hf88 := spUp gd85 hf20
   refine d_c rfl rfl rfl (y_call (args := [.agg #[.slice A3 bareM.spots.length c3, .slice A5 bareM.first.length c5, .slice A7 bareM.follow.length c7, .slice A9 bareM.last.length c9, .bool bareM.empty]]) ca63 rfl rfl) (setsN_calls wd85 bareM A3 c3 (And.intro lc3 cm3) (ld3.mono (lf9_2.trans S86.ghost)) A5 c5 (And.intro lc5 cm5) (ld5.mono (lf9_3.trans S86.ghost)) A7 c7 (And.intro lc7 cm7) (ld7.mono (le9.trans S86.ghost)) A9 c9 (And.intro lc9 cm9) (ld9.mono ((Le.refl _).trans S86.ghost)) (by first | assumption | omega | decide)) ?_
   rintro v89_0 w89 ⟨h89, _, T89, rfl⟩
   obtain ⟨k89, lk89, ll89, U89⟩ := call_joins S86 T89
   have lc89_0 := (lf9_0).trans lk89
   have lc89_1 := (lf9_1).trans lk89
   have lc89_2 := (lf9_2).trans lk89
   have lc89_3 := (lf9_3).trans lk89
   have lc89_4 := (le9).trans lk89
   have S90 := U89
   dsimp only [lAa, lAn, lA0, lAs] at S90
   have hf91 := spUp (Chg.of_below T89.below) hf87
   have hf92 := spUp (Chg.of_below T89.below) hf88
   refine ⟨.inl (Chg.of_below T89.below), ?_⟩
   obtain ⟨h93, le93, T93, rp93⟩ := S90.freeze (i := 5) rfl
   have lf93_0 := (lc89_0).trans le93
   have lf93_1 := (lc89_1).trans le93
   have lf93_2 := (lc89_2).trans le93
   have lf93_3 := (lc89_3).trans le93
   have lf93_4 := (lc89_4).trans le93
   have lf93_5 := (lk89).trans le93
   have S94 := T93.fx 5 (emp) rfl
   dsimp only [lAa, lAn, lA0, lAs] at S94
   obtain ⟨A93, c93, e93, lc93, cm93, ld93⟩ := rp93
   injection e93 with e93 _; subst e93
   have cn93 := cm93; simp only [maxLen] at cn93
   obtain ⟨_, _, _, _, _, _, _, ok95_0⟩ := calls_some (refine_calls w89 (setsM bareM) A93 c93 (And.intro lc93 cm93) (ld93.mono ((Le.refl _).trans S94.ghost)))
   have hf96 : (LeadsS kSet A93 (setsM bareM)).1 w89 := (ld93.mono ((Le.refl _).trans S94.ghost))
   refine raMo (hkC 3 hf96 (hkN (w := w89))) ?_
   refine d_m (i := 3) (v := .agg (encPart (refineP (setsM bareM))).toArray) (fun wf => Leads kSet (hp wf) A93 (setsM bareM)) (fun _ ho => ho _ (List.mem_of_getElem? (i := 0) rfl) rfl) rfl (by decide +kernel) (by decide +kernel) (by decide +kernel) rfl rfl (fun wq => (y_call (args := [.slice A93 (setsM bareM).length c93]) ca49 rfl rfl)) (fun wq hq => (refine_calls wq (setsM bareM) A93 c93 (And.intro lc93 cm93) hq).mono fun e w2 he => by obtain ⟨_, rfl, _, T, rfl, _⟩ := he; exact ⟨rfl, Chg.of_below T.below⟩) (of_eq hf96 (of_no rfl)) ?_
   refine ra_two (i := 4) (i2 := 8) (by decide +kernel) ?_ ?_
   ·skip
    intro wd97 gd97
    have S98 := S94.keep gd97
    have hf99 := spUp gd97 hf96
    have hf100 := spUp gd97 hf91
    have hf101 := spUp gd97 hf92
    refine d_c rfl rfl rfl (y_call (args := [.agg #[.slice A3 bareM.spots.length c3, .slice A5 bareM.first.length c5, .slice A7 bareM.follow.length c7, .slice A9 bareM.last.length c9, .bool bareM.empty], .agg (encPart (refineP (setsM bareM))).toArray, .pointer none]) ca21 rfl rfl) (build_calls wd97 bareM A3 c3 (And.intro lc3 cm3) (ld3.mono (lf93_2.trans S98.ghost)) A5 c5 (And.intro lc5 cm5) (ld5.mono (lf93_3.trans S98.ghost)) A7 c7 (And.intro lc7 cm7) (ld7.mono (lf93_4.trans S98.ghost)) A9 c9 (And.intro lc9 cm9) (ld9.mono (lf93_5.trans S98.ghost)) (refineP (setsM bareM)) ok95_0 () (by first | assumption | omega | decide) (Block.st S98 tb)) ?_
    rintro _ w102 ⟨h102, v102_0, v102_1, T102, rfl, ok102_0, in102_1⟩
    obtain ⟨k102, lk102, ll102, U102⟩ := call_joins S98 T102
    have lc102_0 := (lf93_0).trans lk102
    have lc102_1 := (lf93_1).trans lk102
    have lc102_2 := (lf93_2).trans lk102
    have lc102_3 := (lf93_3).trans lk102
    have lc102_4 := (lf93_4).trans lk102
    have lc102_5 := (lf93_5).trans lk102
    have lc102_6 := (le93).trans lk102
    have S103 := U102
    dsimp only [lAa, lAn, lA0, lAs] at S103
    have lo_in102_1 := i64_lo in102_1; have hi_in102_1 := i64_hi in102_1
    have hf104 := spUp (Chg.of_below T102.below) hf99
    have hf105 := spUp (Chg.of_below T102.below) hf100
    have hf106 := spUp (Chg.of_below T102.below) hf101
    refine ⟨.inl (Chg.of_below T102.below), ?_⟩
    obtain ⟨h107, le107, T107, rp107⟩ := S103.freeze (i := 6) rfl
    have lf107_0 := (lc102_0).trans le107
    have lf107_1 := (lc102_1).trans le107
    have lf107_2 := (lc102_2).trans le107
    have lf107_3 := (lc102_3).trans le107
    have lf107_4 := (lc102_4).trans le107
    have lf107_5 := (lc102_5).trans le107
    have lf107_6 := (lc102_6).trans le107
    have lf107_7 := (lk102).trans le107
    have S108 := T107.fx 6 (emp) rfl
    dsimp only [lAa, lAn, lA0, lAs] at S108
    obtain ⟨A107, c107, e107, lc107, cm107, ld107⟩ := rp107
    injection e107 with e107 _; subst e107
    have cn107 := cm107; simp only [maxLen] at cn107
    obtain ⟨h109, le109, T109, rp109⟩ := S108.freeze (i := 7) rfl
    have lf109_0 := (lf107_0).trans le109
    have lf109_1 := (lf107_1).trans le109
    have lf109_2 := (lf107_2).trans le109
    have lf109_3 := (lf107_3).trans le109
    have lf109_4 := (lf107_4).trans le109
    have lf109_5 := (lf107_5).trans le109
    have lf109_6 := (lf107_6).trans le109
    have lf109_7 := (lf107_7).trans le109
    have lf109_8 := (le107).trans le109
    have S110 := T109.fx 7 (emp) rfl
    dsimp only [lAa, lAn, lA0, lAs] at S110
    obtain ⟨A109, c109, e109, lc109, cm109, ld109⟩ := rp109
    injection e109 with e109 _; subst e109
    have cn109 := cm109; simp only [maxLen] at cn109
    refine qd0 (i := 5) (v := .tuple #[.agg ((encPart ((buildM bareM (refineP (setsM bareM))).part)) ++ ([.slice A107 ((buildM bareM (refineP (setsM bareM))).next).length c107, .slice A109 ((buildM bareM (refineP (setsM bareM))).final).length c109] : List Value)).toArray, .int .i64 (errB bareM (refineP (setsM bareM)))]) rfl (by decide +kernel) rfl rfl (x_move rfl) (of_no rfl) ?_
    refine qd0 (i := 6) (v := .agg ((encPart ((buildM bareM (refineP (setsM bareM))).part)) ++ ([.slice A107 ((buildM bareM (refineP (setsM bareM))).next).length c107, .slice A109 ((buildM bareM (refineP (setsM bareM))).final).length c109] : List Value)).toArray) rfl (by decide +kernel) rfl rfl (x_extract (vs := [.agg ((encPart ((buildM bareM (refineP (setsM bareM))).part)) ++ ([.slice A107 ((buildM bareM (refineP (setsM bareM))).next).length c107, .slice A109 ((buildM bareM (refineP (setsM bareM))).final).length c109] : List Value)).toArray, .int .i64 (errB bareM (refineP (setsM bareM)))]) rfl rfl) (of_no rfl) ?_
    refine qd0 (i := 7) (v := .int .i64 (errB bareM (refineP (setsM bareM)))) rfl (by decide +kernel) rfl rfl (x_extract (vs := [.agg ((encPart ((buildM bareM (refineP (setsM bareM))).part)) ++ ([.slice A107 ((buildM bareM (refineP (setsM bareM))).next).length c107, .slice A109 ((buildM bareM (refineP (setsM bareM))).final).length c109] : List Value)).toArray, .int .i64 (errB bareM (refineP (setsM bareM)))]) rfl rfl) (of_no rfl) ?_
    refine ra_one (i := 8) (by decide +kernel) ?_
    intro wd111 gd111
    have S112 := S110.keep gd111
    have hf113 := spUp gd111 hf104
    have hf114 := spUp gd111 hf105
    have hf115 := spUp gd111 hf106
    obtain ⟨b116, w116, r116, g116, T116⟩ := e_box (P := Tryd.prog) S112 35 (v := zv35) ((encPart zPart) ++ ([.slice none 0 0, .slice none 0 0] : List Value)) (by kernel_rfl)
    have S117 := T116
    dsimp only [lAa, lAn, lA0, lAs] at S117
    have hf118 := spUp g116 hf113
    have hf119 := spUp g116 hf114
    have hf120 := spUp g116 hf115
    refine d_v (v := .pointer (some ⟨b116, 0, none⟩)) rfl rfl rfl (x_alloc ty35 r116) (.inl g116) ?_
    refine ra_one (i := 9) (by decide +kernel) ?_
    intro wd121 gd121
    have S122 := S117.keep gd121
    have hf123 := spUp gd121 hf118
    have hf124 := spUp gd121 hf119
    have hf125 := spUp gd121 hf120
    obtain ⟨w126, r126, g126, T126⟩ := e_store_all (P := Tryd.prog) (v := .agg ((encPart ((buildM bareM (refineP (setsM bareM))).part)) ++ ([.slice A107 ((buildM bareM (refineP (setsM bareM))).next).length c107, .slice A109 ((buildM bareM (refineP (setsM bareM))).final).length c109] : List Value)).toArray) (vs := ((encPart ((buildM bareM (refineP (setsM bareM))).part)) ++ ([.slice A107 ((buildM bareM (refineP (setsM bareM))).next).length c107, .slice A109 ((buildM bareM (refineP (setsM bareM))).final).length c109] : List Value))) (cs := ((encPart zPart) ++ ([.slice none 0 0, .slice none 0 0] : List Value))) S122 ty35 rfl (len_app (encPart_len ok102_0) rfl) (len_app (encPart_len (okPart_zero)) rfl) (j := 8) rfl (one_app (encPart_one _) (by simp [Value.oneCell']))
    have S127 := T126.fx 8 (box b116 35 ((encPart ((buildM bareM (refineP (setsM bareM))).part)) ++ ([.slice A107 ((buildM bareM (refineP (setsM bareM))).next).length c107, .slice A109 ((buildM bareM (refineP (setsM bareM))).final).length c109] : List Value))) rfl
    dsimp only [lAa, lAn, lA0, lAs] at S127
    have hf128 : (LeadsS kSet A93 (setsM bareM)).1 w126 := (ld93.mono ((Le.refl _).trans (lf109_7.trans S127.ghost)))
    have hf129 : (CFs ⟨b11, 0, none⟩ [.slice A3 bareM.spots.length c3, .slice A5 bareM.first.length c5, .slice A7 bareM.follow.length c7, .slice A9 bareM.last.length c9, .bool bareM.empty]).1 w126 := (CF.box (m := 5) (S127.box_at (j := 4) rfl) rfl)
    have hf130 : (CFs ⟨b11, 0, none⟩ [.slice A3 bareM.spots.length c3, .slice A5 bareM.first.length c5, .slice A7 bareM.follow.length c7, .slice A9 bareM.last.length c9, .bool bareM.empty]).1 w126 := (CF.box (m := 5) (S127.box_at (j := 4) rfl) rfl)
    refine d_s rfl rfl (x_store rfl rfl r126) (.inr (keep_w (by decide +kernel) (keep_w (by decide +kernel) (keep_w (by decide +kernel) trivial)))) ?_
    refine qd0 (i := 10) (v := .int .i64 (errB bareM (refineP (setsM bareM)))) rfl (by decide +kernel) rfl rfl (x_assign rfl) (of_no rfl) ?_
    refine ra_done (by decide +kernel) ?_
    intro wd131 gd131
    have S132 := S127.keep gd131
    exact jn69 _ _ ⟨h109, b116, A107, c107, A109, c109, lf109_5, S132.sub [4, 8] (by decide) rfl _ rfl, rfl, rfl, rfl, in102_1, ok102_0, (And.intro lc107 cm107), (ld107.mono le109), (And.intro lc109 cm109), ld109⟩
   ·skip
    intro wd133 gd133
    have S134 := S94.keep gd133
    have hf135 := spUp gd133 hf96
    have hf136 := spUp gd133 hf91
    have hf137 := spUp gd133 hf92
    obtain ⟨b138, w138, r138, g138, T138⟩ := e_box (P := Tryd.prog) S134 35 (v := zv35) ((encPart zPart) ++ ([.slice none 0 0, .slice none 0 0] : List Value)) (by kernel_rfl)
    have S139 := T138
    dsimp only [lAa, lAn, lA0, lAs] at S139
    have hf140 := spUp g138 hf135
    have hf141 := spUp g138 hf136
    have hf142 := spUp g138 hf137
    refine d_v (v := .pointer (some ⟨b138, 0, none⟩)) rfl rfl rfl (x_alloc ty35 r138) (.inl g138) ?_
    refine ra_one (i := 4) (by decide +kernel) ?_
    intro wd143 gd143
    have S144 := S139.keep gd143
    have hf145 := spUp gd143 hf140
    have hf146 := spUp gd143 hf141
    have hf147 := spUp gd143 hf142
    refine d_c rfl rfl rfl (y_call (args := [.agg #[.slice A3 bareM.spots.length c3, .slice A5 bareM.first.length c5, .slice A7 bareM.follow.length c7, .slice A9 bareM.last.length c9, .bool bareM.empty], .agg (encPart (refineP (setsM bareM))).toArray, .pointer none]) ca21 rfl rfl) (build_calls wd143 bareM A3 c3 (And.intro lc3 cm3) (ld3.mono (lf93_2.trans S144.ghost)) A5 c5 (And.intro lc5 cm5) (ld5.mono (lf93_3.trans S144.ghost)) A7 c7 (And.intro lc7 cm7) (ld7.mono (lf93_4.trans S144.ghost)) A9 c9 (And.intro lc9 cm9) (ld9.mono (lf93_5.trans S144.ghost)) (refineP (setsM bareM)) ok95_0 () (by first | assumption | omega | decide) (Block.st S144 tb)) ?_
    rintro _ w148 ⟨h148, v148_0, v148_1, T148, rfl, ok148_0, in148_1⟩
    obtain ⟨k148, lk148, ll148, U148⟩ := call_joins S144 T148
    have lc148_0 := (lf93_0).trans lk148
    have lc148_1 := (lf93_1).trans lk148
    have lc148_2 := (lf93_2).trans lk148
    have lc148_3 := (lf93_3).trans lk148
    have lc148_4 := (lf93_4).trans lk148
    have lc148_5 := (lf93_5).trans lk148
    have lc148_6 := (le93).trans lk148
    have S149 := U148
    dsimp only [lAa, lAn, lA0, lAs] at S149
    have lo_in148_1 := i64_lo in148_1; have hi_in148_1 := i64_hi in148_1
    have hf150 := spUp (Chg.of_below T148.below) hf145
    have hf151 := spUp (Chg.of_below T148.below) hf146
    have hf152 := spUp (Chg.of_below T148.below) hf147
    refine ⟨.inl (Chg.of_below T148.below), ?_⟩
    obtain ⟨h153, le153, T153, rp153⟩ := S149.freeze (i := 7) rfl
    have lf153_0 := (lc148_0).trans le153
    have lf153_1 := (lc148_1).trans le153
    have lf153_2 := (lc148_2).trans le153
    have lf153_3 := (lc148_3).trans le153
    have lf153_4 := (lc148_4).trans le153
    have lf153_5 := (lc148_5).trans le153
    have lf153_6 := (lc148_6).trans le153
    have lf153_7 := (lk148).trans le153
    have S154 := T153.fx 7 (emp) rfl
    dsimp only [lAa, lAn, lA0, lAs] at S154
    obtain ⟨A153, c153, e153, lc153, cm153, ld153⟩ := rp153
    injection e153 with e153 _; subst e153
    have cn153 := cm153; simp only [maxLen] at cn153
    obtain ⟨h155, le155, T155, rp155⟩ := S154.freeze (i := 8) rfl
    have lf155_0 := (lf153_0).trans le155
    have lf155_1 := (lf153_1).trans le155
    have lf155_2 := (lf153_2).trans le155
    have lf155_3 := (lf153_3).trans le155
    have lf155_4 := (lf153_4).trans le155
    have lf155_5 := (lf153_5).trans le155
    have lf155_6 := (lf153_6).trans le155
    have lf155_7 := (lf153_7).trans le155
    have lf155_8 := (le153).trans le155
    have S156 := T155.fx 8 (emp) rfl
    dsimp only [lAa, lAn, lA0, lAs] at S156
    obtain ⟨A155, c155, e155, lc155, cm155, ld155⟩ := rp155
    injection e155 with e155 _; subst e155
    have cn155 := cm155; simp only [maxLen] at cn155
    refine qd0 (i := 5) (v := .tuple #[.agg ((encPart ((buildM bareM (refineP (setsM bareM))).part)) ++ ([.slice A153 ((buildM bareM (refineP (setsM bareM))).next).length c153, .slice A155 ((buildM bareM (refineP (setsM bareM))).final).length c155] : List Value)).toArray, .int .i64 (errB bareM (refineP (setsM bareM)))]) rfl (by decide +kernel) rfl rfl (x_move rfl) (of_no rfl) ?_
    refine qd0 (i := 6) (v := .agg ((encPart ((buildM bareM (refineP (setsM bareM))).part)) ++ ([.slice A153 ((buildM bareM (refineP (setsM bareM))).next).length c153, .slice A155 ((buildM bareM (refineP (setsM bareM))).final).length c155] : List Value)).toArray) rfl (by decide +kernel) rfl rfl (x_extract (vs := [.agg ((encPart ((buildM bareM (refineP (setsM bareM))).part)) ++ ([.slice A153 ((buildM bareM (refineP (setsM bareM))).next).length c153, .slice A155 ((buildM bareM (refineP (setsM bareM))).final).length c155] : List Value)).toArray, .int .i64 (errB bareM (refineP (setsM bareM)))]) rfl rfl) (of_no rfl) ?_
    refine qd0 (i := 7) (v := .int .i64 (errB bareM (refineP (setsM bareM)))) rfl (by decide +kernel) rfl rfl (x_extract (vs := [.agg ((encPart ((buildM bareM (refineP (setsM bareM))).part)) ++ ([.slice A153 ((buildM bareM (refineP (setsM bareM))).next).length c153, .slice A155 ((buildM bareM (refineP (setsM bareM))).final).length c155] : List Value)).toArray, .int .i64 (errB bareM (refineP (setsM bareM)))]) rfl rfl) (of_no rfl) ?_
    refine ra_one (i := 9) (by decide +kernel) ?_
    intro wd157 gd157
    have S158 := S156.keep gd157
    have hf159 := spUp gd157 hf150
    have hf160 := spUp gd157 hf151
    have hf161 := spUp gd157 hf152
    obtain ⟨w162, r162, g162, T162⟩ := e_store_all (P := Tryd.prog) (v := .agg ((encPart ((buildM bareM (refineP (setsM bareM))).part)) ++ ([.slice A153 ((buildM bareM (refineP (setsM bareM))).next).length c153, .slice A155 ((buildM bareM (refineP (setsM bareM))).final).length c155] : List Value)).toArray) (vs := ((encPart ((buildM bareM (refineP (setsM bareM))).part)) ++ ([.slice A153 ((buildM bareM (refineP (setsM bareM))).next).length c153, .slice A155 ((buildM bareM (refineP (setsM bareM))).final).length c155] : List Value))) (cs := ((encPart zPart) ++ ([.slice none 0 0, .slice none 0 0] : List Value))) S158 ty35 rfl (len_app (encPart_len ok148_0) rfl) (len_app (encPart_len (okPart_zero)) rfl) (j := 6) rfl (one_app (encPart_one _) (by simp [Value.oneCell']))
    have S163 := T162.fx 6 (box b138 35 ((encPart ((buildM bareM (refineP (setsM bareM))).part)) ++ ([.slice A153 ((buildM bareM (refineP (setsM bareM))).next).length c153, .slice A155 ((buildM bareM (refineP (setsM bareM))).final).length c155] : List Value))) rfl
    dsimp only [lAa, lAn, lA0, lAs] at S163
    have hf164 : (LeadsS kSet A93 (setsM bareM)).1 w162 := (ld93.mono ((Le.refl _).trans (lf155_7.trans S163.ghost)))
    have hf165 : (CFs ⟨b11, 0, none⟩ [.slice A3 bareM.spots.length c3, .slice A5 bareM.first.length c5, .slice A7 bareM.follow.length c7, .slice A9 bareM.last.length c9, .bool bareM.empty]).1 w162 := (CF.box (m := 5) (S163.box_at (j := 4) rfl) rfl)
    have hf166 : (CFs ⟨b11, 0, none⟩ [.slice A3 bareM.spots.length c3, .slice A5 bareM.first.length c5, .slice A7 bareM.follow.length c7, .slice A9 bareM.last.length c9, .bool bareM.empty]).1 w162 := (CF.box (m := 5) (S163.box_at (j := 4) rfl) rfl)
    refine d_s rfl rfl (x_store rfl rfl r162) (.inr (keep_w (by decide +kernel) (keep_w (by decide +kernel) (keep_w (by decide +kernel) trivial)))) ?_
    refine qd0 (i := 10) (v := .int .i64 (errB bareM (refineP (setsM bareM)))) rfl (by decide +kernel) rfl rfl (x_assign rfl) (of_no rfl) ?_
    refine ra_done (by decide +kernel) ?_
    intro wd167 gd167
    have S168 := S163.keep gd167
    exact jn69 _ _ ⟨h155, b138, A153, c153, A155, c155, lf155_5, S168.sub [4, 6] (by decide) rfl _ rfl, rfl, rfl, rfl, in148_1, ok148_0, (And.intro lc153 cm153), (ld153.mono le155), (And.intro lc155 cm155), ld155⟩
  ·skip
   intro wd169 gd169
   have S170 := S18.keep gd169
   have hf171 := spUp gd169 hf19
   have hf172 := spUp gd169 hf20
   obtain ⟨b173, w173, r173, g173, T173⟩ := e_box (P := Tryd.prog) S170 35 (v := zv35) ((encPart zPart) ++ ([.slice none 0 0, .slice none 0 0] : List Value)) (by kernel_rfl)
   have S174 := T173
   dsimp only [lAa, lAn, lA0, lAs] at S174
   have hf175 := spUp g173 hf171
   have hf176 := spUp g173 hf172
   refine d_v (v := .pointer (some ⟨b173, 0, none⟩)) rfl rfl rfl (x_alloc ty35 r173) (.inl g173) ?_
   refine ra_one (i := 2) (by decide +kernel) ?_
   intro wd177 gd177
   have S178 := S174.keep gd177
   have hf179 := spUp gd177 hf175
   have hf180 := spUp gd177 hf176
   refine d_c rfl rfl rfl (y_call (args := [.agg #[.slice A3 bareM.spots.length c3, .slice A5 bareM.first.length c5, .slice A7 bareM.follow.length c7, .slice A9 bareM.last.length c9, .bool bareM.empty]]) ca63 rfl rfl) (setsN_calls wd177 bareM A3 c3 (And.intro lc3 cm3) (ld3.mono (lf9_2.trans S178.ghost)) A5 c5 (And.intro lc5 cm5) (ld5.mono (lf9_3.trans S178.ghost)) A7 c7 (And.intro lc7 cm7) (ld7.mono (le9.trans S178.ghost)) A9 c9 (And.intro lc9 cm9) (ld9.mono ((Le.refl _).trans S178.ghost)) (by first | assumption | omega | decide)) ?_
   rintro v181_0 w181 ⟨h181, _, T181, rfl⟩
   obtain ⟨k181, lk181, ll181, U181⟩ := call_joins S178 T181
   have lc181_0 := (lf9_0).trans lk181
   have lc181_1 := (lf9_1).trans lk181
   have lc181_2 := (lf9_2).trans lk181
   have lc181_3 := (lf9_3).trans lk181
   have lc181_4 := (le9).trans lk181
   have S182 := U181
   dsimp only [lAa, lAn, lA0, lAs] at S182
   have hf183 := spUp (Chg.of_below T181.below) hf179
   have hf184 := spUp (Chg.of_below T181.below) hf180
   refine ⟨.inl (Chg.of_below T181.below), ?_⟩
   obtain ⟨h185, le185, T185, rp185⟩ := S182.freeze (i := 6) rfl
   have lf185_0 := (lc181_0).trans le185
   have lf185_1 := (lc181_1).trans le185
   have lf185_2 := (lc181_2).trans le185
   have lf185_3 := (lc181_3).trans le185
   have lf185_4 := (lc181_4).trans le185
   have lf185_5 := (lk181).trans le185
   have S186 := T185.fx 6 (emp) rfl
   dsimp only [lAa, lAn, lA0, lAs] at S186
   obtain ⟨A185, c185, e185, lc185, cm185, ld185⟩ := rp185
   injection e185 with e185 _; subst e185
   have cn185 := cm185; simp only [maxLen] at cn185
   obtain ⟨_, _, _, _, _, _, _, ok187_0⟩ := calls_some (refine_calls w181 (setsM bareM) A185 c185 (And.intro lc185 cm185) (ld185.mono ((Le.refl _).trans S186.ghost)))
   have hf188 : (LeadsS kSet A185 (setsM bareM)).1 w181 := (ld185.mono ((Le.refl _).trans S186.ghost))
   refine raMo (hkC 3 hf188 (hkN (w := w181))) ?_
   refine d_m (i := 3) (v := .agg (encPart (refineP (setsM bareM))).toArray) (fun wf => Leads kSet (hp wf) A185 (setsM bareM)) (fun _ ho => ho _ (List.mem_of_getElem? (i := 0) rfl) rfl) rfl (by decide +kernel) (by decide +kernel) (by decide +kernel) rfl rfl (fun wq => (y_call (args := [.slice A185 (setsM bareM).length c185]) ca49 rfl rfl)) (fun wq hq => (refine_calls wq (setsM bareM) A185 c185 (And.intro lc185 cm185) hq).mono fun e w2 he => by obtain ⟨_, rfl, _, T, rfl, _⟩ := he; exact ⟨rfl, Chg.of_below T.below⟩) (of_eq hf188 (of_no rfl)) ?_
   refine ra_one (i := 4) (by decide +kernel) ?_
   intro wd189 gd189
   have S190 := S186.keep gd189
   have hf191 := spUp gd189 hf188
   have hf192 := spUp gd189 hf183
   have hf193 := spUp gd189 hf184
   refine d_c rfl rfl rfl (y_call (args := [.agg #[.slice A3 bareM.spots.length c3, .slice A5 bareM.first.length c5, .slice A7 bareM.follow.length c7, .slice A9 bareM.last.length c9, .bool bareM.empty], .agg (encPart (refineP (setsM bareM))).toArray, .pointer none]) ca21 rfl rfl) (build_calls wd189 bareM A3 c3 (And.intro lc3 cm3) (ld3.mono (lf185_2.trans S190.ghost)) A5 c5 (And.intro lc5 cm5) (ld5.mono (lf185_3.trans S190.ghost)) A7 c7 (And.intro lc7 cm7) (ld7.mono (lf185_4.trans S190.ghost)) A9 c9 (And.intro lc9 cm9) (ld9.mono (lf185_5.trans S190.ghost)) (refineP (setsM bareM)) ok187_0 () (by first | assumption | omega | decide) (Block.st S190 tb)) ?_
   rintro _ w194 ⟨h194, v194_0, v194_1, T194, rfl, ok194_0, in194_1⟩
   obtain ⟨k194, lk194, ll194, U194⟩ := call_joins S190 T194
   have lc194_0 := (lf185_0).trans lk194
   have lc194_1 := (lf185_1).trans lk194
   have lc194_2 := (lf185_2).trans lk194
   have lc194_3 := (lf185_3).trans lk194
   have lc194_4 := (lf185_4).trans lk194
   have lc194_5 := (lf185_5).trans lk194
   have lc194_6 := (le185).trans lk194
   have S195 := U194
   dsimp only [lAa, lAn, lA0, lAs] at S195
   have lo_in194_1 := i64_lo in194_1; have hi_in194_1 := i64_hi in194_1
   have hf196 := spUp (Chg.of_below T194.below) hf191
   have hf197 := spUp (Chg.of_below T194.below) hf192
   have hf198 := spUp (Chg.of_below T194.below) hf193
   refine ⟨.inl (Chg.of_below T194.below), ?_⟩
   obtain ⟨h199, le199, T199, rp199⟩ := S195.freeze (i := 7) rfl
   have lf199_0 := (lc194_0).trans le199
   have lf199_1 := (lc194_1).trans le199
   have lf199_2 := (lc194_2).trans le199
   have lf199_3 := (lc194_3).trans le199
   have lf199_4 := (lc194_4).trans le199
   have lf199_5 := (lc194_5).trans le199
   have lf199_6 := (lc194_6).trans le199
   have lf199_7 := (lk194).trans le199
   have S200 := T199.fx 7 (emp) rfl
   dsimp only [lAa, lAn, lA0, lAs] at S200
   obtain ⟨A199, c199, e199, lc199, cm199, ld199⟩ := rp199
   injection e199 with e199 _; subst e199
   have cn199 := cm199; simp only [maxLen] at cn199
   obtain ⟨h201, le201, T201, rp201⟩ := S200.freeze (i := 8) rfl
   have lf201_0 := (lf199_0).trans le201
   have lf201_1 := (lf199_1).trans le201
   have lf201_2 := (lf199_2).trans le201
   have lf201_3 := (lf199_3).trans le201
   have lf201_4 := (lf199_4).trans le201
   have lf201_5 := (lf199_5).trans le201
   have lf201_6 := (lf199_6).trans le201
   have lf201_7 := (lf199_7).trans le201
   have lf201_8 := (le199).trans le201
   have S202 := T201.fx 8 (emp) rfl
   dsimp only [lAa, lAn, lA0, lAs] at S202
   obtain ⟨A201, c201, e201, lc201, cm201, ld201⟩ := rp201
   injection e201 with e201 _; subst e201
   have cn201 := cm201; simp only [maxLen] at cn201
   refine qd0 (i := 5) (v := .tuple #[.agg ((encPart ((buildM bareM (refineP (setsM bareM))).part)) ++ ([.slice A199 ((buildM bareM (refineP (setsM bareM))).next).length c199, .slice A201 ((buildM bareM (refineP (setsM bareM))).final).length c201] : List Value)).toArray, .int .i64 (errB bareM (refineP (setsM bareM)))]) rfl (by decide +kernel) rfl rfl (x_move rfl) (of_no rfl) ?_
   refine qd0 (i := 6) (v := .agg ((encPart ((buildM bareM (refineP (setsM bareM))).part)) ++ ([.slice A199 ((buildM bareM (refineP (setsM bareM))).next).length c199, .slice A201 ((buildM bareM (refineP (setsM bareM))).final).length c201] : List Value)).toArray) rfl (by decide +kernel) rfl rfl (x_extract (vs := [.agg ((encPart ((buildM bareM (refineP (setsM bareM))).part)) ++ ([.slice A199 ((buildM bareM (refineP (setsM bareM))).next).length c199, .slice A201 ((buildM bareM (refineP (setsM bareM))).final).length c201] : List Value)).toArray, .int .i64 (errB bareM (refineP (setsM bareM)))]) rfl rfl) (of_no rfl) ?_
   refine qd0 (i := 7) (v := .int .i64 (errB bareM (refineP (setsM bareM)))) rfl (by decide +kernel) rfl rfl (x_extract (vs := [.agg ((encPart ((buildM bareM (refineP (setsM bareM))).part)) ++ ([.slice A199 ((buildM bareM (refineP (setsM bareM))).next).length c199, .slice A201 ((buildM bareM (refineP (setsM bareM))).final).length c201] : List Value)).toArray, .int .i64 (errB bareM (refineP (setsM bareM)))]) rfl rfl) (of_no rfl) ?_
   refine ra_one (i := 9) (by decide +kernel) ?_
   intro wd203 gd203
   have S204 := S202.keep gd203
   have hf205 := spUp gd203 hf196
   have hf206 := spUp gd203 hf197
   have hf207 := spUp gd203 hf198
   obtain ⟨w208, r208, g208, T208⟩ := e_store_all (P := Tryd.prog) (v := .agg ((encPart ((buildM bareM (refineP (setsM bareM))).part)) ++ ([.slice A199 ((buildM bareM (refineP (setsM bareM))).next).length c199, .slice A201 ((buildM bareM (refineP (setsM bareM))).final).length c201] : List Value)).toArray) (vs := ((encPart ((buildM bareM (refineP (setsM bareM))).part)) ++ ([.slice A199 ((buildM bareM (refineP (setsM bareM))).next).length c199, .slice A201 ((buildM bareM (refineP (setsM bareM))).final).length c201] : List Value))) (cs := ((encPart zPart) ++ ([.slice none 0 0, .slice none 0 0] : List Value))) S204 ty35 rfl (len_app (encPart_len ok194_0) rfl) (len_app (encPart_len (okPart_zero)) rfl) (j := 5) rfl (one_app (encPart_one _) (by simp [Value.oneCell']))
   have S209 := T208.fx 5 (box b173 35 ((encPart ((buildM bareM (refineP (setsM bareM))).part)) ++ ([.slice A199 ((buildM bareM (refineP (setsM bareM))).next).length c199, .slice A201 ((buildM bareM (refineP (setsM bareM))).final).length c201] : List Value))) rfl
   dsimp only [lAa, lAn, lA0, lAs] at S209
   have hf210 : (LeadsS kSet A185 (setsM bareM)).1 w208 := (ld185.mono ((Le.refl _).trans (lf201_7.trans S209.ghost)))
   have hf211 : (CFs ⟨b11, 0, none⟩ [.slice A3 bareM.spots.length c3, .slice A5 bareM.first.length c5, .slice A7 bareM.follow.length c7, .slice A9 bareM.last.length c9, .bool bareM.empty]).1 w208 := (CF.box (m := 5) (S209.box_at (j := 4) rfl) rfl)
   have hf212 : (CFs ⟨b11, 0, none⟩ [.slice A3 bareM.spots.length c3, .slice A5 bareM.first.length c5, .slice A7 bareM.follow.length c7, .slice A9 bareM.last.length c9, .bool bareM.empty]).1 w208 := (CF.box (m := 5) (S209.box_at (j := 4) rfl) rfl)
   refine d_s rfl rfl (x_store rfl rfl r208) (.inr (keep_w (by decide +kernel) (keep_w (by decide +kernel) (keep_w (by decide +kernel) trivial)))) ?_
   refine qd0 (i := 10) (v := .int .i64 (errB bareM (refineP (setsM bareM)))) rfl (by decide +kernel) rfl rfl (x_assign rfl) (of_no rfl) ?_
   refine ra_done (by decide +kernel) ?_
   intro wd213 gd213
   have S214 := S209.keep gd213
   exact jn69 _ _ ⟨h201, b173, A199, c199, A201, c201, lf201_5, S214.sub [4, 5] (by decide) rfl _ rfl, rfl, rfl, rfl, in194_1, ok194_0, (And.intro lc199 cm199), (ld199.mono le201), (And.intro lc201 cm201), ld201⟩
end Go.Proofs.YtfoemogojbnfhaaDoor
namespace Go.Proofs.YtfoemogojbnfhaaDoor
open Go Go.RowKit Gx
set_option maxHeartbeats 1000000
set_option linter.unusedVariables false
set_option linter.unusedSimpArgs false
set_option maxRecDepth 8000
attribute [local irreducible] listOf count first someIn has setOf wbits Lib.ctz badQ badRow rightD goD runD nextB nextC outTo readTo rowIn finalB lastB leastB leastBTo buildM errB fitsP madeM allM bfs numbered putB beginB okB lessL lessW strLt cmpW cmpI orI wordW okW wordS wordT revTo leL
theorem word13_calls (w : World) (x : RefD) (A0_0 : Option Addr) (c0_0 : Nat) (b0_0 : x.least.length ≤ c0_0 ∧ c0_0 ≤ maxLen) (l0_0 : Leads (Kd.int .u8) (hp w) A0_0 x.least) (A0_1 : Option Addr) (c0_1 : Nat) (b0_1 : x.next.length ≤ c0_1 ∧ c0_1 ≤ maxLen) (l0_1 : Leads (Kd.int .i64).slice (hp w) A0_1 x.next) (A0_2 : Option Addr) (c0_2 : Nat) (b0_2 : x.final.length ≤ c0_2 ∧ c0_2 ≤ maxLen) (l0_2 : Leads Kd.bool (hp w) A0_2 x.final) (d : Dfa) (pre0 : Given x d ∧ (d.next.length : Int) ≤ 1048577) :
    Calls Tryd.prog 60 #[.agg #[.slice A0_0 x.least.length c0_0, .slice A0_1 x.next.length c0_1, .slice A0_2 x.final.length c0_2]] w fun e w' => ∃ v, e = .returned v ∧ ∃ (hn : Ghost), St w.heap.size w hn w' [] ∧ v = .tuple #[.string (wordW (runD d)), .bool (okW (runD d))] ∧ (wordW (runD d)).size ≤ maxLen := by
 refine calls_of_run Tryd.func60 rfl Tryd.ntmps60 rfl ?_
 have S0 := St.init w
 have bb0_0 := b0_0.1; have bc0_0 := b0_0.2; simp only [maxLen] at bc0_0
 have bb0_1 := b0_1.1; have bc0_1 := b0_1.2; simp only [maxLen] at bc0_1
 have bb0_2 := b0_2.1; have bc0_2 := b0_2.2; simp only [maxLen] at bc0_2
 obtain ⟨⟨hr_, ho_, hl_, hn_, hf_⟩, hb_⟩ := pre0; have hD_ := rightD_of ho_ hr_; have hfl_ := hD_.final; have hsm_ := hD_.some_; have hpm_ := hD_.part.hi; have hpl_ := hD_.part.lo; have hnl_ : (x.next.length : Int) = d.next.length := (by rw [hn_]); have hfn_ : (x.final.length : Int) = d.final.length := (by rw [hf_]); have hll_ : (x.least.length : Int) = d.part.n := (by rw [hl_]; exact leastB_len hD_.part)
 refine run_seq ?_
 refine run_reg (l := [0, 1, 2]) rfl ?_
 obtain ⟨b1, w1, r1, g1, T1⟩ := e_box (P := Tryd.prog) S0 47 (v := .agg #[.slice A0_0 x.least.length c0_0, .slice A0_1 x.next.length c0_1, .slice A0_2 x.final.length c0_2]) [.slice A0_0 x.least.length c0_0, .slice A0_1 x.next.length c0_1, .slice A0_2 x.final.length c0_2] rfl
 have S2 := T1
 dsimp only [lAa, lAn, lA0, lAs] at S2
 refine p_v (v := .pointer (some ⟨b1, 0, none⟩)) rfl rfl rfl (x_box rfl r1) ?_
 refine p_v (v := .string (⟨#[]⟩ : ByteArray)) rfl rfl rfl (x_assign rfl) ?_
 refine p_v (v := .bool false) rfl rfl rfl (x_assign rfl) ?_
 refine run_region_end ?_
 refine run_seq ?_
 refine run_reg (l := [0, 1, 2, 3]) rfl ?_
 refine p_v (v := .pointer (some ⟨b1, 1, none⟩)) rfl rfl rfl (x_fieldAt fd47_1 ty24 rfl rfl) ?_
 refine p_v (v := .slice A0_1 x.next.length c0_1) rfl rfl rfl (x_load (seg := [.slice A0_1 x.next.length c0_1]) ty24 rfl (by simp) rfl (CF.box (m := 1) (S2.box_at (j := 0) rfl) rfl)) ?_
 refine p_v (v := .int .i64 (x.next.length : Int)) rfl rfl rfl (x_len_slice u24 rfl) ?_
 refine p_v (v := .int .i64 (x.next.length : Int)) rfl rfl rfl (x_assign rfl) ?_
 refine run_region_end ?_
 refine run_seq ?_
 refine run_reg (l := [0, 1, 2]) rfl ?_
 refine p_v (v := .int .i64 (x.next.length : Int)) rfl rfl rfl (x_move rfl) ?_
 obtain ⟨v3, w3, r3, g3, T3⟩ := e_make (kk := .i64) (kk' := .i64) (kd := Kd.string) (q := (x.next.length : Int)) (z := (⟨#[]⟩ : ByteArray)) (zc := [.string ⟨#[]⟩]) S2 u167 ty9 rfl rfl ⟨rfl, by decide⟩ (by first|omega|(simp;omega)|assumption|simp) (by first|omega|(simp;omega)|assumption|simp) (by first|omega|(simp;omega)|assumption|simp)
 have S4 := T3
 dsimp only [lAa, lAn, lA0, lAs] at S4
 refine p_v (v := v3) rfl rfl rfl (x_make rfl rfl r3) ?_
 refine p_v (v := v3) rfl rfl rfl (x_assign rfl) ?_
 refine run_region_end ?_
 refine run_seq ?_
 refine run_reg (l := [0, 1, 2]) rfl ?_
 refine p_v (v := .int .i64 (x.next.length : Int)) rfl rfl rfl (x_move rfl) ?_
 obtain ⟨v5, w5, r5, g5, T5⟩ := e_make (kk := .i64) (kk' := .i64) (kd := Kd.bool) (q := (x.next.length : Int)) (z := false) (zc := [.bool false]) S4 u25 ty4 rfl rfl ⟨rfl, trivial⟩ (by first|omega|(simp;omega)|assumption|simp) (by first|omega|(simp;omega)|assumption|simp) (by first|omega|(simp;omega)|assumption|simp)
 have S6 := T5
 dsimp only [lAa, lAn, lA0, lAs] at S6
 refine p_v (v := v5) rfl rfl rfl (x_make rfl rfl r5) ?_
 refine p_v (v := v5) rfl rfl rfl (x_assign rfl) ?_
 refine run_region_end ?_
 refine run_seq ?_
 refine run_reg (l := [0, 1, 2]) rfl ?_
 refine p_v (v := v5) rfl rfl rfl (x_move rfl) ?_
 obtain ⟨ad7, a7, at7⟩ := e_index_own (q := (0 : Int)) (m := 1) S6 (j := 2) rfl rfl (by first|omega|(simp;omega)|assumption|simp) (by first|omega|(simp;omega)|assumption|simp)
 refine p_v (v := .pointer (some ad7)) rfl rfl rfl (x_index_own u25 ty4 rfl rfl a7 (by first|omega|(simp;omega)|assumption|simp) (by first|omega|(simp;omega)|assumption|simp)) ?_
 obtain ⟨w8, r8, g8, T8⟩ := e_store_own (u := .bool true) (q := (0 : Int)) true (vs := [.bool true]) S6 ty4 rfl (j := 2) rfl rfl ⟨rfl, trivial⟩ at7 (by first|omega|(simp;omega)|assumption|simp) (by first|omega|(simp;omega)|assumption|simp)
 have S9 := T8.fx 2 (row 4 Kd.bool v5 ((List.replicate ((x.next.length : Int)).toNat false).set ((0 : Int)).toNat true)) rfl
 dsimp only [lAa, lAn, lA0, lAs] at S9
 refine p_s rfl rfl (x_store rfl rfl r8) ?_
 refine run_region_end ?_
 refine run_seq ?_
 refine run_seq ?_
 refine run_reg (l := [0]) rfl ?_
 refine p_v (v := .int .i64 0) rfl rfl rfl (x_assign rfl) ?_
 refine run_region_end ?_
 refine run_block ?_
 refine run_loop (S := (List ByteArray) × (List Bool) × Int) (fun (q_ : (List ByteArray) × (List Bool) × Int) ρ w' => match q_ with | (xat, xis, size) => ∃ (h : Ghost) (v_xat : Value) (v_xis : Value), Le (fun _ => none) h ∧ St w.heap.size w h w' [box b1 47 [.slice A0_0 x.least.length c0_0, .slice A0_1 x.next.length c0_1, .slice A0_2 x.final.length c0_2], row 9 Kd.string v_xat xat, row 4 Kd.bool v_xis xis] ∧ ρ 1 = .pointer (some ⟨b1, 0, none⟩) ∧ ρ 4 = .int .i64 (x.next.length : Int) ∧ ρ 5 = v_xat ∧ ρ 6 = v_xis ∧ ρ 7 = .int .i64 size ∧ inK .i64 size ∧ (Lv d xat xis size ∧ size ≤ (d.next.length : Int) + 1)) (fun q_ => match q_ with | (xat, xis, size) => (d.next.length + 1 - size).toNat) (List.replicate ((x.next.length : Int)).toNat (⟨#[]⟩ : ByteArray), (List.replicate ((x.next.length : Int)).toNat false).set ((0 : Int)).toNat true, 0) ⟨(fun _ => none), v3, v5, Le.refl _, S9.sub [0, 1, 2] (by decide) rfl _ rfl, rfl, rfl, rfl, rfl, rfl, (in_i64 (by first|omega|(simp;omega)|assumption|simp) (by first|omega|(simp;omega)|assumption|simp)), (by exact ⟨by rw [hn_]; exact lv_0 hD_ _ rfl, by omega⟩)⟩ ?_
 rintro ⟨xat, xis, size⟩ ih10 ρ10 w10 ⟨h10, v_xat, v_xis, le10, S10, r10_1, r10_4, r10_5, r10_6, r10_7, f10_0, hI10⟩
 have lf10_0 := i64_lo f10_0; have hf10_0 := i64_hi f10_0
 have rl10_1 := S10.row_le (j := 1) rfl; simp only [maxLen] at rl10_1
 have rl10_2 := S10.row_le (j := 2) rfl; simp only [maxLen] at rl10_2
 have hs0_ := hI10.1.s0; have htl_ := hI10.1.tl; have hil_ := hI10.1.il; have hsz_ := hI10.2
 have hlv_ := hI10.1
 refine run_seq ?_
 refine run_seq ?_
 refine run_reg (l := [0, 1, 2]) rfl ?_
 refine p_v (v := .int .i64 size) rfl rfl rfl (x_move r10_7) ?_
 refine p_v (v := .int .i64 (x.next.length : Int)) rfl rfl rfl (x_move r10_4) ?_
 refine p_v (v := .bool (decide (size ≤ (x.next.length : Int)))) rfl rfl rfl (x_leq rfl rfl) ?_
 refine run_region_end ?_
 refine run_cond_prop (p := size ≤ (x.next.length : Int)) rfl (fun hc11 => ?_) (fun hc11 => ?_)
 ·skip
  refine run_skip ?_
  refine run_seq ?_
  refine run_block ?_
  refine run_seq ?_
  refine run_reg (l := [0]) rfl ?_
  refine p_v (v := .int .i64 (-1)) rfl rfl rfl (x_assign rfl) ?_
  refine run_region_end ?_
  refine run_seq ?_
  refine run_seq ?_
  refine run_reg (l := [0]) rfl ?_
  refine p_v (v := .int .i64 0) rfl rfl rfl (x_assign rfl) ?_
  refine run_region_end ?_
  refine run_block ?_
  refine run_loop (S := Int × Int) (fun (q_ : Int × Int) ρ w' => match q_ with | (best, q) => ∃ (h : Ghost), Le h10 h ∧ St w.heap.size w h w' [box b1 47 [.slice A0_0 x.least.length c0_0, .slice A0_1 x.next.length c0_1, .slice A0_2 x.final.length c0_2], row 9 Kd.string v_xat xat, row 4 Kd.bool v_xis xis] ∧ ρ 1 = .pointer (some ⟨b1, 0, none⟩) ∧ ρ 4 = .int .i64 (x.next.length : Int) ∧ ρ 5 = v_xat ∧ ρ 6 = v_xis ∧ ρ 7 = .int .i64 size ∧ ρ 8 = .int .i64 best ∧ ρ 9 = .int .i64 q ∧ inK .i64 best ∧ inK .i64 q ∧ (Bs d xat xis best q)) (fun q_ => match q_ with | (best, q) => (d.next.length - q).toNat) ((-1), 0) ⟨h10, Le.refl _, S10.sub [0, 1, 2] (by decide) rfl _ rfl, r10_1, r10_4, r10_5, r10_6, r10_7, rfl, rfl, (in_i64 (by first|omega|(simp;omega)|assumption|simp) (by first|omega|(simp;omega)|assumption|simp)), (in_i64 (by first|omega|(simp;omega)|assumption|simp) (by first|omega|(simp;omega)|assumption|simp)), (by exact bs_0)⟩ ?_
  rintro ⟨best, q⟩ ih12 ρ12 w12 ⟨h12, le12, S12, r12_1, r12_4, r12_5, r12_6, r12_7, r12_8, r12_9, f12_0, f12_1, hI12⟩
  have lf12_0 := i64_lo f12_0; have hf12_0 := i64_hi f12_0
  have lf12_1 := i64_lo f12_1; have hf12_1 := i64_hi f12_1
  have rl12_1 := S12.row_le (j := 1) rfl; simp only [maxLen] at rl12_1
  have rl12_2 := S12.row_le (j := 2) rfl; simp only [maxLen] at rl12_2
  have hq0_ := hI12.q0; have hq1_ := hI12.q1; have hb0_ := hI12.b0; have hb1_ := hI12.b1
  refine run_seq ?_
  refine run_seq ?_
  refine run_reg (l := [0, 1, 2]) rfl ?_
  refine p_v (v := .int .i64 q) rfl rfl rfl (x_move r12_9) ?_
  refine p_v (v := .int .i64 (x.next.length : Int)) rfl rfl rfl (x_move r12_4) ?_
  refine p_v (v := .bool (decide (q < (x.next.length : Int)))) rfl rfl rfl (x_lss rfl rfl) ?_
  refine run_region_end ?_
  refine run_cond_prop (p := q < (x.next.length : Int)) rfl (fun hc13 => ?_) (fun hc13 => ?_)
  ·skip
   refine run_skip ?_
   refine run_seq ?_
   refine run_block ?_
   refine run_seq ?_
   obtain ⟨ad14, a14, at14⟩ := e_index_own (q := q) (m := 1) S12 (j := 2) rfl rfl (by first|omega|(simp;omega)|assumption|simp) (by first|omega|(simp;omega)|assumption|simp)
   obtain ⟨seg15, rp15, cf15⟩ := e_load_own (q := q) S12 (j := 2) rfl rfl at14 (by first|omega|(simp;omega)|assumption|simp) (by first|omega|(simp;omega)|assumption|simp)
   obtain ⟨rfl, _⟩ := rp15
   rcases Bool.eq_false_or_eq_true (at_ xis q) with hc16 | hc16
   ·skip
    obtain ⟨ad17, seg17, a17, rp17, ce17⟩ := e_index_ro (q := q) (m := 1) l0_2 rfl (by first|omega|(simp;omega)|assumption|simp) (by first|omega|(simp;omega)|assumption|simp)
    obtain ⟨rfl, _⟩ := rp17
    rcases Bool.eq_false_or_eq_true (at_ x.final q) with hc18 | hc18
    ·skip
     by_cases hc19 : best < 0
     ·skip
      have hf20 : (CFs ad14 [.bool (at_ xis q)]).1 w12 := cf15
      have hf21 : (CFs ⟨b1, 2, none⟩ [.slice A0_2 x.final.length c0_2]).1 w12 := (CF.box (m := 1) (S12.box_at (j := 0) rfl) rfl)
      have hf22 : (CFs ad17 [.bool (at_ x.final q)]).1 w12 := (CF.ghost ce17 (St.le0 S12))
      refine daS (hkC 3 hf20 (hkC 6 hf21 (hkC 9 hf22 (hkN (w := w12))))) 26 rfl mixed ?_
      intro wd23 gd23 hd23
      have S24 := S12.keep gd23
      have hf25 := spUp gd23 hf20
      have hf26 := spUp gd23 hf21
      have hf27 := spUp gd23 hf22
      refine qd0 (i := 0) (v := v_xis) rfl (by decide +kernel) rfl rfl (x_move r12_6) (of_no rfl) ?_
      refine qd0 (i := 1) (v := .int .i64 q) rfl (by decide +kernel) rfl rfl (x_move r12_9) (of_no rfl) ?_
      refine qd0 (i := 2) (v := .pointer (some ad14)) rfl (by decide +kernel) rfl rfl (x_index_own u25 ty4 rfl rfl a14 (by first|omega|(simp;omega)|assumption|simp) (by first|omega|(simp;omega)|assumption|simp)) (of_no rfl) ?_
      refine qd1 0 (i := 3) (v := .bool (at_ xis q)) rfl rfl (by decide +kernel) rfl rfl (fun wq hq => (x_load (seg := [.bool (at_ xis q)]) ty4 rfl (by simp) rfl hq)) (of_eq hf25 (of_no rfl)) ?_
      refine qd0 (i := 4) (v := .bool (at_ xis q)) rfl (by decide +kernel) rfl rfl (x_move rfl) (of_no rfl) ?_
      refine qd0 (i := 5) (v := .pointer (some ⟨b1, 2, none⟩)) rfl (by decide +kernel) (wanted_of (j := 4) (want := true) (d := 39) (b := true) rfl rfl (congrArg Value.bool hc16) rfl) rfl (x_fieldAt fd47_2 ty25 rfl r12_1) (of_no rfl) ?_
      refine qd1 1 (i := 6) (v := .slice A0_2 x.final.length c0_2) rfl rfl (by decide +kernel) (wanted_of (j := 4) (want := true) (d := 39) (b := true) rfl rfl (congrArg Value.bool hc16) rfl) rfl (fun wq hq => (x_load (seg := [.slice A0_2 x.final.length c0_2]) ty25 rfl (by simp) rfl hq)) (of_ne rfl (of_eq hf26 (of_no rfl))) ?_
      refine qd0 (i := 7) (v := .int .i64 q) rfl (by decide +kernel) (wanted_of (j := 4) (want := true) (d := 39) (b := true) rfl rfl (congrArg Value.bool hc16) rfl) rfl (x_move r12_9) (of_no rfl) ?_
      refine qd0 (i := 8) (v := .pointer (some ad17)) rfl (by decide +kernel) (wanted_of (j := 4) (want := true) (d := 39) (b := true) rfl rfl (congrArg Value.bool hc16) rfl) rfl (x_index_ro u25 ty4 rfl rfl a17 (by first|omega|(simp;omega)|assumption|simp) (by first|omega|(simp;omega)|assumption|simp)) (of_no rfl) ?_
      refine qd1 2 (i := 9) (v := .bool (at_ x.final q)) rfl rfl (by decide +kernel) (wanted_of (j := 4) (want := true) (d := 39) (b := true) rfl rfl (congrArg Value.bool hc16) rfl) rfl (fun wq hq => (x_load (seg := [.bool (at_ x.final q)]) ty4 rfl (by simp) rfl hq)) (of_ne rfl (of_ne rfl (of_eq hf27 (of_no rfl)))) ?_
      refine qd0 (i := 10) (v := .bool (at_ x.final q)) rfl (by decide +kernel) rfl rfl (x_pick_t (congrArg Value.bool hc16) rfl) (of_no rfl) ?_
      refine qd0 (i := 11) (v := .bool (at_ x.final q)) rfl (by decide +kernel) rfl rfl (x_move rfl) (of_no rfl) ?_
      refine qd0 (i := 12) (v := .int .i64 best) rfl (by decide +kernel) (wanted_of (j := 11) (want := true) (d := 46) (b := true) rfl rfl (congrArg Value.bool hc18) rfl) rfl (x_move r12_8) (of_no rfl) ?_
      refine qd0 (i := 13) (v := .bool (decide (best < 0))) rfl (by decide +kernel) (wanted_of (j := 11) (want := true) (d := 46) (b := true) rfl rfl (congrArg Value.bool hc18) rfl) rfl (x_lss rfl rfl) (of_no rfl) ?_
      refine qd0 (i := 14) (v := .bool (decide (best < 0))) rfl (by decide +kernel) (wanted_of (j := 11) (want := true) (d := 46) (b := true) rfl rfl (congrArg Value.bool hc18) rfl) rfl (x_move rfl) (of_no rfl) ?_
      refine d_off (i := 15) rfl (by decide +kernel) (by decide +kernel) (by decide +kernel) (wanted_of (j := 14) (want := false) (d := 49) (b := true) rfl rfl (congrArg Value.bool (decide_eq_true hc19)) rfl) rfl (of_no rfl) ?_
      refine d_off (i := 16) rfl (by decide +kernel) (by decide +kernel) (by decide +kernel) (wanted_of (j := 14) (want := false) (d := 49) (b := true) rfl rfl (congrArg Value.bool (decide_eq_true hc19)) rfl) rfl (of_no rfl) ?_
      refine d_off (i := 17) rfl (by decide +kernel) (by decide +kernel) (by decide +kernel) (wanted_of (j := 14) (want := false) (d := 49) (b := true) rfl rfl (congrArg Value.bool (decide_eq_true hc19)) rfl) rfl (of_no rfl) ?_
      refine d_off (i := 18) rfl (by decide +kernel) (by decide +kernel) (by decide +kernel) (wanted_of (j := 14) (want := false) (d := 49) (b := true) rfl rfl (congrArg Value.bool (decide_eq_true hc19)) rfl) rfl (of_no rfl) ?_
      refine d_off (i := 19) rfl (by decide +kernel) (by decide +kernel) (by decide +kernel) (wanted_of (j := 14) (want := false) (d := 49) (b := true) rfl rfl (congrArg Value.bool (decide_eq_true hc19)) rfl) rfl (of_no rfl) ?_
      refine d_off (i := 20) rfl (by decide +kernel) (by decide +kernel) (by decide +kernel) (wanted_of (j := 14) (want := false) (d := 49) (b := true) rfl rfl (congrArg Value.bool (decide_eq_true hc19)) rfl) rfl (of_no rfl) ?_
      refine d_off (i := 21) rfl (by decide +kernel) (by decide +kernel) (by decide +kernel) (wanted_of (j := 14) (want := false) (d := 49) (b := true) rfl rfl (congrArg Value.bool (decide_eq_true hc19)) rfl) rfl (of_no rfl) ?_
      refine d_off (i := 22) rfl (by decide +kernel) (by decide +kernel) (by decide +kernel) (wanted_of (j := 14) (want := false) (d := 49) (b := true) rfl rfl (congrArg Value.bool (decide_eq_true hc19)) rfl) rfl (of_no rfl) ?_
      refine d_off (i := 23) rfl (by decide +kernel) (by decide +kernel) (by decide +kernel) (wanted_of (j := 14) (want := false) (d := 49) (b := true) rfl rfl (congrArg Value.bool (decide_eq_true hc19)) rfl) rfl (of_no rfl) ?_
      refine qd0 (i := 24) (v := .bool true) rfl (by decide +kernel) (wanted_of (j := 11) (want := true) (d := 46) (b := true) rfl rfl (congrArg Value.bool hc18) rfl) rfl (x_pick_t (congrArg Value.bool (decide_eq_true hc19)) rfl) (of_no rfl) ?_
      refine qd0 (i := 25) (v := .bool true) rfl (by decide +kernel) rfl rfl (x_pick_t (congrArg Value.bool hc18) rfl) (of_no rfl) ?_
      refine ra_done (by decide +kernel) ?_
      intro wd28 gd28
      have S29 := S24.keep gd28
      refine run_cond (b := true) rfl ?_
      simp only [if_true, if_false, Bool.false_eq_true]
      refine run_reg (l := [0, 1]) rfl ?_
      refine p_v (v := .int .i64 q) rfl rfl rfl (x_move r12_9) ?_
      refine p_v (v := .int .i64 q) rfl rfl rfl (x_assign rfl) ?_
      refine run_region_end ?_
      refine run_inBlock ?_
      refine run_reg (l := [0, 1, 2]) rfl ?_
      refine p_v (v := .int .i64 q) rfl rfl rfl (x_move r12_9) ?_
      refine p_v (v := .int .i64 (q + 1)) rfl rfl rfl (x_add rfl rfl (in_i64 (by first|omega|(simp;omega)|assumption|simp) (by first|omega|(simp;omega)|assumption|simp))) ?_
      refine p_v (v := .int .i64 (q + 1)) rfl rfl rfl (x_assign rfl) ?_
      refine run_region_end ?_
      refine ih12 (q, q + 1) _ _ (by dsimp only; omega) ⟨h12, le12, S29.sub [0, 1, 2] (by decide) rfl _ rfl, r12_1, r12_4, r12_5, r12_6, r12_7, rfl, rfl, f12_1, (in_i64 (by first|omega|(simp;omega)|assumption|simp) (by first|omega|(simp;omega)|assumption|simp)), (by first | exact bs_yes hI12 (by omega) (by assumption) (by rw [← hf_]; assumption) (.inl (by omega)) | exact bs_yes hI12 (by omega) (by assumption) (by rw [← hf_]; assumption) (.inr (by assumption)) | exact bs_no hI12 (by omega) (.inl (by assumption)) | exact bs_no hI12 (by omega) (.inr (.inl (by rw [← hf_]; assumption))) | exact bs_no hI12 (by omega) (.inr (.inr ⟨by omega, by assumption⟩)))⟩
     ·skip
      obtain ⟨ad30, a30, at30⟩ := e_index_own (q := q) (m := 1) S12 (j := 1) rfl rfl (by first|omega|(simp;omega)|assumption|simp) (by first|omega|(simp;omega)|assumption|simp)
      obtain ⟨seg31, rp31, cf31⟩ := e_load_own (q := q) S12 (j := 1) rfl rfl at30 (by first|omega|(simp;omega)|assumption|simp) (by first|omega|(simp;omega)|assumption|simp)
      obtain ⟨rfl, sz31⟩ := rp31
      obtain ⟨ad32, a32, at32⟩ := e_index_own (q := best) (m := 1) S12 (j := 1) rfl rfl (by first|omega|(simp;omega)|assumption|simp) (by first|omega|(simp;omega)|assumption|simp)
      obtain ⟨seg33, rp33, cf33⟩ := e_load_own (q := best) S12 (j := 1) rfl rfl at32 (by first|omega|(simp;omega)|assumption|simp) (by first|omega|(simp;omega)|assumption|simp)
      obtain ⟨rfl, sz33⟩ := rp33
      have hf34 : (CFs ad14 [.bool (at_ xis q)]).1 w12 := cf15
      have hf35 : (CFs ⟨b1, 2, none⟩ [.slice A0_2 x.final.length c0_2]).1 w12 := (CF.box (m := 1) (S12.box_at (j := 0) rfl) rfl)
      have hf36 : (CFs ad17 [.bool (at_ x.final q)]).1 w12 := (CF.ghost ce17 (St.le0 S12))
      have hf37 : (CFs ad30 [.string (at_ xat q)]).1 w12 := cf31
      have hf38 : (CFs ad32 [.string (at_ xat best)]).1 w12 := cf33
      refine daS (hkC 3 hf34 (hkC 6 hf35 (hkC 9 hf36 (hkC 18 hf37 (hkC 22 hf38 (hkN (w := w12))))))) 26 rfl mixed ?_
      intro wd39 gd39 hd39
      have S40 := S12.keep gd39
      have hf41 := spUp gd39 hf34
      have hf42 := spUp gd39 hf35
      have hf43 := spUp gd39 hf36
      have hf44 := spUp gd39 hf37
      have hf45 := spUp gd39 hf38
      refine qd0 (i := 0) (v := v_xis) rfl (by decide +kernel) rfl rfl (x_move r12_6) (of_no rfl) ?_
      refine qd0 (i := 1) (v := .int .i64 q) rfl (by decide +kernel) rfl rfl (x_move r12_9) (of_no rfl) ?_
      refine qd0 (i := 2) (v := .pointer (some ad14)) rfl (by decide +kernel) rfl rfl (x_index_own u25 ty4 rfl rfl a14 (by first|omega|(simp;omega)|assumption|simp) (by first|omega|(simp;omega)|assumption|simp)) (of_no rfl) ?_
      refine qd1 0 (i := 3) (v := .bool (at_ xis q)) rfl rfl (by decide +kernel) rfl rfl (fun wq hq => (x_load (seg := [.bool (at_ xis q)]) ty4 rfl (by simp) rfl hq)) (of_eq hf41 (of_no rfl)) ?_
      refine qd0 (i := 4) (v := .bool (at_ xis q)) rfl (by decide +kernel) rfl rfl (x_move rfl) (of_no rfl) ?_
      refine qd0 (i := 5) (v := .pointer (some ⟨b1, 2, none⟩)) rfl (by decide +kernel) (wanted_of (j := 4) (want := true) (d := 39) (b := true) rfl rfl (congrArg Value.bool hc16) rfl) rfl (x_fieldAt fd47_2 ty25 rfl r12_1) (of_no rfl) ?_
      refine qd1 1 (i := 6) (v := .slice A0_2 x.final.length c0_2) rfl rfl (by decide +kernel) (wanted_of (j := 4) (want := true) (d := 39) (b := true) rfl rfl (congrArg Value.bool hc16) rfl) rfl (fun wq hq => (x_load (seg := [.slice A0_2 x.final.length c0_2]) ty25 rfl (by simp) rfl hq)) (of_ne rfl (of_eq hf42 (of_no rfl))) ?_
      refine qd0 (i := 7) (v := .int .i64 q) rfl (by decide +kernel) (wanted_of (j := 4) (want := true) (d := 39) (b := true) rfl rfl (congrArg Value.bool hc16) rfl) rfl (x_move r12_9) (of_no rfl) ?_
      refine qd0 (i := 8) (v := .pointer (some ad17)) rfl (by decide +kernel) (wanted_of (j := 4) (want := true) (d := 39) (b := true) rfl rfl (congrArg Value.bool hc16) rfl) rfl (x_index_ro u25 ty4 rfl rfl a17 (by first|omega|(simp;omega)|assumption|simp) (by first|omega|(simp;omega)|assumption|simp)) (of_no rfl) ?_
      refine qd1 2 (i := 9) (v := .bool (at_ x.final q)) rfl rfl (by decide +kernel) (wanted_of (j := 4) (want := true) (d := 39) (b := true) rfl rfl (congrArg Value.bool hc16) rfl) rfl (fun wq hq => (x_load (seg := [.bool (at_ x.final q)]) ty4 rfl (by simp) rfl hq)) (of_ne rfl (of_ne rfl (of_eq hf43 (of_no rfl)))) ?_
      refine qd0 (i := 10) (v := .bool (at_ x.final q)) rfl (by decide +kernel) rfl rfl (x_pick_t (congrArg Value.bool hc16) rfl) (of_no rfl) ?_
      refine qd0 (i := 11) (v := .bool (at_ x.final q)) rfl (by decide +kernel) rfl rfl (x_move rfl) (of_no rfl) ?_
      refine qd0 (i := 12) (v := .int .i64 best) rfl (by decide +kernel) (wanted_of (j := 11) (want := true) (d := 46) (b := true) rfl rfl (congrArg Value.bool hc18) rfl) rfl (x_move r12_8) (of_no rfl) ?_
      refine qd0 (i := 13) (v := .bool (decide (best < 0))) rfl (by decide +kernel) (wanted_of (j := 11) (want := true) (d := 46) (b := true) rfl rfl (congrArg Value.bool hc18) rfl) rfl (x_lss rfl rfl) (of_no rfl) ?_
      refine qd0 (i := 14) (v := .bool (decide (best < 0))) rfl (by decide +kernel) (wanted_of (j := 11) (want := true) (d := 46) (b := true) rfl rfl (congrArg Value.bool hc18) rfl) rfl (x_move rfl) (of_no rfl) ?_
      refine qd0 (i := 15) (v := v_xat) rfl (by decide +kernel) (wanted_of (j := 14) (want := false) (d := 49) (b := false) rfl rfl (congrArg Value.bool (decide_eq_false hc19)) rfl) rfl (x_move r12_5) (of_no rfl) ?_
      refine qd0 (i := 16) (v := .int .i64 q) rfl (by decide +kernel) (wanted_of (j := 14) (want := false) (d := 49) (b := false) rfl rfl (congrArg Value.bool (decide_eq_false hc19)) rfl) rfl (x_move r12_9) (of_no rfl) ?_
      refine qd0 (i := 17) (v := .pointer (some ad30)) rfl (by decide +kernel) (wanted_of (j := 14) (want := false) (d := 49) (b := false) rfl rfl (congrArg Value.bool (decide_eq_false hc19)) rfl) rfl (x_index_own u167 ty9 rfl rfl a30 (by first|omega|(simp;omega)|assumption|simp) (by first|omega|(simp;omega)|assumption|simp)) (of_no rfl) ?_
      refine qd1 3 (i := 18) (v := .string (at_ xat q)) rfl rfl (by decide +kernel) (wanted_of (j := 14) (want := false) (d := 49) (b := false) rfl rfl (congrArg Value.bool (decide_eq_false hc19)) rfl) rfl (fun wq hq => (x_load (seg := [.string (at_ xat q)]) ty9 rfl (by simp) rfl hq)) (of_ne rfl (of_ne rfl (of_ne rfl (of_eq hf44 (of_no rfl))))) ?_
      refine qd0 (i := 19) (v := v_xat) rfl (by decide +kernel) (wanted_of (j := 14) (want := false) (d := 49) (b := false) rfl rfl (congrArg Value.bool (decide_eq_false hc19)) rfl) rfl (x_move r12_5) (of_no rfl) ?_
      refine qd0 (i := 20) (v := .int .i64 best) rfl (by decide +kernel) (wanted_of (j := 14) (want := false) (d := 49) (b := false) rfl rfl (congrArg Value.bool (decide_eq_false hc19)) rfl) rfl (x_move r12_8) (of_no rfl) ?_
      refine qd0 (i := 21) (v := .pointer (some ad32)) rfl (by decide +kernel) (wanted_of (j := 14) (want := false) (d := 49) (b := false) rfl rfl (congrArg Value.bool (decide_eq_false hc19)) rfl) rfl (x_index_own u167 ty9 rfl rfl a32 (by first|omega|(simp;omega)|assumption|simp) (by first|omega|(simp;omega)|assumption|simp)) (of_no rfl) ?_
      refine qd1 4 (i := 22) (v := .string (at_ xat best)) rfl rfl (by decide +kernel) (wanted_of (j := 14) (want := false) (d := 49) (b := false) rfl rfl (congrArg Value.bool (decide_eq_false hc19)) rfl) rfl (fun wq hq => (x_load (seg := [.string (at_ xat best)]) ty9 rfl (by simp) rfl hq)) (of_ne rfl (of_ne rfl (of_ne rfl (of_ne rfl (of_eq hf45 (of_no rfl)))))) ?_
      refine qd0 (i := 23) (v := .bool (strLt (at_ xat q) (at_ xat best))) rfl (by decide +kernel) (wanted_of (j := 14) (want := false) (d := 49) (b := false) rfl rfl (congrArg Value.bool (decide_eq_false hc19)) rfl) rfl (x_lss_string rfl rfl) (of_no rfl) ?_
      refine qd0 (i := 24) (v := .bool (strLt (at_ xat q) (at_ xat best))) rfl (by decide +kernel) (wanted_of (j := 11) (want := true) (d := 46) (b := true) rfl rfl (congrArg Value.bool hc18) rfl) rfl (x_pick_f (congrArg Value.bool (decide_eq_false hc19)) rfl) (of_no rfl) ?_
      refine qd0 (i := 25) (v := .bool (strLt (at_ xat q) (at_ xat best))) rfl (by decide +kernel) rfl rfl (x_pick_t (congrArg Value.bool hc18) rfl) (of_no rfl) ?_
      refine ra_done (by decide +kernel) ?_
      intro wd46 gd46
      have S47 := S40.keep gd46
      refine run_cond_split (b := strLt (at_ xat q) (at_ xat best)) rfl (fun hc48 => ?_) (fun hc48 => ?_)
      ·skip
       refine run_reg (l := [0, 1]) rfl ?_
       refine p_v (v := .int .i64 q) rfl rfl rfl (x_move r12_9) ?_
       refine p_v (v := .int .i64 q) rfl rfl rfl (x_assign rfl) ?_
       refine run_region_end ?_
       refine run_inBlock ?_
       refine run_reg (l := [0, 1, 2]) rfl ?_
       refine p_v (v := .int .i64 q) rfl rfl rfl (x_move r12_9) ?_
       refine p_v (v := .int .i64 (q + 1)) rfl rfl rfl (x_add rfl rfl (in_i64 (by first|omega|(simp;omega)|assumption|simp) (by first|omega|(simp;omega)|assumption|simp))) ?_
       refine p_v (v := .int .i64 (q + 1)) rfl rfl rfl (x_assign rfl) ?_
       refine run_region_end ?_
       refine ih12 (q, q + 1) _ _ (by dsimp only; omega) ⟨h12, le12, S47.sub [0, 1, 2] (by decide) rfl _ rfl, r12_1, r12_4, r12_5, r12_6, r12_7, rfl, rfl, f12_1, (in_i64 (by first|omega|(simp;omega)|assumption|simp) (by first|omega|(simp;omega)|assumption|simp)), (by first | exact bs_yes hI12 (by omega) (by assumption) (by rw [← hf_]; assumption) (.inl (by omega)) | exact bs_yes hI12 (by omega) (by assumption) (by rw [← hf_]; assumption) (.inr (by assumption)) | exact bs_no hI12 (by omega) (.inl (by assumption)) | exact bs_no hI12 (by omega) (.inr (.inl (by rw [← hf_]; assumption))) | exact bs_no hI12 (by omega) (.inr (.inr ⟨by omega, by assumption⟩)))⟩
      ·skip
       refine run_skip ?_
       refine run_inBlock ?_
       refine run_reg (l := [0, 1, 2]) rfl ?_
       refine p_v (v := .int .i64 q) rfl rfl rfl (x_move r12_9) ?_
       refine p_v (v := .int .i64 (q + 1)) rfl rfl rfl (x_add rfl rfl (in_i64 (by first|omega|(simp;omega)|assumption|simp) (by first|omega|(simp;omega)|assumption|simp))) ?_
       refine p_v (v := .int .i64 (q + 1)) rfl rfl rfl (x_assign rfl) ?_
       refine run_region_end ?_
       refine ih12 (best, q + 1) _ _ (by dsimp only; omega) ⟨h12, le12, S47.sub [0, 1, 2] (by decide) rfl _ rfl, r12_1, r12_4, r12_5, r12_6, r12_7, r12_8, rfl, f12_0, (in_i64 (by first|omega|(simp;omega)|assumption|simp) (by first|omega|(simp;omega)|assumption|simp)), (by first | exact bs_yes hI12 (by omega) (by assumption) (by rw [← hf_]; assumption) (.inl (by omega)) | exact bs_yes hI12 (by omega) (by assumption) (by rw [← hf_]; assumption) (.inr (by assumption)) | exact bs_no hI12 (by omega) (.inl (by assumption)) | exact bs_no hI12 (by omega) (.inr (.inl (by rw [← hf_]; assumption))) | exact bs_no hI12 (by omega) (.inr (.inr ⟨by omega, by assumption⟩)))⟩
    ·skip
     have hf49 : (CFs ad14 [.bool (at_ xis q)]).1 w12 := cf15
     have hf50 : (CFs ⟨b1, 2, none⟩ [.slice A0_2 x.final.length c0_2]).1 w12 := (CF.box (m := 1) (S12.box_at (j := 0) rfl) rfl)
     have hf51 : (CFs ad17 [.bool (at_ x.final q)]).1 w12 := (CF.ghost ce17 (St.le0 S12))
     refine daS (hkC 3 hf49 (hkC 6 hf50 (hkC 9 hf51 (hkN (w := w12))))) 26 rfl mixed ?_
     intro wd52 gd52 hd52
     have S53 := S12.keep gd52
     have hf54 := spUp gd52 hf49
     have hf55 := spUp gd52 hf50
     have hf56 := spUp gd52 hf51
     refine qd0 (i := 0) (v := v_xis) rfl (by decide +kernel) rfl rfl (x_move r12_6) (of_no rfl) ?_
     refine qd0 (i := 1) (v := .int .i64 q) rfl (by decide +kernel) rfl rfl (x_move r12_9) (of_no rfl) ?_
     refine qd0 (i := 2) (v := .pointer (some ad14)) rfl (by decide +kernel) rfl rfl (x_index_own u25 ty4 rfl rfl a14 (by first|omega|(simp;omega)|assumption|simp) (by first|omega|(simp;omega)|assumption|simp)) (of_no rfl) ?_
     refine qd1 0 (i := 3) (v := .bool (at_ xis q)) rfl rfl (by decide +kernel) rfl rfl (fun wq hq => (x_load (seg := [.bool (at_ xis q)]) ty4 rfl (by simp) rfl hq)) (of_eq hf54 (of_no rfl)) ?_
     refine qd0 (i := 4) (v := .bool (at_ xis q)) rfl (by decide +kernel) rfl rfl (x_move rfl) (of_no rfl) ?_
     refine qd0 (i := 5) (v := .pointer (some ⟨b1, 2, none⟩)) rfl (by decide +kernel) (wanted_of (j := 4) (want := true) (d := 39) (b := true) rfl rfl (congrArg Value.bool hc16) rfl) rfl (x_fieldAt fd47_2 ty25 rfl r12_1) (of_no rfl) ?_
     refine qd1 1 (i := 6) (v := .slice A0_2 x.final.length c0_2) rfl rfl (by decide +kernel) (wanted_of (j := 4) (want := true) (d := 39) (b := true) rfl rfl (congrArg Value.bool hc16) rfl) rfl (fun wq hq => (x_load (seg := [.slice A0_2 x.final.length c0_2]) ty25 rfl (by simp) rfl hq)) (of_ne rfl (of_eq hf55 (of_no rfl))) ?_
     refine qd0 (i := 7) (v := .int .i64 q) rfl (by decide +kernel) (wanted_of (j := 4) (want := true) (d := 39) (b := true) rfl rfl (congrArg Value.bool hc16) rfl) rfl (x_move r12_9) (of_no rfl) ?_
     refine qd0 (i := 8) (v := .pointer (some ad17)) rfl (by decide +kernel) (wanted_of (j := 4) (want := true) (d := 39) (b := true) rfl rfl (congrArg Value.bool hc16) rfl) rfl (x_index_ro u25 ty4 rfl rfl a17 (by first|omega|(simp;omega)|assumption|simp) (by first|omega|(simp;omega)|assumption|simp)) (of_no rfl) ?_
     refine qd1 2 (i := 9) (v := .bool (at_ x.final q)) rfl rfl (by decide +kernel) (wanted_of (j := 4) (want := true) (d := 39) (b := true) rfl rfl (congrArg Value.bool hc16) rfl) rfl (fun wq hq => (x_load (seg := [.bool (at_ x.final q)]) ty4 rfl (by simp) rfl hq)) (of_ne rfl (of_ne rfl (of_eq hf56 (of_no rfl)))) ?_
     refine qd0 (i := 10) (v := .bool (at_ x.final q)) rfl (by decide +kernel) rfl rfl (x_pick_t (congrArg Value.bool hc16) rfl) (of_no rfl) ?_
     refine qd0 (i := 11) (v := .bool (at_ x.final q)) rfl (by decide +kernel) rfl rfl (x_move rfl) (of_no rfl) ?_
     refine d_off (i := 12) rfl (by decide +kernel) (by decide +kernel) (by decide +kernel) (wanted_of (j := 11) (want := true) (d := 46) (b := false) rfl rfl (congrArg Value.bool hc18) rfl) rfl (of_no rfl) ?_
     refine d_off (i := 13) rfl (by decide +kernel) (by decide +kernel) (by decide +kernel) (wanted_of (j := 11) (want := true) (d := 46) (b := false) rfl rfl (congrArg Value.bool hc18) rfl) rfl (of_no rfl) ?_
     refine d_off (i := 14) rfl (by decide +kernel) (by decide +kernel) (by decide +kernel) (wanted_of (j := 11) (want := true) (d := 46) (b := false) rfl rfl (congrArg Value.bool hc18) rfl) rfl (of_no rfl) ?_
     refine d_off (i := 15) rfl (by decide +kernel) (by decide +kernel) (by decide +kernel) rfl rfl (of_no rfl) ?_
     refine d_off (i := 16) rfl (by decide +kernel) (by decide +kernel) (by decide +kernel) rfl rfl (of_no rfl) ?_
     refine d_off (i := 17) rfl (by decide +kernel) (by decide +kernel) (by decide +kernel) rfl rfl (of_no rfl) ?_
     refine d_off (i := 18) rfl (by decide +kernel) (by decide +kernel) (by decide +kernel) rfl rfl (of_no rfl) ?_
     refine d_off (i := 19) rfl (by decide +kernel) (by decide +kernel) (by decide +kernel) rfl rfl (of_no rfl) ?_
     refine d_off (i := 20) rfl (by decide +kernel) (by decide +kernel) (by decide +kernel) rfl rfl (of_no rfl) ?_
     refine d_off (i := 21) rfl (by decide +kernel) (by decide +kernel) (by decide +kernel) rfl rfl (of_no rfl) ?_
     refine d_off (i := 22) rfl (by decide +kernel) (by decide +kernel) (by decide +kernel) rfl rfl (of_no rfl) ?_
     refine d_off (i := 23) rfl (by decide +kernel) (by decide +kernel) (by decide +kernel) rfl rfl (of_no rfl) ?_
     refine d_off (i := 24) rfl (by decide +kernel) (by decide +kernel) (by decide +kernel) (wanted_of (j := 11) (want := true) (d := 46) (b := false) rfl rfl (congrArg Value.bool hc18) rfl) rfl (of_no rfl) ?_
     refine qd0 (i := 25) (v := .bool false) rfl (by decide +kernel) rfl rfl (x_pick_f (congrArg Value.bool hc18) rfl) (of_no rfl) ?_
     refine ra_done (by decide +kernel) ?_
     intro wd57 gd57
     have S58 := S53.keep gd57
     refine run_cond (b := false) rfl ?_
     simp only [if_true, if_false, Bool.false_eq_true]
     refine run_skip ?_
     refine run_inBlock ?_
     refine run_reg (l := [0, 1, 2]) rfl ?_
     refine p_v (v := .int .i64 q) rfl rfl rfl (x_move r12_9) ?_
     refine p_v (v := .int .i64 (q + 1)) rfl rfl rfl (x_add rfl rfl (in_i64 (by first|omega|(simp;omega)|assumption|simp) (by first|omega|(simp;omega)|assumption|simp))) ?_
     refine p_v (v := .int .i64 (q + 1)) rfl rfl rfl (x_assign rfl) ?_
     refine run_region_end ?_
     refine ih12 (best, q + 1) _ _ (by dsimp only; omega) ⟨h12, le12, S58.sub [0, 1, 2] (by decide) rfl _ rfl, r12_1, r12_4, r12_5, r12_6, r12_7, r12_8, rfl, f12_0, (in_i64 (by first|omega|(simp;omega)|assumption|simp) (by first|omega|(simp;omega)|assumption|simp)), (by first | exact bs_yes hI12 (by omega) (by assumption) (by rw [← hf_]; assumption) (.inl (by omega)) | exact bs_yes hI12 (by omega) (by assumption) (by rw [← hf_]; assumption) (.inr (by assumption)) | exact bs_no hI12 (by omega) (.inl (by assumption)) | exact bs_no hI12 (by omega) (.inr (.inl (by rw [← hf_]; assumption))) | exact bs_no hI12 (by omega) (.inr (.inr ⟨by omega, by assumption⟩)))⟩
   ·skip
    have hf59 : (CFs ad14 [.bool (at_ xis q)]).1 w12 := cf15
    refine daS (hkC 3 hf59 (hkN (w := w12))) 26 rfl mixed ?_
    intro wd60 gd60 hd60
    have S61 := S12.keep gd60
    have hf62 := spUp gd60 hf59
    refine qd0 (i := 0) (v := v_xis) rfl (by decide +kernel) rfl rfl (x_move r12_6) (of_no rfl) ?_
    refine qd0 (i := 1) (v := .int .i64 q) rfl (by decide +kernel) rfl rfl (x_move r12_9) (of_no rfl) ?_
    refine qd0 (i := 2) (v := .pointer (some ad14)) rfl (by decide +kernel) rfl rfl (x_index_own u25 ty4 rfl rfl a14 (by first|omega|(simp;omega)|assumption|simp) (by first|omega|(simp;omega)|assumption|simp)) (of_no rfl) ?_
    refine qd1 0 (i := 3) (v := .bool (at_ xis q)) rfl rfl (by decide +kernel) rfl rfl (fun wq hq => (x_load (seg := [.bool (at_ xis q)]) ty4 rfl (by simp) rfl hq)) (of_eq hf62 (of_nil _ _)) ?_
    refine qd0 (i := 4) (v := .bool (at_ xis q)) rfl (by decide +kernel) rfl rfl (x_move rfl) (of_no rfl) ?_
    refine d_off (i := 5) rfl (by decide +kernel) (by decide +kernel) (by decide +kernel) (wanted_of (j := 4) (want := true) (d := 39) (b := false) rfl rfl (congrArg Value.bool hc16) rfl) rfl (of_no rfl) ?_
    refine d_off (i := 6) rfl (by decide +kernel) (by decide +kernel) (by decide +kernel) (wanted_of (j := 4) (want := true) (d := 39) (b := false) rfl rfl (congrArg Value.bool hc16) rfl) rfl (of_no rfl) ?_
    refine d_off (i := 7) rfl (by decide +kernel) (by decide +kernel) (by decide +kernel) (wanted_of (j := 4) (want := true) (d := 39) (b := false) rfl rfl (congrArg Value.bool hc16) rfl) rfl (of_no rfl) ?_
    refine d_off (i := 8) rfl (by decide +kernel) (by decide +kernel) (by decide +kernel) (wanted_of (j := 4) (want := true) (d := 39) (b := false) rfl rfl (congrArg Value.bool hc16) rfl) rfl (of_no rfl) ?_
    refine d_off (i := 9) rfl (by decide +kernel) (by decide +kernel) (by decide +kernel) (wanted_of (j := 4) (want := true) (d := 39) (b := false) rfl rfl (congrArg Value.bool hc16) rfl) rfl (of_no rfl) ?_
    refine qd0 (i := 10) (v := .bool false) rfl (by decide +kernel) rfl rfl (x_pick_f (congrArg Value.bool hc16) rfl) (of_no rfl) ?_
    refine qd0 (i := 11) (v := .bool false) rfl (by decide +kernel) rfl rfl (x_move rfl) (of_no rfl) ?_
    refine d_off (i := 12) rfl (by decide +kernel) (by decide +kernel) (by decide +kernel) rfl rfl (of_no rfl) ?_
    refine d_off (i := 13) rfl (by decide +kernel) (by decide +kernel) (by decide +kernel) rfl rfl (of_no rfl) ?_
    refine d_off (i := 14) rfl (by decide +kernel) (by decide +kernel) (by decide +kernel) rfl rfl (of_no rfl) ?_
    refine d_off (i := 15) rfl (by decide +kernel) (by decide +kernel) (by decide +kernel) rfl rfl (of_no rfl) ?_
    refine d_off (i := 16) rfl (by decide +kernel) (by decide +kernel) (by decide +kernel) rfl rfl (of_no rfl) ?_
    refine d_off (i := 17) rfl (by decide +kernel) (by decide +kernel) (by decide +kernel) rfl rfl (of_no rfl) ?_
    refine d_off (i := 18) rfl (by decide +kernel) (by decide +kernel) (by decide +kernel) rfl rfl (of_no rfl) ?_
    refine d_off (i := 19) rfl (by decide +kernel) (by decide +kernel) (by decide +kernel) rfl rfl (of_no rfl) ?_
    refine d_off (i := 20) rfl (by decide +kernel) (by decide +kernel) (by decide +kernel) rfl rfl (of_no rfl) ?_
    refine d_off (i := 21) rfl (by decide +kernel) (by decide +kernel) (by decide +kernel) rfl rfl (of_no rfl) ?_
    refine d_off (i := 22) rfl (by decide +kernel) (by decide +kernel) (by decide +kernel) rfl rfl (of_no rfl) ?_
    refine d_off (i := 23) rfl (by decide +kernel) (by decide +kernel) (by decide +kernel) rfl rfl (of_no rfl) ?_
    refine d_off (i := 24) rfl (by decide +kernel) (by decide +kernel) (by decide +kernel) rfl rfl (of_no rfl) ?_
    refine qd0 (i := 25) (v := .bool false) rfl (by decide +kernel) rfl rfl (x_pick_f rfl rfl) (of_no rfl) ?_
    refine ra_done (by decide +kernel) ?_
    intro wd63 gd63
    have S64 := S61.keep gd63
    refine run_cond (b := false) rfl ?_
    simp only [if_true, if_false, Bool.false_eq_true]
    refine run_skip ?_
    refine run_inBlock ?_
    refine run_reg (l := [0, 1, 2]) rfl ?_
    refine p_v (v := .int .i64 q) rfl rfl rfl (x_move r12_9) ?_
    refine p_v (v := .int .i64 (q + 1)) rfl rfl rfl (x_add rfl rfl (in_i64 (by first|omega|(simp;omega)|assumption|simp) (by first|omega|(simp;omega)|assumption|simp))) ?_
    refine p_v (v := .int .i64 (q + 1)) rfl rfl rfl (x_assign rfl) ?_
    refine run_region_end ?_
    refine ih12 (best, q + 1) _ _ (by dsimp only; omega) ⟨h12, le12, S64.sub [0, 1, 2] (by decide) rfl _ rfl, r12_1, r12_4, r12_5, r12_6, r12_7, r12_8, rfl, f12_0, (in_i64 (by first|omega|(simp;omega)|assumption|simp) (by first|omega|(simp;omega)|assumption|simp)), (by first | exact bs_yes hI12 (by omega) (by assumption) (by rw [← hf_]; assumption) (.inl (by omega)) | exact bs_yes hI12 (by omega) (by assumption) (by rw [← hf_]; assumption) (.inr (by assumption)) | exact bs_no hI12 (by omega) (.inl (by assumption)) | exact bs_no hI12 (by omega) (.inr (.inl (by rw [← hf_]; assumption))) | exact bs_no hI12 (by omega) (.inr (.inr ⟨by omega, by assumption⟩)))⟩
  ·skip
   refine run_exit rfl ?_
   refine run_seq ?_
   refine run_seq ?_
   refine run_reg (l := [0, 1]) rfl ?_
   refine p_v (v := .int .i64 best) rfl rfl rfl (x_move r12_8) ?_
   refine p_v (v := .bool (decide (0 ≤ best))) rfl rfl rfl (x_geq rfl rfl) ?_
   refine run_region_end ?_
   refine run_cond_prop (p := 0 ≤ best) rfl (fun hc65 => ?_) (fun hc65 => ?_)
   ·skip
    refine run_seq ?_
    refine run_reg (l := [0, 1, 2, 3, 4, 5]) rfl ?_
    refine p_v (v := v_xat) rfl rfl rfl (x_move r12_5) ?_
    refine p_v (v := .int .i64 best) rfl rfl rfl (x_move r12_8) ?_
    obtain ⟨ad66, a66, at66⟩ := e_index_own (q := best) (m := 1) S12 (j := 1) rfl rfl (by first|omega|(simp;omega)|assumption|simp) (by first|omega|(simp;omega)|assumption|simp)
    refine p_v (v := .pointer (some ad66)) rfl rfl rfl (x_index_own u167 ty9 rfl rfl a66 (by first|omega|(simp;omega)|assumption|simp) (by first|omega|(simp;omega)|assumption|simp)) ?_
    obtain ⟨seg67, rp67, cf67⟩ := e_load_own (q := best) S12 (j := 1) rfl rfl at66 (by first|omega|(simp;omega)|assumption|simp) (by first|omega|(simp;omega)|assumption|simp)
    obtain ⟨rfl, sz67⟩ := rp67
    refine p_v (v := .string (at_ xat best)) rfl rfl rfl (x_load (seg := [.string (at_ xat best)]) ty9 rfl (by simp) rfl cf67) ?_
    refine p_v (v := .string (at_ xat best)) rfl rfl rfl (x_assign rfl) ?_
    refine p_v (v := .bool true) rfl rfl rfl (x_assign rfl) ?_
    refine run_region_end ?_
    refine run_ret Tryd.func60 (res2 rfl (res_tmp (v := .string (at_ xat best)) rfl) (res_tmp (v := .bool true) rfl)) ?_
    have q0 : (wordW (runD d) : ByteArray) = at_ xat best := by
     first | exact (word_is (lv_found hI10.1 hI12 hr_ ho_ (by omega) (by omega))).1 | exact (word_no (lv_end hI10.1 hr_ ho_ (by omega))).1
    have q1 : (okW (runD d) : Bool) = true := by
     first | exact (word_is (lv_found hI10.1 hI12 hr_ ho_ (by omega) (by omega))).2 | exact (word_no (lv_end hI10.1 hr_ ho_ (by omega))).2
    refine ⟨_, rfl, h12, ?_, ?_, ?_⟩
    · exact S12.sub [] (by decide) rfl _ rfl
    · first | rfl | (simp only [q0, q1]; rfl) | (simp only [q0, q1])
    · rw [q0]; first | assumption | exact sz67
   ·skip
    refine run_skip ?_
    refine run_seq ?_
    refine run_reg (l := [0, 1, 2]) rfl ?_
    refine p_v (v := .int .i64 (x.next.length : Int)) rfl rfl rfl (x_move r12_4) ?_
    obtain ⟨v68, w68, r68, g68, T68⟩ := e_make (kk := .i64) (kk' := .i64) (kd := Kd.string) (q := (x.next.length : Int)) (z := (⟨#[]⟩ : ByteArray)) (zc := [.string ⟨#[]⟩]) S12 u167 ty9 rfl rfl ⟨rfl, by decide⟩ (by first|omega|(simp;omega)|assumption|simp) (by first|omega|(simp;omega)|assumption|simp) (by first|omega|(simp;omega)|assumption|simp)
    have S69 := T68
    dsimp only [lAa, lAn, lA0, lAs] at S69
    refine p_v (v := v68) rfl rfl rfl (x_make rfl rfl r68) ?_
    refine p_v (v := v68) rfl rfl rfl (x_assign rfl) ?_
    refine run_region_end ?_
    refine run_seq ?_
    refine run_reg (l := [0, 1, 2]) rfl ?_
    refine p_v (v := .int .i64 (x.next.length : Int)) rfl rfl rfl (x_move r12_4) ?_
    obtain ⟨v70, w70, r70, g70, T70⟩ := e_make (kk := .i64) (kk' := .i64) (kd := Kd.bool) (q := (x.next.length : Int)) (z := false) (zc := [.bool false]) S69 u25 ty4 rfl rfl ⟨rfl, trivial⟩ (by first|omega|(simp;omega)|assumption|simp) (by first|omega|(simp;omega)|assumption|simp) (by first|omega|(simp;omega)|assumption|simp)
    have S71 := T70
    dsimp only [lAa, lAn, lA0, lAs] at S71
    refine p_v (v := v70) rfl rfl rfl (x_make rfl rfl r70) ?_
    refine p_v (v := v70) rfl rfl rfl (x_assign rfl) ?_
    refine run_region_end ?_
    refine run_seq ?_
    refine run_seq ?_
    refine run_reg (l := [0]) rfl ?_
    refine p_v (v := .int .i64 0) rfl rfl rfl (x_assign rfl) ?_
    refine run_region_end ?_
    refine run_block ?_
    refine run_loop (S := (List ByteArray) × (List Bool) × Int) (fun (q_ : (List ByteArray) × (List Bool) × Int) ρ w' => match q_ with | (next, there, q2) => ∃ (h : Ghost) (v_next : Value) (v_there : Value), Le h12 h ∧ St w.heap.size w h w' [box b1 47 [.slice A0_0 x.least.length c0_0, .slice A0_1 x.next.length c0_1, .slice A0_2 x.final.length c0_2], row 9 Kd.string v_xat xat, row 4 Kd.bool v_xis xis, row 9 Kd.string v_next next, row 4 Kd.bool v_there there] ∧ ρ 1 = .pointer (some ⟨b1, 0, none⟩) ∧ ρ 4 = .int .i64 (x.next.length : Int) ∧ ρ 5 = v_xat ∧ ρ 6 = v_xis ∧ ρ 7 = .int .i64 size ∧ ρ 10 = v_next ∧ ρ 11 = v_there ∧ ρ 12 = .int .i64 q2 ∧ inK .i64 q2 ∧ (0 ≤ q2 ∧ q2 ≤ (d.next.length : Int) ∧ Nx d xat xis next there q2 0)) (fun q_ => match q_ with | (next, there, q2) => (d.next.length - q2).toNat) (List.replicate ((x.next.length : Int)).toNat (⟨#[]⟩ : ByteArray), List.replicate ((x.next.length : Int)).toNat false, 0) ⟨h12, v68, v70, Le.refl _, S71.sub [0, 1, 2, 3, 4] (by decide) rfl _ rfl, r12_1, r12_4, r12_5, r12_6, r12_7, rfl, rfl, rfl, (in_i64 (by first|omega|(simp;omega)|assumption|simp) (by first|omega|(simp;omega)|assumption|simp)), (by exact ⟨by omega, by omega, nx_0 xat xis _ (by simp; omega) _ (by rw [hn_]; rfl)⟩)⟩ ?_
    rintro ⟨next, there, q2⟩ ih72 ρ72 w72 ⟨h72, v_next, v_there, le72, S72, r72_1, r72_4, r72_5, r72_6, r72_7, r72_10, r72_11, r72_12, f72_0, hI72⟩
    have lf72_0 := i64_lo f72_0; have hf72_0 := i64_hi f72_0
    have rl72_1 := S72.row_le (j := 1) rfl; simp only [maxLen] at rl72_1
    have rl72_2 := S72.row_le (j := 2) rfl; simp only [maxLen] at rl72_2
    have rl72_3 := S72.row_le (j := 3) rfl; simp only [maxLen] at rl72_3
    have rl72_4 := S72.row_le (j := 4) rfl; simp only [maxLen] at rl72_4
    have hnl2_ := hI72.2.2.nl; have htl2_ := hI72.2.2.tl; have hq20_ := hI72.1
    refine run_seq ?_
    refine run_seq ?_
    refine run_reg (l := [0, 1, 2]) rfl ?_
    refine p_v (v := .int .i64 q2) rfl rfl rfl (x_move r72_12) ?_
    refine p_v (v := .int .i64 (x.next.length : Int)) rfl rfl rfl (x_move r72_4) ?_
    refine p_v (v := .bool (decide (q2 < (x.next.length : Int)))) rfl rfl rfl (x_lss rfl rfl) ?_
    refine run_region_end ?_
    refine run_cond_prop (p := q2 < (x.next.length : Int)) rfl (fun hc73 => ?_) (fun hc73 => ?_)
    ·skip
     refine run_skip ?_
     refine run_seq ?_
     refine run_block ?_
     refine run_seq ?_
     refine run_reg (l := [0]) rfl ?_
     refine p_v (v := .int .i64 0) rfl rfl rfl (x_assign rfl) ?_
     refine run_region_end ?_
     refine run_block ?_
     refine run_loop (S := (List ByteArray) × (List Bool) × Int) (fun (q_ : (List ByteArray) × (List Bool) × Int) ρ w' => match q_ with | (next2, there2, k) => ∃ (h : Ghost) (v_next2 : Value) (v_there2 : Value), Le h72 h ∧ St w.heap.size w h w' [box b1 47 [.slice A0_0 x.least.length c0_0, .slice A0_1 x.next.length c0_1, .slice A0_2 x.final.length c0_2], row 9 Kd.string v_xat xat, row 4 Kd.bool v_xis xis, row 9 Kd.string v_next2 next2, row 4 Kd.bool v_there2 there2] ∧ ρ 1 = .pointer (some ⟨b1, 0, none⟩) ∧ ρ 4 = .int .i64 (x.next.length : Int) ∧ ρ 5 = v_xat ∧ ρ 6 = v_xis ∧ ρ 7 = .int .i64 size ∧ ρ 10 = v_next2 ∧ ρ 11 = v_there2 ∧ ρ 12 = .int .i64 q2 ∧ ρ 13 = .int .i64 k ∧ inK .i64 k ∧ (0 ≤ k ∧ k ≤ d.part.n ∧ Nx d xat xis next2 there2 q2 k)) (fun q_ => match q_ with | (next2, there2, k) => (d.part.n - k).toNat) (next, there, 0) ⟨h72, v_next, v_there, Le.refl _, S72.sub [0, 1, 2, 3, 4] (by decide) rfl _ rfl, r72_1, r72_4, r72_5, r72_6, r72_7, r72_10, r72_11, r72_12, rfl, (in_i64 (by first|omega|(simp;omega)|assumption|simp) (by first|omega|(simp;omega)|assumption|simp)), (by exact ⟨by omega, by omega, hI72.2.2⟩)⟩ ?_
     rintro ⟨next2, there2, k⟩ ih74 ρ74 w74 ⟨h74, v_next2, v_there2, le74, S74, r74_1, r74_4, r74_5, r74_6, r74_7, r74_10, r74_11, r74_12, r74_13, f74_0, hI74⟩
     have lf74_0 := i64_lo f74_0; have hf74_0 := i64_hi f74_0
     have rl74_1 := S74.row_le (j := 1) rfl; simp only [maxLen] at rl74_1
     have rl74_2 := S74.row_le (j := 2) rfl; simp only [maxLen] at rl74_2
     have rl74_3 := S74.row_le (j := 3) rfl; simp only [maxLen] at rl74_3
     have rl74_4 := S74.row_le (j := 4) rfl; simp only [maxLen] at rl74_4
     have hk0_ := hI74.1; have hnl3_ := hI74.2.2.nl; have htl3_ := hI74.2.2.tl
     have hrow_ : ((at_ x.next q2).length : Int) = d.part.n := (by rw [hn_]; exact hD_.row q2 hI72.1 (by omega))
     have hcell_ : k < d.part.n → 0 ≤ at_ (at_ x.next q2) k ∧ at_ (at_ x.next q2) k < (d.next.length : Int) := fun h => (by rw [hn_]; exact hD_.cell q2 hI72.1 (by omega) _ (at_mem hI74.1 (by rw [hD_.row q2 hI72.1 (by omega)]; exact h)))
     refine run_seq ?_
     refine run_seq ?_
     refine run_reg (l := [0, 1, 2, 3, 4, 5, 6, 7, 8, 9, 10]) rfl ?_
     refine p_v (v := .int .i64 k) rfl rfl rfl (x_move r74_13) ?_
     refine p_v (v := .pointer (some ⟨b1, 0, none⟩)) rfl rfl rfl (x_fieldAt fd47_0 ty39 rfl r74_1) ?_
     refine p_v (v := .slice A0_0 x.least.length c0_0) rfl rfl rfl (x_load (seg := [.slice A0_0 x.least.length c0_0]) ty39 rfl (by simp) rfl (CF.box (m := 1) (S74.box_at (j := 0) rfl) rfl)) ?_
     refine p_v (v := .int .i64 (x.least.length : Int)) rfl rfl rfl (x_len_slice u39 rfl) ?_
     refine p_v (v := .bool (decide (k < (x.least.length : Int)))) rfl rfl rfl (x_lss rfl rfl) ?_
     refine p_v (v := .bool (decide (k < (x.least.length : Int)))) rfl rfl rfl (x_move rfl) ?_
     by_cases hc75 : k < (x.least.length : Int)
     ·skip
      refine p_v (v := v_xis) rfl (wanted_of (j := 5) (want := true) (d := 82) (b := true) rfl rfl (congrArg Value.bool (decide_eq_true hc75)) rfl) rfl (x_move r74_6) ?_
      refine p_v (v := .int .i64 q2) rfl (wanted_of (j := 5) (want := true) (d := 82) (b := true) rfl rfl (congrArg Value.bool (decide_eq_true hc75)) rfl) rfl (x_move r74_12) ?_
      obtain ⟨ad76, a76, at76⟩ := e_index_own (q := q2) (m := 1) S74 (j := 2) rfl rfl (by first|omega|(simp;omega)|assumption|simp) (by first|omega|(simp;omega)|assumption|simp)
      refine p_v (v := .pointer (some ad76)) rfl (wanted_of (j := 5) (want := true) (d := 82) (b := true) rfl rfl (congrArg Value.bool (decide_eq_true hc75)) rfl) rfl (x_index_own u25 ty4 rfl rfl a76 (by first|omega|(simp;omega)|assumption|simp) (by first|omega|(simp;omega)|assumption|simp)) ?_
      obtain ⟨seg77, rp77, cf77⟩ := e_load_own (q := q2) S74 (j := 2) rfl rfl at76 (by first|omega|(simp;omega)|assumption|simp) (by first|omega|(simp;omega)|assumption|simp)
      obtain ⟨rfl, _⟩ := rp77
      refine p_v (v := .bool (at_ xis q2)) rfl (wanted_of (j := 5) (want := true) (d := 82) (b := true) rfl rfl (congrArg Value.bool (decide_eq_true hc75)) rfl) rfl (x_load (seg := [.bool (at_ xis q2)]) ty4 rfl (by simp) rfl cf77) ?_
      refine p_v (v := .bool (at_ xis q2)) rfl rfl rfl (x_pick_t (congrArg Value.bool (decide_eq_true hc75)) rfl) ?_
      refine run_region_end ?_
      refine run_cond_split (b := at_ xis q2) rfl (fun hc78 => ?_) (fun hc78 => ?_)
      ·skip
       have hsq_ := lv_size hlv_ hI72.1 (by omega) hc78
       refine run_skip ?_
       refine run_seq ?_
       refine run_block ?_
       refine run_seq ?_
       refine run_reg (l := [0, 1, 2, 3, 4, 5, 6, 7, 8]) rfl ?_
       refine p_v (v := .pointer (some ⟨b1, 1, none⟩)) rfl rfl rfl (x_fieldAt fd47_1 ty24 rfl r74_1) ?_
       refine p_v (v := .slice A0_1 x.next.length c0_1) rfl rfl rfl (x_load (seg := [.slice A0_1 x.next.length c0_1]) ty24 rfl (by simp) rfl (CF.box (m := 1) (S74.box_at (j := 0) rfl) rfl)) ?_
       refine p_v (v := .int .i64 q2) rfl rfl rfl (x_move r74_12) ?_
       obtain ⟨ad79, seg79, a79, rp79, ce79⟩ := e_index_ro (q := q2) (m := 1) l0_1 rfl (by first|omega|(simp;omega)|assumption|simp) (by first|omega|(simp;omega)|assumption|simp)
       refine p_v (v := .pointer (some ad79)) rfl rfl rfl (x_index_ro u24 ty23 rfl rfl a79 (by first|omega|(simp;omega)|assumption|simp) (by first|omega|(simp;omega)|assumption|simp)) ?_
       obtain ⟨A79, c79, rfl, lc79, cm79, ld79⟩ := rp79
       have cn79 := cm79; simp only [maxLen] at cn79
       refine p_v (v := .slice A79 (at_ x.next q2).length c79) rfl rfl rfl (x_load (seg := [.slice A79 (at_ x.next q2).length c79]) ty23 rfl (by simp) rfl (CF.ghost ce79 (St.le0 S74))) ?_
       refine p_v (v := .int .i64 k) rfl rfl rfl (x_move r74_13) ?_
       obtain ⟨ad80, seg80, a80, rp80, ce80⟩ := e_index_ro (q := k) (m := 1) ld79 rfl (by first|omega|(simp;omega)|assumption|simp) (by first|omega|(simp;omega)|assumption|simp)
       refine p_v (v := .pointer (some ad80)) rfl rfl rfl (x_index_ro u23 ty3 rfl rfl a80 (by first|omega|(simp;omega)|assumption|simp) (by first|omega|(simp;omega)|assumption|simp)) ?_
       obtain ⟨rfl, in80⟩ := rp80
       have lo80 := i64_lo in80; have hi80 := i64_hi in80
       refine p_v (v := .int .i64 (at_ (at_ x.next q2) k)) rfl rfl rfl (x_load (seg := [.int .i64 (at_ (at_ x.next q2) k)]) ty3 rfl (by simp) rfl (CF.ghost ce80 (St.le0 S74))) ?_
       refine p_v (v := .int .i64 (at_ (at_ x.next q2) k)) rfl rfl rfl (x_assign rfl) ?_
       refine run_region_end ?_
       refine run_seq ?_
       obtain ⟨ad81, a81, at81⟩ := e_index_own (q := q2) (m := 1) S74 (j := 1) rfl rfl (by first|omega|(simp;omega)|assumption|simp) (by first|omega|(simp;omega)|assumption|simp)
       obtain ⟨seg82, rp82, cf82⟩ := e_load_own (q := q2) S74 (j := 1) rfl rfl at81 (by first|omega|(simp;omega)|assumption|simp) (by first|omega|(simp;omega)|assumption|simp)
       obtain ⟨rfl, sz82⟩ := rp82
       obtain ⟨ad83, seg83, a83, rp83, ce83⟩ := e_index_ro (q := k) (m := 1) l0_0 rfl (by first|omega|(simp;omega)|assumption|simp) (by first|omega|(simp;omega)|assumption|simp)
       obtain ⟨rfl, in83⟩ := rp83
       have lo83 := u8_lo in83; have hi83 := u8_hi in83
       have hf84 : (CFs ad81 [.string (at_ xat q2)]).1 w74 := cf82
       have hf85 : (CFs ⟨b1, 0, none⟩ [.slice A0_0 x.least.length c0_0]).1 w74 := (CF.box (m := 1) (S74.box_at (j := 0) rfl) rfl)
       have hf86 : (CFs ad83 [.int .u8 (at_ x.least k)]).1 w74 := (CF.ghost ce83 (St.le0 S74))
       refine daS (hkC 3 hf84 (hkC 5 hf85 (hkC 8 hf86 (hkN (w := w74))))) 13 rfl mixed ?_
       intro wd87 gd87 hd87
       have S88 := S74.keep gd87
       have hf89 := spUp gd87 hf84
       have hf90 := spUp gd87 hf85
       have hf91 := spUp gd87 hf86
       refine qd0 (i := 0) (v := v_xat) rfl (by decide +kernel) rfl rfl (x_move r74_5) (of_no rfl) ?_
       refine qd0 (i := 1) (v := .int .i64 q2) rfl (by decide +kernel) rfl rfl (x_move r74_12) (of_no rfl) ?_
       refine qd0 (i := 2) (v := .pointer (some ad81)) rfl (by decide +kernel) rfl rfl (x_index_own u167 ty9 rfl rfl a81 (by first|omega|(simp;omega)|assumption|simp) (by first|omega|(simp;omega)|assumption|simp)) (of_no rfl) ?_
       refine qd1 0 (i := 3) (v := .string (at_ xat q2)) rfl rfl (by decide +kernel) rfl rfl (fun wq hq => (x_load (seg := [.string (at_ xat q2)]) ty9 rfl (by simp) rfl hq)) (of_eq hf89 (of_no rfl)) ?_
       refine qd0 (i := 4) (v := .pointer (some ⟨b1, 0, none⟩)) rfl (by decide +kernel) rfl rfl (x_fieldAt fd47_0 ty39 rfl r74_1) (of_no rfl) ?_
       refine qd1 1 (i := 5) (v := .slice A0_0 x.least.length c0_0) rfl rfl (by decide +kernel) rfl rfl (fun wq hq => (x_load (seg := [.slice A0_0 x.least.length c0_0]) ty39 rfl (by simp) rfl hq)) (of_ne rfl (of_eq hf90 (of_no rfl))) ?_
       refine qd0 (i := 6) (v := .int .i64 k) rfl (by decide +kernel) rfl rfl (x_move r74_13) (of_no rfl) ?_
       refine qd0 (i := 7) (v := .pointer (some ad83)) rfl (by decide +kernel) rfl rfl (x_index_ro u39 ty5 rfl rfl a83 (by first|omega|(simp;omega)|assumption|simp) (by first|omega|(simp;omega)|assumption|simp)) (of_no rfl) ?_
       refine qd1 2 (i := 8) (v := .int .u8 (at_ x.least k)) rfl rfl (by decide +kernel) rfl rfl (fun wq hq => (x_load (seg := [.int .u8 (at_ x.least k)]) ty5 rfl (by simp) rfl hq)) (of_ne rfl (of_ne rfl (of_eq hf91 (of_no rfl)))) ?_
       refine ra_one (i := 9) (by decide +kernel) ?_
       intro wd92 gd92
       have S93 := S88.keep gd92
       have hf94 := spUp gd92 hf89
       have hf95 := spUp gd92 hf90
       have hf96 := spUp gd92 hf91
       obtain ⟨v97, w97, r97, g97, T97⟩ := e_build_ones (kd := (Kd.int .u8)) (xs := ([at_ x.least k] : List Int)) (len := 1) [.int .u8 (at_ x.least k)] S93 u39 ty5 rfl rfl rfl rfl rfl (ones_cons rfl ones_nil) [.int .u8 (at_ x.least k)] (Elems.single (k := (Kd.int .u8)) (h := h74) (x := at_ x.least k) (cs := [.int .u8 (at_ x.least k)]) ⟨rfl, (in_u8 (by first|omega|(simp;omega)|assumption|simp) (by first|omega|(simp;omega)|assumption|simp))⟩) rfl
       have S98 := T97
       dsimp only [lAa, lAn, lA0, lAs] at S98
       have hf99 := spUp g97 hf94
       have hf100 := spUp g97 hf95
       have hf101 := spUp g97 hf96
       refine d_v (v := v97) rfl rfl rfl (y_build_slice (pv := [(0, .int .u8 (at_ x.least k))]) rfl r97) (.inl g97) ?_
       obtain ⟨A102, c102, ev102, lc102, cm102⟩ := S98.row_val (j := 5) rfl
       have sz103 := str_small (xs := ([at_ x.least k] : List Int)) (Nat.le_trans (And.intro lc102 cm102).1 (And.intro lc102 cm102).2); have bdsz103 := sz103; simp only [maxLen] at bdsz103
       have sb104 : (at_ xat q2).size + (strOfNums ([at_ x.least k] : List Int)).size ≤ 9223372036854775807 := by first | omega | (simp only [str_one]; omega) | (simp only [str_one, size_nil]; omega)
       have sz104 : ((at_ xat q2) ++ (strOfNums ([at_ x.least k] : List Int))).size ≤ maxLen := by rw [size_add]; unfold maxLen; exact sb104
       have st104 := size_add (at_ xat q2) (strOfNums ([at_ x.least k] : List Int))
       have hf105 : (LeadsS (Kd.int .u8) A102 ([at_ x.least k] : List Int)).1 w97 := (row_leads_eq S98 (j := 5) rfl ev102)
       refine raMo (hkC 10 hf105 (hkN (w := w97))) ?_
       refine qdn (i := 10) (v := .string (strOfNums ([at_ x.least k] : List Int))) (fun wf => Leads (Kd.int .u8) (hp wf) A102 ([at_ x.least k] : List Int)) (fun _ ho => ho _ (List.mem_of_getElem? (i := 0) rfl) rfl) rfl (by decide +kernel) rfl rfl (fun wq hq => (x_bytes_string u39 u5 u9 ev102 hq)) (of_eq hf105 (of_no rfl)) ?_
       refine qd0 (i := 11) (v := .string ((at_ xat q2) ++ (strOfNums ([at_ x.least k] : List Int)))) rfl (by decide +kernel) rfl rfl (x_add_str rfl rfl sb104) (of_no rfl) ?_
       refine qd0 (i := 12) (v := .string ((at_ xat q2) ++ (strOfNums ([at_ x.least k] : List Int)))) rfl (by decide +kernel) rfl rfl (x_assign rfl) (of_no rfl) ?_
       refine ra_done (by decide +kernel) ?_
       intro wd106 gd106
       have S107 := S98.keep gd106
       refine run_seq ?_
       refine run_reg (l := [0, 1, 2, 3, 4, 5, 6, 7, 8, 9, 10, 11, 12]) rfl ?_
       refine p_v (v := v_there2) rfl rfl rfl (x_move r74_11) ?_
       refine p_v (v := .int .i64 (at_ (at_ x.next q2) k)) rfl rfl rfl (x_move rfl) ?_
       obtain ⟨ad108, a108, at108⟩ := e_index_own (q := at_ (at_ x.next q2) k) (m := 1) S107 (j := 4) rfl rfl (by first|omega|(simp;omega)|assumption|simp) (by first|omega|(simp;omega)|assumption|simp)
       refine p_v (v := .pointer (some ad108)) rfl rfl rfl (x_index_own u25 ty4 rfl rfl a108 (by first|omega|(simp;omega)|assumption|simp) (by first|omega|(simp;omega)|assumption|simp)) ?_
       obtain ⟨seg109, rp109, cf109⟩ := e_load_own (q := at_ (at_ x.next q2) k) S107 (j := 4) rfl rfl at108 (by first|omega|(simp;omega)|assumption|simp) (by first|omega|(simp;omega)|assumption|simp)
       obtain ⟨rfl, _⟩ := rp109
       refine p_v (v := .bool (at_ there2 (at_ (at_ x.next q2) k))) rfl rfl rfl (x_load (seg := [.bool (at_ there2 (at_ (at_ x.next q2) k))]) ty4 rfl (by simp) rfl cf109) ?_
       refine p_v (v := .bool (!(at_ there2 (at_ (at_ x.next q2) k)))) rfl rfl rfl (x_not rfl) ?_
       refine p_v (v := .bool (!(at_ there2 (at_ (at_ x.next q2) k)))) rfl rfl rfl (x_move rfl) ?_
       rcases Bool.eq_false_or_eq_true (at_ there2 (at_ (at_ x.next q2) k)) with hc110 | hc110
       ·skip
        refine p_v (v := .string ((at_ xat q2) ++ (strOfNums ([at_ x.least k] : List Int)))) rfl (wanted_of (j := 5) (want := false) (d := 115) (b := false) rfl rfl (congrArg (fun z => Value.bool (!z)) hc110) rfl) rfl (x_move rfl) ?_
        refine p_v (v := v_next2) rfl (wanted_of (j := 5) (want := false) (d := 115) (b := false) rfl rfl (congrArg (fun z => Value.bool (!z)) hc110) rfl) rfl (x_move r74_10) ?_
        refine p_v (v := .int .i64 (at_ (at_ x.next q2) k)) rfl (wanted_of (j := 5) (want := false) (d := 115) (b := false) rfl rfl (congrArg (fun z => Value.bool (!z)) hc110) rfl) rfl (x_move rfl) ?_
        obtain ⟨ad111, a111, at111⟩ := e_index_own (q := at_ (at_ x.next q2) k) (m := 1) S107 (j := 3) rfl rfl (by first|omega|(simp;omega)|assumption|simp) (by first|omega|(simp;omega)|assumption|simp)
        refine p_v (v := .pointer (some ad111)) rfl (wanted_of (j := 5) (want := false) (d := 115) (b := false) rfl rfl (congrArg (fun z => Value.bool (!z)) hc110) rfl) rfl (x_index_own u167 ty9 rfl rfl a111 (by first|omega|(simp;omega)|assumption|simp) (by first|omega|(simp;omega)|assumption|simp)) ?_
        obtain ⟨seg112, rp112, cf112⟩ := e_load_own (q := at_ (at_ x.next q2) k) S107 (j := 3) rfl rfl at111 (by first|omega|(simp;omega)|assumption|simp) (by first|omega|(simp;omega)|assumption|simp)
        obtain ⟨rfl, sz112⟩ := rp112
        refine p_v (v := .string (at_ next2 (at_ (at_ x.next q2) k))) rfl (wanted_of (j := 5) (want := false) (d := 115) (b := false) rfl rfl (congrArg (fun z => Value.bool (!z)) hc110) rfl) rfl (x_load (seg := [.string (at_ next2 (at_ (at_ x.next q2) k))]) ty9 rfl (by simp) rfl cf112) ?_
        refine p_v (v := .bool (strLt ((at_ xat q2) ++ (strOfNums ([at_ x.least k] : List Int))) (at_ next2 (at_ (at_ x.next q2) k)))) rfl (wanted_of (j := 5) (want := false) (d := 115) (b := false) rfl rfl (congrArg (fun z => Value.bool (!z)) hc110) rfl) rfl (x_lss_string rfl rfl) ?_
        refine p_v (v := .bool (strLt ((at_ xat q2) ++ (strOfNums ([at_ x.least k] : List Int))) (at_ next2 (at_ (at_ x.next q2) k)))) rfl rfl rfl (x_pick_f (congrArg (fun z => Value.bool (!z)) hc110) rfl) ?_
        refine run_region_end ?_
        refine run_cond_split (b := strLt ((at_ xat q2) ++ (strOfNums ([at_ x.least k] : List Int))) (at_ next2 (at_ (at_ x.next q2) k))) rfl (fun hc113 => ?_) (fun hc113 => ?_)
        ·skip
         refine run_seq ?_
         refine run_reg (l := [0, 1, 2, 3, 4]) rfl ?_
         refine p_v (v := v_next2) rfl rfl rfl (x_move r74_10) ?_
         refine p_v (v := .int .i64 (at_ (at_ x.next q2) k)) rfl rfl rfl (x_move rfl) ?_
         refine p_v (v := .string ((at_ xat q2) ++ (strOfNums ([at_ x.least k] : List Int)))) rfl rfl rfl (x_move rfl) ?_
         obtain ⟨ad114, a114, at114⟩ := e_index_own (q := at_ (at_ x.next q2) k) (m := 1) S107 (j := 3) rfl rfl (by first|omega|(simp;omega)|assumption|simp) (by first|omega|(simp;omega)|assumption|simp)
         refine p_v (v := .pointer (some ad114)) rfl rfl rfl (x_index_own u167 ty9 rfl rfl a114 (by first|omega|(simp;omega)|assumption|simp) (by first|omega|(simp;omega)|assumption|simp)) ?_
         obtain ⟨w115, r115, g115, T115⟩ := e_store_own (u := .string ((at_ xat q2) ++ (strOfNums ([at_ x.least k] : List Int)))) (q := at_ (at_ x.next q2) k) ((at_ xat q2) ++ (strOfNums ([at_ x.least k] : List Int))) (vs := [.string ((at_ xat q2) ++ (strOfNums ([at_ x.least k] : List Int)))]) S107 ty9 rfl (j := 3) rfl rfl ⟨rfl, sz104⟩ at114 (by first|omega|(simp;omega)|assumption|simp) (by first|omega|(simp;omega)|assumption|simp)
         have S116 := T115.fx 3 (row 9 Kd.string v_next2 (next2.set (at_ (at_ x.next q2) k).toNat ((at_ xat q2) ++ (strOfNums ([at_ x.least k] : List Int))))) rfl
         dsimp only [lAa, lAn, lA0, lAs] at S116
         refine p_s rfl rfl (x_store rfl rfl r115) ?_
         refine run_region_end ?_
         refine run_reg (l := [0, 1, 2, 3]) rfl ?_
         refine p_v (v := v_there2) rfl rfl rfl (x_move r74_11) ?_
         refine p_v (v := .int .i64 (at_ (at_ x.next q2) k)) rfl rfl rfl (x_move rfl) ?_
         obtain ⟨ad117, a117, at117⟩ := e_index_own (q := at_ (at_ x.next q2) k) (m := 1) S116 (j := 4) rfl rfl (by first|omega|(simp;omega)|assumption|simp) (by first|omega|(simp;omega)|assumption|simp)
         refine p_v (v := .pointer (some ad117)) rfl rfl rfl (x_index_own u25 ty4 rfl rfl a117 (by first|omega|(simp;omega)|assumption|simp) (by first|omega|(simp;omega)|assumption|simp)) ?_
         obtain ⟨w118, r118, g118, T118⟩ := e_store_own (u := .bool true) (q := at_ (at_ x.next q2) k) true (vs := [.bool true]) S116 ty4 rfl (j := 4) rfl rfl ⟨rfl, trivial⟩ at117 (by first|omega|(simp;omega)|assumption|simp) (by first|omega|(simp;omega)|assumption|simp)
         have S119 := T118.fx 4 (row 4 Kd.bool v_there2 (there2.set (at_ (at_ x.next q2) k).toNat true)) rfl
         dsimp only [lAa, lAn, lA0, lAs] at S119
         refine p_s rfl rfl (x_store rfl rfl r118) ?_
         refine run_region_end ?_
         refine run_inBlock ?_
         refine run_reg (l := [0, 1, 2]) rfl ?_
         refine p_v (v := .int .i64 k) rfl rfl rfl (x_move r74_13) ?_
         refine p_v (v := .int .i64 (k + 1)) rfl rfl rfl (x_add rfl rfl (in_i64 (by first|omega|(simp;omega)|assumption|simp) (by first|omega|(simp;omega)|assumption|simp))) ?_
         refine p_v (v := .int .i64 (k + 1)) rfl rfl rfl (x_assign rfl) ?_
         refine run_region_end ?_
         refine ih74 (next2.set (at_ (at_ x.next q2) k).toNat ((at_ xat q2) ++ (strOfNums ([at_ x.least k] : List Int))), there2.set (at_ (at_ x.next q2) k).toNat true, k + 1) _ _ (by dsimp only; omega) ⟨h74, v_next2, v_there2, le74, S119.sub [0, 1, 2, 3, 4] (by decide) rfl _ rfl, r74_1, r74_4, r74_5, r74_6, r74_7, r74_10, r74_11, r74_12, rfl, (in_i64 (by first|omega|(simp;omega)|assumption|simp) (by first|omega|(simp;omega)|assumption|simp)), (by rw [hn_] at *; rw [hl_] at *; first | exact ⟨by omega, by omega, nx_take hD_ hlv_ hI74.2.2 hI72.1 (by omega) hI74.1 (by omega) (by assumption) (.inl (by assumption))⟩ | exact ⟨by omega, by omega, nx_take hD_ hlv_ hI74.2.2 hI72.1 (by omega) hI74.1 (by omega) (by assumption) (.inr ⟨by assumption, by assumption⟩)⟩ | exact ⟨by omega, by omega, nx_stay hD_ hlv_ hI74.2.2 hI72.1 (by omega) hI74.1 (by omega) (by assumption) (by assumption) (by assumption)⟩)⟩
        ·skip
         refine run_skip ?_
         refine run_inBlock ?_
         refine run_reg (l := [0, 1, 2]) rfl ?_
         refine p_v (v := .int .i64 k) rfl rfl rfl (x_move r74_13) ?_
         refine p_v (v := .int .i64 (k + 1)) rfl rfl rfl (x_add rfl rfl (in_i64 (by first|omega|(simp;omega)|assumption|simp) (by first|omega|(simp;omega)|assumption|simp))) ?_
         refine p_v (v := .int .i64 (k + 1)) rfl rfl rfl (x_assign rfl) ?_
         refine run_region_end ?_
         refine ih74 (next2, there2, k + 1) _ _ (by dsimp only; omega) ⟨h74, v_next2, v_there2, le74, S107.sub [0, 1, 2, 3, 4] (by decide) rfl _ rfl, r74_1, r74_4, r74_5, r74_6, r74_7, r74_10, r74_11, r74_12, rfl, (in_i64 (by first|omega|(simp;omega)|assumption|simp) (by first|omega|(simp;omega)|assumption|simp)), (by rw [hn_] at *; rw [hl_] at *; first | exact ⟨by omega, by omega, nx_take hD_ hlv_ hI74.2.2 hI72.1 (by omega) hI74.1 (by omega) (by assumption) (.inl (by assumption))⟩ | exact ⟨by omega, by omega, nx_take hD_ hlv_ hI74.2.2 hI72.1 (by omega) hI74.1 (by omega) (by assumption) (.inr ⟨by assumption, by assumption⟩)⟩ | exact ⟨by omega, by omega, nx_stay hD_ hlv_ hI74.2.2 hI72.1 (by omega) hI74.1 (by omega) (by assumption) (by assumption) (by assumption)⟩)⟩
       ·skip
        refine p_off rfl (wanted_of (j := 5) (want := false) (d := 115) (b := true) rfl rfl (congrArg (fun z => Value.bool (!z)) hc110) rfl) rfl ?_
        refine p_off rfl (wanted_of (j := 5) (want := false) (d := 115) (b := true) rfl rfl (congrArg (fun z => Value.bool (!z)) hc110) rfl) rfl ?_
        refine p_off rfl (wanted_of (j := 5) (want := false) (d := 115) (b := true) rfl rfl (congrArg (fun z => Value.bool (!z)) hc110) rfl) rfl ?_
        refine p_off rfl (wanted_of (j := 5) (want := false) (d := 115) (b := true) rfl rfl (congrArg (fun z => Value.bool (!z)) hc110) rfl) rfl ?_
        refine p_off rfl (wanted_of (j := 5) (want := false) (d := 115) (b := true) rfl rfl (congrArg (fun z => Value.bool (!z)) hc110) rfl) rfl ?_
        refine p_off rfl (wanted_of (j := 5) (want := false) (d := 115) (b := true) rfl rfl (congrArg (fun z => Value.bool (!z)) hc110) rfl) rfl ?_
        refine p_v (v := .bool true) rfl rfl rfl (x_pick_t (congrArg (fun z => Value.bool (!z)) hc110) rfl) ?_
        refine run_region_end ?_
        refine run_cond (b := true) rfl ?_
        simp only [if_true, if_false, Bool.false_eq_true]
        refine run_seq ?_
        refine run_reg (l := [0, 1, 2, 3, 4]) rfl ?_
        refine p_v (v := v_next2) rfl rfl rfl (x_move r74_10) ?_
        refine p_v (v := .int .i64 (at_ (at_ x.next q2) k)) rfl rfl rfl (x_move rfl) ?_
        refine p_v (v := .string ((at_ xat q2) ++ (strOfNums ([at_ x.least k] : List Int)))) rfl rfl rfl (x_move rfl) ?_
        obtain ⟨ad120, a120, at120⟩ := e_index_own (q := at_ (at_ x.next q2) k) (m := 1) S107 (j := 3) rfl rfl (by first|omega|(simp;omega)|assumption|simp) (by first|omega|(simp;omega)|assumption|simp)
        refine p_v (v := .pointer (some ad120)) rfl rfl rfl (x_index_own u167 ty9 rfl rfl a120 (by first|omega|(simp;omega)|assumption|simp) (by first|omega|(simp;omega)|assumption|simp)) ?_
        obtain ⟨w121, r121, g121, T121⟩ := e_store_own (u := .string ((at_ xat q2) ++ (strOfNums ([at_ x.least k] : List Int)))) (q := at_ (at_ x.next q2) k) ((at_ xat q2) ++ (strOfNums ([at_ x.least k] : List Int))) (vs := [.string ((at_ xat q2) ++ (strOfNums ([at_ x.least k] : List Int)))]) S107 ty9 rfl (j := 3) rfl rfl ⟨rfl, sz104⟩ at120 (by first|omega|(simp;omega)|assumption|simp) (by first|omega|(simp;omega)|assumption|simp)
        have S122 := T121.fx 3 (row 9 Kd.string v_next2 (next2.set (at_ (at_ x.next q2) k).toNat ((at_ xat q2) ++ (strOfNums ([at_ x.least k] : List Int))))) rfl
        dsimp only [lAa, lAn, lA0, lAs] at S122
        refine p_s rfl rfl (x_store rfl rfl r121) ?_
        refine run_region_end ?_
        refine run_reg (l := [0, 1, 2, 3]) rfl ?_
        refine p_v (v := v_there2) rfl rfl rfl (x_move r74_11) ?_
        refine p_v (v := .int .i64 (at_ (at_ x.next q2) k)) rfl rfl rfl (x_move rfl) ?_
        obtain ⟨ad123, a123, at123⟩ := e_index_own (q := at_ (at_ x.next q2) k) (m := 1) S122 (j := 4) rfl rfl (by first|omega|(simp;omega)|assumption|simp) (by first|omega|(simp;omega)|assumption|simp)
        refine p_v (v := .pointer (some ad123)) rfl rfl rfl (x_index_own u25 ty4 rfl rfl a123 (by first|omega|(simp;omega)|assumption|simp) (by first|omega|(simp;omega)|assumption|simp)) ?_
        obtain ⟨w124, r124, g124, T124⟩ := e_store_own (u := .bool true) (q := at_ (at_ x.next q2) k) true (vs := [.bool true]) S122 ty4 rfl (j := 4) rfl rfl ⟨rfl, trivial⟩ at123 (by first|omega|(simp;omega)|assumption|simp) (by first|omega|(simp;omega)|assumption|simp)
        have S125 := T124.fx 4 (row 4 Kd.bool v_there2 (there2.set (at_ (at_ x.next q2) k).toNat true)) rfl
        dsimp only [lAa, lAn, lA0, lAs] at S125
        refine p_s rfl rfl (x_store rfl rfl r124) ?_
        refine run_region_end ?_
        refine run_inBlock ?_
        refine run_reg (l := [0, 1, 2]) rfl ?_
        refine p_v (v := .int .i64 k) rfl rfl rfl (x_move r74_13) ?_
        refine p_v (v := .int .i64 (k + 1)) rfl rfl rfl (x_add rfl rfl (in_i64 (by first|omega|(simp;omega)|assumption|simp) (by first|omega|(simp;omega)|assumption|simp))) ?_
        refine p_v (v := .int .i64 (k + 1)) rfl rfl rfl (x_assign rfl) ?_
        refine run_region_end ?_
        refine ih74 (next2.set (at_ (at_ x.next q2) k).toNat ((at_ xat q2) ++ (strOfNums ([at_ x.least k] : List Int))), there2.set (at_ (at_ x.next q2) k).toNat true, k + 1) _ _ (by dsimp only; omega) ⟨h74, v_next2, v_there2, le74, S125.sub [0, 1, 2, 3, 4] (by decide) rfl _ rfl, r74_1, r74_4, r74_5, r74_6, r74_7, r74_10, r74_11, r74_12, rfl, (in_i64 (by first|omega|(simp;omega)|assumption|simp) (by first|omega|(simp;omega)|assumption|simp)), (by rw [hn_] at *; rw [hl_] at *; first | exact ⟨by omega, by omega, nx_take hD_ hlv_ hI74.2.2 hI72.1 (by omega) hI74.1 (by omega) (by assumption) (.inl (by assumption))⟩ | exact ⟨by omega, by omega, nx_take hD_ hlv_ hI74.2.2 hI72.1 (by omega) hI74.1 (by omega) (by assumption) (.inr ⟨by assumption, by assumption⟩)⟩ | exact ⟨by omega, by omega, nx_stay hD_ hlv_ hI74.2.2 hI72.1 (by omega) hI74.1 (by omega) (by assumption) (by assumption) (by assumption)⟩)⟩
      ·skip
       refine run_exit rfl ?_
       refine run_inBlock ?_
       refine run_reg (l := [0, 1, 2]) rfl ?_
       refine p_v (v := .int .i64 q2) rfl rfl rfl (x_move r74_12) ?_
       refine p_v (v := .int .i64 (q2 + 1)) rfl rfl rfl (x_add rfl rfl (in_i64 (by first|omega|(simp;omega)|assumption|simp) (by first|omega|(simp;omega)|assumption|simp))) ?_
       refine p_v (v := .int .i64 (q2 + 1)) rfl rfl rfl (x_assign rfl) ?_
       refine run_region_end ?_
       refine ih72 (next2, there2, q2 + 1) _ _ (by dsimp only; omega) ⟨h74, v_next2, v_there2, ((le72).trans le74), S74.sub [0, 1, 2, 3, 4] (by decide) rfl _ rfl, r74_1, r74_4, r74_5, r74_6, r74_7, r74_10, r74_11, rfl, (in_i64 (by first|omega|(simp;omega)|assumption|simp) (by first|omega|(simp;omega)|assumption|simp)), (by first | exact ⟨by omega, by omega, seen_row (.inl (by omega)) hI74.2.2 (by omega)⟩ | exact ⟨by omega, by omega, seen_row (.inr (by assumption)) hI74.2.2 (by omega)⟩)⟩
     ·skip
      refine p_off rfl (wanted_of (j := 5) (want := true) (d := 82) (b := false) rfl rfl (congrArg Value.bool (decide_eq_false hc75)) rfl) rfl ?_
      refine p_off rfl (wanted_of (j := 5) (want := true) (d := 82) (b := false) rfl rfl (congrArg Value.bool (decide_eq_false hc75)) rfl) rfl ?_
      refine p_off rfl (wanted_of (j := 5) (want := true) (d := 82) (b := false) rfl rfl (congrArg Value.bool (decide_eq_false hc75)) rfl) rfl ?_
      refine p_off rfl (wanted_of (j := 5) (want := true) (d := 82) (b := false) rfl rfl (congrArg Value.bool (decide_eq_false hc75)) rfl) rfl ?_
      refine p_v (v := .bool false) rfl rfl rfl (x_pick_f (congrArg Value.bool (decide_eq_false hc75)) rfl) ?_
      refine run_region_end ?_
      refine run_cond (b := false) rfl ?_
      simp only [if_true, if_false, Bool.false_eq_true]
      refine run_exit rfl ?_
      refine run_inBlock ?_
      refine run_reg (l := [0, 1, 2]) rfl ?_
      refine p_v (v := .int .i64 q2) rfl rfl rfl (x_move r74_12) ?_
      refine p_v (v := .int .i64 (q2 + 1)) rfl rfl rfl (x_add rfl rfl (in_i64 (by first|omega|(simp;omega)|assumption|simp) (by first|omega|(simp;omega)|assumption|simp))) ?_
      refine p_v (v := .int .i64 (q2 + 1)) rfl rfl rfl (x_assign rfl) ?_
      refine run_region_end ?_
      refine ih72 (next2, there2, q2 + 1) _ _ (by dsimp only; omega) ⟨h74, v_next2, v_there2, ((le72).trans le74), S74.sub [0, 1, 2, 3, 4] (by decide) rfl _ rfl, r74_1, r74_4, r74_5, r74_6, r74_7, r74_10, r74_11, rfl, (in_i64 (by first|omega|(simp;omega)|assumption|simp) (by first|omega|(simp;omega)|assumption|simp)), (by first | exact ⟨by omega, by omega, seen_row (.inl (by omega)) hI74.2.2 (by omega)⟩ | exact ⟨by omega, by omega, seen_row (.inr (by assumption)) hI74.2.2 (by omega)⟩)⟩
    ·skip
     refine run_exit rfl ?_
     refine run_seq ?_
     refine run_reg (l := [0, 1]) rfl ?_
     refine p_v (v := v_next) rfl rfl rfl (x_move r72_10) ?_
     refine p_v (v := v_next) rfl rfl rfl (x_assign rfl) ?_
     refine run_region_end ?_
     refine run_reg (l := [0, 1]) rfl ?_
     refine p_v (v := v_there) rfl rfl rfl (x_move r72_11) ?_
     refine p_v (v := v_there) rfl rfl rfl (x_assign rfl) ?_
     refine run_region_end ?_
     refine run_inBlock ?_
     refine run_reg (l := [0, 1, 2]) rfl ?_
     refine p_v (v := .int .i64 size) rfl rfl rfl (x_move r72_7) ?_
     refine p_v (v := .int .i64 (size + 1)) rfl rfl rfl (x_add rfl rfl (in_i64 (by first|omega|(simp;omega)|assumption|simp) (by first|omega|(simp;omega)|assumption|simp))) ?_
     refine p_v (v := .int .i64 (size + 1)) rfl rfl rfl (x_assign rfl) ?_
     refine run_region_end ?_
     refine ih10 (next, there, size + 1) _ _ (by dsimp only; omega) ⟨h72, v_next, v_there, ((((le10).trans le12)).trans le72), S72.sub [0, 3, 4] (by decide) rfl _ rfl, r72_1, r72_4, rfl, rfl, rfl, (in_i64 (by first|omega|(simp;omega)|assumption|simp) (by first|omega|(simp;omega)|assumption|simp)), (by exact ⟨lv_next hlv_ hI72.2.2 hI12 hD_ ho_ (by omega) (by omega) (by omega), by omega⟩)⟩
 ·skip
  refine run_exit rfl ?_
  refine run_seq ?_
  refine run_reg (l := [0, 1]) rfl ?_
  refine p_v (v := .string (⟨#[]⟩ : ByteArray)) rfl rfl rfl (x_assign rfl) ?_
  refine p_v (v := .bool false) rfl rfl rfl (x_assign rfl) ?_
  refine run_region_end ?_
  refine run_ret Tryd.func60 (res2 rfl (res_tmp (v := .string (⟨#[]⟩ : ByteArray)) rfl) (res_tmp (v := .bool false) rfl)) ?_
  have q0 : (wordW (runD d) : ByteArray) = (⟨#[]⟩ : ByteArray) := by
   first | exact (word_is (lv_found hI10.1 hI12 hr_ ho_ (by omega) (by omega))).1 | exact (word_no (lv_end hI10.1 hr_ ho_ (by omega))).1
  have q1 : (okW (runD d) : Bool) = false := by
   first | exact (word_is (lv_found hI10.1 hI12 hr_ ho_ (by omega) (by omega))).2 | exact (word_no (lv_end hI10.1 hr_ ho_ (by omega))).2
  refine ⟨_, rfl, h10, ?_, ?_, ?_⟩
  · exact S10.sub [] (by decide) rfl _ rfl
  · first | rfl | (simp only [q0, q1]; rfl) | (simp only [q0, q1])
  · rw [q0]; first | assumption | exact (by decide)
end Go.Proofs.YtfoemogojbnfhaaDoor
namespace Go.Proofs.YtfoemogojbnfhaaDoor
open Go Go.RowKit Gx
set_option maxHeartbeats 1000000
set_option linter.unusedVariables false
set_option linter.unusedSimpArgs false
set_option maxRecDepth 8000
attribute [local irreducible] listOf count first someIn has setOf wbits Lib.ctz badQ badRow rightD goD runD nextB nextC outTo readTo rowIn finalB lastB leastB leastBTo buildM errB fitsP madeM allM bfs numbered putB beginB okB lessL lessW strLt cmpW cmpI orI wordW okW wordS wordT revTo leL lfp smallM smallTo overM
theorem seekPaths_calls (w : World) (m : Mach) (A0_0 : Option Addr) (c0_0 : Nat) (b0_0 : m.spots.length ≤ c0_0 ∧ c0_0 ≤ maxLen) (l0_0 : Leads kSpot (hp w) A0_0 m.spots) (A0_1 : Option Addr) (c0_1 : Nat) (b0_1 : m.first.length ≤ c0_1 ∧ c0_1 ≤ maxLen) (l0_1 : Leads (Kd.int .i64) (hp w) A0_1 m.first) (A0_2 : Option Addr) (c0_2 : Nat) (b0_2 : m.follow.length ≤ c0_2 ∧ c0_2 ≤ maxLen) (l0_2 : Leads (Kd.int .i64).slice (hp w) A0_2 m.follow) (A0_3 : Option Addr) (c0_3 : Nat) (b0_3 : m.last.length ≤ c0_3 ∧ c0_3 ≤ maxLen) (l0_3 : Leads Kd.bool (hp w) A0_3 m.last) (tb : Block 0 tzTab w) :
    Calls Tryd.prog 12 #[.agg #[.slice A0_0 m.spots.length c0_0, .slice A0_1 m.first.length c0_1, .slice A0_2 m.follow.length c0_2, .slice A0_3 m.last.length c0_3, .bool m.empty]] w fun e w' => ∃ v, e = .returned v ∧ ∃ (hn : Ghost), St w.heap.size w hn w' [] ∧ v = .bool true := by
 refine calls_of_run Tryd.func12 rfl Tryd.ntmps12 rfl ?_
 have S0 := St.init w
 have bb0_0 := b0_0.1; have bc0_0 := b0_0.2; simp only [maxLen] at bc0_0
 have bb0_1 := b0_1.1; have bc0_1 := b0_1.2; simp only [maxLen] at bc0_1
 have bb0_2 := b0_2.1; have bc0_2 := b0_2.2; simp only [maxLen] at bc0_2
 have bb0_3 := b0_3.1; have bc0_3 := b0_3.2; simp only [maxLen] at bc0_3
 refine run_seq ?_
 refine run_reg (l := [0, 1]) rfl ?_
 obtain ⟨b1, w1, r1, g1, T1⟩ := e_box (P := Tryd.prog) S0 27 (v := .agg #[.slice A0_0 m.spots.length c0_0, .slice A0_1 m.first.length c0_1, .slice A0_2 m.follow.length c0_2, .slice A0_3 m.last.length c0_3, .bool m.empty]) [.slice A0_0 m.spots.length c0_0, .slice A0_1 m.first.length c0_1, .slice A0_2 m.follow.length c0_2, .slice A0_3 m.last.length c0_3, .bool m.empty] rfl
 have S2 := T1
 dsimp only [lAa, lAn, lA0, lAs] at S2
 refine p_v (v := .pointer (some ⟨b1, 0, none⟩)) rfl rfl rfl (x_box rfl r1) ?_
 refine p_v (v := .bool false) rfl rfl rfl (x_assign rfl) ?_
 refine run_region_end ?_
 refine run_seq ?_
 refine run_seq ?_
 refine run_reg (l := [0, 1, 2]) rfl ?_
 refine p_v (v := .agg #[.slice A0_0 m.spots.length c0_0, .slice A0_1 m.first.length c0_1, .slice A0_2 m.follow.length c0_2, .slice A0_3 m.last.length c0_3, .bool m.empty]) rfl rfl rfl (x_load (seg := [.slice A0_0 m.spots.length c0_0, .slice A0_1 m.first.length c0_1, .slice A0_2 m.follow.length c0_2, .slice A0_3 m.last.length c0_3, .bool m.empty]) ty27 rfl (by simp) rfl (CF.box (m := 5) (S2.box_at (j := 0) rfl) rfl)) ?_
 refine p_c rfl rfl rfl (y_call (args := [.agg #[.slice A0_0 m.spots.length c0_0, .slice A0_1 m.first.length c0_1, .slice A0_2 m.follow.length c0_2, .slice A0_3 m.last.length c0_3, .bool m.empty]]) ca18 rfl rfl) (small11_calls w1 m A0_0 c0_0 b0_0 (l0_0.mono (St.le0 S2)) A0_1 c0_1 b0_1 (l0_1.mono (St.le0 S2)) A0_2 c0_2 b0_2 (l0_2.mono (St.le0 S2)) A0_3 c0_3 b0_3 (l0_3.mono (St.le0 S2))) ?_
 rintro _ w3 ⟨h3, T3, rfl⟩
 have S4 := S2.keep (Chg.of_below T3.below)
 refine p_v (v := .bool (!(smallM m))) rfl rfl rfl (x_not rfl) ?_
 refine run_region_end ?_
 refine run_cond_nsplit (b := smallM m) rfl (fun hc5 => ?_) (fun hc5 => ?_)
 ·skip
  refine run_seq ?_
  refine run_reg (l := [0, 1]) rfl ?_
  refine p_c rfl rfl rfl (y_call (args := []) ca55 rfl rfl) (awake13_calls w3  (Block.st S4 tb)) ?_
  rintro _ w6 ⟨h6, T6, rfl⟩
  have S7 := S4.keep (Chg.of_below T6.below)
  refine p_v (v := .bool true) rfl rfl rfl (x_assign rfl) ?_
  refine run_region_end ?_
  refine run_ret Tryd.func12 (res1 rfl (res_tmp (v := .bool true) rfl)) ?_
  have q0 : (true : Bool) = true := rfl
  refine ⟨_, rfl, (fun _ => none), ?_, ?_⟩
  · exact S7.sub [] (by decide) rfl _ rfl
  · rfl
 ·skip
  have hs1_ := smallM_of hc5
  refine run_skip ?_
  refine run_seq ?_
  refine run_reg (l := [0, 1, 2, 3, 4, 5, 6]) rfl ?_
  refine p_v (v := .agg #[.slice A0_0 m.spots.length c0_0, .slice A0_1 m.first.length c0_1, .slice A0_2 m.follow.length c0_2, .slice A0_3 m.last.length c0_3, .bool m.empty]) rfl rfl rfl (x_load (seg := [.slice A0_0 m.spots.length c0_0, .slice A0_1 m.first.length c0_1, .slice A0_2 m.follow.length c0_2, .slice A0_3 m.last.length c0_3, .bool m.empty]) ty27 rfl (by simp) rfl (CF.box (m := 5) (S4.box_at (j := 0) rfl) rfl)) ?_
  refine p_c rfl rfl rfl (y_call (args := [.agg #[.slice A0_0 m.spots.length c0_0, .slice A0_1 m.first.length c0_1, .slice A0_2 m.follow.length c0_2, .slice A0_3 m.last.length c0_3, .bool m.empty]]) ca62 rfl rfl) (path_calls w3 m A0_0 c0_0 b0_0 (l0_0.mono (St.le0 S4)) A0_1 c0_1 b0_1 (l0_1.mono (St.le0 S4)) A0_2 c0_2 b0_2 (l0_2.mono (St.le0 S4)) A0_3 c0_3 b0_3 (l0_3.mono (St.le0 S4)) (Block.st S4 tb)) ?_
  rintro _ w9 ⟨h9, T9, rfl, sz9_0, fx9⟩
  have S10 := S4.keep (Chg.of_below T9.below)
  have bd_sz9_0 := sz9_0; simp only [maxLen] at bd_sz9_0
  have hpA_ := fx9.1; have hpB_ := fx9.2
  refine p_v (v := .tuple #[.string (wordW (runM m)), .bool (okW (runM m))]) rfl rfl rfl (x_move rfl) ?_
  refine p_v (v := .string (wordW (runM m))) rfl rfl rfl (x_extract (vs := [.string (wordW (runM m)), .bool (okW (runM m))]) rfl rfl) ?_
  refine p_v (v := .bool (okW (runM m))) rfl rfl rfl (x_extract (vs := [.string (wordW (runM m)), .bool (okW (runM m))]) rfl rfl) ?_
  refine p_v (v := .string (wordW (runM m))) rfl rfl rfl (x_assign rfl) ?_
  refine p_v (v := .bool (okW (runM m))) rfl rfl rfl (x_assign rfl) ?_
  refine run_region_end ?_
  refine run_seq ?_
  have hf11 : (CFs ⟨b1, 0, none⟩ [.slice A0_0 m.spots.length c0_0, .slice A0_1 m.first.length c0_1, .slice A0_2 m.follow.length c0_2, .slice A0_3 m.last.length c0_3, .bool m.empty]).1 w9 := (CF.box (m := 5) (S10.box_at (j := 0) rfl) rfl)
  have hf12 : (CFs ⟨b1, 0, none⟩ [.slice A0_0 m.spots.length c0_0, .slice A0_1 m.first.length c0_1, .slice A0_2 m.follow.length c0_2, .slice A0_3 m.last.length c0_3, .bool m.empty]).1 w9 := (CF.box (m := 5) (S10.box_at (j := 0) rfl) rfl)
  refine daS (hkC 0 hf11 (hkC 1 hf12 (hkN (w := w9)))) 11 rfl mixed ?_
  intro wd13 gd13 hd13
  have S14 := S10.keep gd13
  have hf15 := spUp gd13 hf11
  have hf16 := spUp gd13 hf12
  refine qd1 0 (i := 0) (v := .agg #[.slice A0_0 m.spots.length c0_0, .slice A0_1 m.first.length c0_1, .slice A0_2 m.follow.length c0_2, .slice A0_3 m.last.length c0_3, .bool m.empty]) rfl rfl (by decide +kernel) rfl rfl (fun wq hq => (x_load (seg := [.slice A0_0 m.spots.length c0_0, .slice A0_1 m.first.length c0_1, .slice A0_2 m.follow.length c0_2, .slice A0_3 m.last.length c0_3, .bool m.empty]) ty27 rfl (by simp) rfl hq)) (of_eq hf15 (of_no rfl)) ?_
  refine qd1 1 (i := 1) (v := .agg #[.slice A0_0 m.spots.length c0_0, .slice A0_1 m.first.length c0_1, .slice A0_2 m.follow.length c0_2, .slice A0_3 m.last.length c0_3, .bool m.empty]) rfl rfl (by decide +kernel) rfl rfl (fun wq hq => (x_load (seg := [.slice A0_0 m.spots.length c0_0, .slice A0_1 m.first.length c0_1, .slice A0_2 m.follow.length c0_2, .slice A0_3 m.last.length c0_3, .bool m.empty]) ty27 rfl (by simp) rfl hq)) (of_ne rfl (of_eq hf16 (of_no rfl))) ?_
  refine ra_join (fun ρ w' => ∃ (h : Ghost) (j65_b48 : Nat) (j65_A39 : Option Addr) (j65_c39 : Nat) (j65_A41 : Option Addr) (j65_c41 : Nat), Le (fun _ => none) h ∧ St w.heap.size w h w' [box b1 27 [.slice A0_0 m.spots.length c0_0, .slice A0_1 m.first.length c0_1, .slice A0_2 m.follow.length c0_2, .slice A0_3 m.last.length c0_3, .bool m.empty], box j65_b48 35 ((encPart ((buildM m (refineP (setsM m))).part)) ++ ([.slice j65_A39 ((buildM m (refineP (setsM m))).next).length j65_c39, .slice j65_A41 ((buildM m (refineP (setsM m))).final).length j65_c41] : List Value))] ∧ ρ 1 = .pointer (some ⟨b1, 0, none⟩) ∧ ρ 3 = .string (wordW (runM m)) ∧ ρ 4 = .bool (okW (runM m)) ∧ ρ 5 = .pointer (some ⟨j65_b48, 0, none⟩) ∧ ρ 6 = .int .i64 (errB m (refineP (setsM m))) ∧ (wordW (runM m)).size ≤ maxLen ∧ inK .i64 (errB m (refineP (setsM m))) ∧ okPart ((buildM m (refineP (setsM m))).part) ∧ (((buildM m (refineP (setsM m))).next).length ≤ j65_c39 ∧ j65_c39 ≤ maxLen) ∧ Leads (Kd.int .i64).slice h j65_A39 ((buildM m (refineP (setsM m))).next) ∧ (((buildM m (refineP (setsM m))).final).length ≤ j65_c41 ∧ j65_c41 ≤ maxLen) ∧ Leads Kd.bool h j65_A41 ((buildM m (refineP (setsM m))).final)) ?_ (fun jn65 => ?_)
  ·skip
   rintro ρj65 wj65 ⟨hj65, j65_b48, j65_A39, j65_c39, j65_A41, j65_c41, lej65, Sj65, rj65_1, rj65_3, rj65_4, rj65_5, rj65_6, jf65_0, jf65_1, jf65_2, jf65_3, jf65_4, jf65_5, jf65_6⟩
   have jb65_0 := jf65_0; simp only [maxLen] at jb65_0
   have jl65_1 := i64_lo jf65_1; have jh65_1 := i64_hi jf65_1
   have jb65_3 := jf65_3.1; have jc65_3 := jf65_3.2; simp only [maxLen] at jc65_3
   have jb65_5 := jf65_5.1; have jc65_5 := jf65_5.2; simp only [maxLen] at jc65_5
   refine run_seq ?_
   refine run_seq ?_
   refine run_reg (l := [0, 1]) rfl ?_
   refine p_v (v := .int .i64 (errB m (refineP (setsM m)))) rfl rfl rfl (x_move rj65_6) ?_
   refine p_v (v := .bool (decide ((errB m (refineP (setsM m))) ≠ 0))) rfl rfl rfl (x_neq rfl rfl) ?_
   refine run_region_end ?_
   refine run_cond_prop (p := (errB m (refineP (setsM m))) ≠ 0) rfl (fun hc66 => ?_) (fun hc66 => ?_)
   ·skip
    have hn1_ : rightM m = false := errB_own hc66
    have hno_ := word_no (fun w => run_wrong m w hn1_)
    refine run_seq ?_
    refine run_reg (l := [0, 1, 2, 3, 4, 5, 6, 7, 8, 9, 10, 11, 12, 13, 14]) rfl ?_
    refine p_v (v := .string (wordW (runM m))) rfl rfl rfl (x_move rj65_3) ?_
    refine p_v (v := .bool (decide ((wordW (runM m)) = (⟨#[]⟩ : ByteArray)))) rfl rfl rfl (x_eql_string rfl rfl) ?_
    refine p_v (v := .bool (decide ((wordW (runM m)) = (⟨#[]⟩ : ByteArray)))) rfl rfl rfl (x_move rfl) ?_
    have hc67 : ((wordW (runM m)) = (⟨#[]⟩ : ByteArray)) := by
     exact hno_.1
    refine p_v (v := .bool (okW (runM m))) rfl (wanted_of (j := 2) (want := true) (d := 30) (b := true) rfl rfl (congrArg Value.bool (decide_eq_true hc67)) rfl) rfl (x_move rj65_4) ?_
    refine p_v (v := .bool (!(okW (runM m)))) rfl (wanted_of (j := 2) (want := true) (d := 30) (b := true) rfl rfl (congrArg Value.bool (decide_eq_true hc67)) rfl) rfl (x_not rfl) ?_
    refine p_v (v := .bool (!(okW (runM m)))) rfl rfl rfl (x_pick_t (congrArg Value.bool (decide_eq_true hc67)) rfl) ?_
    refine p_v (v := .bool (!(okW (runM m)))) rfl rfl rfl (x_move rfl) ?_
    have hc68 : (okW (runM m)) = false := by
     exact hno_.2
    refine p_v (v := .agg #[.slice A0_0 m.spots.length c0_0, .slice A0_1 m.first.length c0_1, .slice A0_2 m.follow.length c0_2, .slice A0_3 m.last.length c0_3, .bool m.empty]) rfl (wanted_of (j := 6) (want := true) (d := 34) (b := true) rfl rfl (congrArg (fun z => Value.bool (!z)) hc68) rfl) rfl (x_load (seg := [.slice A0_0 m.spots.length c0_0, .slice A0_1 m.first.length c0_1, .slice A0_2 m.follow.length c0_2, .slice A0_3 m.last.length c0_3, .bool m.empty]) ty27 rfl (by simp) rj65_1 (CF.box (m := 5) (Sj65.box_at (j := 0) rfl) rfl)) ?_
    refine p_c rfl (wanted_of (j := 6) (want := true) (d := 34) (b := true) rfl rfl (congrArg (fun z => Value.bool (!z)) hc68) rfl) rfl (y_call (args := [.agg #[.slice A0_0 m.spots.length c0_0, .slice A0_1 m.first.length c0_1, .slice A0_2 m.follow.length c0_2, .slice A0_3 m.last.length c0_3, .bool m.empty]]) ca37 rfl rfl) (rightN_calls wj65 m A0_0 c0_0 b0_0 (l0_0.mono (St.le0 Sj65)) A0_1 c0_1 b0_1 (l0_1.mono (St.le0 Sj65)) A0_2 c0_2 b0_2 (l0_2.mono (St.le0 Sj65)) A0_3 c0_3 b0_3 (l0_3.mono (St.le0 Sj65))) ?_
    rintro _ w69 ⟨h69, T69, rfl⟩
    have S70 := Sj65.keep (Chg.of_below T69.below)
    refine p_v (v := .bool (!(rightM m))) rfl (wanted_of (j := 6) (want := true) (d := 34) (b := true) rfl rfl (congrArg (fun z => Value.bool (!z)) hc68) rfl) rfl (x_not rfl) ?_
    refine p_v (v := .bool (!(rightM m))) rfl rfl rfl (x_pick_t (congrArg (fun z => Value.bool (!z)) hc68) rfl) ?_
    refine p_v (v := .bool (!(rightM m))) rfl rfl rfl (x_move rfl) ?_
    have hc71 : (rightM m) = false := by
     exact hn1_
    refine p_c rfl (wanted_of (j := 11) (want := true) (d := 39) (b := true) rfl rfl (congrArg (fun z => Value.bool (!z)) hc71) rfl) rfl (y_call (args := []) ca55 rfl rfl) (awake13_calls w69  (Block.st S70 tb)) ?_
    rintro _ w72 ⟨h72, T72, rfl⟩
    have S73 := S70.keep (Chg.of_below T72.below)
    refine p_v (v := .bool true) rfl rfl rfl (x_pick_t (congrArg (fun z => Value.bool (!z)) hc71) rfl) ?_
    refine p_v (v := .bool true) rfl rfl rfl (x_assign rfl) ?_
    refine run_region_end ?_
    refine run_ret Tryd.func12 (res1 rfl (res_tmp (v := .bool true) rfl)) ?_
    have q0 : (true : Bool) = true := rfl
    refine ⟨_, rfl, hj65, ?_, ?_⟩
    · exact S73.sub [] (by decide) rfl _ rfl
    · rfl
   ·skip
    have hok_ := errB_iff.1 (Decidable.not_not.1 hc66); have hrd_ := build_right (okPart_ref _) hok_; have hpt_ := build_part hok_; have hbl_ := build_len (p := refineP (setsM m)) (m := m) (by omega); have hpo_ : okPart (buildM m (refineP (setsM m))).part := (by rw [hpt_]; exact okPart_ref _)
    have hrm_ : runD (buildM m (refineP (setsM m))) = runM m := funext fun w => build_run (okPart_ref _) hok_ w
    refine run_skip ?_
    refine run_seq ?_
    refine run_reg (l := [0, 1, 2, 3, 4, 5, 6, 7]) rfl ?_
    refine p_v (v := .agg ((encPart ((buildM m (refineP (setsM m))).part)) ++ ([.slice j65_A39 ((buildM m (refineP (setsM m))).next).length j65_c39, .slice j65_A41 ((buildM m (refineP (setsM m))).final).length j65_c41] : List Value)).toArray) rfl rfl rfl (x_load (seg := ((encPart ((buildM m (refineP (setsM m))).part)) ++ ([.slice j65_A39 ((buildM m (refineP (setsM m))).next).length j65_c39, .slice j65_A41 ((buildM m (refineP (setsM m))).final).length j65_c41] : List Value))) ty35 (len_app (encPart_len jf65_2) rfl) (by simp) rj65_5 (CF.box (m := 259) (Sj65.box_at (j := 1) rfl) (take_all (len_app (encPart_len jf65_2) rfl)))) ?_
    refine p_i rfl rfl rfl (y_call (args := [.agg ((encPart ((buildM m (refineP (setsM m))).part)) ++ ([.slice j65_A39 ((buildM m (refineP (setsM m))).next).length j65_c39, .slice j65_A41 ((buildM m (refineP (setsM m))).final).length j65_c41] : List Value)).toArray]) ca61 rfl rfl) (calls_of_run Tryd.func61 rfl Tryd.ntmps61 rfl ?_)
    refine run_seq ?_
    refine run_reg (l := [0, 1]) rfl ?_
    obtain ⟨b75, w75, r75, g75, T75⟩ := e_box (P := Tryd.prog) Sj65 35 (v := .agg ((encPart ((buildM m (refineP (setsM m))).part)) ++ ([.slice j65_A39 ((buildM m (refineP (setsM m))).next).length j65_c39, .slice j65_A41 ((buildM m (refineP (setsM m))).final).length j65_c41] : List Value)).toArray) ((encPart ((buildM m (refineP (setsM m))).part)) ++ ([.slice j65_A39 ((buildM m (refineP (setsM m))).next).length j65_c39, .slice j65_A41 ((buildM m (refineP (setsM m))).final).length j65_c41] : List Value)) rfl
    have S76 := T75
    dsimp only [lAa, lAn, lA0, lAs] at S76
    refine p_v (v := .pointer (some ⟨b75, 0, none⟩)) rfl rfl rfl (x_box rfl r75) ?_
    obtain ⟨b77, w77, r77, g77, T77⟩ := e_box (P := Tryd.prog) S76 47 (v := (.agg #[.slice none 0 0, .slice none 0 0, .slice none 0 0])) [.slice none 0 0, .slice none 0 0, .slice none 0 0] rfl
    have S78 := T77
    dsimp only [lAa, lAn, lA0, lAs] at S78
    refine p_v (v := .pointer (some ⟨b77, 0, none⟩)) rfl rfl rfl (x_alloc ty47 r77) ?_
    refine run_region_end ?_
    refine run_seq ?_
    refine run_reg (l := [0]) rfl ?_
    refine p_v (v := .slice none 0 0) rfl rfl rfl (x_assign rfl) ?_
    refine run_region_end ?_
    refine run_seq ?_
    refine run_reg (l := [0, 1, 2, 3]) rfl ?_
    refine p_v (v := .pointer (some ⟨b75, 0, none⟩)) rfl rfl rfl (x_fieldAt fd35_0 ty32 rfl rfl) ?_
    refine p_v (v := .agg (encPart ((buildM m (refineP (setsM m))).part)).toArray) rfl rfl rfl (x_load (seg := ((encPart ((buildM m (refineP (setsM m))).part)))) ty32 (encPart_len jf65_2) (by simp) rfl (CF.box (m := 257) (S78.box_at (j := 2) rfl) (seg_mid (pre := []) (seg := ((encPart ((buildM m (refineP (setsM m))).part)))) (post := [.slice j65_A39 ((buildM m (refineP (setsM m))).next).length j65_c39, .slice j65_A41 ((buildM m (refineP (setsM m))).final).length j65_c41]) rfl (encPart_len jf65_2)))) ?_
    refine p_c rfl rfl rfl (y_call (args := [.agg (encPart ((buildM m (refineP (setsM m))).part)).toArray, .int .i64 1]) ca86 rfl rfl) (least_calls w77 ((buildM m (refineP (setsM m))).part) jf65_2 1 (in_i64 (by first|omega|(simp;omega)|assumption|simp) (by first|omega|(simp;omega)|assumption|simp)) (Block.st S78 tb)) ?_
    rintro v79_0 w79 ⟨h79, _, T79, rfl⟩
    obtain ⟨k79, lk79, ll79, U79⟩ := call_joins S78 T79
    have lc79_0 := (lej65).trans lk79
    have S80 := U79
    dsimp only [lAa, lAn, lA0, lAs] at S80
    obtain ⟨h81, le81, T81, rp81⟩ := S80.freeze (i := 4) rfl
    have lf81_0 := (lc79_0).trans le81
    have lf81_1 := (lk79).trans le81
    have S82 := T81.fx 4 (emp) rfl
    dsimp only [lAa, lAn, lA0, lAs] at S82
    obtain ⟨A81, c81, e81, lc81, cm81, ld81⟩ := rp81
    injection e81 with e81 _; subst e81
    have cn81 := cm81; simp only [maxLen] at cn81
    refine p_v (v := .slice A81 (leastP ((buildM m (refineP (setsM m))).part) 1).length c81) rfl rfl rfl (x_assign rfl) ?_
    refine run_region_end ?_
    refine run_seq ?_
    refine run_seq ?_
    refine run_reg (l := [0]) rfl ?_
    refine p_v (v := .int .i64 0) rfl rfl rfl (x_assign rfl) ?_
    refine run_region_end ?_
    refine run_block ?_
    have T83 := S82.row_nil 5 (Kd.int .u8)
    obtain ⟨vn83, ev83, T83⟩ : ∃ v, v = (.slice none 0 0 : Value) ∧ St w.heap.size w h81 w79 ([box b1 27 [.slice A0_0 m.spots.length c0_0, .slice A0_1 m.first.length c0_1, .slice A0_2 m.follow.length c0_2, .slice A0_3 m.last.length c0_3, .bool m.empty], box j65_b48 35 ((encPart ((buildM m (refineP (setsM m))).part)) ++ ([.slice j65_A39 ((buildM m (refineP (setsM m))).next).length j65_c39, .slice j65_A41 ((buildM m (refineP (setsM m))).final).length j65_c41] : List Value)), box b75 35 ((encPart ((buildM m (refineP (setsM m))).part)) ++ ([.slice j65_A39 ((buildM m (refineP (setsM m))).next).length j65_c39, .slice j65_A41 ((buildM m (refineP (setsM m))).final).length j65_c41] : List Value)), box b77 47 [.slice none 0 0, .slice none 0 0, .slice none 0 0], emp] ++ [row 5 (Kd.int .u8) v []]) := ⟨_, rfl, T83⟩
    have S84 := T83
    dsimp only [lAa, lAn, lA0, lAs] at S84
    refine run_loop (S := (List Int) × Int) (fun (q_ : (List Int) × Int) ρ w' => match q_ with | (least, i) => ∃ (h : Ghost) (v_least : Value), Le h81 h ∧ St w.heap.size w h w' [box b1 27 [.slice A0_0 m.spots.length c0_0, .slice A0_1 m.first.length c0_1, .slice A0_2 m.follow.length c0_2, .slice A0_3 m.last.length c0_3, .bool m.empty], box j65_b48 35 ((encPart ((buildM m (refineP (setsM m))).part)) ++ ([.slice j65_A39 ((buildM m (refineP (setsM m))).next).length j65_c39, .slice j65_A41 ((buildM m (refineP (setsM m))).final).length j65_c41] : List Value)), box b75 35 ((encPart ((buildM m (refineP (setsM m))).part)) ++ ([.slice j65_A39 ((buildM m (refineP (setsM m))).next).length j65_c39, .slice j65_A41 ((buildM m (refineP (setsM m))).final).length j65_c41] : List Value)), box b77 47 [.slice none 0 0, .slice none 0 0, .slice none 0 0], row 5 (Kd.int .u8) v_least least] ∧ ρ 1 = .pointer (some ⟨b75, 0, none⟩) ∧ ρ 2 = .pointer (some ⟨b77, 0, none⟩) ∧ ρ 3 = v_least ∧ ρ 4 = .slice A81 (leastP ((buildM m (refineP (setsM m))).part) 1).length c81 ∧ ρ 5 = .int .i64 i ∧ inK .i64 i ∧ (0 ≤ i ∧ i ≤ ((leastP (buildM m (refineP (setsM m))).part 1).length : Int) ∧ least = leastBTo (buildM m (refineP (setsM m))).part i)) (fun q_ => match q_ with | (least, i) => ((leastP (buildM m (refineP (setsM m))).part 1).length - i).toNat) (([] : List Int), 0) ⟨h81, vn83, Le.refl _, S84.sub [0, 1, 2, 3, 5] (by decide) rfl _ rfl, rfl, rfl, (ev83.symm), rfl, rfl, (in_i64 (by first|omega|(simp;omega)|assumption|simp) (by first|omega|(simp;omega)|assumption|simp)), (by exact ⟨by omega, by omega, leastB_0 _⟩)⟩ ?_
    rintro ⟨least, i⟩ ih85 ρ85 w85 ⟨h85, v_least, le85, S85, r85_1, r85_2, r85_3, r85_4, r85_5, f85_0, hI85⟩
    have lf85_0 := i64_lo f85_0; have hf85_0 := i64_hi f85_0
    have rl85_4 := S85.row_le (j := 4) rfl; simp only [maxLen] at rl85_4
    have hl_ : (least.length : Int) ≤ 256 := by rw [hI85.2.2]; exact leastBTo_len _ _
    have hq_ := hI85.1
    have hr_ : i < ((leastP (buildM m (refineP (setsM m))).part 1).length : Int) → ((at_ (leastP (buildM m (refineP (setsM m))).part 1) i).length : Int) ≤ 1 := fun h => leastP_row _ hI85.1 h
    refine run_seq ?_
    refine run_seq ?_
    refine run_reg (l := [0, 1, 2, 3]) rfl ?_
    refine p_v (v := .int .i64 i) rfl rfl rfl (x_move r85_5) ?_
    refine p_v (v := .slice A81 (leastP ((buildM m (refineP (setsM m))).part) 1).length c81) rfl rfl rfl (x_move r85_4) ?_
    refine p_v (v := .int .i64 ((leastP ((buildM m (refineP (setsM m))).part) 1).length : Int)) rfl rfl rfl (x_len_slice u124 rfl) ?_
    refine p_v (v := .bool (decide (i < ((leastP ((buildM m (refineP (setsM m))).part) 1).length : Int)))) rfl rfl rfl (x_lss rfl rfl) ?_
    refine run_region_end ?_
    refine run_cond_prop (p := i < ((leastP ((buildM m (refineP (setsM m))).part) 1).length : Int)) rfl (fun hc86 => ?_) (fun hc86 => ?_)
    ·skip
     refine run_skip ?_
     refine run_seq ?_
     refine run_block ?_
     refine run_reg (l := [0, 1, 2, 3, 4, 5, 6]) rfl ?_
     refine p_v (v := v_least) rfl rfl rfl (x_move r85_3) ?_
     refine p_v (v := .slice A81 (leastP ((buildM m (refineP (setsM m))).part) 1).length c81) rfl rfl rfl (x_move r85_4) ?_
     refine p_v (v := .int .i64 i) rfl rfl rfl (x_move r85_5) ?_
     obtain ⟨ad87, seg87, a87, rp87, ce87⟩ := e_index_ro (q := i) (m := 1) ld81 rfl (by first|omega|(simp;omega)|assumption|simp) (by first|omega|(simp;omega)|assumption|simp)
     refine p_v (v := .pointer (some ad87)) rfl rfl rfl (x_index_ro u124 ty39 rfl rfl a87 (by first|omega|(simp;omega)|assumption|simp) (by first|omega|(simp;omega)|assumption|simp)) ?_
     obtain ⟨A87, c87, rfl, lc87, cm87, ld87⟩ := rp87
     have cn87 := cm87; simp only [maxLen] at cn87
     refine p_v (v := .slice A87 (at_ (leastP ((buildM m (refineP (setsM m))).part) 1) i).length c87) rfl rfl rfl (x_load (seg := [.slice A87 (at_ (leastP ((buildM m (refineP (setsM m))).part) 1) i).length c87]) ty39 rfl (by simp) rfl (CF.ghost ce87 (le85.trans S85.ghost))) ?_
     obtain ⟨v89, w89, r89, g89, T89⟩ := e_append (kd := (Kd.int .u8)) (A := A87) (c := c87) (ys := (at_ (leastP ((buildM m (refineP (setsM m))).part) 1) i)) (len := (at_ (leastP ((buildM m (refineP (setsM m))).part) 1) i).length) 39 S85 u39 ty5 rfl rfl (j := 4) rfl rfl (news_flat (ld87.mono (le85.trans S85.ghost)) (fun _ _ hr => hr)) (by first|omega|(simp;omega)|assumption|simp) (by first|omega|(simp;omega)|assumption|simp)
     have S90 := T89.fx 4 (row 5 (Kd.int .u8) v89 (least ++ (at_ (leastP ((buildM m (refineP (setsM m))).part) 1) i))) rfl
     dsimp only [lAa, lAn, lA0, lAs] at S90
     refine p_v (v := v89) rfl rfl rfl (x_append rfl rfl r89) ?_
     refine p_v (v := v89) rfl rfl rfl (x_assign rfl) ?_
     refine run_region_end ?_
     refine run_inBlock ?_
     refine run_reg (l := [0, 1, 2]) rfl ?_
     refine p_v (v := .int .i64 i) rfl rfl rfl (x_move r85_5) ?_
     refine p_v (v := .int .i64 (i + 1)) rfl rfl rfl (x_add rfl rfl (in_i64 (by first|omega|(simp;omega)|assumption|simp) (by first|omega|(simp;omega)|assumption|simp))) ?_
     refine p_v (v := .int .i64 (i + 1)) rfl rfl rfl (x_assign rfl) ?_
     refine run_region_end ?_
     refine ih85 (least ++ (at_ (leastP ((buildM m (refineP (setsM m))).part) 1) i), i + 1) _ _ (by dsimp only; omega) ⟨h85, v89, le85, S90.sub [0, 1, 2, 3, 4] (by decide) rfl _ rfl, r85_1, r85_2, rfl, r85_4, rfl, (in_i64 (by first|omega|(simp;omega)|assumption|simp) (by first|omega|(simp;omega)|assumption|simp)), (by exact ⟨by omega, by omega, by rw [hI85.2.2]; exact leastB_step _ hI85.1 (by omega)⟩)⟩
    ·skip
     have hgv_ : Given (⟨least, (buildM m (refineP (setsM m))).next, (buildM m (refineP (setsM m))).final⟩ : RefD) (buildM m (refineP (setsM m))) := ⟨hrd_, hpo_, (by rw [hI85.2.2]; exact (leastB_end _ (by omega)).symm), rfl, rfl⟩
     refine run_exit rfl ?_
     refine run_seq ?_
     refine run_reg (l := [0, 1, 2, 3, 4, 5, 6]) rfl ?_
     refine p_v (v := v_least) rfl rfl rfl (x_move r85_3) ?_
     refine p_v (v := .pointer (some ⟨b75, 257, none⟩)) rfl rfl rfl (x_fieldAt fd35_1 ty24 rfl r85_1) ?_
     refine p_v (v := .slice j65_A39 ((buildM m (refineP (setsM m))).next).length j65_c39) rfl rfl rfl (x_load (seg := [.slice j65_A39 ((buildM m (refineP (setsM m))).next).length j65_c39]) ty24 rfl (by simp) rfl (CF.box (m := 1) (S85.box_at (j := 2) rfl) (seg_mid2 (a := (encPart ((buildM m (refineP (setsM m))).part))) (pre := []) (seg := [.slice j65_A39 ((buildM m (refineP (setsM m))).next).length j65_c39]) (post := [.slice j65_A41 ((buildM m (refineP (setsM m))).final).length j65_c41]) (encPart_len jf65_2) rfl rfl))) ?_
     refine p_v (v := .pointer (some ⟨b75, 258, none⟩)) rfl rfl rfl (x_fieldAt fd35_2 ty25 rfl r85_1) ?_
     refine p_v (v := .slice j65_A41 ((buildM m (refineP (setsM m))).final).length j65_c41) rfl rfl rfl (x_load (seg := [.slice j65_A41 ((buildM m (refineP (setsM m))).final).length j65_c41]) ty25 rfl (by simp) rfl (CF.box (m := 1) (S85.box_at (j := 2) rfl) (seg_mid2 (a := (encPart ((buildM m (refineP (setsM m))).part))) (pre := [.slice j65_A39 ((buildM m (refineP (setsM m))).next).length j65_c39]) (seg := [.slice j65_A41 ((buildM m (refineP (setsM m))).final).length j65_c41]) (post := []) (encPart_len jf65_2) rfl rfl))) ?_
     refine p_v (v := .agg #[v_least, .slice j65_A39 ((buildM m (refineP (setsM m))).next).length j65_c39, .slice j65_A41 ((buildM m (refineP (setsM m))).final).length j65_c41]) rfl rfl rfl (y_build (pv := [(0, v_least), (1, .slice j65_A39 ((buildM m (refineP (setsM m))).next).length j65_c39), (2, .slice j65_A41 ((buildM m (refineP (setsM m))).final).length j65_c41)]) rfl (run_build_struct pl47 ty47 rfl (cs := [v_least, .slice j65_A39 ((buildM m (refineP (setsM m))).next).length j65_c39, .slice j65_A41 ((buildM m (refineP (setsM m))).final).length j65_c41]) (fill_any (vc := [v_least]) rfl (row_cells S85 (j := 4) rfl) rfl rfl (fill_any (vc := [.slice j65_A39 ((buildM m (refineP (setsM m))).next).length j65_c39]) rfl rfl rfl rfl (fill_any (vc := [.slice j65_A41 ((buildM m (refineP (setsM m))).final).length j65_c41]) rfl rfl rfl rfl (fill_end rfl)))))) ?_
     have oc92 := row_one S85 (j := 4) rfl
     obtain ⟨w91, r91, g91, T91⟩ := e_store (P := Tryd.prog) (off := 0) (v := .agg #[v_least, .slice j65_A39 ((buildM m (refineP (setsM m))).next).length j65_c39, .slice j65_A41 ((buildM m (refineP (setsM m))).final).length j65_c41]) (vs := [v_least, .slice j65_A39 ((buildM m (refineP (setsM m))).next).length j65_c39, .slice j65_A41 ((buildM m (refineP (setsM m))).final).length j65_c41]) S85 ty47 rfl rfl (j := 3) rfl (by first | decide | exact Nat.le_of_ble_eq_true rfl) (one_cons oc92 (one_cons rfl (one_cons rfl one_nil)))
     have S93 := T91.fx 3 (box b77 47 [v_least, .slice j65_A39 ((buildM m (refineP (setsM m))).next).length j65_c39, .slice j65_A41 ((buildM m (refineP (setsM m))).final).length j65_c41]) rfl
     dsimp only [lAa, lAn, lA0, lAs] at S93
     refine p_s rfl rfl (x_store r85_2 rfl r91) ?_
     refine run_region_end ?_
     refine run_ret Tryd.func61 (res1 rfl (res_cell S93 ty47 r85_2 (j := 3) rfl rfl (by simp) rfl)) ?_
     refine ⟨_, rfl, ?_⟩
     obtain ⟨h94, le94, T94, rp94⟩ := S93.freeze (i := 4) rfl
     have lf94_0 := (((lf81_0).trans le85)).trans le94
     have lf94_1 := (((lf81_1).trans le85)).trans le94
     have lf94_2 := (((le81).trans le85)).trans le94
     have lf94_3 := (le85).trans le94
     have S95 := T94.fx 4 (emp) rfl
     dsimp only [lAa, lAn, lA0, lAs] at S95
     obtain ⟨A94, c94, e94, lc94, cm94, ld94⟩ := rp94
     injection e94 with e94 _; subst e94
     have cn94 := cm94; simp only [maxLen] at cn94
     refine p_c rfl rfl rfl (y_call (args := [.agg #[.slice A94 least.length c94, .slice j65_A39 ((buildM m (refineP (setsM m))).next).length j65_c39, .slice j65_A41 ((buildM m (refineP (setsM m))).final).length j65_c41]]) ca60 rfl rfl) (word13_calls w91 (⟨least, (buildM m (refineP (setsM m))).next, (buildM m (refineP (setsM m))).final⟩ : RefD) A94 c94 (And.intro lc94 cm94) (ld94.mono ((Le.refl _).trans S95.ghost)) j65_A39 j65_c39 jf65_3 (jf65_4.mono (lf94_1.trans S95.ghost)) j65_A41 j65_c41 jf65_5 (jf65_6.mono (lf94_1.trans S95.ghost)) (buildM m (refineP (setsM m))) ⟨hgv_, by omega⟩) ?_
     rintro _ w96 ⟨h96, T96, rfl, sz96_0⟩
     have S97 := S95.keep (Chg.of_below T96.below)
     have bd_sz96_0 := sz96_0; simp only [maxLen] at bd_sz96_0
     refine p_v (v := .tuple #[.string (wordW (runD (buildM m (refineP (setsM m))))), .bool (okW (runD (buildM m (refineP (setsM m)))))]) rfl rfl rfl (x_move rfl) ?_
     refine p_v (v := .string (wordW (runD (buildM m (refineP (setsM m)))))) rfl rfl rfl (x_extract (vs := [.string (wordW (runD (buildM m (refineP (setsM m))))), .bool (okW (runD (buildM m (refineP (setsM m)))))]) rfl rfl) ?_
     refine p_v (v := .bool (okW (runD (buildM m (refineP (setsM m)))))) rfl rfl rfl (x_extract (vs := [.string (wordW (runD (buildM m (refineP (setsM m))))), .bool (okW (runD (buildM m (refineP (setsM m)))))]) rfl rfl) ?_
     refine p_v (v := .string (wordW (runD (buildM m (refineP (setsM m)))))) rfl rfl rfl (x_assign rfl) ?_
     refine p_v (v := .bool (okW (runD (buildM m (refineP (setsM m)))))) rfl rfl rfl (x_assign rfl) ?_
     refine run_region_end ?_
     refine run_seq ?_
     refine run_reg (l := [0, 1, 2, 3, 4, 5, 6, 7, 8, 9, 10, 11]) rfl ?_
     refine p_v (v := .string (wordW (runM m))) rfl rfl rfl (x_move rj65_3) ?_
     refine p_v (v := .string (wordW (runD (buildM m (refineP (setsM m)))))) rfl rfl rfl (x_move rfl) ?_
     refine p_v (v := .bool (decide ((wordW (runM m)) = (wordW (runD (buildM m (refineP (setsM m)))))))) rfl rfl rfl (x_eql_string rfl rfl) ?_
     refine p_v (v := .bool (decide ((wordW (runM m)) = (wordW (runD (buildM m (refineP (setsM m)))))))) rfl rfl rfl (x_move rfl) ?_
     have hc98 : ((wordW (runM m)) = (wordW (runD (buildM m (refineP (setsM m)))))) := by
      rw [hrm_]
     refine p_v (v := .bool (okW (runM m))) rfl (wanted_of (j := 3) (want := true) (d := 51) (b := true) rfl rfl (congrArg Value.bool (decide_eq_true hc98)) rfl) rfl (x_move rj65_4) ?_
     refine p_v (v := .bool (okW (runD (buildM m (refineP (setsM m)))))) rfl (wanted_of (j := 3) (want := true) (d := 51) (b := true) rfl rfl (congrArg Value.bool (decide_eq_true hc98)) rfl) rfl (x_move rfl) ?_
     refine p_v (v := .bool (decide ((okW (runM m)) = (okW (runD (buildM m (refineP (setsM m)))))))) rfl (wanted_of (j := 3) (want := true) (d := 51) (b := true) rfl rfl (congrArg Value.bool (decide_eq_true hc98)) rfl) rfl (x_eql_bool u4 rfl rfl) ?_
     refine p_v (v := .bool (decide ((okW (runM m)) = (okW (runD (buildM m (refineP (setsM m)))))))) rfl rfl rfl (x_pick_t (congrArg Value.bool (decide_eq_true hc98)) rfl) ?_
     refine p_v (v := .bool (decide ((okW (runM m)) = (okW (runD (buildM m (refineP (setsM m)))))))) rfl rfl rfl (x_move rfl) ?_
     have hc99 : ((okW (runM m)) = (okW (runD (buildM m (refineP (setsM m)))))) := by
      rw [hrm_]
     refine p_c rfl (wanted_of (j := 8) (want := true) (d := 56) (b := true) rfl rfl (congrArg Value.bool (decide_eq_true hc99)) rfl) rfl (y_call (args := []) ca55 rfl rfl) (awake13_calls w96  (Block.st S97 tb)) ?_
     rintro _ w100 ⟨h100, T100, rfl⟩
     have S101 := S97.keep (Chg.of_below T100.below)
     refine p_v (v := .bool true) rfl rfl rfl (x_pick_t (congrArg Value.bool (decide_eq_true hc99)) rfl) ?_
     refine p_v (v := .bool true) rfl rfl rfl (x_assign rfl) ?_
     refine run_region_end ?_
     refine run_ret Tryd.func12 (res1 rfl (res_tmp (v := .bool true) rfl)) ?_
     have q0 : (true : Bool) = true := rfl
     refine ⟨_, rfl, h94, ?_, ?_⟩
     · exact S101.sub [] (by decide) rfl _ rfl
     · rfl
  ·skip
   refine ra_two (i := 2) (i2 := 8) (by decide +kernel) ?_ ?_
   ·skip
    intro wd103 gd103
    have S104 := S14.keep gd103
    have hf105 := spUp gd103 hf15
    have hf106 := spUp gd103 hf16
    refine d_c rfl rfl rfl (y_call (args := [.agg #[.slice A0_0 m.spots.length c0_0, .slice A0_1 m.first.length c0_1, .slice A0_2 m.follow.length c0_2, .slice A0_3 m.last.length c0_3, .bool m.empty]]) ca63 rfl rfl) (setsN_calls wd103 m A0_0 c0_0 b0_0 (l0_0.mono (St.le0 S104)) A0_1 c0_1 b0_1 (l0_1.mono (St.le0 S104)) A0_2 c0_2 b0_2 (l0_2.mono (St.le0 S104)) A0_3 c0_3 b0_3 (l0_3.mono (St.le0 S104)) (by first | assumption | omega | decide)) ?_
    rintro v107_0 w107 ⟨h107, _, T107, rfl⟩
    obtain ⟨k107, lk107, ll107, U107⟩ := call_joins S104 T107
    have S108 := U107
    dsimp only [lAa, lAn, lA0, lAs] at S108
    have hf109 := spUp (Chg.of_below T107.below) hf105
    have hf110 := spUp (Chg.of_below T107.below) hf106
    refine ⟨.inl (Chg.of_below T107.below), ?_⟩
    obtain ⟨h111, le111, T111, rp111⟩ := S108.freeze (i := 1) rfl
    have lf111_0 := (lk107).trans le111
    have S112 := T111.fx 1 (emp) rfl
    dsimp only [lAa, lAn, lA0, lAs] at S112
    obtain ⟨A111, c111, e111, lc111, cm111, ld111⟩ := rp111
    injection e111 with e111 _; subst e111
    have cn111 := cm111; simp only [maxLen] at cn111
    obtain ⟨_, _, _, _, _, _, _, ok113_0⟩ := calls_some (refine_calls w107 (setsM m) A111 c111 (And.intro lc111 cm111) (ld111.mono ((Le.refl _).trans S112.ghost)))
    have hf114 : (LeadsS kSet A111 (setsM m)).1 w107 := (ld111.mono ((Le.refl _).trans S112.ghost))
    refine raMo (hkC 3 hf114 (hkN (w := w107))) ?_
    refine d_m (i := 3) (v := .agg (encPart (refineP (setsM m))).toArray) (fun wf => Leads kSet (hp wf) A111 (setsM m)) (fun _ ho => ho _ (List.mem_of_getElem? (i := 0) rfl) rfl) rfl (by decide +kernel) (by decide +kernel) (by decide +kernel) rfl rfl (fun wq => (y_call (args := [.slice A111 (setsM m).length c111]) ca49 rfl rfl)) (fun wq hq => (refine_calls wq (setsM m) A111 c111 (And.intro lc111 cm111) hq).mono fun e w2 he => by obtain ⟨_, rfl, _, T, rfl, _⟩ := he; exact ⟨rfl, Chg.of_below T.below⟩) (of_eq hf114 (of_no rfl)) ?_
    refine ra_two (i := 4) (i2 := 8) (by decide +kernel) ?_ ?_
    ·skip
     intro wd115 gd115
     have S116 := S112.keep gd115
     have hf117 := spUp gd115 hf114
     have hf118 := spUp gd115 hf109
     have hf119 := spUp gd115 hf110
     refine d_c rfl rfl rfl (y_call (args := [.agg #[.slice A0_0 m.spots.length c0_0, .slice A0_1 m.first.length c0_1, .slice A0_2 m.follow.length c0_2, .slice A0_3 m.last.length c0_3, .bool m.empty], .agg (encPart (refineP (setsM m))).toArray, .pointer none]) ca21 rfl rfl) (build_calls wd115 m A0_0 c0_0 b0_0 (l0_0.mono (St.le0 S116)) A0_1 c0_1 b0_1 (l0_1.mono (St.le0 S116)) A0_2 c0_2 b0_2 (l0_2.mono (St.le0 S116)) A0_3 c0_3 b0_3 (l0_3.mono (St.le0 S116)) (refineP (setsM m)) ok113_0 () (by first | assumption | omega | decide) (Block.st S116 tb)) ?_
     rintro _ w120 ⟨h120, v120_0, v120_1, T120, rfl, ok120_0, in120_1⟩
     obtain ⟨k120, lk120, ll120, U120⟩ := call_joins S116 T120
     have lc120_0 := (lf111_0).trans lk120
     have lc120_1 := (le111).trans lk120
     have S121 := U120
     dsimp only [lAa, lAn, lA0, lAs] at S121
     have lo_in120_1 := i64_lo in120_1; have hi_in120_1 := i64_hi in120_1
     have hf122 := spUp (Chg.of_below T120.below) hf117
     have hf123 := spUp (Chg.of_below T120.below) hf118
     have hf124 := spUp (Chg.of_below T120.below) hf119
     refine ⟨.inl (Chg.of_below T120.below), ?_⟩
     obtain ⟨h125, le125, T125, rp125⟩ := S121.freeze (i := 2) rfl
     have lf125_0 := (lc120_0).trans le125
     have lf125_1 := (lc120_1).trans le125
     have lf125_2 := (lk120).trans le125
     have S126 := T125.fx 2 (emp) rfl
     dsimp only [lAa, lAn, lA0, lAs] at S126
     obtain ⟨A125, c125, e125, lc125, cm125, ld125⟩ := rp125
     injection e125 with e125 _; subst e125
     have cn125 := cm125; simp only [maxLen] at cn125
     obtain ⟨h127, le127, T127, rp127⟩ := S126.freeze (i := 3) rfl
     have lf127_0 := (lf125_0).trans le127
     have lf127_1 := (lf125_1).trans le127
     have lf127_2 := (lf125_2).trans le127
     have lf127_3 := (le125).trans le127
     have S128 := T127.fx 3 (emp) rfl
     dsimp only [lAa, lAn, lA0, lAs] at S128
     obtain ⟨A127, c127, e127, lc127, cm127, ld127⟩ := rp127
     injection e127 with e127 _; subst e127
     have cn127 := cm127; simp only [maxLen] at cn127
     refine qd0 (i := 5) (v := .tuple #[.agg ((encPart ((buildM m (refineP (setsM m))).part)) ++ ([.slice A125 ((buildM m (refineP (setsM m))).next).length c125, .slice A127 ((buildM m (refineP (setsM m))).final).length c127] : List Value)).toArray, .int .i64 (errB m (refineP (setsM m)))]) rfl (by decide +kernel) rfl rfl (x_move rfl) (of_no rfl) ?_
     refine qd0 (i := 6) (v := .agg ((encPart ((buildM m (refineP (setsM m))).part)) ++ ([.slice A125 ((buildM m (refineP (setsM m))).next).length c125, .slice A127 ((buildM m (refineP (setsM m))).final).length c127] : List Value)).toArray) rfl (by decide +kernel) rfl rfl (x_extract (vs := [.agg ((encPart ((buildM m (refineP (setsM m))).part)) ++ ([.slice A125 ((buildM m (refineP (setsM m))).next).length c125, .slice A127 ((buildM m (refineP (setsM m))).final).length c127] : List Value)).toArray, .int .i64 (errB m (refineP (setsM m)))]) rfl rfl) (of_no rfl) ?_
     refine qd0 (i := 7) (v := .int .i64 (errB m (refineP (setsM m)))) rfl (by decide +kernel) rfl rfl (x_extract (vs := [.agg ((encPart ((buildM m (refineP (setsM m))).part)) ++ ([.slice A125 ((buildM m (refineP (setsM m))).next).length c125, .slice A127 ((buildM m (refineP (setsM m))).final).length c127] : List Value)).toArray, .int .i64 (errB m (refineP (setsM m)))]) rfl rfl) (of_no rfl) ?_
     refine ra_one (i := 8) (by decide +kernel) ?_
     intro wd129 gd129
     have S130 := S128.keep gd129
     have hf131 := spUp gd129 hf122
     have hf132 := spUp gd129 hf123
     have hf133 := spUp gd129 hf124
     obtain ⟨b134, w134, r134, g134, T134⟩ := e_box (P := Tryd.prog) S130 35 (v := zv35) ((encPart zPart) ++ ([.slice none 0 0, .slice none 0 0] : List Value)) (by kernel_rfl)
     have S135 := T134
     dsimp only [lAa, lAn, lA0, lAs] at S135
     have hf136 := spUp g134 hf131
     have hf137 := spUp g134 hf132
     have hf138 := spUp g134 hf133
     refine d_v (v := .pointer (some ⟨b134, 0, none⟩)) rfl rfl rfl (x_alloc ty35 r134) (.inl g134) ?_
     refine ra_one (i := 9) (by decide +kernel) ?_
     intro wd139 gd139
     have S140 := S135.keep gd139
     have hf141 := spUp gd139 hf136
     have hf142 := spUp gd139 hf137
     have hf143 := spUp gd139 hf138
     obtain ⟨w144, r144, g144, T144⟩ := e_store_all (P := Tryd.prog) (v := .agg ((encPart ((buildM m (refineP (setsM m))).part)) ++ ([.slice A125 ((buildM m (refineP (setsM m))).next).length c125, .slice A127 ((buildM m (refineP (setsM m))).final).length c127] : List Value)).toArray) (vs := ((encPart ((buildM m (refineP (setsM m))).part)) ++ ([.slice A125 ((buildM m (refineP (setsM m))).next).length c125, .slice A127 ((buildM m (refineP (setsM m))).final).length c127] : List Value))) (cs := ((encPart zPart) ++ ([.slice none 0 0, .slice none 0 0] : List Value))) S140 ty35 rfl (len_app (encPart_len ok120_0) rfl) (len_app (encPart_len (okPart_zero)) rfl) (j := 4) rfl (one_app (encPart_one _) (by simp [Value.oneCell']))
     have S145 := T144.fx 4 (box b134 35 ((encPart ((buildM m (refineP (setsM m))).part)) ++ ([.slice A125 ((buildM m (refineP (setsM m))).next).length c125, .slice A127 ((buildM m (refineP (setsM m))).final).length c127] : List Value))) rfl
     dsimp only [lAa, lAn, lA0, lAs] at S145
     have hf146 : (LeadsS kSet A111 (setsM m)).1 w144 := (ld111.mono ((Le.refl _).trans (lf127_2.trans S145.ghost)))
     have hf147 : (CFs ⟨b1, 0, none⟩ [.slice A0_0 m.spots.length c0_0, .slice A0_1 m.first.length c0_1, .slice A0_2 m.follow.length c0_2, .slice A0_3 m.last.length c0_3, .bool m.empty]).1 w144 := (CF.box (m := 5) (S145.box_at (j := 0) rfl) rfl)
     have hf148 : (CFs ⟨b1, 0, none⟩ [.slice A0_0 m.spots.length c0_0, .slice A0_1 m.first.length c0_1, .slice A0_2 m.follow.length c0_2, .slice A0_3 m.last.length c0_3, .bool m.empty]).1 w144 := (CF.box (m := 5) (S145.box_at (j := 0) rfl) rfl)
     refine d_s rfl rfl (x_store rfl rfl r144) (.inr (keep_w (by decide +kernel) (keep_w (by decide +kernel) (keep_w (by decide +kernel) trivial)))) ?_
     refine qd0 (i := 10) (v := .int .i64 (errB m (refineP (setsM m)))) rfl (by decide +kernel) rfl rfl (x_assign rfl) (of_no rfl) ?_
     refine ra_done (by decide +kernel) ?_
     intro wd149 gd149
     have S150 := S145.keep gd149
     exact jn65 _ _ ⟨h127, b134, A125, c125, A127, c127, lf127_0, S150.sub [0, 4] (by decide) rfl _ rfl, rfl, rfl, rfl, rfl, rfl, sz9_0, in120_1, ok120_0, (And.intro lc125 cm125), (ld125.mono le127), (And.intro lc127 cm127), ld127⟩
    ·skip
     intro wd151 gd151
     have S152 := S112.keep gd151
     have hf153 := spUp gd151 hf114
     have hf154 := spUp gd151 hf109
     have hf155 := spUp gd151 hf110
     obtain ⟨b156, w156, r156, g156, T156⟩ := e_box (P := Tryd.prog) S152 35 (v := zv35) ((encPart zPart) ++ ([.slice none 0 0, .slice none 0 0] : List Value)) (by kernel_rfl)
     have S157 := T156
     dsimp only [lAa, lAn, lA0, lAs] at S157
     have hf158 := spUp g156 hf153
     have hf159 := spUp g156 hf154
     have hf160 := spUp g156 hf155
     refine d_v (v := .pointer (some ⟨b156, 0, none⟩)) rfl rfl rfl (x_alloc ty35 r156) (.inl g156) ?_
     refine ra_one (i := 4) (by decide +kernel) ?_
     intro wd161 gd161
     have S162 := S157.keep gd161
     have hf163 := spUp gd161 hf158
     have hf164 := spUp gd161 hf159
     have hf165 := spUp gd161 hf160
     refine d_c rfl rfl rfl (y_call (args := [.agg #[.slice A0_0 m.spots.length c0_0, .slice A0_1 m.first.length c0_1, .slice A0_2 m.follow.length c0_2, .slice A0_3 m.last.length c0_3, .bool m.empty], .agg (encPart (refineP (setsM m))).toArray, .pointer none]) ca21 rfl rfl) (build_calls wd161 m A0_0 c0_0 b0_0 (l0_0.mono (St.le0 S162)) A0_1 c0_1 b0_1 (l0_1.mono (St.le0 S162)) A0_2 c0_2 b0_2 (l0_2.mono (St.le0 S162)) A0_3 c0_3 b0_3 (l0_3.mono (St.le0 S162)) (refineP (setsM m)) ok113_0 () (by first | assumption | omega | decide) (Block.st S162 tb)) ?_
     rintro _ w166 ⟨h166, v166_0, v166_1, T166, rfl, ok166_0, in166_1⟩
     obtain ⟨k166, lk166, ll166, U166⟩ := call_joins S162 T166
     have lc166_0 := (lf111_0).trans lk166
     have lc166_1 := (le111).trans lk166
     have S167 := U166
     dsimp only [lAa, lAn, lA0, lAs] at S167
     have lo_in166_1 := i64_lo in166_1; have hi_in166_1 := i64_hi in166_1
     have hf168 := spUp (Chg.of_below T166.below) hf163
     have hf169 := spUp (Chg.of_below T166.below) hf164
     have hf170 := spUp (Chg.of_below T166.below) hf165
     refine ⟨.inl (Chg.of_below T166.below), ?_⟩
     obtain ⟨h171, le171, T171, rp171⟩ := S167.freeze (i := 3) rfl
     have lf171_0 := (lc166_0).trans le171
     have lf171_1 := (lc166_1).trans le171
     have lf171_2 := (lk166).trans le171
     have S172 := T171.fx 3 (emp) rfl
     dsimp only [lAa, lAn, lA0, lAs] at S172
     obtain ⟨A171, c171, e171, lc171, cm171, ld171⟩ := rp171
     injection e171 with e171 _; subst e171
     have cn171 := cm171; simp only [maxLen] at cn171
     obtain ⟨h173, le173, T173, rp173⟩ := S172.freeze (i := 4) rfl
     have lf173_0 := (lf171_0).trans le173
     have lf173_1 := (lf171_1).trans le173
     have lf173_2 := (lf171_2).trans le173
     have lf173_3 := (le171).trans le173
     have S174 := T173.fx 4 (emp) rfl
     dsimp only [lAa, lAn, lA0, lAs] at S174
     obtain ⟨A173, c173, e173, lc173, cm173, ld173⟩ := rp173
     injection e173 with e173 _; subst e173
     have cn173 := cm173; simp only [maxLen] at cn173
     refine qd0 (i := 5) (v := .tuple #[.agg ((encPart ((buildM m (refineP (setsM m))).part)) ++ ([.slice A171 ((buildM m (refineP (setsM m))).next).length c171, .slice A173 ((buildM m (refineP (setsM m))).final).length c173] : List Value)).toArray, .int .i64 (errB m (refineP (setsM m)))]) rfl (by decide +kernel) rfl rfl (x_move rfl) (of_no rfl) ?_
     refine qd0 (i := 6) (v := .agg ((encPart ((buildM m (refineP (setsM m))).part)) ++ ([.slice A171 ((buildM m (refineP (setsM m))).next).length c171, .slice A173 ((buildM m (refineP (setsM m))).final).length c173] : List Value)).toArray) rfl (by decide +kernel) rfl rfl (x_extract (vs := [.agg ((encPart ((buildM m (refineP (setsM m))).part)) ++ ([.slice A171 ((buildM m (refineP (setsM m))).next).length c171, .slice A173 ((buildM m (refineP (setsM m))).final).length c173] : List Value)).toArray, .int .i64 (errB m (refineP (setsM m)))]) rfl rfl) (of_no rfl) ?_
     refine qd0 (i := 7) (v := .int .i64 (errB m (refineP (setsM m)))) rfl (by decide +kernel) rfl rfl (x_extract (vs := [.agg ((encPart ((buildM m (refineP (setsM m))).part)) ++ ([.slice A171 ((buildM m (refineP (setsM m))).next).length c171, .slice A173 ((buildM m (refineP (setsM m))).final).length c173] : List Value)).toArray, .int .i64 (errB m (refineP (setsM m)))]) rfl rfl) (of_no rfl) ?_
     refine ra_one (i := 9) (by decide +kernel) ?_
     intro wd175 gd175
     have S176 := S174.keep gd175
     have hf177 := spUp gd175 hf168
     have hf178 := spUp gd175 hf169
     have hf179 := spUp gd175 hf170
     obtain ⟨w180, r180, g180, T180⟩ := e_store_all (P := Tryd.prog) (v := .agg ((encPart ((buildM m (refineP (setsM m))).part)) ++ ([.slice A171 ((buildM m (refineP (setsM m))).next).length c171, .slice A173 ((buildM m (refineP (setsM m))).final).length c173] : List Value)).toArray) (vs := ((encPart ((buildM m (refineP (setsM m))).part)) ++ ([.slice A171 ((buildM m (refineP (setsM m))).next).length c171, .slice A173 ((buildM m (refineP (setsM m))).final).length c173] : List Value))) (cs := ((encPart zPart) ++ ([.slice none 0 0, .slice none 0 0] : List Value))) S176 ty35 rfl (len_app (encPart_len ok166_0) rfl) (len_app (encPart_len (okPart_zero)) rfl) (j := 2) rfl (one_app (encPart_one _) (by simp [Value.oneCell']))
     have S181 := T180.fx 2 (box b156 35 ((encPart ((buildM m (refineP (setsM m))).part)) ++ ([.slice A171 ((buildM m (refineP (setsM m))).next).length c171, .slice A173 ((buildM m (refineP (setsM m))).final).length c173] : List Value))) rfl
     dsimp only [lAa, lAn, lA0, lAs] at S181
     have hf182 : (LeadsS kSet A111 (setsM m)).1 w180 := (ld111.mono ((Le.refl _).trans (lf173_2.trans S181.ghost)))
     have hf183 : (CFs ⟨b1, 0, none⟩ [.slice A0_0 m.spots.length c0_0, .slice A0_1 m.first.length c0_1, .slice A0_2 m.follow.length c0_2, .slice A0_3 m.last.length c0_3, .bool m.empty]).1 w180 := (CF.box (m := 5) (S181.box_at (j := 0) rfl) rfl)
     have hf184 : (CFs ⟨b1, 0, none⟩ [.slice A0_0 m.spots.length c0_0, .slice A0_1 m.first.length c0_1, .slice A0_2 m.follow.length c0_2, .slice A0_3 m.last.length c0_3, .bool m.empty]).1 w180 := (CF.box (m := 5) (S181.box_at (j := 0) rfl) rfl)
     refine d_s rfl rfl (x_store rfl rfl r180) (.inr (keep_w (by decide +kernel) (keep_w (by decide +kernel) (keep_w (by decide +kernel) trivial)))) ?_
     refine qd0 (i := 10) (v := .int .i64 (errB m (refineP (setsM m)))) rfl (by decide +kernel) rfl rfl (x_assign rfl) (of_no rfl) ?_
     refine ra_done (by decide +kernel) ?_
     intro wd185 gd185
     have S186 := S181.keep gd185
     exact jn65 _ _ ⟨h173, b156, A171, c171, A173, c173, lf173_0, S186.sub [0, 2] (by decide) rfl _ rfl, rfl, rfl, rfl, rfl, rfl, sz9_0, in166_1, ok166_0, (And.intro lc171 cm171), (ld171.mono le173), (And.intro lc173 cm173), ld173⟩
   ·skip
    intro wd187 gd187
    have S188 := S14.keep gd187
    have hf189 := spUp gd187 hf15
    have hf190 := spUp gd187 hf16
    obtain ⟨b191, w191, r191, g191, T191⟩ := e_box (P := Tryd.prog) S188 35 (v := zv35) ((encPart zPart) ++ ([.slice none 0 0, .slice none 0 0] : List Value)) (by kernel_rfl)
    have S192 := T191
    dsimp only [lAa, lAn, lA0, lAs] at S192
    have hf193 := spUp g191 hf189
    have hf194 := spUp g191 hf190
    refine d_v (v := .pointer (some ⟨b191, 0, none⟩)) rfl rfl rfl (x_alloc ty35 r191) (.inl g191) ?_
    refine ra_one (i := 2) (by decide +kernel) ?_
    intro wd195 gd195
    have S196 := S192.keep gd195
    have hf197 := spUp gd195 hf193
    have hf198 := spUp gd195 hf194
    refine d_c rfl rfl rfl (y_call (args := [.agg #[.slice A0_0 m.spots.length c0_0, .slice A0_1 m.first.length c0_1, .slice A0_2 m.follow.length c0_2, .slice A0_3 m.last.length c0_3, .bool m.empty]]) ca63 rfl rfl) (setsN_calls wd195 m A0_0 c0_0 b0_0 (l0_0.mono (St.le0 S196)) A0_1 c0_1 b0_1 (l0_1.mono (St.le0 S196)) A0_2 c0_2 b0_2 (l0_2.mono (St.le0 S196)) A0_3 c0_3 b0_3 (l0_3.mono (St.le0 S196)) (by first | assumption | omega | decide)) ?_
    rintro v199_0 w199 ⟨h199, _, T199, rfl⟩
    obtain ⟨k199, lk199, ll199, U199⟩ := call_joins S196 T199
    have S200 := U199
    dsimp only [lAa, lAn, lA0, lAs] at S200
    have hf201 := spUp (Chg.of_below T199.below) hf197
    have hf202 := spUp (Chg.of_below T199.below) hf198
    refine ⟨.inl (Chg.of_below T199.below), ?_⟩
    obtain ⟨h203, le203, T203, rp203⟩ := S200.freeze (i := 2) rfl
    have lf203_0 := (lk199).trans le203
    have S204 := T203.fx 2 (emp) rfl
    dsimp only [lAa, lAn, lA0, lAs] at S204
    obtain ⟨A203, c203, e203, lc203, cm203, ld203⟩ := rp203
    injection e203 with e203 _; subst e203
    have cn203 := cm203; simp only [maxLen] at cn203
    obtain ⟨_, _, _, _, _, _, _, ok205_0⟩ := calls_some (refine_calls w199 (setsM m) A203 c203 (And.intro lc203 cm203) (ld203.mono ((Le.refl _).trans S204.ghost)))
    have hf206 : (LeadsS kSet A203 (setsM m)).1 w199 := (ld203.mono ((Le.refl _).trans S204.ghost))
    refine raMo (hkC 3 hf206 (hkN (w := w199))) ?_
    refine d_m (i := 3) (v := .agg (encPart (refineP (setsM m))).toArray) (fun wf => Leads kSet (hp wf) A203 (setsM m)) (fun _ ho => ho _ (List.mem_of_getElem? (i := 0) rfl) rfl) rfl (by decide +kernel) (by decide +kernel) (by decide +kernel) rfl rfl (fun wq => (y_call (args := [.slice A203 (setsM m).length c203]) ca49 rfl rfl)) (fun wq hq => (refine_calls wq (setsM m) A203 c203 (And.intro lc203 cm203) hq).mono fun e w2 he => by obtain ⟨_, rfl, _, T, rfl, _⟩ := he; exact ⟨rfl, Chg.of_below T.below⟩) (of_eq hf206 (of_no rfl)) ?_
    refine ra_one (i := 4) (by decide +kernel) ?_
    intro wd207 gd207
    have S208 := S204.keep gd207
    have hf209 := spUp gd207 hf206
    have hf210 := spUp gd207 hf201
    have hf211 := spUp gd207 hf202
    refine d_c rfl rfl rfl (y_call (args := [.agg #[.slice A0_0 m.spots.length c0_0, .slice A0_1 m.first.length c0_1, .slice A0_2 m.follow.length c0_2, .slice A0_3 m.last.length c0_3, .bool m.empty], .agg (encPart (refineP (setsM m))).toArray, .pointer none]) ca21 rfl rfl) (build_calls wd207 m A0_0 c0_0 b0_0 (l0_0.mono (St.le0 S208)) A0_1 c0_1 b0_1 (l0_1.mono (St.le0 S208)) A0_2 c0_2 b0_2 (l0_2.mono (St.le0 S208)) A0_3 c0_3 b0_3 (l0_3.mono (St.le0 S208)) (refineP (setsM m)) ok205_0 () (by first | assumption | omega | decide) (Block.st S208 tb)) ?_
    rintro _ w212 ⟨h212, v212_0, v212_1, T212, rfl, ok212_0, in212_1⟩
    obtain ⟨k212, lk212, ll212, U212⟩ := call_joins S208 T212
    have lc212_0 := (lf203_0).trans lk212
    have lc212_1 := (le203).trans lk212
    have S213 := U212
    dsimp only [lAa, lAn, lA0, lAs] at S213
    have lo_in212_1 := i64_lo in212_1; have hi_in212_1 := i64_hi in212_1
    have hf214 := spUp (Chg.of_below T212.below) hf209
    have hf215 := spUp (Chg.of_below T212.below) hf210
    have hf216 := spUp (Chg.of_below T212.below) hf211
    refine ⟨.inl (Chg.of_below T212.below), ?_⟩
    obtain ⟨h217, le217, T217, rp217⟩ := S213.freeze (i := 3) rfl
    have lf217_0 := (lc212_0).trans le217
    have lf217_1 := (lc212_1).trans le217
    have lf217_2 := (lk212).trans le217
    have S218 := T217.fx 3 (emp) rfl
    dsimp only [lAa, lAn, lA0, lAs] at S218
    obtain ⟨A217, c217, e217, lc217, cm217, ld217⟩ := rp217
    injection e217 with e217 _; subst e217
    have cn217 := cm217; simp only [maxLen] at cn217
    obtain ⟨h219, le219, T219, rp219⟩ := S218.freeze (i := 4) rfl
    have lf219_0 := (lf217_0).trans le219
    have lf219_1 := (lf217_1).trans le219
    have lf219_2 := (lf217_2).trans le219
    have lf219_3 := (le217).trans le219
    have S220 := T219.fx 4 (emp) rfl
    dsimp only [lAa, lAn, lA0, lAs] at S220
    obtain ⟨A219, c219, e219, lc219, cm219, ld219⟩ := rp219
    injection e219 with e219 _; subst e219
    have cn219 := cm219; simp only [maxLen] at cn219
    refine qd0 (i := 5) (v := .tuple #[.agg ((encPart ((buildM m (refineP (setsM m))).part)) ++ ([.slice A217 ((buildM m (refineP (setsM m))).next).length c217, .slice A219 ((buildM m (refineP (setsM m))).final).length c219] : List Value)).toArray, .int .i64 (errB m (refineP (setsM m)))]) rfl (by decide +kernel) rfl rfl (x_move rfl) (of_no rfl) ?_
    refine qd0 (i := 6) (v := .agg ((encPart ((buildM m (refineP (setsM m))).part)) ++ ([.slice A217 ((buildM m (refineP (setsM m))).next).length c217, .slice A219 ((buildM m (refineP (setsM m))).final).length c219] : List Value)).toArray) rfl (by decide +kernel) rfl rfl (x_extract (vs := [.agg ((encPart ((buildM m (refineP (setsM m))).part)) ++ ([.slice A217 ((buildM m (refineP (setsM m))).next).length c217, .slice A219 ((buildM m (refineP (setsM m))).final).length c219] : List Value)).toArray, .int .i64 (errB m (refineP (setsM m)))]) rfl rfl) (of_no rfl) ?_
    refine qd0 (i := 7) (v := .int .i64 (errB m (refineP (setsM m)))) rfl (by decide +kernel) rfl rfl (x_extract (vs := [.agg ((encPart ((buildM m (refineP (setsM m))).part)) ++ ([.slice A217 ((buildM m (refineP (setsM m))).next).length c217, .slice A219 ((buildM m (refineP (setsM m))).final).length c219] : List Value)).toArray, .int .i64 (errB m (refineP (setsM m)))]) rfl rfl) (of_no rfl) ?_
    refine ra_one (i := 9) (by decide +kernel) ?_
    intro wd221 gd221
    have S222 := S220.keep gd221
    have hf223 := spUp gd221 hf214
    have hf224 := spUp gd221 hf215
    have hf225 := spUp gd221 hf216
    obtain ⟨w226, r226, g226, T226⟩ := e_store_all (P := Tryd.prog) (v := .agg ((encPart ((buildM m (refineP (setsM m))).part)) ++ ([.slice A217 ((buildM m (refineP (setsM m))).next).length c217, .slice A219 ((buildM m (refineP (setsM m))).final).length c219] : List Value)).toArray) (vs := ((encPart ((buildM m (refineP (setsM m))).part)) ++ ([.slice A217 ((buildM m (refineP (setsM m))).next).length c217, .slice A219 ((buildM m (refineP (setsM m))).final).length c219] : List Value))) (cs := ((encPart zPart) ++ ([.slice none 0 0, .slice none 0 0] : List Value))) S222 ty35 rfl (len_app (encPart_len ok212_0) rfl) (len_app (encPart_len (okPart_zero)) rfl) (j := 1) rfl (one_app (encPart_one _) (by simp [Value.oneCell']))
    have S227 := T226.fx 1 (box b191 35 ((encPart ((buildM m (refineP (setsM m))).part)) ++ ([.slice A217 ((buildM m (refineP (setsM m))).next).length c217, .slice A219 ((buildM m (refineP (setsM m))).final).length c219] : List Value))) rfl
    dsimp only [lAa, lAn, lA0, lAs] at S227
    have hf228 : (LeadsS kSet A203 (setsM m)).1 w226 := (ld203.mono ((Le.refl _).trans (lf219_2.trans S227.ghost)))
    have hf229 : (CFs ⟨b1, 0, none⟩ [.slice A0_0 m.spots.length c0_0, .slice A0_1 m.first.length c0_1, .slice A0_2 m.follow.length c0_2, .slice A0_3 m.last.length c0_3, .bool m.empty]).1 w226 := (CF.box (m := 5) (S227.box_at (j := 0) rfl) rfl)
    have hf230 : (CFs ⟨b1, 0, none⟩ [.slice A0_0 m.spots.length c0_0, .slice A0_1 m.first.length c0_1, .slice A0_2 m.follow.length c0_2, .slice A0_3 m.last.length c0_3, .bool m.empty]).1 w226 := (CF.box (m := 5) (S227.box_at (j := 0) rfl) rfl)
    refine d_s rfl rfl (x_store rfl rfl r226) (.inr (keep_w (by decide +kernel) (keep_w (by decide +kernel) (keep_w (by decide +kernel) trivial)))) ?_
    refine qd0 (i := 10) (v := .int .i64 (errB m (refineP (setsM m)))) rfl (by decide +kernel) rfl rfl (x_assign rfl) (of_no rfl) ?_
    refine ra_done (by decide +kernel) ?_
    intro wd231 gd231
    have S232 := S227.keep gd231
    exact jn65 _ _ ⟨h219, b191, A217, c217, A219, c219, lf219_0, S232.sub [0, 1] (by decide) rfl _ rfl, rfl, rfl, rfl, rfl, rfl, sz9_0, in212_1, ok212_0, (And.intro lc217 cm217), (ld217.mono le219), (And.intro lc219 cm219), ld219⟩
end Go.Proofs.YtfoemogojbnfhaaDoor
