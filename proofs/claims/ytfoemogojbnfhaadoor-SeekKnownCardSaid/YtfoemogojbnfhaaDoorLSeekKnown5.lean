/- My own library for walks through the translated code, and the walks of the functions that the law SeekKnown comes to, part 6; no conditions but those that each contract tells. -/
import Derived.ProofKit
import Derived.OpenShut
import Derived.ShutString
import Derived.ChangeOld
import Derived.Below
import Derived.DataElems
import Derived.Test.YtfoemogojbnfhaaDoorLSeekKnown4
namespace Go.Proofs.YtfoemogojbnfhaaDoor
open Go Go.RowKit Gx
set_option maxHeartbeats 1000000
set_option linter.unusedVariables false
set_option linter.unusedSimpArgs false
set_option maxRecDepth 8000
attribute [local irreducible] listOf count first someIn has setOf wbits Lib.ctz rises rightM rowOk tab markP intoP behindP runTo endsIn runM anyTo allTo lessL lessW strLt cmpW cmpI orI wordW okW wordS wordT revTo leL
theorem key3 : KeyK Tryd.prog 3 (fun x : Int => Value.int .i64 x) := keyk_int u3
theorem path_calls (w : World) (m : Mach) (A0_0 : Option Addr) (c0_0 : Nat) (b0_0 : m.spots.length ≤ c0_0 ∧ c0_0 ≤ maxLen) (l0_0 : Leads kSpot (hp w) A0_0 m.spots) (A0_1 : Option Addr) (c0_1 : Nat) (b0_1 : m.first.length ≤ c0_1 ∧ c0_1 ≤ maxLen) (l0_1 : Leads (Kd.int .i64) (hp w) A0_1 m.first) (A0_2 : Option Addr) (c0_2 : Nat) (b0_2 : m.follow.length ≤ c0_2 ∧ c0_2 ≤ maxLen) (l0_2 : Leads (Kd.int .i64).slice (hp w) A0_2 m.follow) (A0_3 : Option Addr) (c0_3 : Nat) (b0_3 : m.last.length ≤ c0_3 ∧ c0_3 ≤ maxLen) (l0_3 : Leads Kd.bool (hp w) A0_3 m.last) (tb : Block 0 tzTab w) :
    Calls Tryd.prog 62 #[.agg #[.slice A0_0 m.spots.length c0_0, .slice A0_1 m.first.length c0_1, .slice A0_2 m.follow.length c0_2, .slice A0_3 m.last.length c0_3, .bool m.empty]] w fun e w' => ∃ v, e = .returned v ∧ ∃ (hn : Ghost), St w.heap.size w hn w' [] ∧ v = .tuple #[.string (wordW (runM m)), .bool (okW (runM m))] ∧ (wordW (runM m)).size ≤ maxLen ∧ ((okW (runM m) = true → ((wordW (runM m)).size : Int) ≤ m.spots.length) ∧ (okW (runM m) = false → ∀ w, runM m w = false)) := by
 refine calls_of_run Tryd.func62 rfl Tryd.ntmps62 rfl ?_
 have S0 := St.init w
 have bb0_0 := b0_0.1; have bc0_0 := b0_0.2; simp only [maxLen] at bc0_0
 have bb0_1 := b0_1.1; have bc0_1 := b0_1.2; simp only [maxLen] at bc0_1
 have bb0_2 := b0_2.1; have bc0_2 := b0_2.2; simp only [maxLen] at bc0_2
 have bb0_3 := b0_3.1; have bc0_3 := b0_3.2; simp only [maxLen] at bc0_3
 refine run_seq ?_
 refine run_reg (l := [0, 1, 2]) rfl ?_
 obtain ⟨b1, w1, r1, g1, T1⟩ := e_box (P := Tryd.prog) S0 27 (v := .agg #[.slice A0_0 m.spots.length c0_0, .slice A0_1 m.first.length c0_1, .slice A0_2 m.follow.length c0_2, .slice A0_3 m.last.length c0_3, .bool m.empty]) [.slice A0_0 m.spots.length c0_0, .slice A0_1 m.first.length c0_1, .slice A0_2 m.follow.length c0_2, .slice A0_3 m.last.length c0_3, .bool m.empty] rfl
 have S2 := T1
 dsimp only [lAa, lAn, lA0, lAs] at S2
 refine p_v (v := .pointer (some ⟨b1, 0, none⟩)) rfl rfl rfl (x_box rfl r1) ?_
 refine p_v (v := .string (⟨#[]⟩ : ByteArray)) rfl rfl rfl (x_assign rfl) ?_
 refine p_v (v := .bool false) rfl rfl rfl (x_assign rfl) ?_
 refine run_region_end ?_
 refine run_seq ?_
 refine run_block ?_
 refine run_seq ?_
 refine run_reg (l := [0, 1, 2, 3]) rfl ?_
 refine p_v (v := .agg #[.slice A0_0 m.spots.length c0_0, .slice A0_1 m.first.length c0_1, .slice A0_2 m.follow.length c0_2, .slice A0_3 m.last.length c0_3, .bool m.empty]) rfl rfl rfl (x_load (seg := [.slice A0_0 m.spots.length c0_0, .slice A0_1 m.first.length c0_1, .slice A0_2 m.follow.length c0_2, .slice A0_3 m.last.length c0_3, .bool m.empty]) ty27 rfl (by simp) rfl (CF.box (m := 5) (S2.box_at (j := 0) rfl) rfl)) ?_
 refine p_c rfl rfl rfl (y_call (args := [.agg #[.slice A0_0 m.spots.length c0_0, .slice A0_1 m.first.length c0_1, .slice A0_2 m.follow.length c0_2, .slice A0_3 m.last.length c0_3, .bool m.empty]]) ca37 rfl rfl) (rightN_calls w1 m A0_0 c0_0 b0_0 (l0_0.mono (St.le0 S2)) A0_1 c0_1 b0_1 (l0_1.mono (St.le0 S2)) A0_2 c0_2 b0_2 (l0_2.mono (St.le0 S2)) A0_3 c0_3 b0_3 (l0_3.mono (St.le0 S2))) ?_
 rintro _ w3 ⟨h3, T3, rfl⟩
 have S4 := S2.keep (Chg.of_below T3.below)
 refine p_v (v := .bool (!(rightM m))) rfl rfl rfl (x_not rfl) ?_
 refine p_v (v := .bool (!(rightM m))) rfl rfl rfl (x_assign rfl) ?_
 refine run_region_end ?_
 refine run_cond_nsplit (b := rightM m) rfl (fun hc5 => ?_) (fun hc5 => ?_)
 ·skip
  refine run_seq ?_
  refine run_reg (l := [0, 1]) rfl ?_
  refine p_v (v := .string (⟨#[]⟩ : ByteArray)) rfl rfl rfl (x_assign rfl) ?_
  refine p_v (v := .bool false) rfl rfl rfl (x_assign rfl) ?_
  refine run_region_end ?_
  refine run_ret Tryd.func62 (res2 rfl (res_tmp (v := .string (⟨#[]⟩ : ByteArray)) rfl) (res_tmp (v := .bool false) rfl)) ?_
  have q0 : (wordW (runM m) : ByteArray) = (⟨#[]⟩ : ByteArray) := by
   first | exact (word_no (fun w => run_wrong m w (by assumption))).1 | exact (word_is (empty_least hrm_ (by assumption))).1 | exact (word_is (lev_found hL_ hR_ he_ hE4_ hd2_).1).1 | exact (word_no (lev_none hL_ hR_ he_ (List.eq_nil_of_length_eq_zero (by omega)))).1
  have q1 : (okW (runM m) : Bool) = false := by
   first | exact (word_no (fun w => run_wrong m w (by assumption))).2 | exact (word_is (empty_least hrm_ (by assumption))).2 | exact (word_is (lev_found hL_ hR_ he_ hE4_ hd2_).1).2 | exact (word_no (lev_none hL_ hR_ he_ (List.eq_nil_of_length_eq_zero (by omega)))).2
  refine ⟨_, rfl, (fun _ => none), ?_, ?_, ?_, ?_⟩
  · exact S4.sub [] (by decide) rfl _ rfl
  · first | rfl | (simp only [q0, q1]; rfl) | (simp only [q0, q1])
  · rw [q0]; first | assumption | exact (by decide)
  ·show (okW (runM m) = true → ((wordW (runM m)).size : Int) ≤ m.spots.length) ∧ (okW (runM m) = false → ∀ w, runM m w = false)
   first | exact path_size0 (fun w => run_wrong m w (by assumption)) | exact path_size (empty_least hrm_ (by assumption)) (by show (0 : Int) ≤ _; omega) | exact path_size (lev_found hL_ hR_ he_ hE4_ hd2_).1 (by rw [(lev_found hL_ hR_ he_ hE4_ hd2_).2]; exact lev_less hL_ hne_) | exact path_size0 (lev_none hL_ hR_ he_ (List.eq_nil_of_length_eq_zero (by omega)))
 ·skip
  have hrm_ := hc5; have hR_ := right_iff.1 hc5
  have hsm_ := hR_.small; have hfo_ := hR_.follow; have hla_ := hR_.last
  refine run_seq ?_
  refine run_reg (l := [0, 1, 2]) rfl ?_
  refine p_v (v := .pointer (some ⟨b1, 4, none⟩)) rfl rfl rfl (x_fieldAt fd27_4 ty4 rfl rfl) ?_
  refine p_v (v := .bool m.empty) rfl rfl rfl (x_load (seg := [.bool m.empty]) ty4 rfl (by simp) rfl (CF.box (m := 1) (S4.box_at (j := 0) rfl) rfl)) ?_
  refine p_v (v := .bool m.empty) rfl rfl rfl (x_assign rfl) ?_
  refine run_region_end ?_
  refine run_cond_split (b := m.empty) rfl (fun hc6 => ?_) (fun hc6 => ?_)
  ·skip
   refine run_seq ?_
   refine run_reg (l := [0, 1]) rfl ?_
   refine p_v (v := .string (⟨#[]⟩ : ByteArray)) rfl rfl rfl (x_assign rfl) ?_
   refine p_v (v := .bool true) rfl rfl rfl (x_assign rfl) ?_
   refine run_region_end ?_
   refine run_ret Tryd.func62 (res2 rfl (res_tmp (v := .string (⟨#[]⟩ : ByteArray)) rfl) (res_tmp (v := .bool true) rfl)) ?_
   have q0 : (wordW (runM m) : ByteArray) = (⟨#[]⟩ : ByteArray) := by
    first | exact (word_no (fun w => run_wrong m w (by assumption))).1 | exact (word_is (empty_least hrm_ (by assumption))).1 | exact (word_is (lev_found hL_ hR_ he_ hE4_ hd2_).1).1 | exact (word_no (lev_none hL_ hR_ he_ (List.eq_nil_of_length_eq_zero (by omega)))).1
   have q1 : (okW (runM m) : Bool) = true := by
    first | exact (word_no (fun w => run_wrong m w (by assumption))).2 | exact (word_is (empty_least hrm_ (by assumption))).2 | exact (word_is (lev_found hL_ hR_ he_ hE4_ hd2_).1).2 | exact (word_no (lev_none hL_ hR_ he_ (List.eq_nil_of_length_eq_zero (by omega)))).2
   refine ⟨_, rfl, (fun _ => none), ?_, ?_, ?_, ?_⟩
   · exact S4.sub [] (by decide) rfl _ rfl
   · first | rfl | (simp only [q0, q1]; rfl) | (simp only [q0, q1])
   · rw [q0]; first | assumption | exact (by decide)
   ·show (okW (runM m) = true → ((wordW (runM m)).size : Int) ≤ m.spots.length) ∧ (okW (runM m) = false → ∀ w, runM m w = false)
    first | exact path_size0 (fun w => run_wrong m w (by assumption)) | exact path_size (empty_least hrm_ (by assumption)) (by show (0 : Int) ≤ _; omega) | exact path_size (lev_found hL_ hR_ he_ hE4_ hd2_).1 (by rw [(lev_found hL_ hR_ he_ hE4_ hd2_).2]; exact lev_less hL_ hne_) | exact path_size0 (lev_none hL_ hR_ he_ (List.eq_nil_of_length_eq_zero (by omega)))
  ·skip
   have he_ := hc6
   refine run_skip ?_
   refine run_inBlock ?_
   refine run_seq ?_
   refine run_reg (l := [0, 1, 2, 3, 4]) rfl ?_
   refine p_v (v := .pointer (some ⟨b1, 0, none⟩)) rfl rfl rfl (x_fieldAt fd27_0 ty22 rfl rfl) ?_
   refine p_v (v := .slice A0_0 m.spots.length c0_0) rfl rfl rfl (x_load (seg := [.slice A0_0 m.spots.length c0_0]) ty22 rfl (by simp) rfl (CF.box (m := 1) (S4.box_at (j := 0) rfl) rfl)) ?_
   refine p_v (v := .int .i64 (m.spots.length : Int)) rfl rfl rfl (x_len_slice u22 rfl) ?_
   obtain ⟨v7, w7, r7, g7, T7⟩ := e_make (kk := .i64) (kk' := .i64) (kd := Kd.bool) (q := (m.spots.length : Int)) (z := false) (zc := [.bool false]) S4 u25 ty4 rfl rfl ⟨rfl, trivial⟩ (by first|omega|(simp;omega)|assumption|simp) (by first|omega|(simp;omega)|assumption|simp) (by first|omega|(simp;omega)|assumption|simp)
   have S8 := T7
   dsimp only [lAa, lAn, lA0, lAs] at S8
   refine p_v (v := v7) rfl rfl rfl (x_make rfl rfl r7) ?_
   refine p_v (v := v7) rfl rfl rfl (x_assign rfl) ?_
   refine run_region_end ?_
   refine run_seq ?_
   refine run_reg (l := [0, 1]) rfl ?_
   obtain ⟨b9, w9, r9, g9, T9⟩ := e_makeMap (P := Tryd.prog) S8 169 (fun x : Int => Value.int .i64 x) (fun x : ByteArray => Value.string x)
   have S10 := T9
   dsimp only [lAa, lAn, lA0, lAs] at S10
   refine p_v (v := .map (some b9)) rfl rfl rfl (x_makeMap r9) ?_
   refine p_v (v := .map (some b9)) rfl rfl rfl (x_assign rfl) ?_
   refine run_region_end ?_
   refine run_seq ?_
   refine run_seq ?_
   refine run_reg (l := [0, 1, 2, 3]) rfl ?_
   refine p_v (v := .pointer (some ⟨b1, 1, none⟩)) rfl rfl rfl (x_fieldAt fd27_1 ty23 rfl rfl) ?_
   refine p_v (v := .slice A0_1 m.first.length c0_1) rfl rfl rfl (x_load (seg := [.slice A0_1 m.first.length c0_1]) ty23 rfl (by simp) rfl (CF.box (m := 1) (S10.box_at (j := 0) rfl) rfl)) ?_
   refine p_v (v := .int .i64 (m.first.length : Int)) rfl rfl rfl (x_len_slice u23 rfl) ?_
   refine p_v (v := .int .i64 0) rfl rfl rfl (x_move rfl) ?_
   refine run_region_end ?_
   refine run_block ?_
   refine run_loop (S := (List (Int × ByteArray)) × Int) (fun (q_ : (List (Int × ByteArray)) × Int) ρ w' => match q_ with | (xat, t31) => ∃ (h : Ghost), Le (fun _ => none) h ∧ St w.heap.size w h w' [box b1 27 [.slice A0_0 m.spots.length c0_0, .slice A0_1 m.first.length c0_1, .slice A0_2 m.follow.length c0_2, .slice A0_3 m.last.length c0_3, .bool m.empty], row 4 Kd.bool v7 (List.replicate ((m.spots.length : Int)).toNat false), amap (fun x : Int => Value.int .i64 x) (fun x : ByteArray => Value.string x) b9 xat] ∧ ρ 1 = .pointer (some ⟨b1, 0, none⟩) ∧ ρ 4 = v7 ∧ ρ 5 = .map (some b9) ∧ ρ 29 = .slice A0_1 m.first.length c0_1 ∧ ρ 30 = .int .i64 (m.first.length : Int) ∧ ρ 31 = .int .i64 t31 ∧ inK .i64 t31 ∧ (0 ≤ t31 ∧ t31 ≤ (m.first.length : Int) ∧ Off 1 (O1 m t31) xat)) (fun q_ => match q_ with | (xat, t31) => (m.first.length - t31).toNat) (([] : List (Int × ByteArray)), 0) ⟨(fun _ => none), Le.refl _, S10.sub [0, 1, 2] (by decide) rfl _ rfl, rfl, rfl, rfl, rfl, rfl, rfl, (in_i64 (by first|omega|(simp;omega)|assumption|simp) (by first|omega|(simp;omega)|assumption|simp)), (by exact ⟨by omega, by omega, o1_0 m⟩)⟩ ?_
   rintro ⟨xat, t31⟩ ih11 ρ11 w11 ⟨h11, le11, S11, r11_1, r11_4, r11_5, r11_29, r11_30, r11_31, f11_0, hI11⟩
   have lf11_0 := i64_lo f11_0; have hf11_0 := i64_hi f11_0
   have rl11_1 := S11.row_le (j := 1) rfl; simp only [maxLen] at rl11_1
   have hx0_ : t31 < (m.first.length : Int) → 0 ≤ at_ m.first t31 ∧ at_ m.first t31 < (m.spots.length : Int) := fun h => hR_.firsts _ (at_mem hI11.1 h)
   refine run_seq ?_
   refine run_reg (l := [0]) rfl ?_
   refine p_v (v := .bool (decide (t31 < (m.first.length : Int)))) rfl rfl rfl (x_lss r11_31 r11_30) ?_
   refine run_region_end ?_
   refine run_seq ?_
   refine run_cond_prop (p := t31 < (m.first.length : Int)) rfl (fun hc12 => ?_) (fun hc12 => ?_)
   ·skip
    refine run_skip ?_
    refine run_seq ?_
    refine run_block ?_
    refine run_seq ?_
    refine run_reg (l := [0, 1, 2]) rfl ?_
    obtain ⟨ad13, seg13, a13, rp13, ce13⟩ := e_index_ro (q := t31) (m := 1) l0_1 rfl (by first|omega|(simp;omega)|assumption|simp) (by first|omega|(simp;omega)|assumption|simp)
    refine p_v (v := .pointer (some ad13)) rfl rfl rfl (x_index_ro u23 ty3 r11_29 r11_31 a13 (by first|omega|(simp;omega)|assumption|simp) (by first|omega|(simp;omega)|assumption|simp)) ?_
    obtain ⟨rfl, in13⟩ := rp13
    have lo13 := i64_lo in13; have hi13 := i64_hi in13
    refine p_v (v := .int .i64 (at_ m.first t31)) rfl rfl rfl (x_load (seg := [.int .i64 (at_ m.first t31)]) ty3 rfl (by simp) rfl (CF.ghost ce13 (St.le0 S11))) ?_
    refine p_v (v := .int .i64 (at_ m.first t31)) rfl rfl rfl (x_assign rfl) ?_
    refine run_region_end ?_
    refine run_reg (l := [0, 1, 2, 3]) rfl ?_
    refine p_v (v := .map (some b9)) rfl rfl rfl (x_move r11_5) ?_
    refine p_v (v := .agg #[.slice A0_0 m.spots.length c0_0, .slice A0_1 m.first.length c0_1, .slice A0_2 m.follow.length c0_2, .slice A0_3 m.last.length c0_3, .bool m.empty]) rfl rfl rfl (x_load (seg := [.slice A0_0 m.spots.length c0_0, .slice A0_1 m.first.length c0_1, .slice A0_2 m.follow.length c0_2, .slice A0_3 m.last.length c0_3, .bool m.empty]) ty27 rfl (by simp) r11_1 (CF.box (m := 5) (S11.box_at (j := 0) rfl) rfl)) ?_
    refine p_v (v := .int .i64 (at_ m.first t31)) rfl rfl rfl (x_move rfl) ?_
    refine p_i rfl rfl rfl (y_call (args := [.map (some b9), .agg #[.slice A0_0 m.spots.length c0_0, .slice A0_1 m.first.length c0_1, .slice A0_2 m.follow.length c0_2, .slice A0_3 m.last.length c0_3, .bool m.empty], .int .i64 (at_ m.first t31), .string (⟨#[]⟩ : ByteArray)]) ca124 rfl rfl) (calls_of_run Tryd.func124 rfl Tryd.ntmps124 rfl ?_)
    refine run_seq ?_
    refine run_reg (l := [0]) rfl ?_
    obtain ⟨b14, w14, r14, g14, T14⟩ := e_box (P := Tryd.prog) S11 27 (v := .agg #[.slice A0_0 m.spots.length c0_0, .slice A0_1 m.first.length c0_1, .slice A0_2 m.follow.length c0_2, .slice A0_3 m.last.length c0_3, .bool m.empty]) [.slice A0_0 m.spots.length c0_0, .slice A0_1 m.first.length c0_1, .slice A0_2 m.follow.length c0_2, .slice A0_3 m.last.length c0_3, .bool m.empty] rfl
    have S15 := T14
    dsimp only [lAa, lAn, lA0, lAs] at S15
    refine p_v (v := .pointer (some ⟨b14, 0, none⟩)) rfl rfl rfl (x_box rfl r14) ?_
    refine run_region_end ?_
    refine run_seq ?_
    refine run_reg (l := [0, 1, 2, 3, 4, 5, 6, 7, 8, 9, 10, 11]) rfl ?_
    refine p_v (v := .pointer (some ⟨b14, 0, none⟩)) rfl rfl rfl (x_fieldAt fd27_0 ty22 rfl rfl) ?_
    refine p_v (v := .slice A0_0 m.spots.length c0_0) rfl rfl rfl (x_load (seg := [.slice A0_0 m.spots.length c0_0]) ty22 rfl (by simp) rfl (CF.box (m := 1) (S15.box_at (j := 3) rfl) rfl)) ?_
    refine p_v (v := .int .i64 (at_ m.first t31)) rfl rfl rfl (x_move rfl) ?_
    obtain ⟨ad16, seg16, a16, rp16, ce16⟩ := e_index_ro (q := at_ m.first t31) (m := 5) l0_0 rfl (by first|omega|(simp;omega)|assumption|simp) (by first|omega|(simp;omega)|assumption|simp)
    refine p_v (v := .pointer (some ad16)) rfl rfl rfl (x_index_ro u22 ty101 rfl rfl a16 (by first|omega|(simp;omega)|assumption|simp) (by first|omega|(simp;omega)|assumption|simp)) ?_
    obtain ⟨rfl, ok16⟩ := rp16
    have slook16 := u8_lo ok16; have shiok16 := u8_hi ok16
    refine p_v (v := .pointer (some (ad16.add 0))) rfl rfl rfl (x_fieldAd fd101_0 ty74 rfl rfl) ?_
    refine p_v (v := .agg (encSet ((at_ m.spots (at_ m.first t31)).set)).toArray) rfl rfl rfl (x_load (seg := (encSet ((at_ m.spots (at_ m.first t31)).set))) ty74 rfl (by simp) rfl (CF.ghost (sub_seg (o := 0) (m := 4) (ds := (encSet ((at_ m.spots (at_ m.first t31)).set))) ce16 rfl) (St.le0 S15))) ?_
    refine p_c rfl rfl rfl (y_call (args := [.agg (encSet ((at_ m.spots (at_ m.first t31)).set)).toArray]) ca158 rfl rfl) (first_calls w14 ((at_ m.spots (at_ m.first t31)).set) (Block.st S15 tb)) ?_
    rintro _ w18 ⟨h18, T18, rfl, in18_0⟩
    have S19 := S15.keep (Chg.of_below T18.below)
    have lo_in18_0 := u8_lo in18_0; have hi_in18_0 := u8_hi in18_0
    refine p_v (v := .tuple #[.int .u8 (first ((at_ m.spots (at_ m.first t31)).set)), .bool (someIn ((at_ m.spots (at_ m.first t31)).set))]) rfl rfl rfl (x_move rfl) ?_
    refine p_v (v := .int .u8 (first ((at_ m.spots (at_ m.first t31)).set))) rfl rfl rfl (x_extract (vs := [.int .u8 (first ((at_ m.spots (at_ m.first t31)).set)), .bool (someIn ((at_ m.spots (at_ m.first t31)).set))]) rfl rfl) ?_
    refine p_v (v := .bool (someIn ((at_ m.spots (at_ m.first t31)).set))) rfl rfl rfl (x_extract (vs := [.int .u8 (first ((at_ m.spots (at_ m.first t31)).set)), .bool (someIn ((at_ m.spots (at_ m.first t31)).set))]) rfl rfl) ?_
    refine p_v (v := .int .u8 (first ((at_ m.spots (at_ m.first t31)).set))) rfl rfl rfl (x_assign rfl) ?_
    refine p_v (v := .bool (someIn ((at_ m.spots (at_ m.first t31)).set))) rfl rfl rfl (x_assign rfl) ?_
    refine run_region_end ?_
    refine run_seq ?_
    refine run_seq ?_
    refine run_reg (l := [0, 1]) rfl ?_
    refine p_v (v := .bool (someIn ((at_ m.spots (at_ m.first t31)).set))) rfl rfl rfl (x_move rfl) ?_
    refine p_v (v := .bool (!(someIn ((at_ m.spots (at_ m.first t31)).set)))) rfl rfl rfl (x_not rfl) ?_
    refine run_region_end ?_
    refine run_cond_nsplit (b := someIn ((at_ m.spots (at_ m.first t31)).set)) rfl (fun hc20 => ?_) (fun hc20 => ?_)
    ·skip
     refine run_ret Tryd.func124 (res0 rfl) ?_
     refine ⟨_, rfl, ?_⟩
     refine run_region_end ?_
     refine run_inBlock ?_
     refine run_reg (l := [0, 1]) rfl ?_
     refine p_v (v := .int .i64 (t31 + 1)) rfl rfl rfl (x_add r11_31 rfl (in_i64 (by first|omega|(simp;omega)|assumption|simp) (by first|omega|(simp;omega)|assumption|simp))) ?_
     refine p_v (v := .int .i64 (t31 + 1)) rfl rfl rfl (x_move rfl) ?_
     refine run_region_end ?_
     refine ih11 (xat, t31 + 1) _ _ (by dsimp only; omega) ⟨h11, le11, S19.sub [0, 1, 2] (by decide) rfl _ rfl, r11_1, r11_4, r11_5, r11_29, r11_30, rfl, (in_i64 (by first|omega|(simp;omega)|assumption|simp) (by first|omega|(simp;omega)|assumption|simp)), (by first | exact ⟨by omega, by omega, o1_none hI11.2.2 (by assumption)⟩ | exact ⟨by omega, by omega, o1_put hI11.1 hI11.2.2 (by assumption) (.inl (by assumption))⟩ | exact ⟨by omega, by omega, o1_put hI11.1 hI11.2.2 (by assumption) (.inr (by assumption))⟩ | exact ⟨by omega, by omega, o1_keep hI11.1 hI11.2.2 (by assumption) (by assumption) (by assumption)⟩)⟩
    ·skip
     refine run_skip ?_
     refine run_seq ?_
     refine run_reg (l := [0, 1, 2, 3, 4, 5]) rfl ?_
     refine p_v (v := .string (⟨#[]⟩ : ByteArray)) rfl rfl rfl (x_move rfl) ?_
     refine p_v (v := .int .u8 (first ((at_ m.spots (at_ m.first t31)).set))) rfl rfl rfl (x_move rfl) ?_
     obtain ⟨v21, w21, r21, g21, T21⟩ := e_build_ones (kd := (Kd.int .u8)) (xs := ([first ((at_ m.spots (at_ m.first t31)).set)] : List Int)) (len := 1) [.int .u8 (first ((at_ m.spots (at_ m.first t31)).set))] S19 u39 ty5 rfl rfl rfl rfl rfl (ones_cons rfl ones_nil) [.int .u8 (first ((at_ m.spots (at_ m.first t31)).set))] (Elems.single (k := (Kd.int .u8)) (h := h11) (x := first ((at_ m.spots (at_ m.first t31)).set)) (cs := [.int .u8 (first ((at_ m.spots (at_ m.first t31)).set))]) ⟨rfl, in18_0⟩) rfl
     have S22 := T21
     dsimp only [lAa, lAn, lA0, lAs] at S22
     refine p_v (v := v21) rfl rfl rfl (y_build_slice (pv := [(0, .int .u8 (first ((at_ m.spots (at_ m.first t31)).set)))]) rfl r21) ?_
     obtain ⟨A23, c23, ev23, lc23, cm23⟩ := S22.row_val (j := 4) rfl
     have sz24 := str_small (xs := ([first ((at_ m.spots (at_ m.first t31)).set)] : List Int)) (Nat.le_trans (And.intro lc23 cm23).1 (And.intro lc23 cm23).2); have bdsz24 := sz24; simp only [maxLen] at bdsz24
     refine p_v (v := .string (strOfNums ([first ((at_ m.spots (at_ m.first t31)).set)] : List Int))) rfl rfl rfl (x_bytes_string u39 u5 u9 ev23 (row_leads_eq S22 (j := 4) rfl ev23)) ?_
     have sb25 : (⟨#[]⟩ : ByteArray).size + (strOfNums ([first ((at_ m.spots (at_ m.first t31)).set)] : List Int)).size ≤ 9223372036854775807 := by first | omega | (simp only [str_one]; omega) | (simp only [str_one, size_nil]; omega)
     have sz25 : ((⟨#[]⟩ : ByteArray) ++ (strOfNums ([first ((at_ m.spots (at_ m.first t31)).set)] : List Int))).size ≤ maxLen := by rw [size_add]; unfold maxLen; exact sb25
     have st25 := size_add (⟨#[]⟩ : ByteArray) (strOfNums ([first ((at_ m.spots (at_ m.first t31)).set)] : List Int))
     refine p_v (v := .string ((⟨#[]⟩ : ByteArray) ++ (strOfNums ([first ((at_ m.spots (at_ m.first t31)).set)] : List Int)))) rfl rfl rfl (x_add_str rfl rfl sb25) ?_
     refine p_v (v := .string ((⟨#[]⟩ : ByteArray) ++ (strOfNums ([first ((at_ m.spots (at_ m.first t31)).set)] : List Int)))) rfl rfl rfl (x_assign rfl) ?_
     refine run_region_end ?_
     refine run_seq ?_
     refine run_reg (l := [0, 1, 2, 3, 4, 5, 6, 7]) rfl ?_
     refine p_v (v := .map (some b9)) rfl rfl rfl (x_move rfl) ?_
     refine p_v (v := .int .i64 (at_ m.first t31)) rfl rfl rfl (x_move rfl) ?_
     have sz26 : ((valAt (at_ m.first t31) xat).getD (⟨#[]⟩ : ByteArray)).size ≤ maxLen := by
      first | (have hz_ := val_size hI_.2.2 (n := (at_ m.first t31)) (by omega); unfold maxLen; omega) | (have hz_ := val_size hI11.2.2 (n := (at_ m.first t31)) (by omega); unfold maxLen; omega)
     refine p_v (v := .tuple #[.string ((valAt (at_ m.first t31) xat).getD (⟨#[]⟩ : ByteArray)), .bool ((valAt (at_ m.first t31) xat).isSome)]) rfl rfl rfl (x_lookup (a := .map (some b9)) (k := .int .i64 (at_ m.first t31)) rfl rfl (e_lookup_h (kvs := xat) key3 (S22.map_at (j := 2) rfl) u169 (zero_cells ty9) (⟨#[]⟩ : ByteArray) (at_ m.first t31))) ?_
     refine p_v (v := .tuple #[.string ((valAt (at_ m.first t31) xat).getD (⟨#[]⟩ : ByteArray)), .bool ((valAt (at_ m.first t31) xat).isSome)]) rfl rfl rfl (x_move rfl) ?_
     refine p_v (v := .string ((valAt (at_ m.first t31) xat).getD (⟨#[]⟩ : ByteArray))) rfl rfl rfl (x_extract (vs := [.string ((valAt (at_ m.first t31) xat).getD (⟨#[]⟩ : ByteArray)), .bool ((valAt (at_ m.first t31) xat).isSome)]) rfl rfl) ?_
     refine p_v (v := .bool ((valAt (at_ m.first t31) xat).isSome)) rfl rfl rfl (x_extract (vs := [.string ((valAt (at_ m.first t31) xat).getD (⟨#[]⟩ : ByteArray)), .bool ((valAt (at_ m.first t31) xat).isSome)]) rfl rfl) ?_
     refine p_v (v := .string ((valAt (at_ m.first t31) xat).getD (⟨#[]⟩ : ByteArray))) rfl rfl rfl (x_assign rfl) ?_
     refine p_v (v := .bool ((valAt (at_ m.first t31) xat).isSome)) rfl rfl rfl (x_assign rfl) ?_
     refine run_region_end ?_
     refine run_seq ?_
     refine run_reg (l := [0, 1, 2, 3, 4, 5, 6]) rfl ?_
     refine p_v (v := .bool ((valAt (at_ m.first t31) xat).isSome)) rfl rfl rfl (x_move rfl) ?_
     refine p_v (v := .bool (!((valAt (at_ m.first t31) xat).isSome))) rfl rfl rfl (x_not rfl) ?_
     refine p_v (v := .bool (!((valAt (at_ m.first t31) xat).isSome))) rfl rfl rfl (x_move rfl) ?_
     rcases Bool.eq_false_or_eq_true ((valAt (at_ m.first t31) xat).isSome) with hc27 | hc27
     ·skip
      refine p_v (v := .string ((⟨#[]⟩ : ByteArray) ++ (strOfNums ([first ((at_ m.spots (at_ m.first t31)).set)] : List Int)))) rfl (wanted_of (j := 2) (want := false) (d := 38) (b := false) rfl rfl (congrArg (fun z => Value.bool (!z)) hc27) rfl) rfl (x_move rfl) ?_
      refine p_v (v := .string ((valAt (at_ m.first t31) xat).getD (⟨#[]⟩ : ByteArray))) rfl (wanted_of (j := 2) (want := false) (d := 38) (b := false) rfl rfl (congrArg (fun z => Value.bool (!z)) hc27) rfl) rfl (x_move rfl) ?_
      refine p_v (v := .bool (strLt ((⟨#[]⟩ : ByteArray) ++ (strOfNums ([first ((at_ m.spots (at_ m.first t31)).set)] : List Int))) ((valAt (at_ m.first t31) xat).getD (⟨#[]⟩ : ByteArray)))) rfl (wanted_of (j := 2) (want := false) (d := 38) (b := false) rfl rfl (congrArg (fun z => Value.bool (!z)) hc27) rfl) rfl (x_lss_string rfl rfl) ?_
      refine p_v (v := .bool (strLt ((⟨#[]⟩ : ByteArray) ++ (strOfNums ([first ((at_ m.spots (at_ m.first t31)).set)] : List Int))) ((valAt (at_ m.first t31) xat).getD (⟨#[]⟩ : ByteArray)))) rfl rfl rfl (x_pick_f (congrArg (fun z => Value.bool (!z)) hc27) rfl) ?_
      refine run_region_end ?_
      refine run_cond_split (b := strLt ((⟨#[]⟩ : ByteArray) ++ (strOfNums ([first ((at_ m.spots (at_ m.first t31)).set)] : List Int))) ((valAt (at_ m.first t31) xat).getD (⟨#[]⟩ : ByteArray))) rfl (fun hc28 => ?_) (fun hc28 => ?_)
      ·skip
       refine run_reg (l := [0, 1, 2, 3]) rfl ?_
       refine p_v (v := .map (some b9)) rfl rfl rfl (x_move rfl) ?_
       refine p_v (v := .int .i64 (at_ m.first t31)) rfl rfl rfl (x_move rfl) ?_
       refine p_v (v := .string ((⟨#[]⟩ : ByteArray) ++ (strOfNums ([first ((at_ m.spots (at_ m.first t31)).set)] : List Int)))) rfl rfl rfl (x_move rfl) ?_
       obtain ⟨w29, r29, g29, T29⟩ := e_mapUpdate key3 S22 (j := 2) rfl u169 (at_ m.first t31) ((⟨#[]⟩ : ByteArray) ++ (strOfNums ([first ((at_ m.spots (at_ m.first t31)).set)] : List Int)))
       have S30 := T29.fx 2 (amap (fun x : Int => Value.int .i64 x) (fun x : ByteArray => Value.string x) b9 (putAt (at_ m.first t31) ((⟨#[]⟩ : ByteArray) ++ (strOfNums ([first ((at_ m.spots (at_ m.first t31)).set)] : List Int))) xat)) rfl
       dsimp only [lAa, lAn, lA0, lAs] at S30
       refine p_s rfl rfl (x_mapUpdate rfl rfl rfl r29) ?_
       refine run_region_end ?_
       refine run_end Tryd.func124 (res0 rfl) ?_
       refine ⟨_, rfl, ?_⟩
       refine run_region_end ?_
       refine run_inBlock ?_
       refine run_reg (l := [0, 1]) rfl ?_
       refine p_v (v := .int .i64 (t31 + 1)) rfl rfl rfl (x_add r11_31 rfl (in_i64 (by first|omega|(simp;omega)|assumption|simp) (by first|omega|(simp;omega)|assumption|simp))) ?_
       refine p_v (v := .int .i64 (t31 + 1)) rfl rfl rfl (x_move rfl) ?_
       refine run_region_end ?_
       refine ih11 (putAt (at_ m.first t31) ((⟨#[]⟩ : ByteArray) ++ (strOfNums ([first ((at_ m.spots (at_ m.first t31)).set)] : List Int))) xat, t31 + 1) _ _ (by dsimp only; omega) ⟨h11, le11, S30.sub [0, 1, 2] (by decide) rfl _ rfl, r11_1, r11_4, r11_5, r11_29, r11_30, rfl, (in_i64 (by first|omega|(simp;omega)|assumption|simp) (by first|omega|(simp;omega)|assumption|simp)), (by first | exact ⟨by omega, by omega, o1_none hI11.2.2 (by assumption)⟩ | exact ⟨by omega, by omega, o1_put hI11.1 hI11.2.2 (by assumption) (.inl (by assumption))⟩ | exact ⟨by omega, by omega, o1_put hI11.1 hI11.2.2 (by assumption) (.inr (by assumption))⟩ | exact ⟨by omega, by omega, o1_keep hI11.1 hI11.2.2 (by assumption) (by assumption) (by assumption)⟩)⟩
      ·skip
       refine run_skip ?_
       refine run_end Tryd.func124 (res0 rfl) ?_
       refine ⟨_, rfl, ?_⟩
       refine run_region_end ?_
       refine run_inBlock ?_
       refine run_reg (l := [0, 1]) rfl ?_
       refine p_v (v := .int .i64 (t31 + 1)) rfl rfl rfl (x_add r11_31 rfl (in_i64 (by first|omega|(simp;omega)|assumption|simp) (by first|omega|(simp;omega)|assumption|simp))) ?_
       refine p_v (v := .int .i64 (t31 + 1)) rfl rfl rfl (x_move rfl) ?_
       refine run_region_end ?_
       refine ih11 (xat, t31 + 1) _ _ (by dsimp only; omega) ⟨h11, le11, S22.sub [0, 1, 2] (by decide) rfl _ rfl, r11_1, r11_4, r11_5, r11_29, r11_30, rfl, (in_i64 (by first|omega|(simp;omega)|assumption|simp) (by first|omega|(simp;omega)|assumption|simp)), (by first | exact ⟨by omega, by omega, o1_none hI11.2.2 (by assumption)⟩ | exact ⟨by omega, by omega, o1_put hI11.1 hI11.2.2 (by assumption) (.inl (by assumption))⟩ | exact ⟨by omega, by omega, o1_put hI11.1 hI11.2.2 (by assumption) (.inr (by assumption))⟩ | exact ⟨by omega, by omega, o1_keep hI11.1 hI11.2.2 (by assumption) (by assumption) (by assumption)⟩)⟩
     ·skip
      refine p_off rfl (wanted_of (j := 2) (want := false) (d := 38) (b := true) rfl rfl (congrArg (fun z => Value.bool (!z)) hc27) rfl) rfl ?_
      refine p_off rfl (wanted_of (j := 2) (want := false) (d := 38) (b := true) rfl rfl (congrArg (fun z => Value.bool (!z)) hc27) rfl) rfl ?_
      refine p_off rfl (wanted_of (j := 2) (want := false) (d := 38) (b := true) rfl rfl (congrArg (fun z => Value.bool (!z)) hc27) rfl) rfl ?_
      refine p_v (v := .bool true) rfl rfl rfl (x_pick_t (congrArg (fun z => Value.bool (!z)) hc27) rfl) ?_
      refine run_region_end ?_
      refine run_cond (b := true) rfl ?_
      simp only [if_true, if_false, Bool.false_eq_true]
      refine run_reg (l := [0, 1, 2, 3]) rfl ?_
      refine p_v (v := .map (some b9)) rfl rfl rfl (x_move rfl) ?_
      refine p_v (v := .int .i64 (at_ m.first t31)) rfl rfl rfl (x_move rfl) ?_
      refine p_v (v := .string ((⟨#[]⟩ : ByteArray) ++ (strOfNums ([first ((at_ m.spots (at_ m.first t31)).set)] : List Int)))) rfl rfl rfl (x_move rfl) ?_
      obtain ⟨w31, r31, g31, T31⟩ := e_mapUpdate key3 S22 (j := 2) rfl u169 (at_ m.first t31) ((⟨#[]⟩ : ByteArray) ++ (strOfNums ([first ((at_ m.spots (at_ m.first t31)).set)] : List Int)))
      have S32 := T31.fx 2 (amap (fun x : Int => Value.int .i64 x) (fun x : ByteArray => Value.string x) b9 (putAt (at_ m.first t31) ((⟨#[]⟩ : ByteArray) ++ (strOfNums ([first ((at_ m.spots (at_ m.first t31)).set)] : List Int))) xat)) rfl
      dsimp only [lAa, lAn, lA0, lAs] at S32
      refine p_s rfl rfl (x_mapUpdate rfl rfl rfl r31) ?_
      refine run_region_end ?_
      refine run_end Tryd.func124 (res0 rfl) ?_
      refine ⟨_, rfl, ?_⟩
      refine run_region_end ?_
      refine run_inBlock ?_
      refine run_reg (l := [0, 1]) rfl ?_
      refine p_v (v := .int .i64 (t31 + 1)) rfl rfl rfl (x_add r11_31 rfl (in_i64 (by first|omega|(simp;omega)|assumption|simp) (by first|omega|(simp;omega)|assumption|simp))) ?_
      refine p_v (v := .int .i64 (t31 + 1)) rfl rfl rfl (x_move rfl) ?_
      refine run_region_end ?_
      refine ih11 (putAt (at_ m.first t31) ((⟨#[]⟩ : ByteArray) ++ (strOfNums ([first ((at_ m.spots (at_ m.first t31)).set)] : List Int))) xat, t31 + 1) _ _ (by dsimp only; omega) ⟨h11, le11, S32.sub [0, 1, 2] (by decide) rfl _ rfl, r11_1, r11_4, r11_5, r11_29, r11_30, rfl, (in_i64 (by first|omega|(simp;omega)|assumption|simp) (by first|omega|(simp;omega)|assumption|simp)), (by first | exact ⟨by omega, by omega, o1_none hI11.2.2 (by assumption)⟩ | exact ⟨by omega, by omega, o1_put hI11.1 hI11.2.2 (by assumption) (.inl (by assumption))⟩ | exact ⟨by omega, by omega, o1_put hI11.1 hI11.2.2 (by assumption) (.inr (by assumption))⟩ | exact ⟨by omega, by omega, o1_keep hI11.1 hI11.2.2 (by assumption) (by assumption) (by assumption)⟩)⟩
   ·skip
    refine run_exit rfl ?_
    refine run_seq ?_
    refine run_block ?_
    refine run_loop (S := (List Bool) × (List (Int × ByteArray))) (fun (q_ : (List Bool) × (List (Int × ByteArray))) ρ w' => match q_ with | (seen, xat2) => ∃ (h : Ghost) (b_at : Nat) (v_seen : Value), Le h11 h ∧ St w.heap.size w h w' [box b1 27 [.slice A0_0 m.spots.length c0_0, .slice A0_1 m.first.length c0_1, .slice A0_2 m.follow.length c0_2, .slice A0_3 m.last.length c0_3, .bool m.empty], row 4 Kd.bool v_seen seen, amap (fun x : Int => Value.int .i64 x) (fun x : ByteArray => Value.string x) b_at xat2] ∧ ρ 1 = .pointer (some ⟨b1, 0, none⟩) ∧ ρ 4 = v_seen ∧ ρ 5 = .map (some b_at) ∧ (∃ t, Lev m seen xat2 t)) (fun q_ => match q_ with | (seen, xat2) => ((m.spots.length : Int) - ((seen.filter id).length : Int)).toNat) (List.replicate ((m.spots.length : Int)).toNat false, xat) ⟨h11, b9, v7, Le.refl _, S11.sub [0, 1, 2] (by decide) rfl _ rfl, r11_1, r11_4, r11_5, (by exact ⟨1, lev_1 hR_ hI11.2.2 (by omega)⟩)⟩ ?_
    rintro ⟨seen, xat2⟩ ih33 ρ33 w33 ⟨h33, b_at, v_seen, le33, S33, r33_1, r33_4, r33_5, hI33⟩
    have rl33_1 := S33.row_le (j := 1) rfl; simp only [maxLen] at rl33_1
    obtain ⟨t_, hL_⟩ := hI33; have hsn_ := hL_.slen; have ht1_ := hL_.t1
    refine run_seq ?_
    refine run_seq ?_
    refine run_reg (l := [0, 1, 2]) rfl ?_
    refine p_v (v := .map (some b_at)) rfl rfl rfl (x_move r33_5) ?_
    refine p_v (v := .int .i64 (xat2.length : Int)) rfl rfl rfl (x_len_map rfl (e_len_map S33 (j := 2) rfl u169)) ?_
    refine p_v (v := .bool (decide (0 < (xat2.length : Int)))) rfl rfl rfl (x_gtr rfl rfl) ?_
    refine run_region_end ?_
    refine run_cond_prop (p := 0 < (xat2.length : Int)) rfl (fun hc34 => ?_) (fun hc34 => ?_)
    ·skip
     have hne_ : xat2 ≠ [] := fun e => by rw [e] at hc34; simp at hc34
     refine run_skip ?_
     refine run_block ?_
     refine run_seq ?_
     refine run_seq ?_
     refine run_reg (l := [0, 1, 2, 3, 4, 5, 6, 7]) rfl ?_
     refine p_v (v := .map (some b_at)) rfl rfl rfl (x_move r33_5) ?_
     refine p_v (v := .agg #[.slice A0_0 m.spots.length c0_0, .slice A0_1 m.first.length c0_1, .slice A0_2 m.follow.length c0_2, .slice A0_3 m.last.length c0_3, .bool m.empty]) rfl rfl rfl (x_load (seg := [.slice A0_0 m.spots.length c0_0, .slice A0_1 m.first.length c0_1, .slice A0_2 m.follow.length c0_2, .slice A0_3 m.last.length c0_3, .bool m.empty]) ty27 rfl (by simp) r33_1 (CF.box (m := 5) (S33.box_at (j := 0) rfl) rfl)) ?_
     refine p_i rfl rfl rfl (y_call (args := [.map (some b_at), .agg #[.slice A0_0 m.spots.length c0_0, .slice A0_1 m.first.length c0_1, .slice A0_2 m.follow.length c0_2, .slice A0_3 m.last.length c0_3, .bool m.empty]]) ca125 rfl rfl) (calls_of_run Tryd.func125 rfl Tryd.ntmps125 rfl ?_)
     refine run_seq ?_
     refine run_reg (l := [0, 1, 2]) rfl ?_
     obtain ⟨b35, w35, r35, g35, T35⟩ := e_box (P := Tryd.prog) S33 27 (v := .agg #[.slice A0_0 m.spots.length c0_0, .slice A0_1 m.first.length c0_1, .slice A0_2 m.follow.length c0_2, .slice A0_3 m.last.length c0_3, .bool m.empty]) [.slice A0_0 m.spots.length c0_0, .slice A0_1 m.first.length c0_1, .slice A0_2 m.follow.length c0_2, .slice A0_3 m.last.length c0_3, .bool m.empty] rfl
     have S36 := T35
     dsimp only [lAa, lAn, lA0, lAs] at S36
     refine p_v (v := .pointer (some ⟨b35, 0, none⟩)) rfl rfl rfl (x_box rfl r35) ?_
     refine p_v (v := .string (⟨#[]⟩ : ByteArray)) rfl rfl rfl (x_assign rfl) ?_
     refine p_v (v := .bool false) rfl rfl rfl (x_assign rfl) ?_
     refine run_region_end ?_
     refine run_seq ?_
     refine run_reg (l := [0, 1]) rfl ?_
     refine p_v (v := .string (⟨#[]⟩ : ByteArray)) rfl rfl rfl (x_assign rfl) ?_
     refine p_v (v := .bool false) rfl rfl rfl (x_assign rfl) ?_
     refine run_region_end ?_
     refine run_seq ?_
     refine run_seq ?_
     refine run_reg (l := [0, 1]) rfl ?_
     refine p_v (v := .map (some b_at)) rfl rfl rfl (x_move rfl) ?_
     obtain ⟨r37, w37, rr37, g37, T37⟩ := e_range (P := Tryd.prog) S36 (j := 2) rfl u169
     have S38 := T37.fx 2 (mit (fun x : Int => Value.int .i64 x) (fun x : ByteArray => Value.string x) b_at r37 xat2 xat2) rfl
     dsimp only [lAa, lAn, lA0, lAs] at S38
     refine p_v (v := .pointer (some ⟨r37, 0, none⟩)) rfl rfl rfl (x_range rfl rr37) ?_
     refine run_region_end ?_
     refine run_block ?_
     refine run_loop (S := (List (Int × ByteArray)) × ByteArray × Bool) (fun (q_ : (List (Int × ByteArray)) × ByteArray × Bool) ρ w' => match q_ with | (left, best, found) => ∃ (h : Ghost), Le h33 h ∧ St w.heap.size w h w' [box b1 27 [.slice A0_0 m.spots.length c0_0, .slice A0_1 m.first.length c0_1, .slice A0_2 m.follow.length c0_2, .slice A0_3 m.last.length c0_3, .bool m.empty], row 4 Kd.bool v_seen seen, mit (fun x : Int => Value.int .i64 x) (fun x : ByteArray => Value.string x) b_at r37 xat2 left, box b35 27 [.slice A0_0 m.spots.length c0_0, .slice A0_1 m.first.length c0_1, .slice A0_2 m.follow.length c0_2, .slice A0_3 m.last.length c0_3, .bool m.empty]] ∧ ρ 3 = .pointer (some ⟨b35, 0, none⟩) ∧ ρ 6 = .string best ∧ ρ 7 = .bool found ∧ ρ 11 = .pointer (some ⟨r37, 0, none⟩) ∧ best.size ≤ maxLen ∧ (∃ done, (done ++ left).Perm xat2 ∧ EndB m done best found)) (fun q_ => match q_ with | (left, best, found) => left.length) (xat2, (⟨#[]⟩ : ByteArray), false) ⟨h33, Le.refl _, S38.sub [0, 1, 2, 3] (by decide) rfl _ rfl, rfl, rfl, rfl, rfl, (by decide), (by exact ⟨[], perm_0 _, endB_0 m⟩)⟩ ?_
     rintro ⟨left, best, found⟩ ih39 ρ39 w39 ⟨h39, le39, S39, r39_3, r39_6, r39_7, r39_11, f39_0, hI39⟩
     have bl39_6 := f39_0; simp only [maxLen] at bl39_6
     have rl39_1 := S39.row_le (j := 1) rfl; simp only [maxLen] at rl39_1
     refine run_seq ?_
     refine run_reg (l := [0, 1]) rfl ?_
     rcases e_next (P := Tryd.prog) (ty := 0) S39 (j := 2) rfl with ⟨hx40, rx40⟩ | ⟨la40, p40, lb40, w40, hx40, rx40, g40, T40⟩
     ·skip
      have T40 := e_over S39 (j := 2) rfl
      have S41 := T40.fx 2 (amap (fun x : Int => Value.int .i64 x) (fun x : ByteArray => Value.string x) b_at xat2) rfl
      dsimp only [lAa, lAn, lA0, lAs] at S41
      refine p_v (v := .tuple #[.bool false]) rfl rfl rfl (x_next r39_11 rx40) ?_
      obtain ⟨dn2_, hq2_, hE2_⟩ := hI39; have hd2_ := perm_end hq2_ hx40
      refine p_v (v := .bool false) rfl rfl rfl (x_extract (vs := [.bool false]) rfl rfl) ?_
      refine run_region_end ?_
      refine run_seq ?_
      refine run_cond (b := false) rfl ?_
      simp only [if_true, if_false, Bool.false_eq_true]
      refine run_exit rfl ?_
      refine run_seq ?_
      refine run_reg (l := [0, 1, 2, 3]) rfl ?_
      refine p_v (v := .string best) rfl rfl rfl (x_move r39_6) ?_
      refine p_v (v := .bool found) rfl rfl rfl (x_move r39_7) ?_
      refine p_v (v := .string best) rfl rfl rfl (x_assign rfl) ?_
      refine p_v (v := .bool found) rfl rfl rfl (x_assign rfl) ?_
      refine run_region_end ?_
      refine run_ret Tryd.func125 (res2 rfl (res_tmp (v := .string best) rfl) (res_tmp (v := .bool found) rfl)) ?_
      refine ⟨_, rfl, ?_⟩
      refine p_v (v := .tuple #[.string best, .bool found]) rfl rfl rfl (x_move rfl) ?_
      refine p_v (v := .string best) rfl rfl rfl (x_extract (vs := [.string best, .bool found]) rfl rfl) ?_
      refine p_v (v := .bool found) rfl rfl rfl (x_extract (vs := [.string best, .bool found]) rfl rfl) ?_
      refine p_v (v := .string best) rfl rfl rfl (x_assign rfl) ?_
      refine p_v (v := .bool found) rfl rfl rfl (x_assign rfl) ?_
      refine run_region_end ?_
      refine run_seq ?_
      refine run_reg (l := [0]) rfl ?_
      refine p_v (v := .bool found) rfl rfl rfl (x_move rfl) ?_
      refine run_region_end ?_
      refine run_cond_split (b := found) rfl (fun hc42 => ?_) (fun hc42 => ?_)
      ·skip
       first | have hE4_ := endB_at hE2_ hc42 | skip
       refine run_seq ?_
       refine run_reg (l := [0, 1, 2]) rfl ?_
       refine p_v (v := .string best) rfl rfl rfl (x_move rfl) ?_
       refine p_v (v := .string best) rfl rfl rfl (x_assign rfl) ?_
       refine p_v (v := .bool true) rfl rfl rfl (x_assign rfl) ?_
       refine run_region_end ?_
       refine run_ret Tryd.func62 (res2 rfl (res_tmp (v := .string best) rfl) (res_tmp (v := .bool true) rfl)) ?_
       have q0 : (wordW (runM m) : ByteArray) = best := by
        first | exact (word_no (fun w => run_wrong m w (by assumption))).1 | exact (word_is (empty_least hrm_ (by assumption))).1 | exact (word_is (lev_found hL_ hR_ he_ hE4_ hd2_).1).1 | exact (word_no (lev_none hL_ hR_ he_ (List.eq_nil_of_length_eq_zero (by omega)))).1
       have q1 : (okW (runM m) : Bool) = true := by
        first | exact (word_no (fun w => run_wrong m w (by assumption))).2 | exact (word_is (empty_least hrm_ (by assumption))).2 | exact (word_is (lev_found hL_ hR_ he_ hE4_ hd2_).1).2 | exact (word_no (lev_none hL_ hR_ he_ (List.eq_nil_of_length_eq_zero (by omega)))).2
       refine ⟨_, rfl, h39, ?_, ?_, ?_, ?_⟩
       · exact S41.sub [] (by decide) rfl _ rfl
       · first | rfl | (simp only [q0, q1]; rfl) | (simp only [q0, q1])
       · rw [q0]; first | assumption | exact f39_0
       ·show (okW (runM m) = true → ((wordW (runM m)).size : Int) ≤ m.spots.length) ∧ (okW (runM m) = false → ∀ w, runM m w = false)
        first | exact path_size0 (fun w => run_wrong m w (by assumption)) | exact path_size (empty_least hrm_ (by assumption)) (by show (0 : Int) ≤ _; omega) | exact path_size (lev_found hL_ hR_ he_ hE4_ hd2_).1 (by rw [(lev_found hL_ hR_ he_ hE4_ hd2_).2]; exact lev_less hL_ hne_) | exact path_size0 (lev_none hL_ hR_ he_ (List.eq_nil_of_length_eq_zero (by omega)))
      ·skip
       first | have hE3_ := endB_at hE2_ hc42 | skip
       refine run_skip ?_
       refine run_seq ?_
       refine run_seq ?_
       refine run_reg (l := [0, 1]) rfl ?_
       refine p_v (v := .map (some b_at)) rfl rfl rfl (x_move r33_5) ?_
       obtain ⟨r43, w43, rr43, g43, T43⟩ := e_range (P := Tryd.prog) S41 (j := 2) rfl u169
       have S44 := T43.fx 2 (mit (fun x : Int => Value.int .i64 x) (fun x : ByteArray => Value.string x) b_at r43 xat2 xat2) rfl
       dsimp only [lAa, lAn, lA0, lAs] at S44
       refine p_v (v := .pointer (some ⟨r43, 0, none⟩)) rfl rfl rfl (x_range rfl rr43) ?_
       refine run_region_end ?_
       refine run_block ?_
       refine run_loop (S := (List Bool) × (List (Int × ByteArray))) (fun (q_ : (List Bool) × (List (Int × ByteArray))) ρ w' => match q_ with | (seen2, left2) => ∃ (h : Ghost) (v_seen2 : Value), Le h39 h ∧ St w.heap.size w h w' [box b1 27 [.slice A0_0 m.spots.length c0_0, .slice A0_1 m.first.length c0_1, .slice A0_2 m.follow.length c0_2, .slice A0_3 m.last.length c0_3, .bool m.empty], row 4 Kd.bool v_seen2 seen2, mit (fun x : Int => Value.int .i64 x) (fun x : ByteArray => Value.string x) b_at r43 xat2 left2] ∧ ρ 1 = .pointer (some ⟨b1, 0, none⟩) ∧ ρ 4 = v_seen2 ∧ ρ 5 = .map (some b_at) ∧ ρ 52 = .pointer (some ⟨r43, 0, none⟩) ∧ (∃ done, (done ++ left2).Perm xat2 ∧ Mk m seen done seen2)) (fun q_ => match q_ with | (seen2, left2) => left2.length) (seen, xat2) ⟨h39, v_seen, Le.refl _, S44.sub [0, 1, 2] (by decide) rfl _ rfl, r33_1, r33_4, r33_5, rfl, (by exact ⟨[], perm_0 _, mk_0 hL_.slen⟩)⟩ ?_
       rintro ⟨seen2, left2⟩ ih45 ρ45 w45 ⟨h45, v_seen2, le45, S45, r45_1, r45_4, r45_5, r45_52, hI45⟩
       have rl45_1 := S45.row_le (j := 1) rfl; simp only [maxLen] at rl45_1
       have hlm0_ : (seen2.length : Int) = m.spots.length := by obtain ⟨_, _, h⟩ := hI45; exact h.len
       refine run_seq ?_
       refine run_reg (l := [0, 1]) rfl ?_
       rcases e_next (P := Tryd.prog) (ty := 0) S45 (j := 2) rfl with ⟨hx46, rx46⟩ | ⟨la46, p46, lb46, w46, hx46, rx46, g46, T46⟩
       ·skip
        have T46 := e_over S45 (j := 2) rfl
        have S47 := T46.fx 2 (amap (fun x : Int => Value.int .i64 x) (fun x : ByteArray => Value.string x) b_at xat2) rfl
        dsimp only [lAa, lAn, lA0, lAs] at S47
        refine p_v (v := .tuple #[.bool false]) rfl rfl rfl (x_next r45_52 rx46) ?_
        obtain ⟨dn5_, hq3_, hM_⟩ := hI45; have hd3_ := perm_end hq3_ hx46; have hlm2_ := hM_.len
        refine p_v (v := .bool false) rfl rfl rfl (x_extract (vs := [.bool false]) rfl rfl) ?_
        refine run_region_end ?_
        refine run_seq ?_
        refine run_cond (b := false) rfl ?_
        simp only [if_true, if_false, Bool.false_eq_true]
        refine run_exit rfl ?_
        refine run_seq ?_
        refine run_reg (l := [0, 1]) rfl ?_
        obtain ⟨b48, w48, r48, g48, T48⟩ := e_makeMap (P := Tryd.prog) S47 169 (fun x : Int => Value.int .i64 x) (fun x : ByteArray => Value.string x)
        have S49 := T48
        dsimp only [lAa, lAn, lA0, lAs] at S49
        refine p_v (v := .map (some b48)) rfl rfl rfl (x_makeMap r48) ?_
        refine p_v (v := .map (some b48)) rfl rfl rfl (x_assign rfl) ?_
        refine run_region_end ?_
        refine run_seq ?_
        refine run_seq ?_
        refine run_reg (l := [0, 1]) rfl ?_
        refine p_v (v := .map (some b_at)) rfl rfl rfl (x_move r45_5) ?_
        obtain ⟨r50, w50, rr50, g50, T50⟩ := e_range (P := Tryd.prog) S49 (j := 2) rfl u169
        have S51 := T50.fx 2 (mit (fun x : Int => Value.int .i64 x) (fun x : ByteArray => Value.string x) b_at r50 xat2 xat2) rfl
        dsimp only [lAa, lAn, lA0, lAs] at S51
        refine p_v (v := .pointer (some ⟨r50, 0, none⟩)) rfl rfl rfl (x_range rfl rr50) ?_
        refine run_region_end ?_
        refine run_block ?_
        refine run_loop (S := (List (Int × ByteArray)) × (List (Int × ByteArray))) (fun (q_ : (List (Int × ByteArray)) × (List (Int × ByteArray))) ρ w' => match q_ with | (left3, next) => ∃ (h : Ghost), Le h45 h ∧ St w.heap.size w h w' [box b1 27 [.slice A0_0 m.spots.length c0_0, .slice A0_1 m.first.length c0_1, .slice A0_2 m.follow.length c0_2, .slice A0_3 m.last.length c0_3, .bool m.empty], row 4 Kd.bool v_seen2 seen2, mit (fun x : Int => Value.int .i64 x) (fun x : ByteArray => Value.string x) b_at r50 xat2 left3, amap (fun x : Int => Value.int .i64 x) (fun x : ByteArray => Value.string x) b48 next] ∧ ρ 1 = .pointer (some ⟨b1, 0, none⟩) ∧ ρ 4 = v_seen2 ∧ ρ 11 = .map (some b48) ∧ ρ 62 = .pointer (some ⟨r50, 0, none⟩) ∧ (∃ done, (done ++ left3).Perm xat2 ∧ Off (t_ + 1) (O2 m seen2 done) next)) (fun q_ => match q_ with | (left3, next) => left3.length) (xat2, ([] : List (Int × ByteArray))) ⟨h45, Le.refl _, S51.sub [0, 1, 2, 3] (by decide) rfl _ rfl, r45_1, r45_4, rfl, rfl, (by exact ⟨[], perm_0 _, o2_0 m seen2 _⟩)⟩ ?_
        rintro ⟨left3, next⟩ ih52 ρ52 w52 ⟨h52, le52, S52, r52_1, r52_4, r52_11, r52_62, hI52⟩
        have rl52_1 := S52.row_le (j := 1) rfl; simp only [maxLen] at rl52_1
        refine run_seq ?_
        refine run_reg (l := [0, 1]) rfl ?_
        rcases e_next (P := Tryd.prog) (ty := 0) S52 (j := 2) rfl with ⟨hx53, rx53⟩ | ⟨la53, p53, lb53, w53, hx53, rx53, g53, T53⟩
        ·skip
         have T53 := e_over S52 (j := 2) rfl
         have S54 := T53.fx 2 (amap (fun x : Int => Value.int .i64 x) (fun x : ByteArray => Value.string x) b_at xat2) rfl
         dsimp only [lAa, lAn, lA0, lAs] at S54
         refine p_v (v := .tuple #[.bool false]) rfl rfl rfl (x_next r52_62 rx53) ?_
         obtain ⟨dn8_, hq8_, hF8_⟩ := hI52; have hd8_ := perm_end hq8_ hx53
         refine p_v (v := .bool false) rfl rfl rfl (x_extract (vs := [.bool false]) rfl rfl) ?_
         refine run_region_end ?_
         refine run_seq ?_
         refine run_cond (b := false) rfl ?_
         simp only [if_true, if_false, Bool.false_eq_true]
         refine run_exit rfl ?_
         refine run_reg (l := [0, 1]) rfl ?_
         refine p_v (v := .map (some b48)) rfl rfl rfl (x_move r52_11) ?_
         refine p_v (v := .map (some b48)) rfl rfl rfl (x_assign rfl) ?_
         refine run_region_end ?_
         refine run_inBlock ?_
         refine ih33 (seen2, next) _ _ (by dsimp only; exact mk_dec hL_ hM_ hd3_ hne_) ⟨h52, b48, v_seen2, ((((((le33).trans le39)).trans le45)).trans le52), S54.sub [0, 1, 3] (by decide) rfl _ rfl, r52_1, r52_4, rfl, (by exact ⟨_, lev_next hL_ hR_ hE3_ hd2_ hM_ hd3_ hF8_ hd8_ hne_⟩)⟩
        ·skip
         have S55 := T53.fx 2 (mitc (fun x : Int => Value.int .i64 x) (fun x : ByteArray => Value.string x) b_at r50 xat2 (la53 ++ lb53) p53) rfl
         dsimp only [lAa, lAn, lA0, lAs] at S55
         refine p_v (v := .tuple #[.bool true, .int .i64 p53.1, .string p53.2]) rfl rfl rfl (x_next r52_62 rx53) ?_
         obtain ⟨dn6_, hp6_, hF6_⟩ := hI52; obtain ⟨hp7_, hm6_⟩ := perm_next hp6_ hx53; obtain ⟨hne6_, hr6_, hz6_, ht256_, hzz6_⟩ := lev_small hL_ hR_ hm6_; have hra6_ := hr6_.1; have hrb6_ := hr6_.2
         refine p_v (v := .bool true) rfl rfl rfl (x_extract (vs := [.bool true, .int .i64 p53.1, .string p53.2]) rfl rfl) ?_
         refine run_region_end ?_
         refine run_seq ?_
         refine run_cond (b := true) rfl ?_
         simp only [if_true, if_false, Bool.false_eq_true]
         refine run_skip ?_
         refine run_block ?_
         refine run_seq ?_
         refine run_reg (l := [0, 1, 2, 3, 4]) rfl ?_
         obtain ⟨r56, T56⟩ := e_entry (P := Tryd.prog) S55 (j := 2) rfl
         have S57 := T56.fx 2 (mit (fun x : Int => Value.int .i64 x) (fun x : ByteArray => Value.string x) b_at r50 xat2 (la53 ++ lb53)) rfl
         dsimp only [lAa, lAn, lA0, lAs] at S57
         refine p_v (v := .tuple #[.int .i64 p53.1, .string p53.2]) rfl rfl rfl (x_entry r52_62 r56) ?_
         refine p_v (v := .int .i64 p53.1) rfl rfl rfl (x_extract (vs := [.int .i64 p53.1, .string p53.2]) rfl rfl) ?_
         refine p_v (v := .string p53.2) rfl rfl rfl (x_extract (vs := [.int .i64 p53.1, .string p53.2]) rfl rfl) ?_
         refine p_v (v := .int .i64 p53.1) rfl rfl rfl (x_assign rfl) ?_
         refine p_v (v := .string p53.2) rfl rfl rfl (x_assign rfl) ?_
         refine run_region_end ?_
         refine run_seq ?_
         refine run_reg (l := [0, 1, 2, 3, 4, 5, 6]) rfl ?_
         refine p_v (v := .pointer (some ⟨b1, 2, none⟩)) rfl rfl rfl (x_fieldAt fd27_2 ty24 rfl r52_1) ?_
         refine p_v (v := .slice A0_2 m.follow.length c0_2) rfl rfl rfl (x_load (seg := [.slice A0_2 m.follow.length c0_2]) ty24 rfl (by simp) rfl (CF.box (m := 1) (S57.box_at (j := 0) rfl) rfl)) ?_
         refine p_v (v := .int .i64 p53.1) rfl rfl rfl (x_move rfl) ?_
         obtain ⟨ad58, seg58, a58, rp58, ce58⟩ := e_index_ro (q := p53.1) (m := 1) l0_2 rfl (by first|omega|(simp;omega)|assumption|simp) (by first|omega|(simp;omega)|assumption|simp)
         refine p_v (v := .pointer (some ad58)) rfl rfl rfl (x_index_ro u24 ty23 rfl rfl a58 (by first|omega|(simp;omega)|assumption|simp) (by first|omega|(simp;omega)|assumption|simp)) ?_
         obtain ⟨A58, c58, rfl, lc58, cm58, ld58⟩ := rp58
         have cn58 := cm58; simp only [maxLen] at cn58
         refine p_v (v := .slice A58 (at_ m.follow p53.1).length c58) rfl rfl rfl (x_load (seg := [.slice A58 (at_ m.follow p53.1).length c58]) ty23 rfl (by simp) rfl (CF.ghost ce58 (St.le0 S57))) ?_
         refine p_v (v := .int .i64 ((at_ m.follow p53.1).length : Int)) rfl rfl rfl (x_len_slice u23 rfl) ?_
         refine p_v (v := .int .i64 0) rfl rfl rfl (x_move rfl) ?_
         refine run_region_end ?_
         refine run_block ?_
         refine run_loop (S := (List (Int × ByteArray)) × Int) (fun (q_ : (List (Int × ByteArray)) × Int) ρ w' => match q_ with | (next2, t74) => ∃ (h : Ghost), Le h52 h ∧ St w.heap.size w h w' [box b1 27 [.slice A0_0 m.spots.length c0_0, .slice A0_1 m.first.length c0_1, .slice A0_2 m.follow.length c0_2, .slice A0_3 m.last.length c0_3, .bool m.empty], row 4 Kd.bool v_seen2 seen2, mit (fun x : Int => Value.int .i64 x) (fun x : ByteArray => Value.string x) b_at r50 xat2 (la53 ++ lb53), amap (fun x : Int => Value.int .i64 x) (fun x : ByteArray => Value.string x) b48 next2] ∧ ρ 1 = .pointer (some ⟨b1, 0, none⟩) ∧ ρ 4 = v_seen2 ∧ ρ 11 = .map (some b48) ∧ ρ 13 = .string p53.2 ∧ ρ 62 = .pointer (some ⟨r50, 0, none⟩) ∧ ρ 72 = .slice A58 (at_ m.follow p53.1).length c58 ∧ ρ 73 = .int .i64 ((at_ m.follow p53.1).length : Int) ∧ ρ 74 = .int .i64 t74 ∧ inK .i64 t74 ∧ (0 ≤ t74 ∧ t74 ≤ ((at_ m.follow p53.1).length : Int) ∧ Off (t_ + 1) (O3 m seen2 dn6_ p53 t74) next2)) (fun q_ => match q_ with | (next2, t74) => ((at_ m.follow p53.1).length - t74).toNat) (next, 0) ⟨h52, Le.refl _, S57.sub [0, 1, 2, 3] (by decide) rfl _ rfl, r52_1, r52_4, r52_11, rfl, r52_62, rfl, rfl, rfl, (in_i64 (by first|omega|(simp;omega)|assumption|simp) (by first|omega|(simp;omega)|assumption|simp)), (by exact ⟨by omega, by omega, o3_0 hF6_ _⟩)⟩ ?_
         rintro ⟨next2, t74⟩ ih59 ρ59 w59 ⟨h59, le59, S59, r59_1, r59_4, r59_11, r59_13, r59_62, r59_72, r59_73, r59_74, f59_0, hI59⟩
         have lf59_0 := i64_lo f59_0; have hf59_0 := i64_hi f59_0
         have rl59_1 := S59.row_le (j := 1) rfl; simp only [maxLen] at rl59_1
         have hx5_ : t74 < ((at_ m.follow p53.1).length : Int) → 0 ≤ at_ (at_ m.follow p53.1) t74 ∧ at_ (at_ m.follow p53.1) t74 < (m.spots.length : Int) := fun h => hR_.rows hr6_.1 hr6_.2 _ (at_mem hI59.1 h)
         refine run_seq ?_
         refine run_reg (l := [0]) rfl ?_
         refine p_v (v := .bool (decide (t74 < ((at_ m.follow p53.1).length : Int)))) rfl rfl rfl (x_lss r59_74 r59_73) ?_
         refine run_region_end ?_
         refine run_seq ?_
         refine run_cond_prop (p := t74 < ((at_ m.follow p53.1).length : Int)) rfl (fun hc60 => ?_) (fun hc60 => ?_)
         ·skip
          refine run_skip ?_
          refine run_seq ?_
          refine run_block ?_
          refine run_seq ?_
          refine run_reg (l := [0, 1, 2]) rfl ?_
          obtain ⟨ad61, seg61, a61, rp61, ce61⟩ := e_index_ro (q := t74) (m := 1) ld58 rfl (by first|omega|(simp;omega)|assumption|simp) (by first|omega|(simp;omega)|assumption|simp)
          refine p_v (v := .pointer (some ad61)) rfl rfl rfl (x_index_ro u23 ty3 r59_72 r59_74 a61 (by first|omega|(simp;omega)|assumption|simp) (by first|omega|(simp;omega)|assumption|simp)) ?_
          obtain ⟨rfl, in61⟩ := rp61
          have lo61 := i64_lo in61; have hi61 := i64_hi in61
          refine p_v (v := .int .i64 (at_ (at_ m.follow p53.1) t74)) rfl rfl rfl (x_load (seg := [.int .i64 (at_ (at_ m.follow p53.1) t74)]) ty3 rfl (by simp) rfl (CF.ghost ce61 (St.le0 S59))) ?_
          refine p_v (v := .int .i64 (at_ (at_ m.follow p53.1) t74)) rfl rfl rfl (x_assign rfl) ?_
          refine run_region_end ?_
          refine run_seq ?_
          refine run_reg (l := [0, 1, 2, 3, 4]) rfl ?_
          refine p_v (v := v_seen2) rfl rfl rfl (x_move r59_4) ?_
          refine p_v (v := .int .i64 (at_ (at_ m.follow p53.1) t74)) rfl rfl rfl (x_move rfl) ?_
          obtain ⟨ad62, a62, at62⟩ := e_index_own (q := at_ (at_ m.follow p53.1) t74) (m := 1) S59 (j := 1) rfl rfl (by first|omega|(simp;omega)|assumption|simp) (by first|omega|(simp;omega)|assumption|simp)
          refine p_v (v := .pointer (some ad62)) rfl rfl rfl (x_index_own u25 ty4 rfl rfl a62 (by first|omega|(simp;omega)|assumption|simp) (by first|omega|(simp;omega)|assumption|simp)) ?_
          obtain ⟨seg63, rp63, cf63⟩ := e_load_own (q := at_ (at_ m.follow p53.1) t74) S59 (j := 1) rfl rfl at62 (by first|omega|(simp;omega)|assumption|simp) (by first|omega|(simp;omega)|assumption|simp)
          obtain ⟨rfl, _⟩ := rp63
          refine p_v (v := .bool (at_ seen2 (at_ (at_ m.follow p53.1) t74))) rfl rfl rfl (x_load (seg := [.bool (at_ seen2 (at_ (at_ m.follow p53.1) t74))]) ty4 rfl (by simp) rfl cf63) ?_
          refine p_v (v := .bool (!(at_ seen2 (at_ (at_ m.follow p53.1) t74)))) rfl rfl rfl (x_not rfl) ?_
          refine run_region_end ?_
          refine run_cond_nsplit (b := at_ seen2 (at_ (at_ m.follow p53.1) t74)) rfl (fun hc64 => ?_) (fun hc64 => ?_)
          ·skip
           refine run_reg (l := [0, 1, 2, 3, 4]) rfl ?_
           refine p_v (v := .map (some b48)) rfl rfl rfl (x_move r59_11) ?_
           refine p_v (v := .agg #[.slice A0_0 m.spots.length c0_0, .slice A0_1 m.first.length c0_1, .slice A0_2 m.follow.length c0_2, .slice A0_3 m.last.length c0_3, .bool m.empty]) rfl rfl rfl (x_load (seg := [.slice A0_0 m.spots.length c0_0, .slice A0_1 m.first.length c0_1, .slice A0_2 m.follow.length c0_2, .slice A0_3 m.last.length c0_3, .bool m.empty]) ty27 rfl (by simp) r59_1 (CF.box (m := 5) (S59.box_at (j := 0) rfl) rfl)) ?_
           refine p_v (v := .int .i64 (at_ (at_ m.follow p53.1) t74)) rfl rfl rfl (x_move rfl) ?_
           refine p_v (v := .string p53.2) rfl rfl rfl (x_move r59_13) ?_
           refine p_i rfl rfl rfl (y_call (args := [.map (some b48), .agg #[.slice A0_0 m.spots.length c0_0, .slice A0_1 m.first.length c0_1, .slice A0_2 m.follow.length c0_2, .slice A0_3 m.last.length c0_3, .bool m.empty], .int .i64 (at_ (at_ m.follow p53.1) t74), .string p53.2]) ca124 rfl rfl) (calls_of_run Tryd.func124 rfl Tryd.ntmps124 rfl ?_)
           refine run_seq ?_
           refine run_reg (l := [0]) rfl ?_
           obtain ⟨b65, w65, r65, g65, T65⟩ := e_box (P := Tryd.prog) S59 27 (v := .agg #[.slice A0_0 m.spots.length c0_0, .slice A0_1 m.first.length c0_1, .slice A0_2 m.follow.length c0_2, .slice A0_3 m.last.length c0_3, .bool m.empty]) [.slice A0_0 m.spots.length c0_0, .slice A0_1 m.first.length c0_1, .slice A0_2 m.follow.length c0_2, .slice A0_3 m.last.length c0_3, .bool m.empty] rfl
           have S66 := T65
           dsimp only [lAa, lAn, lA0, lAs] at S66
           refine p_v (v := .pointer (some ⟨b65, 0, none⟩)) rfl rfl rfl (x_box rfl r65) ?_
           refine run_region_end ?_
           refine run_seq ?_
           refine run_reg (l := [0, 1, 2, 3, 4, 5, 6, 7, 8, 9, 10, 11]) rfl ?_
           refine p_v (v := .pointer (some ⟨b65, 0, none⟩)) rfl rfl rfl (x_fieldAt fd27_0 ty22 rfl rfl) ?_
           refine p_v (v := .slice A0_0 m.spots.length c0_0) rfl rfl rfl (x_load (seg := [.slice A0_0 m.spots.length c0_0]) ty22 rfl (by simp) rfl (CF.box (m := 1) (S66.box_at (j := 4) rfl) rfl)) ?_
           refine p_v (v := .int .i64 (at_ (at_ m.follow p53.1) t74)) rfl rfl rfl (x_move rfl) ?_
           obtain ⟨ad67, seg67, a67, rp67, ce67⟩ := e_index_ro (q := at_ (at_ m.follow p53.1) t74) (m := 5) l0_0 rfl (by first|omega|(simp;omega)|assumption|simp) (by first|omega|(simp;omega)|assumption|simp)
           refine p_v (v := .pointer (some ad67)) rfl rfl rfl (x_index_ro u22 ty101 rfl rfl a67 (by first|omega|(simp;omega)|assumption|simp) (by first|omega|(simp;omega)|assumption|simp)) ?_
           obtain ⟨rfl, ok67⟩ := rp67
           have slook67 := u8_lo ok67; have shiok67 := u8_hi ok67
           refine p_v (v := .pointer (some (ad67.add 0))) rfl rfl rfl (x_fieldAd fd101_0 ty74 rfl rfl) ?_
           refine p_v (v := .agg (encSet ((at_ m.spots (at_ (at_ m.follow p53.1) t74)).set)).toArray) rfl rfl rfl (x_load (seg := (encSet ((at_ m.spots (at_ (at_ m.follow p53.1) t74)).set))) ty74 rfl (by simp) rfl (CF.ghost (sub_seg (o := 0) (m := 4) (ds := (encSet ((at_ m.spots (at_ (at_ m.follow p53.1) t74)).set))) ce67 rfl) (St.le0 S66))) ?_
           refine p_c rfl rfl rfl (y_call (args := [.agg (encSet ((at_ m.spots (at_ (at_ m.follow p53.1) t74)).set)).toArray]) ca158 rfl rfl) (first_calls w65 ((at_ m.spots (at_ (at_ m.follow p53.1) t74)).set) (Block.st S66 tb)) ?_
           rintro _ w69 ⟨h69, T69, rfl, in69_0⟩
           have S70 := S66.keep (Chg.of_below T69.below)
           have lo_in69_0 := u8_lo in69_0; have hi_in69_0 := u8_hi in69_0
           refine p_v (v := .tuple #[.int .u8 (first ((at_ m.spots (at_ (at_ m.follow p53.1) t74)).set)), .bool (someIn ((at_ m.spots (at_ (at_ m.follow p53.1) t74)).set))]) rfl rfl rfl (x_move rfl) ?_
           refine p_v (v := .int .u8 (first ((at_ m.spots (at_ (at_ m.follow p53.1) t74)).set))) rfl rfl rfl (x_extract (vs := [.int .u8 (first ((at_ m.spots (at_ (at_ m.follow p53.1) t74)).set)), .bool (someIn ((at_ m.spots (at_ (at_ m.follow p53.1) t74)).set))]) rfl rfl) ?_
           refine p_v (v := .bool (someIn ((at_ m.spots (at_ (at_ m.follow p53.1) t74)).set))) rfl rfl rfl (x_extract (vs := [.int .u8 (first ((at_ m.spots (at_ (at_ m.follow p53.1) t74)).set)), .bool (someIn ((at_ m.spots (at_ (at_ m.follow p53.1) t74)).set))]) rfl rfl) ?_
           refine p_v (v := .int .u8 (first ((at_ m.spots (at_ (at_ m.follow p53.1) t74)).set))) rfl rfl rfl (x_assign rfl) ?_
           refine p_v (v := .bool (someIn ((at_ m.spots (at_ (at_ m.follow p53.1) t74)).set))) rfl rfl rfl (x_assign rfl) ?_
           refine run_region_end ?_
           refine run_seq ?_
           refine run_seq ?_
           refine run_reg (l := [0, 1]) rfl ?_
           refine p_v (v := .bool (someIn ((at_ m.spots (at_ (at_ m.follow p53.1) t74)).set))) rfl rfl rfl (x_move rfl) ?_
           refine p_v (v := .bool (!(someIn ((at_ m.spots (at_ (at_ m.follow p53.1) t74)).set)))) rfl rfl rfl (x_not rfl) ?_
           refine run_region_end ?_
           refine run_cond_nsplit (b := someIn ((at_ m.spots (at_ (at_ m.follow p53.1) t74)).set)) rfl (fun hc71 => ?_) (fun hc71 => ?_)
           ·skip
            refine run_ret Tryd.func124 (res0 rfl) ?_
            refine ⟨_, rfl, ?_⟩
            refine run_region_end ?_
            refine run_inBlock ?_
            refine run_reg (l := [0, 1]) rfl ?_
            refine p_v (v := .int .i64 (t74 + 1)) rfl rfl rfl (x_add r59_74 rfl (in_i64 (by first|omega|(simp;omega)|assumption|simp) (by first|omega|(simp;omega)|assumption|simp))) ?_
            refine p_v (v := .int .i64 (t74 + 1)) rfl rfl rfl (x_move rfl) ?_
            refine run_region_end ?_
            refine ih59 (next2, t74 + 1) _ _ (by dsimp only; omega) ⟨h59, le59, S70.sub [0, 1, 2, 3] (by decide) rfl _ rfl, r59_1, r59_4, r59_11, r59_13, r59_62, r59_72, r59_73, rfl, (in_i64 (by first|omega|(simp;omega)|assumption|simp) (by first|omega|(simp;omega)|assumption|simp)), (by first | exact ⟨by omega, by omega, o3_skip hI59.2.2 (.inl (by assumption))⟩ | exact ⟨by omega, by omega, o3_skip hI59.2.2 (.inr (by assumption))⟩ | exact ⟨by omega, by omega, o3_put hI59.1 hI59.2.2 (by omega) (by assumption) (by assumption) (.inl (by assumption))⟩ | exact ⟨by omega, by omega, o3_put hI59.1 hI59.2.2 (by omega) (by assumption) (by assumption) (.inr (by assumption))⟩ | exact ⟨by omega, by omega, o3_keep hI59.1 hI59.2.2 (by omega) (by assumption) (by assumption) (by assumption) (by assumption)⟩)⟩
           ·skip
            refine run_skip ?_
            refine run_seq ?_
            refine run_reg (l := [0, 1, 2, 3, 4, 5]) rfl ?_
            refine p_v (v := .string p53.2) rfl rfl rfl (x_move rfl) ?_
            refine p_v (v := .int .u8 (first ((at_ m.spots (at_ (at_ m.follow p53.1) t74)).set))) rfl rfl rfl (x_move rfl) ?_
            obtain ⟨v72, w72, r72, g72, T72⟩ := e_build_ones (kd := (Kd.int .u8)) (xs := ([first ((at_ m.spots (at_ (at_ m.follow p53.1) t74)).set)] : List Int)) (len := 1) [.int .u8 (first ((at_ m.spots (at_ (at_ m.follow p53.1) t74)).set))] S70 u39 ty5 rfl rfl rfl rfl rfl (ones_cons rfl ones_nil) [.int .u8 (first ((at_ m.spots (at_ (at_ m.follow p53.1) t74)).set))] (Elems.single (k := (Kd.int .u8)) (h := h59) (x := first ((at_ m.spots (at_ (at_ m.follow p53.1) t74)).set)) (cs := [.int .u8 (first ((at_ m.spots (at_ (at_ m.follow p53.1) t74)).set))]) ⟨rfl, in69_0⟩) rfl
            have S73 := T72
            dsimp only [lAa, lAn, lA0, lAs] at S73
            refine p_v (v := v72) rfl rfl rfl (y_build_slice (pv := [(0, .int .u8 (first ((at_ m.spots (at_ (at_ m.follow p53.1) t74)).set)))]) rfl r72) ?_
            obtain ⟨A74, c74, ev74, lc74, cm74⟩ := S73.row_val (j := 5) rfl
            have sz75 := str_small (xs := ([first ((at_ m.spots (at_ (at_ m.follow p53.1) t74)).set)] : List Int)) (Nat.le_trans (And.intro lc74 cm74).1 (And.intro lc74 cm74).2); have bdsz75 := sz75; simp only [maxLen] at bdsz75
            refine p_v (v := .string (strOfNums ([first ((at_ m.spots (at_ (at_ m.follow p53.1) t74)).set)] : List Int))) rfl rfl rfl (x_bytes_string u39 u5 u9 ev74 (row_leads_eq S73 (j := 5) rfl ev74)) ?_
            have sb76 : p53.2.size + (strOfNums ([first ((at_ m.spots (at_ (at_ m.follow p53.1) t74)).set)] : List Int)).size ≤ 9223372036854775807 := by first | omega | (simp only [str_one]; omega) | (simp only [str_one, size_nil]; omega)
            have sz76 : (p53.2 ++ (strOfNums ([first ((at_ m.spots (at_ (at_ m.follow p53.1) t74)).set)] : List Int))).size ≤ maxLen := by rw [size_add]; unfold maxLen; exact sb76
            have st76 := size_add p53.2 (strOfNums ([first ((at_ m.spots (at_ (at_ m.follow p53.1) t74)).set)] : List Int))
            refine p_v (v := .string (p53.2 ++ (strOfNums ([first ((at_ m.spots (at_ (at_ m.follow p53.1) t74)).set)] : List Int)))) rfl rfl rfl (x_add_str rfl rfl sb76) ?_
            refine p_v (v := .string (p53.2 ++ (strOfNums ([first ((at_ m.spots (at_ (at_ m.follow p53.1) t74)).set)] : List Int)))) rfl rfl rfl (x_assign rfl) ?_
            refine run_region_end ?_
            refine run_seq ?_
            refine run_reg (l := [0, 1, 2, 3, 4, 5, 6, 7]) rfl ?_
            refine p_v (v := .map (some b48)) rfl rfl rfl (x_move rfl) ?_
            refine p_v (v := .int .i64 (at_ (at_ m.follow p53.1) t74)) rfl rfl rfl (x_move rfl) ?_
            have sz77 : ((valAt (at_ (at_ m.follow p53.1) t74) next2).getD (⟨#[]⟩ : ByteArray)).size ≤ maxLen := by
             first | (have hz_ := val_size hI59.2.2 (n := (at_ (at_ m.follow p53.1) t74)) (by omega); unfold maxLen; omega) | (have hz_ := val_size hI11.2.2 (n := (at_ (at_ m.follow p53.1) t74)) (by omega); unfold maxLen; omega)
            refine p_v (v := .tuple #[.string ((valAt (at_ (at_ m.follow p53.1) t74) next2).getD (⟨#[]⟩ : ByteArray)), .bool ((valAt (at_ (at_ m.follow p53.1) t74) next2).isSome)]) rfl rfl rfl (x_lookup (a := .map (some b48)) (k := .int .i64 (at_ (at_ m.follow p53.1) t74)) rfl rfl (e_lookup_h (kvs := next2) key3 (S73.map_at (j := 3) rfl) u169 (zero_cells ty9) (⟨#[]⟩ : ByteArray) (at_ (at_ m.follow p53.1) t74))) ?_
            refine p_v (v := .tuple #[.string ((valAt (at_ (at_ m.follow p53.1) t74) next2).getD (⟨#[]⟩ : ByteArray)), .bool ((valAt (at_ (at_ m.follow p53.1) t74) next2).isSome)]) rfl rfl rfl (x_move rfl) ?_
            refine p_v (v := .string ((valAt (at_ (at_ m.follow p53.1) t74) next2).getD (⟨#[]⟩ : ByteArray))) rfl rfl rfl (x_extract (vs := [.string ((valAt (at_ (at_ m.follow p53.1) t74) next2).getD (⟨#[]⟩ : ByteArray)), .bool ((valAt (at_ (at_ m.follow p53.1) t74) next2).isSome)]) rfl rfl) ?_
            refine p_v (v := .bool ((valAt (at_ (at_ m.follow p53.1) t74) next2).isSome)) rfl rfl rfl (x_extract (vs := [.string ((valAt (at_ (at_ m.follow p53.1) t74) next2).getD (⟨#[]⟩ : ByteArray)), .bool ((valAt (at_ (at_ m.follow p53.1) t74) next2).isSome)]) rfl rfl) ?_
            refine p_v (v := .string ((valAt (at_ (at_ m.follow p53.1) t74) next2).getD (⟨#[]⟩ : ByteArray))) rfl rfl rfl (x_assign rfl) ?_
            refine p_v (v := .bool ((valAt (at_ (at_ m.follow p53.1) t74) next2).isSome)) rfl rfl rfl (x_assign rfl) ?_
            refine run_region_end ?_
            refine run_seq ?_
            refine run_reg (l := [0, 1, 2, 3, 4, 5, 6]) rfl ?_
            refine p_v (v := .bool ((valAt (at_ (at_ m.follow p53.1) t74) next2).isSome)) rfl rfl rfl (x_move rfl) ?_
            refine p_v (v := .bool (!((valAt (at_ (at_ m.follow p53.1) t74) next2).isSome))) rfl rfl rfl (x_not rfl) ?_
            refine p_v (v := .bool (!((valAt (at_ (at_ m.follow p53.1) t74) next2).isSome))) rfl rfl rfl (x_move rfl) ?_
            rcases Bool.eq_false_or_eq_true ((valAt (at_ (at_ m.follow p53.1) t74) next2).isSome) with hc78 | hc78
            ·skip
             refine p_v (v := .string (p53.2 ++ (strOfNums ([first ((at_ m.spots (at_ (at_ m.follow p53.1) t74)).set)] : List Int)))) rfl (wanted_of (j := 2) (want := false) (d := 38) (b := false) rfl rfl (congrArg (fun z => Value.bool (!z)) hc78) rfl) rfl (x_move rfl) ?_
             refine p_v (v := .string ((valAt (at_ (at_ m.follow p53.1) t74) next2).getD (⟨#[]⟩ : ByteArray))) rfl (wanted_of (j := 2) (want := false) (d := 38) (b := false) rfl rfl (congrArg (fun z => Value.bool (!z)) hc78) rfl) rfl (x_move rfl) ?_
             refine p_v (v := .bool (strLt (p53.2 ++ (strOfNums ([first ((at_ m.spots (at_ (at_ m.follow p53.1) t74)).set)] : List Int))) ((valAt (at_ (at_ m.follow p53.1) t74) next2).getD (⟨#[]⟩ : ByteArray)))) rfl (wanted_of (j := 2) (want := false) (d := 38) (b := false) rfl rfl (congrArg (fun z => Value.bool (!z)) hc78) rfl) rfl (x_lss_string rfl rfl) ?_
             refine p_v (v := .bool (strLt (p53.2 ++ (strOfNums ([first ((at_ m.spots (at_ (at_ m.follow p53.1) t74)).set)] : List Int))) ((valAt (at_ (at_ m.follow p53.1) t74) next2).getD (⟨#[]⟩ : ByteArray)))) rfl rfl rfl (x_pick_f (congrArg (fun z => Value.bool (!z)) hc78) rfl) ?_
             refine run_region_end ?_
             refine run_cond_split (b := strLt (p53.2 ++ (strOfNums ([first ((at_ m.spots (at_ (at_ m.follow p53.1) t74)).set)] : List Int))) ((valAt (at_ (at_ m.follow p53.1) t74) next2).getD (⟨#[]⟩ : ByteArray))) rfl (fun hc79 => ?_) (fun hc79 => ?_)
             ·skip
              refine run_reg (l := [0, 1, 2, 3]) rfl ?_
              refine p_v (v := .map (some b48)) rfl rfl rfl (x_move rfl) ?_
              refine p_v (v := .int .i64 (at_ (at_ m.follow p53.1) t74)) rfl rfl rfl (x_move rfl) ?_
              refine p_v (v := .string (p53.2 ++ (strOfNums ([first ((at_ m.spots (at_ (at_ m.follow p53.1) t74)).set)] : List Int)))) rfl rfl rfl (x_move rfl) ?_
              obtain ⟨w80, r80, g80, T80⟩ := e_mapUpdate key3 S73 (j := 3) rfl u169 (at_ (at_ m.follow p53.1) t74) (p53.2 ++ (strOfNums ([first ((at_ m.spots (at_ (at_ m.follow p53.1) t74)).set)] : List Int)))
              have S81 := T80.fx 3 (amap (fun x : Int => Value.int .i64 x) (fun x : ByteArray => Value.string x) b48 (putAt (at_ (at_ m.follow p53.1) t74) (p53.2 ++ (strOfNums ([first ((at_ m.spots (at_ (at_ m.follow p53.1) t74)).set)] : List Int))) next2)) rfl
              dsimp only [lAa, lAn, lA0, lAs] at S81
              refine p_s rfl rfl (x_mapUpdate rfl rfl rfl r80) ?_
              refine run_region_end ?_
              refine run_end Tryd.func124 (res0 rfl) ?_
              refine ⟨_, rfl, ?_⟩
              refine run_region_end ?_
              refine run_inBlock ?_
              refine run_reg (l := [0, 1]) rfl ?_
              refine p_v (v := .int .i64 (t74 + 1)) rfl rfl rfl (x_add r59_74 rfl (in_i64 (by first|omega|(simp;omega)|assumption|simp) (by first|omega|(simp;omega)|assumption|simp))) ?_
              refine p_v (v := .int .i64 (t74 + 1)) rfl rfl rfl (x_move rfl) ?_
              refine run_region_end ?_
              refine ih59 (putAt (at_ (at_ m.follow p53.1) t74) (p53.2 ++ (strOfNums ([first ((at_ m.spots (at_ (at_ m.follow p53.1) t74)).set)] : List Int))) next2, t74 + 1) _ _ (by dsimp only; omega) ⟨h59, le59, S81.sub [0, 1, 2, 3] (by decide) rfl _ rfl, r59_1, r59_4, r59_11, r59_13, r59_62, r59_72, r59_73, rfl, (in_i64 (by first|omega|(simp;omega)|assumption|simp) (by first|omega|(simp;omega)|assumption|simp)), (by first | exact ⟨by omega, by omega, o3_skip hI59.2.2 (.inl (by assumption))⟩ | exact ⟨by omega, by omega, o3_skip hI59.2.2 (.inr (by assumption))⟩ | exact ⟨by omega, by omega, o3_put hI59.1 hI59.2.2 (by omega) (by assumption) (by assumption) (.inl (by assumption))⟩ | exact ⟨by omega, by omega, o3_put hI59.1 hI59.2.2 (by omega) (by assumption) (by assumption) (.inr (by assumption))⟩ | exact ⟨by omega, by omega, o3_keep hI59.1 hI59.2.2 (by omega) (by assumption) (by assumption) (by assumption) (by assumption)⟩)⟩
             ·skip
              refine run_skip ?_
              refine run_end Tryd.func124 (res0 rfl) ?_
              refine ⟨_, rfl, ?_⟩
              refine run_region_end ?_
              refine run_inBlock ?_
              refine run_reg (l := [0, 1]) rfl ?_
              refine p_v (v := .int .i64 (t74 + 1)) rfl rfl rfl (x_add r59_74 rfl (in_i64 (by first|omega|(simp;omega)|assumption|simp) (by first|omega|(simp;omega)|assumption|simp))) ?_
              refine p_v (v := .int .i64 (t74 + 1)) rfl rfl rfl (x_move rfl) ?_
              refine run_region_end ?_
              refine ih59 (next2, t74 + 1) _ _ (by dsimp only; omega) ⟨h59, le59, S73.sub [0, 1, 2, 3] (by decide) rfl _ rfl, r59_1, r59_4, r59_11, r59_13, r59_62, r59_72, r59_73, rfl, (in_i64 (by first|omega|(simp;omega)|assumption|simp) (by first|omega|(simp;omega)|assumption|simp)), (by first | exact ⟨by omega, by omega, o3_skip hI59.2.2 (.inl (by assumption))⟩ | exact ⟨by omega, by omega, o3_skip hI59.2.2 (.inr (by assumption))⟩ | exact ⟨by omega, by omega, o3_put hI59.1 hI59.2.2 (by omega) (by assumption) (by assumption) (.inl (by assumption))⟩ | exact ⟨by omega, by omega, o3_put hI59.1 hI59.2.2 (by omega) (by assumption) (by assumption) (.inr (by assumption))⟩ | exact ⟨by omega, by omega, o3_keep hI59.1 hI59.2.2 (by omega) (by assumption) (by assumption) (by assumption) (by assumption)⟩)⟩
            ·skip
             refine p_off rfl (wanted_of (j := 2) (want := false) (d := 38) (b := true) rfl rfl (congrArg (fun z => Value.bool (!z)) hc78) rfl) rfl ?_
             refine p_off rfl (wanted_of (j := 2) (want := false) (d := 38) (b := true) rfl rfl (congrArg (fun z => Value.bool (!z)) hc78) rfl) rfl ?_
             refine p_off rfl (wanted_of (j := 2) (want := false) (d := 38) (b := true) rfl rfl (congrArg (fun z => Value.bool (!z)) hc78) rfl) rfl ?_
             refine p_v (v := .bool true) rfl rfl rfl (x_pick_t (congrArg (fun z => Value.bool (!z)) hc78) rfl) ?_
             refine run_region_end ?_
             refine run_cond (b := true) rfl ?_
             simp only [if_true, if_false, Bool.false_eq_true]
             refine run_reg (l := [0, 1, 2, 3]) rfl ?_
             refine p_v (v := .map (some b48)) rfl rfl rfl (x_move rfl) ?_
             refine p_v (v := .int .i64 (at_ (at_ m.follow p53.1) t74)) rfl rfl rfl (x_move rfl) ?_
             refine p_v (v := .string (p53.2 ++ (strOfNums ([first ((at_ m.spots (at_ (at_ m.follow p53.1) t74)).set)] : List Int)))) rfl rfl rfl (x_move rfl) ?_
             obtain ⟨w82, r82, g82, T82⟩ := e_mapUpdate key3 S73 (j := 3) rfl u169 (at_ (at_ m.follow p53.1) t74) (p53.2 ++ (strOfNums ([first ((at_ m.spots (at_ (at_ m.follow p53.1) t74)).set)] : List Int)))
             have S83 := T82.fx 3 (amap (fun x : Int => Value.int .i64 x) (fun x : ByteArray => Value.string x) b48 (putAt (at_ (at_ m.follow p53.1) t74) (p53.2 ++ (strOfNums ([first ((at_ m.spots (at_ (at_ m.follow p53.1) t74)).set)] : List Int))) next2)) rfl
             dsimp only [lAa, lAn, lA0, lAs] at S83
             refine p_s rfl rfl (x_mapUpdate rfl rfl rfl r82) ?_
             refine run_region_end ?_
             refine run_end Tryd.func124 (res0 rfl) ?_
             refine ⟨_, rfl, ?_⟩
             refine run_region_end ?_
             refine run_inBlock ?_
             refine run_reg (l := [0, 1]) rfl ?_
             refine p_v (v := .int .i64 (t74 + 1)) rfl rfl rfl (x_add r59_74 rfl (in_i64 (by first|omega|(simp;omega)|assumption|simp) (by first|omega|(simp;omega)|assumption|simp))) ?_
             refine p_v (v := .int .i64 (t74 + 1)) rfl rfl rfl (x_move rfl) ?_
             refine run_region_end ?_
             refine ih59 (putAt (at_ (at_ m.follow p53.1) t74) (p53.2 ++ (strOfNums ([first ((at_ m.spots (at_ (at_ m.follow p53.1) t74)).set)] : List Int))) next2, t74 + 1) _ _ (by dsimp only; omega) ⟨h59, le59, S83.sub [0, 1, 2, 3] (by decide) rfl _ rfl, r59_1, r59_4, r59_11, r59_13, r59_62, r59_72, r59_73, rfl, (in_i64 (by first|omega|(simp;omega)|assumption|simp) (by first|omega|(simp;omega)|assumption|simp)), (by first | exact ⟨by omega, by omega, o3_skip hI59.2.2 (.inl (by assumption))⟩ | exact ⟨by omega, by omega, o3_skip hI59.2.2 (.inr (by assumption))⟩ | exact ⟨by omega, by omega, o3_put hI59.1 hI59.2.2 (by omega) (by assumption) (by assumption) (.inl (by assumption))⟩ | exact ⟨by omega, by omega, o3_put hI59.1 hI59.2.2 (by omega) (by assumption) (by assumption) (.inr (by assumption))⟩ | exact ⟨by omega, by omega, o3_keep hI59.1 hI59.2.2 (by omega) (by assumption) (by assumption) (by assumption) (by assumption)⟩)⟩
          ·skip
           refine run_skip ?_
           refine run_inBlock ?_
           refine run_reg (l := [0, 1]) rfl ?_
           refine p_v (v := .int .i64 (t74 + 1)) rfl rfl rfl (x_add r59_74 rfl (in_i64 (by first|omega|(simp;omega)|assumption|simp) (by first|omega|(simp;omega)|assumption|simp))) ?_
           refine p_v (v := .int .i64 (t74 + 1)) rfl rfl rfl (x_move rfl) ?_
           refine run_region_end ?_
           refine ih59 (next2, t74 + 1) _ _ (by dsimp only; omega) ⟨h59, le59, S59.sub [0, 1, 2, 3] (by decide) rfl _ rfl, r59_1, r59_4, r59_11, r59_13, r59_62, r59_72, r59_73, rfl, (in_i64 (by first|omega|(simp;omega)|assumption|simp) (by first|omega|(simp;omega)|assumption|simp)), (by first | exact ⟨by omega, by omega, o3_skip hI59.2.2 (.inl (by assumption))⟩ | exact ⟨by omega, by omega, o3_skip hI59.2.2 (.inr (by assumption))⟩ | exact ⟨by omega, by omega, o3_put hI59.1 hI59.2.2 (by omega) (by assumption) (by assumption) (.inl (by assumption))⟩ | exact ⟨by omega, by omega, o3_put hI59.1 hI59.2.2 (by omega) (by assumption) (by assumption) (.inr (by assumption))⟩ | exact ⟨by omega, by omega, o3_keep hI59.1 hI59.2.2 (by omega) (by assumption) (by assumption) (by assumption) (by assumption)⟩)⟩
         ·skip
          refine run_exit rfl ?_
          refine run_inBlock ?_
          refine ih52 (la53 ++ lb53, next2) _ _ (by dsimp only; exact left_dec hx53) ⟨h59, ((le52).trans le59), S59.sub [0, 1, 2, 3] (by decide) rfl _ rfl, r59_1, r59_4, r59_11, r59_62, (by exact ⟨_, hp7_, o3_end hI59.2.2 (by omega)⟩)⟩
       ·skip
        have S84 := T46.fx 2 (mitc (fun x : Int => Value.int .i64 x) (fun x : ByteArray => Value.string x) b_at r43 xat2 (la46 ++ lb46) p46) rfl
        dsimp only [lAa, lAn, lA0, lAs] at S84
        refine p_v (v := .tuple #[.bool true, .int .i64 p46.1, .string p46.2]) rfl rfl rfl (x_next r45_52 rx46) ?_
        obtain ⟨dn3_, hp3_, hM3_⟩ := hI45; obtain ⟨hp4_, hm3_⟩ := perm_next hp3_ hx46; obtain ⟨hne3_, hr3_, hz3_, ht253_, hzz3_⟩ := lev_small hL_ hR_ hm3_; have hra_ := hr3_.1; have hrb_ := hr3_.2
        refine p_v (v := .bool true) rfl rfl rfl (x_extract (vs := [.bool true, .int .i64 p46.1, .string p46.2]) rfl rfl) ?_
        refine run_region_end ?_
        refine run_seq ?_
        refine run_cond (b := true) rfl ?_
        simp only [if_true, if_false, Bool.false_eq_true]
        refine run_skip ?_
        refine run_block ?_
        refine run_seq ?_
        refine run_reg (l := [0, 1, 2]) rfl ?_
        obtain ⟨r85, T85⟩ := e_entry (P := Tryd.prog) S84 (j := 2) rfl
        have S86 := T85.fx 2 (mit (fun x : Int => Value.int .i64 x) (fun x : ByteArray => Value.string x) b_at r43 xat2 (la46 ++ lb46)) rfl
        dsimp only [lAa, lAn, lA0, lAs] at S86
        refine p_v (v := .tuple #[.int .i64 p46.1, .string p46.2]) rfl rfl rfl (x_entry r45_52 r85) ?_
        refine p_v (v := .int .i64 p46.1) rfl rfl rfl (x_extract (vs := [.int .i64 p46.1, .string p46.2]) rfl rfl) ?_
        refine p_v (v := .int .i64 p46.1) rfl rfl rfl (x_assign rfl) ?_
        refine run_region_end ?_
        refine run_reg (l := [0, 1, 2, 3]) rfl ?_
        refine p_v (v := v_seen2) rfl rfl rfl (x_move r45_4) ?_
        refine p_v (v := .int .i64 p46.1) rfl rfl rfl (x_move rfl) ?_
        obtain ⟨ad87, a87, at87⟩ := e_index_own (q := p46.1) (m := 1) S86 (j := 1) rfl rfl (by first|omega|(simp;omega)|assumption|simp) (by first|omega|(simp;omega)|assumption|simp)
        refine p_v (v := .pointer (some ad87)) rfl rfl rfl (x_index_own u25 ty4 rfl rfl a87 (by first|omega|(simp;omega)|assumption|simp) (by first|omega|(simp;omega)|assumption|simp)) ?_
        obtain ⟨w88, r88, g88, T88⟩ := e_store_own (u := .bool true) (q := p46.1) true (vs := [.bool true]) S86 ty4 rfl (j := 1) rfl rfl ⟨rfl, trivial⟩ at87 (by first|omega|(simp;omega)|assumption|simp) (by first|omega|(simp;omega)|assumption|simp)
        have S89 := T88.fx 1 (row 4 Kd.bool v_seen2 (seen2.set (p46.1).toNat true)) rfl
        dsimp only [lAa, lAn, lA0, lAs] at S89
        refine p_s rfl rfl (x_store rfl rfl r88) ?_
        refine run_region_end ?_
        refine run_inBlock ?_
        refine ih45 (seen2.set (p46.1).toNat true, la46 ++ lb46) _ _ (by dsimp only; exact left_dec hx46) ⟨h45, v_seen2, le45, S89.sub [0, 1, 2] (by decide) rfl _ rfl, r45_1, r45_4, r45_5, r45_52, (by exact ⟨_, hp4_, mk_step hM3_ hra_ hrb_⟩)⟩
     ·skip
      have S90 := T40.fx 2 (mitc (fun x : Int => Value.int .i64 x) (fun x : ByteArray => Value.string x) b_at r37 xat2 (la40 ++ lb40) p40) rfl
      dsimp only [lAa, lAn, lA0, lAs] at S90
      refine p_v (v := .tuple #[.bool true, .int .i64 p40.1, .string p40.2]) rfl rfl rfl (x_next r39_11 rx40) ?_
      obtain ⟨dn_, hp_, hE_⟩ := hI39; obtain ⟨hp1_, hm_⟩ := perm_next hp_ hx40; obtain ⟨hne2_, hr_, hz_, ht250_, hzz_⟩ := lev_small hL_ hR_ hm_; have hra0_ := hr_.1; have hrb0_ := hr_.2
      refine p_v (v := .bool true) rfl rfl rfl (x_extract (vs := [.bool true, .int .i64 p40.1, .string p40.2]) rfl rfl) ?_
      refine run_region_end ?_
      refine run_seq ?_
      refine run_cond (b := true) rfl ?_
      simp only [if_true, if_false, Bool.false_eq_true]
      refine run_skip ?_
      refine run_block ?_
      refine run_seq ?_
      refine run_reg (l := [0, 1, 2, 3, 4]) rfl ?_
      obtain ⟨r91, T91⟩ := e_entry (P := Tryd.prog) S90 (j := 2) rfl
      have S92 := T91.fx 2 (mit (fun x : Int => Value.int .i64 x) (fun x : ByteArray => Value.string x) b_at r37 xat2 (la40 ++ lb40)) rfl
      dsimp only [lAa, lAn, lA0, lAs] at S92
      refine p_v (v := .tuple #[.int .i64 p40.1, .string p40.2]) rfl rfl rfl (x_entry r39_11 r91) ?_
      refine p_v (v := .int .i64 p40.1) rfl rfl rfl (x_extract (vs := [.int .i64 p40.1, .string p40.2]) rfl rfl) ?_
      refine p_v (v := .string p40.2) rfl rfl rfl (x_extract (vs := [.int .i64 p40.1, .string p40.2]) rfl rfl) ?_
      refine p_v (v := .int .i64 p40.1) rfl rfl rfl (x_assign rfl) ?_
      refine p_v (v := .string p40.2) rfl rfl rfl (x_assign rfl) ?_
      refine run_region_end ?_
      refine run_seq ?_
      refine run_reg (l := [0, 1, 2, 3, 4, 5, 6, 7, 8, 9, 10, 11, 12, 13]) rfl ?_
      refine p_v (v := .pointer (some ⟨b35, 3, none⟩)) rfl rfl rfl (x_fieldAt fd27_3 ty25 rfl r39_3) ?_
      refine p_v (v := .slice A0_3 m.last.length c0_3) rfl rfl rfl (x_load (seg := [.slice A0_3 m.last.length c0_3]) ty25 rfl (by simp) rfl (CF.box (m := 1) (S92.box_at (j := 3) rfl) rfl)) ?_
      refine p_v (v := .int .i64 p40.1) rfl rfl rfl (x_move rfl) ?_
      obtain ⟨ad93, seg93, a93, rp93, ce93⟩ := e_index_ro (q := p40.1) (m := 1) l0_3 rfl (by first|omega|(simp;omega)|assumption|simp) (by first|omega|(simp;omega)|assumption|simp)
      refine p_v (v := .pointer (some ad93)) rfl rfl rfl (x_index_ro u25 ty4 rfl rfl a93 (by first|omega|(simp;omega)|assumption|simp) (by first|omega|(simp;omega)|assumption|simp)) ?_
      obtain ⟨rfl, _⟩ := rp93
      refine p_v (v := .bool (at_ m.last p40.1)) rfl rfl rfl (x_load (seg := [.bool (at_ m.last p40.1)]) ty4 rfl (by simp) rfl (CF.ghost ce93 (St.le0 S92))) ?_
      refine p_v (v := .bool (at_ m.last p40.1)) rfl rfl rfl (x_move rfl) ?_
      rcases Bool.eq_false_or_eq_true (at_ m.last p40.1) with hc94 | hc94
      ·skip
       refine p_v (v := .bool found) rfl (wanted_of (j := 5) (want := true) (d := 22) (b := true) rfl rfl (congrArg Value.bool hc94) rfl) rfl (x_move r39_7) ?_
       refine p_v (v := .bool (!found)) rfl (wanted_of (j := 5) (want := true) (d := 22) (b := true) rfl rfl (congrArg Value.bool hc94) rfl) rfl (x_not rfl) ?_
       refine p_v (v := .bool (!found)) rfl (wanted_of (j := 5) (want := true) (d := 22) (b := true) rfl rfl (congrArg Value.bool hc94) rfl) rfl (x_move rfl) ?_
       rcases Bool.eq_false_or_eq_true found with hc95 | hc95
       ·skip
        first | have hE4_ := endB_at hE2_ hc95 | skip
        refine p_v (v := .string p40.2) rfl (wanted_of (j := 8) (want := false) (d := 25) (b := false) rfl rfl (congrArg (fun z => Value.bool (!z)) hc95) rfl) rfl (x_move rfl) ?_
        refine p_v (v := .string best) rfl (wanted_of (j := 8) (want := false) (d := 25) (b := false) rfl rfl (congrArg (fun z => Value.bool (!z)) hc95) rfl) rfl (x_move r39_6) ?_
        refine p_v (v := .bool (strLt p40.2 best)) rfl (wanted_of (j := 8) (want := false) (d := 25) (b := false) rfl rfl (congrArg (fun z => Value.bool (!z)) hc95) rfl) rfl (x_lss_string rfl rfl) ?_
        refine p_v (v := .bool (strLt p40.2 best)) rfl (wanted_of (j := 5) (want := true) (d := 22) (b := true) rfl rfl (congrArg Value.bool hc94) rfl) rfl (x_pick_f (congrArg (fun z => Value.bool (!z)) hc95) rfl) ?_
        refine p_v (v := .bool (strLt p40.2 best)) rfl rfl rfl (x_pick_t (congrArg Value.bool hc94) rfl) ?_
        refine run_region_end ?_
        refine run_cond_split (b := strLt p40.2 best) rfl (fun hc96 => ?_) (fun hc96 => ?_)
        ·skip
         refine run_reg (l := [0, 1, 2]) rfl ?_
         refine p_v (v := .string p40.2) rfl rfl rfl (x_move rfl) ?_
         refine p_v (v := .string p40.2) rfl rfl rfl (x_assign rfl) ?_
         refine p_v (v := .bool true) rfl rfl rfl (x_assign rfl) ?_
         refine run_region_end ?_
         refine run_inBlock ?_
         refine ih39 (la40 ++ lb40, p40.2, true) _ _ (by dsimp only; exact left_dec hx40) ⟨h39, le39, S92.sub [0, 1, 2, 3] (by decide) rfl _ rfl, r39_3, rfl, rfl, r39_11, (by assumption), (by exact ⟨_, hp1_, by first | exact endB_take hE_ (by assumption) (.inl (by assumption)) | exact endB_take hE_ (by assumption) (.inr (by assumption)) | exact endB_skip hE_ (.inl (by assumption)) | exact endB_skip hE_ (.inr ⟨by assumption, by assumption⟩) | exact endB_at (endB_skip hE_ (.inr ⟨by assumption, by assumption⟩)) (by assumption)⟩)⟩
        ·skip
         refine run_skip ?_
         refine run_inBlock ?_
         refine ih39 (la40 ++ lb40, best, true) _ _ (by dsimp only; exact left_dec hx40) ⟨h39, le39, S92.sub [0, 1, 2, 3] (by decide) rfl _ rfl, r39_3, r39_6, (r39_7.trans (congrArg Value.bool hc95)), r39_11, f39_0, (by exact ⟨_, hp1_, by first | exact endB_take hE_ (by assumption) (.inl (by assumption)) | exact endB_take hE_ (by assumption) (.inr (by assumption)) | exact endB_skip hE_ (.inl (by assumption)) | exact endB_skip hE_ (.inr ⟨by assumption, by assumption⟩) | exact endB_at (endB_skip hE_ (.inr ⟨by assumption, by assumption⟩)) (by assumption)⟩)⟩
       ·skip
        first | have hE3_ := endB_at hE2_ hc95 | skip
        refine p_off rfl (wanted_of (j := 8) (want := false) (d := 25) (b := true) rfl rfl (congrArg (fun z => Value.bool (!z)) hc95) rfl) rfl ?_
        refine p_off rfl (wanted_of (j := 8) (want := false) (d := 25) (b := true) rfl rfl (congrArg (fun z => Value.bool (!z)) hc95) rfl) rfl ?_
        refine p_off rfl (wanted_of (j := 8) (want := false) (d := 25) (b := true) rfl rfl (congrArg (fun z => Value.bool (!z)) hc95) rfl) rfl ?_
        refine p_v (v := .bool true) rfl (wanted_of (j := 5) (want := true) (d := 22) (b := true) rfl rfl (congrArg Value.bool hc94) rfl) rfl (x_pick_t (congrArg (fun z => Value.bool (!z)) hc95) rfl) ?_
        refine p_v (v := .bool true) rfl rfl rfl (x_pick_t (congrArg Value.bool hc94) rfl) ?_
        refine run_region_end ?_
        refine run_cond (b := true) rfl ?_
        simp only [if_true, if_false, Bool.false_eq_true]
        refine run_reg (l := [0, 1, 2]) rfl ?_
        refine p_v (v := .string p40.2) rfl rfl rfl (x_move rfl) ?_
        refine p_v (v := .string p40.2) rfl rfl rfl (x_assign rfl) ?_
        refine p_v (v := .bool true) rfl rfl rfl (x_assign rfl) ?_
        refine run_region_end ?_
        refine run_inBlock ?_
        refine ih39 (la40 ++ lb40, p40.2, true) _ _ (by dsimp only; exact left_dec hx40) ⟨h39, le39, S92.sub [0, 1, 2, 3] (by decide) rfl _ rfl, r39_3, rfl, rfl, r39_11, (by assumption), (by exact ⟨_, hp1_, by first | exact endB_take hE_ (by assumption) (.inl (by assumption)) | exact endB_take hE_ (by assumption) (.inr (by assumption)) | exact endB_skip hE_ (.inl (by assumption)) | exact endB_skip hE_ (.inr ⟨by assumption, by assumption⟩) | exact endB_at (endB_skip hE_ (.inr ⟨by assumption, by assumption⟩)) (by assumption)⟩)⟩
      ·skip
       refine p_off rfl (wanted_of (j := 5) (want := true) (d := 22) (b := false) rfl rfl (congrArg Value.bool hc94) rfl) rfl ?_
       refine p_off rfl (wanted_of (j := 5) (want := true) (d := 22) (b := false) rfl rfl (congrArg Value.bool hc94) rfl) rfl ?_
       refine p_off rfl (wanted_of (j := 5) (want := true) (d := 22) (b := false) rfl rfl (congrArg Value.bool hc94) rfl) rfl ?_
       refine p_off rfl rfl rfl ?_
       refine p_off rfl rfl rfl ?_
       refine p_off rfl rfl rfl ?_
       refine p_off rfl (wanted_of (j := 5) (want := true) (d := 22) (b := false) rfl rfl (congrArg Value.bool hc94) rfl) rfl ?_
       refine p_v (v := .bool false) rfl rfl rfl (x_pick_f (congrArg Value.bool hc94) rfl) ?_
       refine run_region_end ?_
       refine run_cond (b := false) rfl ?_
       simp only [if_true, if_false, Bool.false_eq_true]
       refine run_skip ?_
       refine run_inBlock ?_
       refine ih39 (la40 ++ lb40, best, found) _ _ (by dsimp only; exact left_dec hx40) ⟨h39, le39, S92.sub [0, 1, 2, 3] (by decide) rfl _ rfl, r39_3, r39_6, r39_7, r39_11, f39_0, (by exact ⟨_, hp1_, by first | exact endB_take hE_ (by assumption) (.inl (by assumption)) | exact endB_take hE_ (by assumption) (.inr (by assumption)) | exact endB_skip hE_ (.inl (by assumption)) | exact endB_skip hE_ (.inr ⟨by assumption, by assumption⟩) | exact endB_at (endB_skip hE_ (.inr ⟨by assumption, by assumption⟩)) (by assumption)⟩)⟩
    ·skip
     refine run_exit rfl ?_
     refine run_seq ?_
     refine run_reg (l := [0, 1]) rfl ?_
     refine p_v (v := .string (⟨#[]⟩ : ByteArray)) rfl rfl rfl (x_assign rfl) ?_
     refine p_v (v := .bool false) rfl rfl rfl (x_assign rfl) ?_
     refine run_region_end ?_
     refine run_ret Tryd.func62 (res2 rfl (res_tmp (v := .string (⟨#[]⟩ : ByteArray)) rfl) (res_tmp (v := .bool false) rfl)) ?_
     have q0 : (wordW (runM m) : ByteArray) = (⟨#[]⟩ : ByteArray) := by
      first | exact (word_no (fun w => run_wrong m w (by assumption))).1 | exact (word_is (empty_least hrm_ (by assumption))).1 | exact (word_is (lev_found hL_ hR_ he_ hE4_ hd2_).1).1 | exact (word_no (lev_none hL_ hR_ he_ (List.eq_nil_of_length_eq_zero (by omega)))).1
     have q1 : (okW (runM m) : Bool) = false := by
      first | exact (word_no (fun w => run_wrong m w (by assumption))).2 | exact (word_is (empty_least hrm_ (by assumption))).2 | exact (word_is (lev_found hL_ hR_ he_ hE4_ hd2_).1).2 | exact (word_no (lev_none hL_ hR_ he_ (List.eq_nil_of_length_eq_zero (by omega)))).2
     refine ⟨_, rfl, h33, ?_, ?_, ?_, ?_⟩
     · exact S33.sub [] (by decide) rfl _ rfl
     · first | rfl | (simp only [q0, q1]; rfl) | (simp only [q0, q1])
     · rw [q0]; first | assumption | exact (by decide)
     ·show (okW (runM m) = true → ((wordW (runM m)).size : Int) ≤ m.spots.length) ∧ (okW (runM m) = false → ∀ w, runM m w = false)
      first | exact path_size0 (fun w => run_wrong m w (by assumption)) | exact path_size (empty_least hrm_ (by assumption)) (by show (0 : Int) ≤ _; omega) | exact path_size (lev_found hL_ hR_ he_ hE4_ hd2_).1 (by rw [(lev_found hL_ hR_ he_ hE4_ hd2_).2]; exact lev_less hL_ hne_) | exact path_size0 (lev_none hL_ hR_ he_ (List.eq_nil_of_length_eq_zero (by omega)))
end Go.Proofs.YtfoemogojbnfhaaDoor
namespace Go.Proofs.YtfoemogojbnfhaaDoor
open Go Go.RowKit Gx
set_option maxHeartbeats 1000000
set_option linter.unusedVariables false
set_option linter.unusedSimpArgs false
set_option maxRecDepth 8000
attribute [local irreducible] listOf count first someIn has setOf wbits Lib.ctz badQ badRow rightD goD runD notD errD notTo nextB nextC outTo readTo rowIn finalB lastB leastB leastBTo buildM errB fitsP madeM allM bfs numbered putB beginB okB lessL lessW strLt cmpW cmpI orI wordW okW wordS wordT revTo leL
theorem bare_calls (w : World) :
    Calls Tryd.prog 119 #[] w fun e w' => ∃ v, e = .returned v ∧ ∃ (hn : Ghost) (r0 : Value) (r1 : Value) (r2 : Value) (r3 : Value), St w.heap.size w hn w' [row 101 kSpot r0 bareM.spots, row 3 (Kd.int .i64) r1 bareM.first, row 23 (Kd.int .i64).slice r2 bareM.follow, row 4 Kd.bool r3 bareM.last] ∧ v = .agg #[r0, r1, r2, r3, .bool bareM.empty] := by
 refine calls_of_run Tryd.func119 rfl Tryd.ntmps119 rfl ?_
 have S0 := St.init w
 refine run_seq ?_
 refine run_reg (l := [0]) rfl ?_
 obtain ⟨b1, w1, r1, g1, T1⟩ := e_box (P := Tryd.prog) S0 27 (v := (.agg #[.slice none 0 0, .slice none 0 0, .slice none 0 0, .slice none 0 0, .bool false])) [.slice none 0 0, .slice none 0 0, .slice none 0 0, .slice none 0 0, .bool false] rfl
 have S2 := T1
 dsimp only [lAa, lAn, lA0, lAs] at S2
 refine p_v (v := .pointer (some ⟨b1, 0, none⟩)) rfl rfl rfl (x_alloc ty27 r1) ?_
 refine run_region_end ?_
 refine run_seq ?_
 refine run_reg (l := [0, 1, 2]) rfl ?_
 refine p_c rfl rfl rfl (y_call (args := []) ca46 rfl rfl) (some10_calls w1 ) ?_
 rintro _ w3 ⟨h3, v3_0, v3_1, v3_2, v3_3, T3, rfl⟩
 obtain ⟨k3, lk3, ll3, U3⟩ := call_joins S2 T3
 have S4 := U3
 dsimp only [lAa, lAn, lA0, lAs] at S4
 obtain ⟨b5, w5, r5, g5, T5⟩ := e_box (P := Tryd.prog) S4 27 (v := (.agg #[.slice none 0 0, .slice none 0 0, .slice none 0 0, .slice none 0 0, .bool false])) [.slice none 0 0, .slice none 0 0, .slice none 0 0, .slice none 0 0, .bool false] rfl
 have S6 := T5
 dsimp only [lAa, lAn, lA0, lAs] at S6
 refine p_v (v := .pointer (some ⟨b5, 0, none⟩)) rfl rfl rfl (x_alloc ty27 r5) ?_
 have oc8 := row_one S6 (j := 1) rfl
 have oc9 := row_one S6 (j := 2) rfl
 have oc10 := row_one S6 (j := 3) rfl
 have oc11 := row_one S6 (j := 4) rfl
 obtain ⟨w7, r7, g7, T7⟩ := e_store (P := Tryd.prog) (off := 0) (v := .agg #[v3_0, v3_1, v3_2, v3_3, .bool someM.empty]) (vs := [v3_0, v3_1, v3_2, v3_3, .bool someM.empty]) S6 ty27 rfl rfl (j := 5) rfl (by first | decide | exact Nat.le_of_ble_eq_true rfl) (one_cons oc8 (one_cons oc9 (one_cons oc10 (one_cons oc11 (one_cons rfl one_nil)))))
 have S12 := T7.fx 5 (box b5 27 [v3_0, v3_1, v3_2, v3_3, .bool someM.empty]) rfl
 dsimp only [lAa, lAn, lA0, lAs] at S12
 refine p_s rfl rfl (x_store rfl rfl r7) ?_
 refine run_region_end ?_
 refine run_seq ?_
 refine run_reg (l := [0, 1]) rfl ?_
 refine p_v (v := .pointer (some ⟨b5, 4, none⟩)) rfl rfl rfl (x_fieldAt fd27_4 ty4 rfl rfl) ?_
 obtain ⟨w13, r13, g13, T13⟩ := e_store (P := Tryd.prog) (off := 4) (v := .bool false) (vs := [.bool false]) S12 ty4 rfl rfl (j := 5) rfl (by first | decide | exact Nat.le_of_ble_eq_true rfl) (by simp [Value.oneCell'])
 have S14 := T13.fx 5 (box b5 27 [v3_0, v3_1, v3_2, v3_3, .bool false]) rfl
 dsimp only [lAa, lAn, lA0, lAs] at S14
 refine p_s rfl rfl (x_store rfl rfl r13) ?_
 refine run_region_end ?_
 refine run_seq ?_
 refine run_reg (l := [0, 1]) rfl ?_
 refine p_v (v := .agg #[v3_0, v3_1, v3_2, v3_3, .bool false]) rfl rfl rfl (x_load (seg := [v3_0, v3_1, v3_2, v3_3, .bool false]) ty27 rfl (by simp) rfl (CF.box (m := 5) (S14.box_at (j := 5) rfl) rfl)) ?_
 have oc16 := row_one S14 (j := 1) rfl
 have oc17 := row_one S14 (j := 2) rfl
 have oc18 := row_one S14 (j := 3) rfl
 have oc19 := row_one S14 (j := 4) rfl
 obtain ⟨w15, r15, g15, T15⟩ := e_store (P := Tryd.prog) (off := 0) (v := .agg #[v3_0, v3_1, v3_2, v3_3, .bool false]) (vs := [v3_0, v3_1, v3_2, v3_3, .bool false]) S14 ty27 rfl rfl (j := 0) rfl (by first | decide | exact Nat.le_of_ble_eq_true rfl) (one_cons oc16 (one_cons oc17 (one_cons oc18 (one_cons oc19 (one_cons rfl one_nil)))))
 have S20 := T15.fx 0 (box b1 27 [v3_0, v3_1, v3_2, v3_3, .bool false]) rfl
 dsimp only [lAa, lAn, lA0, lAs] at S20
 refine p_s rfl rfl (x_store rfl rfl r15) ?_
 refine run_region_end ?_
 refine run_ret Tryd.func119 (res1 rfl (res_cell S20 ty27 rfl (j := 0) rfl rfl (by simp) rfl)) ?_
 have q0 : (bareM.spots : List Spot) = someM.spots := by
  unfold bareM; rfl
 have q1 : (bareM.first : List Int) = someM.first := by
  unfold bareM; rfl
 have q2 : (bareM.follow : List (List Int)) = someM.follow := by
  unfold bareM; rfl
 have q3 : (bareM.last : List Bool) = someM.last := by
  unfold bareM; rfl
 have q4 : (bareM.empty : Bool) = false := by
  unfold bareM; rfl
 refine ⟨_, rfl, k3, v3_0, v3_1, v3_2, v3_3, ?_, ?_⟩
 · rw [q0]; rw [q1]; rw [q2]; rw [q3]; exact S20.sub [1, 2, 3, 4] (by decide) rfl _ rfl
 · first | rfl | (simp only [q0, q1, q2, q3, q4]; rfl) | (simp only [q0, q1, q2, q3, q4])
theorem awake13_calls (w : World) (tb : Block 0 tzTab w) :
    Calls Tryd.prog 55 #[] w fun e w' => ∃ v, e = .returned v ∧ ∃ (hn : Ghost), St w.heap.size w hn w' [] ∧ v = .bool true := by
 refine calls_of_run Tryd.func55 rfl Tryd.ntmps55 rfl ?_
 have S0 := St.init w
 have hbl_ := bare_len
 refine run_seq ?_
 refine run_reg (l := [0]) rfl ?_
 refine p_v (v := .bool false) rfl rfl rfl (x_assign rfl) ?_
 refine run_region_end ?_
 refine run_seq ?_
 refine run_reg (l := [0, 1, 2]) rfl ?_
 refine p_c rfl rfl rfl (y_call (args := []) ca119 rfl rfl) (bare_calls w ) ?_
 rintro _ w1 ⟨h1, v1_0, v1_1, v1_2, v1_3, T1, rfl⟩
 obtain ⟨k1, lk1, ll1, U1⟩ := call_joins S0 T1
 have S2 := U1
 dsimp only [lAa, lAn, lA0, lAs] at S2
 obtain ⟨h3, le3, T3, rp3⟩ := S2.freeze (i := 0) rfl
 have lf3_0 := (lk1).trans le3
 have S4 := T3.fx 0 (emp) rfl
 dsimp only [lAa, lAn, lA0, lAs] at S4
 obtain ⟨A3, c3, e3, lc3, cm3, ld3⟩ := rp3
 injection e3 with e3 _; subst e3
 have cn3 := cm3; simp only [maxLen] at cn3
 obtain ⟨h5, le5, T5, rp5⟩ := S4.freeze (i := 1) rfl
 have lf5_0 := (lf3_0).trans le5
 have lf5_1 := (le3).trans le5
 have S6 := T5.fx 1 (emp) rfl
 dsimp only [lAa, lAn, lA0, lAs] at S6
 obtain ⟨A5, c5, e5, lc5, cm5, ld5⟩ := rp5
 injection e5 with e5 _; subst e5
 have cn5 := cm5; simp only [maxLen] at cn5
 obtain ⟨h7, le7, T7, rp7⟩ := S6.freeze (i := 2) rfl
 have lf7_0 := (lf5_0).trans le7
 have lf7_1 := (lf5_1).trans le7
 have lf7_2 := (le5).trans le7
 have S8 := T7.fx 2 (emp) rfl
 dsimp only [lAa, lAn, lA0, lAs] at S8
 obtain ⟨A7, c7, e7, lc7, cm7, ld7⟩ := rp7
 injection e7 with e7 _; subst e7
 have cn7 := cm7; simp only [maxLen] at cn7
 obtain ⟨h9, le9, T9, rp9⟩ := S8.freeze (i := 3) rfl
 have lf9_0 := (lf7_0).trans le9
 have lf9_1 := (lf7_1).trans le9
 have lf9_2 := (lf7_2).trans le9
 have lf9_3 := (le7).trans le9
 have S10 := T9.fx 3 (emp) rfl
 dsimp only [lAa, lAn, lA0, lAs] at S10
 obtain ⟨A9, c9, e9, lc9, cm9, ld9⟩ := rp9
 injection e9 with e9 _; subst e9
 have cn9 := cm9; simp only [maxLen] at cn9
 obtain ⟨b11, w11, r11, g11, T11⟩ := e_box (P := Tryd.prog) S10 27 (v := (.agg #[.slice none 0 0, .slice none 0 0, .slice none 0 0, .slice none 0 0, .bool false])) [.slice none 0 0, .slice none 0 0, .slice none 0 0, .slice none 0 0, .bool false] rfl
 have S12 := T11
 dsimp only [lAa, lAn, lA0, lAs] at S12
 refine p_v (v := .pointer (some ⟨b11, 0, none⟩)) rfl rfl rfl (x_alloc ty27 r11) ?_
 obtain ⟨w13, r13, g13, T13⟩ := e_store (P := Tryd.prog) (off := 0) (v := .agg #[.slice A3 bareM.spots.length c3, .slice A5 bareM.first.length c5, .slice A7 bareM.follow.length c7, .slice A9 bareM.last.length c9, .bool bareM.empty]) (vs := [.slice A3 bareM.spots.length c3, .slice A5 bareM.first.length c5, .slice A7 bareM.follow.length c7, .slice A9 bareM.last.length c9, .bool bareM.empty]) S12 ty27 rfl rfl (j := 4) rfl (by first | decide | exact Nat.le_of_ble_eq_true rfl) (by simp [Value.oneCell'])
 have S14 := T13.fx 4 (box b11 27 [.slice A3 bareM.spots.length c3, .slice A5 bareM.first.length c5, .slice A7 bareM.follow.length c7, .slice A9 bareM.last.length c9, .bool bareM.empty]) rfl
 dsimp only [lAa, lAn, lA0, lAs] at S14
 refine p_s rfl rfl (x_store rfl rfl r13) ?_
 refine run_region_end ?_
 refine run_seq ?_
 have hf15 : (CFs ⟨b11, 0, none⟩ [.slice A3 bareM.spots.length c3, .slice A5 bareM.first.length c5, .slice A7 bareM.follow.length c7, .slice A9 bareM.last.length c9, .bool bareM.empty]).1 w13 := (CF.box (m := 5) (S14.box_at (j := 4) rfl) rfl)
 have hf16 : (CFs ⟨b11, 0, none⟩ [.slice A3 bareM.spots.length c3, .slice A5 bareM.first.length c5, .slice A7 bareM.follow.length c7, .slice A9 bareM.last.length c9, .bool bareM.empty]).1 w13 := (CF.box (m := 5) (S14.box_at (j := 4) rfl) rfl)
 refine daS (hkC 0 hf15 (hkC 1 hf16 (hkN (w := w13)))) 11 rfl mixed ?_
 intro wd17 gd17 hd17
 have S18 := S14.keep gd17
 have hf19 := spUp gd17 hf15
 have hf20 := spUp gd17 hf16
 refine qd1 0 (i := 0) (v := .agg #[.slice A3 bareM.spots.length c3, .slice A5 bareM.first.length c5, .slice A7 bareM.follow.length c7, .slice A9 bareM.last.length c9, .bool bareM.empty]) rfl rfl (by decide +kernel) rfl rfl (fun wq hq => (x_load (seg := [.slice A3 bareM.spots.length c3, .slice A5 bareM.first.length c5, .slice A7 bareM.follow.length c7, .slice A9 bareM.last.length c9, .bool bareM.empty]) ty27 rfl (by simp) rfl hq)) (of_eq hf19 (of_no rfl)) ?_
 refine qd1 1 (i := 1) (v := .agg #[.slice A3 bareM.spots.length c3, .slice A5 bareM.first.length c5, .slice A7 bareM.follow.length c7, .slice A9 bareM.last.length c9, .bool bareM.empty]) rfl rfl (by decide +kernel) rfl rfl (fun wq hq => (x_load (seg := [.slice A3 bareM.spots.length c3, .slice A5 bareM.first.length c5, .slice A7 bareM.follow.length c7, .slice A9 bareM.last.length c9, .bool bareM.empty]) ty27 rfl (by simp) rfl hq)) (of_ne rfl (of_eq hf20 (of_no rfl))) ?_
 refine ra_join (fun ρ w' => ∃ (h : Ghost) (j69_b52 : Nat) (j69_A43 : Option Addr) (j69_c43 : Nat) (j69_A45 : Option Addr) (j69_c45 : Nat), Le h9 h ∧ St w.heap.size w h w' [box b11 27 [.slice A3 bareM.spots.length c3, .slice A5 bareM.first.length c5, .slice A7 bareM.follow.length c7, .slice A9 bareM.last.length c9, .bool bareM.empty], box j69_b52 35 ((encPart ((buildM bareM (refineP (setsM bareM))).part)) ++ ([.slice j69_A43 ((buildM bareM (refineP (setsM bareM))).next).length j69_c43, .slice j69_A45 ((buildM bareM (refineP (setsM bareM))).final).length j69_c45] : List Value))] ∧ ρ 1 = .pointer (some ⟨b11, 0, none⟩) ∧ ρ 2 = .pointer (some ⟨j69_b52, 0, none⟩) ∧ ρ 3 = .int .i64 (errB bareM (refineP (setsM bareM))) ∧ inK .i64 (errB bareM (refineP (setsM bareM))) ∧ okPart ((buildM bareM (refineP (setsM bareM))).part) ∧ (((buildM bareM (refineP (setsM bareM))).next).length ≤ j69_c43 ∧ j69_c43 ≤ maxLen) ∧ Leads (Kd.int .i64).slice h j69_A43 ((buildM bareM (refineP (setsM bareM))).next) ∧ (((buildM bareM (refineP (setsM bareM))).final).length ≤ j69_c45 ∧ j69_c45 ≤ maxLen) ∧ Leads Kd.bool h j69_A45 ((buildM bareM (refineP (setsM bareM))).final)) ?_ (fun jn69 => ?_)
 ·skip
  rintro ρj69 wj69 ⟨hj69, j69_b52, j69_A43, j69_c43, j69_A45, j69_c45, lej69, Sj69, rj69_1, rj69_2, rj69_3, jf69_0, jf69_1, jf69_2, jf69_3, jf69_4, jf69_5⟩
  have jl69_0 := i64_lo jf69_0; have jh69_0 := i64_hi jf69_0
  have jb69_2 := jf69_2.1; have jc69_2 := jf69_2.2; simp only [maxLen] at jc69_2
  have jb69_4 := jf69_4.1; have jc69_4 := jf69_4.2; simp only [maxLen] at jc69_4
  refine run_seq ?_
  refine run_reg (l := [0, 1, 2, 3, 4, 5, 6]) rfl ?_
  refine p_v (v := .agg ((encPart ((buildM bareM (refineP (setsM bareM))).part)) ++ ([.slice j69_A43 ((buildM bareM (refineP (setsM bareM))).next).length j69_c43, .slice j69_A45 ((buildM bareM (refineP (setsM bareM))).final).length j69_c45] : List Value)).toArray) rfl rfl rfl (x_load (seg := ((encPart ((buildM bareM (refineP (setsM bareM))).part)) ++ ([.slice j69_A43 ((buildM bareM (refineP (setsM bareM))).next).length j69_c43, .slice j69_A45 ((buildM bareM (refineP (setsM bareM))).final).length j69_c45] : List Value))) ty35 (len_app (encPart_len jf69_1) rfl) (by simp) rj69_2 (CF.box (m := 259) (Sj69.box_at (j := 1) rfl) (take_all (len_app (encPart_len jf69_1) rfl)))) ?_
  refine p_c rfl rfl rfl (y_call (args := [.agg ((encPart ((buildM bareM (refineP (setsM bareM))).part)) ++ ([.slice j69_A43 ((buildM bareM (refineP (setsM bareM))).next).length j69_c43, .slice j69_A45 ((buildM bareM (refineP (setsM bareM))).final).length j69_c45] : List Value)).toArray]) ca58 rfl rfl) (wordD_calls wj69 (buildM bareM (refineP (setsM bareM))) jf69_1 j69_A43 j69_c43 jf69_2 (jf69_3.mono ((Le.refl _).trans Sj69.ghost)) j69_A45 j69_c45 jf69_4 (jf69_5.mono ((Le.refl _).trans Sj69.ghost)) (by first | assumption | omega | decide) (Block.st Sj69 tb)) ?_
  rintro _ w70 ⟨h70, T70, rfl, sz70_0, fx70⟩
  have S71 := Sj69.keep (Chg.of_below T70.below)
  have bd_sz70_0 := sz70_0; simp only [maxLen] at bd_sz70_0
  have hwA_ := fx70.1; have hwB_ := fx70.2
  refine p_v (v := .tuple #[.string (wordW (runD (buildM bareM (refineP (setsM bareM))))), .bool (okW (runD (buildM bareM (refineP (setsM bareM)))))]) rfl rfl rfl (x_move rfl) ?_
  refine p_v (v := .string (wordW (runD (buildM bareM (refineP (setsM bareM)))))) rfl rfl rfl (x_extract (vs := [.string (wordW (runD (buildM bareM (refineP (setsM bareM))))), .bool (okW (runD (buildM bareM (refineP (setsM bareM)))))]) rfl rfl) ?_
  refine p_v (v := .bool (okW (runD (buildM bareM (refineP (setsM bareM)))))) rfl rfl rfl (x_extract (vs := [.string (wordW (runD (buildM bareM (refineP (setsM bareM))))), .bool (okW (runD (buildM bareM (refineP (setsM bareM)))))]) rfl rfl) ?_
  refine p_v (v := .string (wordW (runD (buildM bareM (refineP (setsM bareM)))))) rfl rfl rfl (x_assign rfl) ?_
  refine p_v (v := .bool (okW (runD (buildM bareM (refineP (setsM bareM)))))) rfl rfl rfl (x_assign rfl) ?_
  refine run_region_end ?_
  refine run_seq ?_
  refine run_reg (l := [0, 1, 2, 3, 4, 5, 6]) rfl ?_
  refine p_v (v := .agg #[.slice A3 bareM.spots.length c3, .slice A5 bareM.first.length c5, .slice A7 bareM.follow.length c7, .slice A9 bareM.last.length c9, .bool bareM.empty]) rfl rfl rfl (x_load (seg := [.slice A3 bareM.spots.length c3, .slice A5 bareM.first.length c5, .slice A7 bareM.follow.length c7, .slice A9 bareM.last.length c9, .bool bareM.empty]) ty27 rfl (by simp) rj69_1 (CF.box (m := 5) (S71.box_at (j := 0) rfl) rfl)) ?_
  refine p_c rfl rfl rfl (y_call (args := [.agg #[.slice A3 bareM.spots.length c3, .slice A5 bareM.first.length c5, .slice A7 bareM.follow.length c7, .slice A9 bareM.last.length c9, .bool bareM.empty]]) ca62 rfl rfl) (path_calls w70 bareM A3 c3 (And.intro lc3 cm3) (ld3.mono (((lf9_2).trans lej69).trans S71.ghost)) A5 c5 (And.intro lc5 cm5) (ld5.mono (((lf9_3).trans lej69).trans S71.ghost)) A7 c7 (And.intro lc7 cm7) (ld7.mono (((le9).trans lej69).trans S71.ghost)) A9 c9 (And.intro lc9 cm9) (ld9.mono (lej69.trans S71.ghost)) (Block.st S71 tb)) ?_
  rintro _ w72 ⟨h72, T72, rfl, sz72_0, fx72⟩
  have S73 := S71.keep (Chg.of_below T72.below)
  have bd_sz72_0 := sz72_0; simp only [maxLen] at bd_sz72_0
  have hpA_ := fx72.1; have hpB_ := fx72.2
  refine p_v (v := .tuple #[.string (wordW (runM bareM)), .bool (okW (runM bareM))]) rfl rfl rfl (x_move rfl) ?_
  refine p_v (v := .string (wordW (runM bareM))) rfl rfl rfl (x_extract (vs := [.string (wordW (runM bareM)), .bool (okW (runM bareM))]) rfl rfl) ?_
  refine p_v (v := .bool (okW (runM bareM))) rfl rfl rfl (x_extract (vs := [.string (wordW (runM bareM)), .bool (okW (runM bareM))]) rfl rfl) ?_
  refine p_v (v := .string (wordW (runM bareM))) rfl rfl rfl (x_assign rfl) ?_
  refine p_v (v := .bool (okW (runM bareM))) rfl rfl rfl (x_assign rfl) ?_
  refine run_region_end ?_
  refine run_seq ?_
  refine run_reg (l := [0, 1, 2, 3, 4, 5, 6, 7, 8, 9, 10, 11, 12, 13, 14, 15, 16, 17, 18, 19, 20, 21, 22, 23, 24]) rfl ?_
  refine p_v (v := .int .i64 (errB bareM (refineP (setsM bareM)))) rfl rfl rfl (x_move rj69_3) ?_
  refine p_v (v := .bool (decide ((errB bareM (refineP (setsM bareM))) = 0))) rfl rfl rfl (x_eql rfl rfl) ?_
  refine p_v (v := .bool (decide ((errB bareM (refineP (setsM bareM))) = 0))) rfl rfl rfl (x_move rfl) ?_
  have hc74 : ((errB bareM (refineP (setsM bareM))) = 0) := by
   exact bare_1
  refine p_v (v := .string (wordW (runD (buildM bareM (refineP (setsM bareM)))))) rfl (wanted_of (j := 2) (want := true) (d := 29) (b := true) rfl rfl (congrArg Value.bool (decide_eq_true hc74)) rfl) rfl (x_move rfl) ?_
  refine p_v (v := .bool (decide ((wordW (runD (buildM bareM (refineP (setsM bareM))))) = (⟨#[97, 98]⟩ : ByteArray)))) rfl (wanted_of (j := 2) (want := true) (d := 29) (b := true) rfl rfl (congrArg Value.bool (decide_eq_true hc74)) rfl) rfl (x_eql_string rfl rfl) ?_
  refine p_v (v := .bool (decide ((wordW (runD (buildM bareM (refineP (setsM bareM))))) = (⟨#[97, 98]⟩ : ByteArray)))) rfl rfl rfl (x_pick_t (congrArg Value.bool (decide_eq_true hc74)) rfl) ?_
  refine p_v (v := .bool (decide ((wordW (runD (buildM bareM (refineP (setsM bareM))))) = (⟨#[97, 98]⟩ : ByteArray)))) rfl rfl rfl (x_move rfl) ?_
  have hc75 : ((wordW (runD (buildM bareM (refineP (setsM bareM))))) = (⟨#[97, 98]⟩ : ByteArray)) := by
   exact bare_2
  refine p_v (v := .bool (okW (runD (buildM bareM (refineP (setsM bareM)))))) rfl (wanted_of (j := 6) (want := true) (d := 33) (b := true) rfl rfl (congrArg Value.bool (decide_eq_true hc75)) rfl) rfl (x_move rfl) ?_
  refine p_v (v := .bool (okW (runD (buildM bareM (refineP (setsM bareM)))))) rfl rfl rfl (x_pick_t (congrArg Value.bool (decide_eq_true hc75)) rfl) ?_
  refine p_v (v := .bool (okW (runD (buildM bareM (refineP (setsM bareM)))))) rfl rfl rfl (x_move rfl) ?_
  have hc76 : (okW (runD (buildM bareM (refineP (setsM bareM))))) = true := by
   exact bare_3
  refine p_v (v := .string (wordW (runM bareM))) rfl (wanted_of (j := 9) (want := true) (d := 36) (b := true) rfl rfl (congrArg Value.bool hc76) rfl) rfl (x_move rfl) ?_
  refine p_v (v := .bool (decide ((wordW (runM bareM)) = (⟨#[97, 98]⟩ : ByteArray)))) rfl (wanted_of (j := 9) (want := true) (d := 36) (b := true) rfl rfl (congrArg Value.bool hc76) rfl) rfl (x_eql_string rfl rfl) ?_
  refine p_v (v := .bool (decide ((wordW (runM bareM)) = (⟨#[97, 98]⟩ : ByteArray)))) rfl rfl rfl (x_pick_t (congrArg Value.bool hc76) rfl) ?_
  refine p_v (v := .bool (decide ((wordW (runM bareM)) = (⟨#[97, 98]⟩ : ByteArray)))) rfl rfl rfl (x_move rfl) ?_
  have hc77 : ((wordW (runM bareM)) = (⟨#[97, 98]⟩ : ByteArray)) := by
   exact bare_4
  refine p_v (v := .bool (okW (runM bareM))) rfl (wanted_of (j := 13) (want := true) (d := 40) (b := true) rfl rfl (congrArg Value.bool (decide_eq_true hc77)) rfl) rfl (x_move rfl) ?_
  refine p_v (v := .bool (okW (runM bareM))) rfl rfl rfl (x_pick_t (congrArg Value.bool (decide_eq_true hc77)) rfl) ?_
  refine p_v (v := .bool (okW (runM bareM))) rfl rfl rfl (x_move rfl) ?_
  have hc78 : (okW (runM bareM)) = true := by
   exact bare_5
  refine p_v (v := .agg ((encPart ((buildM bareM (refineP (setsM bareM))).part)) ++ ([.slice j69_A43 ((buildM bareM (refineP (setsM bareM))).next).length j69_c43, .slice j69_A45 ((buildM bareM (refineP (setsM bareM))).final).length j69_c45] : List Value)).toArray) rfl (wanted_of (j := 16) (want := true) (d := 43) (b := true) rfl rfl (congrArg Value.bool hc78) rfl) rfl (x_load (seg := ((encPart ((buildM bareM (refineP (setsM bareM))).part)) ++ ([.slice j69_A43 ((buildM bareM (refineP (setsM bareM))).next).length j69_c43, .slice j69_A45 ((buildM bareM (refineP (setsM bareM))).final).length j69_c45] : List Value))) ty35 (len_app (encPart_len jf69_1) rfl) (by simp) rj69_2 (CF.box (m := 259) (S73.box_at (j := 1) rfl) (take_all (len_app (encPart_len jf69_1) rfl)))) ?_
  refine p_c rfl (wanted_of (j := 16) (want := true) (d := 43) (b := true) rfl rfl (congrArg Value.bool hc78) rfl) rfl (y_call (args := [.agg ((encPart ((buildM bareM (refineP (setsM bareM))).part)) ++ ([.slice j69_A43 ((buildM bareM (refineP (setsM bareM))).next).length j69_c43, .slice j69_A45 ((buildM bareM (refineP (setsM bareM))).final).length j69_c45] : List Value)).toArray]) ca59 rfl rfl) (emptyD_calls w72 (buildM bareM (refineP (setsM bareM))) jf69_1 j69_A43 j69_c43 jf69_2 (jf69_3.mono ((Le.refl _).trans S73.ghost)) j69_A45 j69_c45 jf69_4 (jf69_5.mono ((Le.refl _).trans S73.ghost)) (by first | assumption | omega | decide) (Block.st S73 tb)) ?_
  rintro _ w79 ⟨h79, T79, rfl⟩
  have S80 := S73.keep (Chg.of_below T79.below)
  refine p_v (v := .bool (!(!okW (runD (buildM bareM (refineP (setsM bareM))))))) rfl (wanted_of (j := 16) (want := true) (d := 43) (b := true) rfl rfl (congrArg Value.bool hc78) rfl) rfl (x_not rfl) ?_
  refine p_v (v := .bool (!(!okW (runD (buildM bareM (refineP (setsM bareM))))))) rfl rfl rfl (x_pick_t (congrArg Value.bool hc78) rfl) ?_
  refine p_v (v := .bool (!(!okW (runD (buildM bareM (refineP (setsM bareM))))))) rfl rfl rfl (x_move rfl) ?_
  have hc81 : (!okW (runD (buildM bareM (refineP (setsM bareM))))) = false := by
   rw [bare_3]; rfl
  refine p_c rfl (wanted_of (j := 21) (want := true) (d := 48) (b := true) rfl rfl (congrArg (fun z => Value.bool (!z)) hc81) rfl) rfl (y_call (args := [.string (⟨#[98]⟩ : ByteArray), .string (⟨#[97, 98]⟩ : ByteArray)]) ca56 rfl rfl) (less_calls w79 (⟨#[98]⟩ : ByteArray) (by decide) (⟨#[97, 98]⟩ : ByteArray) (by decide)) ?_
  rintro _ w82 ⟨h82, T82, rfl⟩
  have S83 := S80.keep (Chg.of_below T82.below)
  refine p_v (v := .bool (lessW (⟨#[98]⟩ : ByteArray) (⟨#[97, 98]⟩ : ByteArray))) rfl rfl rfl (x_pick_t (congrArg (fun z => Value.bool (!z)) hc81) rfl) ?_
  refine p_v (v := .bool (lessW (⟨#[98]⟩ : ByteArray) (⟨#[97, 98]⟩ : ByteArray))) rfl rfl rfl (x_assign rfl) ?_
  refine run_region_end ?_
  have hc84 : (lessW (⟨#[98]⟩ : ByteArray) (⟨#[97, 98]⟩ : ByteArray)) = true := by
   exact bare_6
  refine run_ret Tryd.func55 (res1 rfl (res_tmp (v := .bool true) (congrArg Value.bool hc84))) ?_
  have q0 : (true : Bool) = true := rfl
  refine ⟨_, rfl, hj69, ?_, ?_⟩
  · exact S83.sub [] (by decide) rfl _ rfl
  · rfl
 ·skip
  refine ra_two (i := 2) (i2 := 8) (by decide +kernel) ?_ ?_
  ·skip
   intro wd85 gd85
   have S86 := S18.keep gd85
   have hf87 := spUp gd85 hf19
   have hf88 := spUp gd85 hf20
   refine d_c rfl rfl rfl (y_call (args := [.agg #[.slice A3 bareM.spots.length c3, .slice A5 bareM.first.length c5, .slice A7 bareM.follow.length c7, .slice A9 bareM.last.length c9, .bool bareM.empty]]) ca63 rfl rfl) (setsN_calls wd85 bareM A3 c3 (And.intro lc3 cm3) (ld3.mono (lf9_2.trans S86.ghost)) A5 c5 (And.intro lc5 cm5) (ld5.mono (lf9_3.trans S86.ghost)) A7 c7 (And.intro lc7 cm7) (ld7.mono (le9.trans S86.ghost)) A9 c9 (And.intro lc9 cm9) (ld9.mono ((Le.refl _).trans S86.ghost)) (by first | assumption | omega | decide)) ?_
   rintro v89_0 w89 ⟨h89, _, T89, rfl⟩
   obtain ⟨k89, lk89, ll89, U89⟩ := call_joins S86 T89
   have lc89_0 := (lf9_0).trans lk89
   have lc89_1 := (lf9_1).trans lk89
   have lc89_2 := (lf9_2).trans lk89
   have lc89_3 := (lf9_3).trans lk89
   have lc89_4 := (le9).trans lk89
   have S90 := U89
   dsimp only [lAa, lAn, lA0, lAs] at S90
   have hf91 := spUp (Chg.of_below T89.below) hf87
   have hf92 := spUp (Chg.of_below T89.below) hf88
   refine ⟨.inl (Chg.of_below T89.below), ?_⟩
   obtain ⟨h93, le93, T93, rp93⟩ := S90.freeze (i := 5) rfl
   have lf93_0 := (lc89_0).trans le93
   have lf93_1 := (lc89_1).trans le93
   have lf93_2 := (lc89_2).trans le93
   have lf93_3 := (lc89_3).trans le93
   have lf93_4 := (lc89_4).trans le93
   have lf93_5 := (lk89).trans le93
   have S94 := T93.fx 5 (emp) rfl
   dsimp only [lAa, lAn, lA0, lAs] at S94
   obtain ⟨A93, c93, e93, lc93, cm93, ld93⟩ := rp93
   injection e93 with e93 _; subst e93
   have cn93 := cm93; simp only [maxLen] at cn93
   obtain ⟨_, _, _, _, _, _, _, ok95_0⟩ := calls_some (refine_calls w89 (setsM bareM) A93 c93 (And.intro lc93 cm93) (ld93.mono ((Le.refl _).trans S94.ghost)))
   have hf96 : (LeadsS kSet A93 (setsM bareM)).1 w89 := (ld93.mono ((Le.refl _).trans S94.ghost))
   refine raMo (hkC 3 hf96 (hkN (w := w89))) ?_
   refine d_m (i := 3) (v := .agg (encPart (refineP (setsM bareM))).toArray) (fun wf => Leads kSet (hp wf) A93 (setsM bareM)) (fun _ ho => ho _ (List.mem_of_getElem? (i := 0) rfl) rfl) rfl (by decide +kernel) (by decide +kernel) (by decide +kernel) rfl rfl (fun wq => (y_call (args := [.slice A93 (setsM bareM).length c93]) ca49 rfl rfl)) (fun wq hq => (refine_calls wq (setsM bareM) A93 c93 (And.intro lc93 cm93) hq).mono fun e w2 he => by obtain ⟨_, rfl, _, T, rfl, _⟩ := he; exact ⟨rfl, Chg.of_below T.below⟩) (of_eq hf96 (of_no rfl)) ?_
   refine ra_two (i := 4) (i2 := 8) (by decide +kernel) ?_ ?_
   ·skip
    intro wd97 gd97
    have S98 := S94.keep gd97
    have hf99 := spUp gd97 hf96
    have hf100 := spUp gd97 hf91
    have hf101 := spUp gd97 hf92
    refine d_c rfl rfl rfl (y_call (args := [.agg #[.slice A3 bareM.spots.length c3, .slice A5 bareM.first.length c5, .slice A7 bareM.follow.length c7, .slice A9 bareM.last.length c9, .bool bareM.empty], .agg (encPart (refineP (setsM bareM))).toArray, .pointer none]) ca21 rfl rfl) (build_calls wd97 bareM A3 c3 (And.intro lc3 cm3) (ld3.mono (lf93_2.trans S98.ghost)) A5 c5 (And.intro lc5 cm5) (ld5.mono (lf93_3.trans S98.ghost)) A7 c7 (And.intro lc7 cm7) (ld7.mono (lf93_4.trans S98.ghost)) A9 c9 (And.intro lc9 cm9) (ld9.mono (lf93_5.trans S98.ghost)) (refineP (setsM bareM)) ok95_0 () (by first | assumption | omega | decide) (Block.st S98 tb)) ?_
    rintro _ w102 ⟨h102, v102_0, v102_1, T102, rfl, ok102_0, in102_1⟩
    obtain ⟨k102, lk102, ll102, U102⟩ := call_joins S98 T102
    have lc102_0 := (lf93_0).trans lk102
    have lc102_1 := (lf93_1).trans lk102
    have lc102_2 := (lf93_2).trans lk102
    have lc102_3 := (lf93_3).trans lk102
    have lc102_4 := (lf93_4).trans lk102
    have lc102_5 := (lf93_5).trans lk102
    have lc102_6 := (le93).trans lk102
    have S103 := U102
    dsimp only [lAa, lAn, lA0, lAs] at S103
    have lo_in102_1 := i64_lo in102_1; have hi_in102_1 := i64_hi in102_1
    have hf104 := spUp (Chg.of_below T102.below) hf99
    have hf105 := spUp (Chg.of_below T102.below) hf100
    have hf106 := spUp (Chg.of_below T102.below) hf101
    refine ⟨.inl (Chg.of_below T102.below), ?_⟩
    obtain ⟨h107, le107, T107, rp107⟩ := S103.freeze (i := 6) rfl
    have lf107_0 := (lc102_0).trans le107
    have lf107_1 := (lc102_1).trans le107
    have lf107_2 := (lc102_2).trans le107
    have lf107_3 := (lc102_3).trans le107
    have lf107_4 := (lc102_4).trans le107
    have lf107_5 := (lc102_5).trans le107
    have lf107_6 := (lc102_6).trans le107
    have lf107_7 := (lk102).trans le107
    have S108 := T107.fx 6 (emp) rfl
    dsimp only [lAa, lAn, lA0, lAs] at S108
    obtain ⟨A107, c107, e107, lc107, cm107, ld107⟩ := rp107
    injection e107 with e107 _; subst e107
    have cn107 := cm107; simp only [maxLen] at cn107
    obtain ⟨h109, le109, T109, rp109⟩ := S108.freeze (i := 7) rfl
    have lf109_0 := (lf107_0).trans le109
    have lf109_1 := (lf107_1).trans le109
    have lf109_2 := (lf107_2).trans le109
    have lf109_3 := (lf107_3).trans le109
    have lf109_4 := (lf107_4).trans le109
    have lf109_5 := (lf107_5).trans le109
    have lf109_6 := (lf107_6).trans le109
    have lf109_7 := (lf107_7).trans le109
    have lf109_8 := (le107).trans le109
    have S110 := T109.fx 7 (emp) rfl
    dsimp only [lAa, lAn, lA0, lAs] at S110
    obtain ⟨A109, c109, e109, lc109, cm109, ld109⟩ := rp109
    injection e109 with e109 _; subst e109
    have cn109 := cm109; simp only [maxLen] at cn109
    refine qd0 (i := 5) (v := .tuple #[.agg ((encPart ((buildM bareM (refineP (setsM bareM))).part)) ++ ([.slice A107 ((buildM bareM (refineP (setsM bareM))).next).length c107, .slice A109 ((buildM bareM (refineP (setsM bareM))).final).length c109] : List Value)).toArray, .int .i64 (errB bareM (refineP (setsM bareM)))]) rfl (by decide +kernel) rfl rfl (x_move rfl) (of_no rfl) ?_
    refine qd0 (i := 6) (v := .agg ((encPart ((buildM bareM (refineP (setsM bareM))).part)) ++ ([.slice A107 ((buildM bareM (refineP (setsM bareM))).next).length c107, .slice A109 ((buildM bareM (refineP (setsM bareM))).final).length c109] : List Value)).toArray) rfl (by decide +kernel) rfl rfl (x_extract (vs := [.agg ((encPart ((buildM bareM (refineP (setsM bareM))).part)) ++ ([.slice A107 ((buildM bareM (refineP (setsM bareM))).next).length c107, .slice A109 ((buildM bareM (refineP (setsM bareM))).final).length c109] : List Value)).toArray, .int .i64 (errB bareM (refineP (setsM bareM)))]) rfl rfl) (of_no rfl) ?_
    refine qd0 (i := 7) (v := .int .i64 (errB bareM (refineP (setsM bareM)))) rfl (by decide +kernel) rfl rfl (x_extract (vs := [.agg ((encPart ((buildM bareM (refineP (setsM bareM))).part)) ++ ([.slice A107 ((buildM bareM (refineP (setsM bareM))).next).length c107, .slice A109 ((buildM bareM (refineP (setsM bareM))).final).length c109] : List Value)).toArray, .int .i64 (errB bareM (refineP (setsM bareM)))]) rfl rfl) (of_no rfl) ?_
    refine ra_one (i := 8) (by decide +kernel) ?_
    intro wd111 gd111
    have S112 := S110.keep gd111
    have hf113 := spUp gd111 hf104
    have hf114 := spUp gd111 hf105
    have hf115 := spUp gd111 hf106
    obtain ⟨b116, w116, r116, g116, T116⟩ := e_box (P := Tryd.prog) S112 35 (v := zv35) ((encPart zPart) ++ ([.slice none 0 0, .slice none 0 0] : List Value)) (by kernel_rfl)
    have S117 := T116
    dsimp only [lAa, lAn, lA0, lAs] at S117
    have hf118 := spUp g116 hf113
    have hf119 := spUp g116 hf114
    have hf120 := spUp g116 hf115
    refine d_v (v := .pointer (some ⟨b116, 0, none⟩)) rfl rfl rfl (x_alloc ty35 r116) (.inl g116) ?_
    refine ra_one (i := 9) (by decide +kernel) ?_
    intro wd121 gd121
    have S122 := S117.keep gd121
    have hf123 := spUp gd121 hf118
    have hf124 := spUp gd121 hf119
    have hf125 := spUp gd121 hf120
    obtain ⟨w126, r126, g126, T126⟩ := e_store_all (P := Tryd.prog) (v := .agg ((encPart ((buildM bareM (refineP (setsM bareM))).part)) ++ ([.slice A107 ((buildM bareM (refineP (setsM bareM))).next).length c107, .slice A109 ((buildM bareM (refineP (setsM bareM))).final).length c109] : List Value)).toArray) (vs := ((encPart ((buildM bareM (refineP (setsM bareM))).part)) ++ ([.slice A107 ((buildM bareM (refineP (setsM bareM))).next).length c107, .slice A109 ((buildM bareM (refineP (setsM bareM))).final).length c109] : List Value))) (cs := ((encPart zPart) ++ ([.slice none 0 0, .slice none 0 0] : List Value))) S122 ty35 rfl (len_app (encPart_len ok102_0) rfl) (len_app (encPart_len (okPart_zero)) rfl) (j := 8) rfl (one_app (encPart_one _) (by simp [Value.oneCell']))
    have S127 := T126.fx 8 (box b116 35 ((encPart ((buildM bareM (refineP (setsM bareM))).part)) ++ ([.slice A107 ((buildM bareM (refineP (setsM bareM))).next).length c107, .slice A109 ((buildM bareM (refineP (setsM bareM))).final).length c109] : List Value))) rfl
    dsimp only [lAa, lAn, lA0, lAs] at S127
    have hf128 : (LeadsS kSet A93 (setsM bareM)).1 w126 := (ld93.mono ((Le.refl _).trans (lf109_7.trans S127.ghost)))
    have hf129 : (CFs ⟨b11, 0, none⟩ [.slice A3 bareM.spots.length c3, .slice A5 bareM.first.length c5, .slice A7 bareM.follow.length c7, .slice A9 bareM.last.length c9, .bool bareM.empty]).1 w126 := (CF.box (m := 5) (S127.box_at (j := 4) rfl) rfl)
    have hf130 : (CFs ⟨b11, 0, none⟩ [.slice A3 bareM.spots.length c3, .slice A5 bareM.first.length c5, .slice A7 bareM.follow.length c7, .slice A9 bareM.last.length c9, .bool bareM.empty]).1 w126 := (CF.box (m := 5) (S127.box_at (j := 4) rfl) rfl)
    refine d_s rfl rfl (x_store rfl rfl r126) (.inr (keep_w (by decide +kernel) (keep_w (by decide +kernel) (keep_w (by decide +kernel) trivial)))) ?_
    refine qd0 (i := 10) (v := .int .i64 (errB bareM (refineP (setsM bareM)))) rfl (by decide +kernel) rfl rfl (x_assign rfl) (of_no rfl) ?_
    refine ra_done (by decide +kernel) ?_
    intro wd131 gd131
    have S132 := S127.keep gd131
    exact jn69 _ _ ⟨h109, b116, A107, c107, A109, c109, lf109_5, S132.sub [4, 8] (by decide) rfl _ rfl, rfl, rfl, rfl, in102_1, ok102_0, (And.intro lc107 cm107), (ld107.mono le109), (And.intro lc109 cm109), ld109⟩
   ·skip
    intro wd133 gd133
    have S134 := S94.keep gd133
    have hf135 := spUp gd133 hf96
    have hf136 := spUp gd133 hf91
    have hf137 := spUp gd133 hf92
    obtain ⟨b138, w138, r138, g138, T138⟩ := e_box (P := Tryd.prog) S134 35 (v := zv35) ((encPart zPart) ++ ([.slice none 0 0, .slice none 0 0] : List Value)) (by kernel_rfl)
    have S139 := T138
    dsimp only [lAa, lAn, lA0, lAs] at S139
    have hf140 := spUp g138 hf135
    have hf141 := spUp g138 hf136
    have hf142 := spUp g138 hf137
    refine d_v (v := .pointer (some ⟨b138, 0, none⟩)) rfl rfl rfl (x_alloc ty35 r138) (.inl g138) ?_
    refine ra_one (i := 4) (by decide +kernel) ?_
    intro wd143 gd143
    have S144 := S139.keep gd143
    have hf145 := spUp gd143 hf140
    have hf146 := spUp gd143 hf141
    have hf147 := spUp gd143 hf142
    refine d_c rfl rfl rfl (y_call (args := [.agg #[.slice A3 bareM.spots.length c3, .slice A5 bareM.first.length c5, .slice A7 bareM.follow.length c7, .slice A9 bareM.last.length c9, .bool bareM.empty], .agg (encPart (refineP (setsM bareM))).toArray, .pointer none]) ca21 rfl rfl) (build_calls wd143 bareM A3 c3 (And.intro lc3 cm3) (ld3.mono (lf93_2.trans S144.ghost)) A5 c5 (And.intro lc5 cm5) (ld5.mono (lf93_3.trans S144.ghost)) A7 c7 (And.intro lc7 cm7) (ld7.mono (lf93_4.trans S144.ghost)) A9 c9 (And.intro lc9 cm9) (ld9.mono (lf93_5.trans S144.ghost)) (refineP (setsM bareM)) ok95_0 () (by first | assumption | omega | decide) (Block.st S144 tb)) ?_
    rintro _ w148 ⟨h148, v148_0, v148_1, T148, rfl, ok148_0, in148_1⟩
    obtain ⟨k148, lk148, ll148, U148⟩ := call_joins S144 T148
    have lc148_0 := (lf93_0).trans lk148
    have lc148_1 := (lf93_1).trans lk148
    have lc148_2 := (lf93_2).trans lk148
    have lc148_3 := (lf93_3).trans lk148
    have lc148_4 := (lf93_4).trans lk148
    have lc148_5 := (lf93_5).trans lk148
    have lc148_6 := (le93).trans lk148
    have S149 := U148
    dsimp only [lAa, lAn, lA0, lAs] at S149
    have lo_in148_1 := i64_lo in148_1; have hi_in148_1 := i64_hi in148_1
    have hf150 := spUp (Chg.of_below T148.below) hf145
    have hf151 := spUp (Chg.of_below T148.below) hf146
    have hf152 := spUp (Chg.of_below T148.below) hf147
    refine ⟨.inl (Chg.of_below T148.below), ?_⟩
    obtain ⟨h153, le153, T153, rp153⟩ := S149.freeze (i := 7) rfl
    have lf153_0 := (lc148_0).trans le153
    have lf153_1 := (lc148_1).trans le153
    have lf153_2 := (lc148_2).trans le153
    have lf153_3 := (lc148_3).trans le153
    have lf153_4 := (lc148_4).trans le153
    have lf153_5 := (lc148_5).trans le153
    have lf153_6 := (lc148_6).trans le153
    have lf153_7 := (lk148).trans le153
    have S154 := T153.fx 7 (emp) rfl
    dsimp only [lAa, lAn, lA0, lAs] at S154
    obtain ⟨A153, c153, e153, lc153, cm153, ld153⟩ := rp153
    injection e153 with e153 _; subst e153
    have cn153 := cm153; simp only [maxLen] at cn153
    obtain ⟨h155, le155, T155, rp155⟩ := S154.freeze (i := 8) rfl
    have lf155_0 := (lf153_0).trans le155
    have lf155_1 := (lf153_1).trans le155
    have lf155_2 := (lf153_2).trans le155
    have lf155_3 := (lf153_3).trans le155
    have lf155_4 := (lf153_4).trans le155
    have lf155_5 := (lf153_5).trans le155
    have lf155_6 := (lf153_6).trans le155
    have lf155_7 := (lf153_7).trans le155
    have lf155_8 := (le153).trans le155
    have S156 := T155.fx 8 (emp) rfl
    dsimp only [lAa, lAn, lA0, lAs] at S156
    obtain ⟨A155, c155, e155, lc155, cm155, ld155⟩ := rp155
    injection e155 with e155 _; subst e155
    have cn155 := cm155; simp only [maxLen] at cn155
    refine qd0 (i := 5) (v := .tuple #[.agg ((encPart ((buildM bareM (refineP (setsM bareM))).part)) ++ ([.slice A153 ((buildM bareM (refineP (setsM bareM))).next).length c153, .slice A155 ((buildM bareM (refineP (setsM bareM))).final).length c155] : List Value)).toArray, .int .i64 (errB bareM (refineP (setsM bareM)))]) rfl (by decide +kernel) rfl rfl (x_move rfl) (of_no rfl) ?_
    refine qd0 (i := 6) (v := .agg ((encPart ((buildM bareM (refineP (setsM bareM))).part)) ++ ([.slice A153 ((buildM bareM (refineP (setsM bareM))).next).length c153, .slice A155 ((buildM bareM (refineP (setsM bareM))).final).length c155] : List Value)).toArray) rfl (by decide +kernel) rfl rfl (x_extract (vs := [.agg ((encPart ((buildM bareM (refineP (setsM bareM))).part)) ++ ([.slice A153 ((buildM bareM (refineP (setsM bareM))).next).length c153, .slice A155 ((buildM bareM (refineP (setsM bareM))).final).length c155] : List Value)).toArray, .int .i64 (errB bareM (refineP (setsM bareM)))]) rfl rfl) (of_no rfl) ?_
    refine qd0 (i := 7) (v := .int .i64 (errB bareM (refineP (setsM bareM)))) rfl (by decide +kernel) rfl rfl (x_extract (vs := [.agg ((encPart ((buildM bareM (refineP (setsM bareM))).part)) ++ ([.slice A153 ((buildM bareM (refineP (setsM bareM))).next).length c153, .slice A155 ((buildM bareM (refineP (setsM bareM))).final).length c155] : List Value)).toArray, .int .i64 (errB bareM (refineP (setsM bareM)))]) rfl rfl) (of_no rfl) ?_
    refine ra_one (i := 9) (by decide +kernel) ?_
    intro wd157 gd157
    have S158 := S156.keep gd157
    have hf159 := spUp gd157 hf150
    have hf160 := spUp gd157 hf151
    have hf161 := spUp gd157 hf152
    obtain ⟨w162, r162, g162, T162⟩ := e_store_all (P := Tryd.prog) (v := .agg ((encPart ((buildM bareM (refineP (setsM bareM))).part)) ++ ([.slice A153 ((buildM bareM (refineP (setsM bareM))).next).length c153, .slice A155 ((buildM bareM (refineP (setsM bareM))).final).length c155] : List Value)).toArray) (vs := ((encPart ((buildM bareM (refineP (setsM bareM))).part)) ++ ([.slice A153 ((buildM bareM (refineP (setsM bareM))).next).length c153, .slice A155 ((buildM bareM (refineP (setsM bareM))).final).length c155] : List Value))) (cs := ((encPart zPart) ++ ([.slice none 0 0, .slice none 0 0] : List Value))) S158 ty35 rfl (len_app (encPart_len ok148_0) rfl) (len_app (encPart_len (okPart_zero)) rfl) (j := 6) rfl (one_app (encPart_one _) (by simp [Value.oneCell']))
    have S163 := T162.fx 6 (box b138 35 ((encPart ((buildM bareM (refineP (setsM bareM))).part)) ++ ([.slice A153 ((buildM bareM (refineP (setsM bareM))).next).length c153, .slice A155 ((buildM bareM (refineP (setsM bareM))).final).length c155] : List Value))) rfl
    dsimp only [lAa, lAn, lA0, lAs] at S163
    have hf164 : (LeadsS kSet A93 (setsM bareM)).1 w162 := (ld93.mono ((Le.refl _).trans (lf155_7.trans S163.ghost)))
    have hf165 : (CFs ⟨b11, 0, none⟩ [.slice A3 bareM.spots.length c3, .slice A5 bareM.first.length c5, .slice A7 bareM.follow.length c7, .slice A9 bareM.last.length c9, .bool bareM.empty]).1 w162 := (CF.box (m := 5) (S163.box_at (j := 4) rfl) rfl)
    have hf166 : (CFs ⟨b11, 0, none⟩ [.slice A3 bareM.spots.length c3, .slice A5 bareM.first.length c5, .slice A7 bareM.follow.length c7, .slice A9 bareM.last.length c9, .bool bareM.empty]).1 w162 := (CF.box (m := 5) (S163.box_at (j := 4) rfl) rfl)
    refine d_s rfl rfl (x_store rfl rfl r162) (.inr (keep_w (by decide +kernel) (keep_w (by decide +kernel) (keep_w (by decide +kernel) trivial)))) ?_
    refine qd0 (i := 10) (v := .int .i64 (errB bareM (refineP (setsM bareM)))) rfl (by decide +kernel) rfl rfl (x_assign rfl) (of_no rfl) ?_
    refine ra_done (by decide +kernel) ?_
    intro wd167 gd167
    have S168 := S163.keep gd167
    exact jn69 _ _ ⟨h155, b138, A153, c153, A155, c155, lf155_5, S168.sub [4, 6] (by decide) rfl _ rfl, rfl, rfl, rfl, in148_1, ok148_0, (And.intro lc153 cm153), (ld153.mono le155), (And.intro lc155 cm155), ld155⟩
  ·skip
   intro wd169 gd169
   have S170 := S18.keep gd169
   have hf171 := spUp gd169 hf19
   have hf172 := spUp gd169 hf20
   obtain ⟨b173, w173, r173, g173, T173⟩ := e_box (P := Tryd.prog) S170 35 (v := zv35) ((encPart zPart) ++ ([.slice none 0 0, .slice none 0 0] : List Value)) (by kernel_rfl)
   have S174 := T173
   dsimp only [lAa, lAn, lA0, lAs] at S174
   have hf175 := spUp g173 hf171
   have hf176 := spUp g173 hf172
   refine d_v (v := .pointer (some ⟨b173, 0, none⟩)) rfl rfl rfl (x_alloc ty35 r173) (.inl g173) ?_
   refine ra_one (i := 2) (by decide +kernel) ?_
   intro wd177 gd177
   have S178 := S174.keep gd177
   have hf179 := spUp gd177 hf175
   have hf180 := spUp gd177 hf176
   refine d_c rfl rfl rfl (y_call (args := [.agg #[.slice A3 bareM.spots.length c3, .slice A5 bareM.first.length c5, .slice A7 bareM.follow.length c7, .slice A9 bareM.last.length c9, .bool bareM.empty]]) ca63 rfl rfl) (setsN_calls wd177 bareM A3 c3 (And.intro lc3 cm3) (ld3.mono (lf9_2.trans S178.ghost)) A5 c5 (And.intro lc5 cm5) (ld5.mono (lf9_3.trans S178.ghost)) A7 c7 (And.intro lc7 cm7) (ld7.mono (le9.trans S178.ghost)) A9 c9 (And.intro lc9 cm9) (ld9.mono ((Le.refl _).trans S178.ghost)) (by first | assumption | omega | decide)) ?_
   rintro v181_0 w181 ⟨h181, _, T181, rfl⟩
   obtain ⟨k181, lk181, ll181, U181⟩ := call_joins S178 T181
   have lc181_0 := (lf9_0).trans lk181
   have lc181_1 := (lf9_1).trans lk181
   have lc181_2 := (lf9_2).trans lk181
   have lc181_3 := (lf9_3).trans lk181
   have lc181_4 := (le9).trans lk181
   have S182 := U181
   dsimp only [lAa, lAn, lA0, lAs] at S182
   have hf183 := spUp (Chg.of_below T181.below) hf179
   have hf184 := spUp (Chg.of_below T181.below) hf180
   refine ⟨.inl (Chg.of_below T181.below), ?_⟩
   obtain ⟨h185, le185, T185, rp185⟩ := S182.freeze (i := 6) rfl
   have lf185_0 := (lc181_0).trans le185
   have lf185_1 := (lc181_1).trans le185
   have lf185_2 := (lc181_2).trans le185
   have lf185_3 := (lc181_3).trans le185
   have lf185_4 := (lc181_4).trans le185
   have lf185_5 := (lk181).trans le185
   have S186 := T185.fx 6 (emp) rfl
   dsimp only [lAa, lAn, lA0, lAs] at S186
   obtain ⟨A185, c185, e185, lc185, cm185, ld185⟩ := rp185
   injection e185 with e185 _; subst e185
   have cn185 := cm185; simp only [maxLen] at cn185
   obtain ⟨_, _, _, _, _, _, _, ok187_0⟩ := calls_some (refine_calls w181 (setsM bareM) A185 c185 (And.intro lc185 cm185) (ld185.mono ((Le.refl _).trans S186.ghost)))
   have hf188 : (LeadsS kSet A185 (setsM bareM)).1 w181 := (ld185.mono ((Le.refl _).trans S186.ghost))
   refine raMo (hkC 3 hf188 (hkN (w := w181))) ?_
   refine d_m (i := 3) (v := .agg (encPart (refineP (setsM bareM))).toArray) (fun wf => Leads kSet (hp wf) A185 (setsM bareM)) (fun _ ho => ho _ (List.mem_of_getElem? (i := 0) rfl) rfl) rfl (by decide +kernel) (by decide +kernel) (by decide +kernel) rfl rfl (fun wq => (y_call (args := [.slice A185 (setsM bareM).length c185]) ca49 rfl rfl)) (fun wq hq => (refine_calls wq (setsM bareM) A185 c185 (And.intro lc185 cm185) hq).mono fun e w2 he => by obtain ⟨_, rfl, _, T, rfl, _⟩ := he; exact ⟨rfl, Chg.of_below T.below⟩) (of_eq hf188 (of_no rfl)) ?_
   refine ra_one (i := 4) (by decide +kernel) ?_
   intro wd189 gd189
   have S190 := S186.keep gd189
   have hf191 := spUp gd189 hf188
   have hf192 := spUp gd189 hf183
   have hf193 := spUp gd189 hf184
   refine d_c rfl rfl rfl (y_call (args := [.agg #[.slice A3 bareM.spots.length c3, .slice A5 bareM.first.length c5, .slice A7 bareM.follow.length c7, .slice A9 bareM.last.length c9, .bool bareM.empty], .agg (encPart (refineP (setsM bareM))).toArray, .pointer none]) ca21 rfl rfl) (build_calls wd189 bareM A3 c3 (And.intro lc3 cm3) (ld3.mono (lf185_2.trans S190.ghost)) A5 c5 (And.intro lc5 cm5) (ld5.mono (lf185_3.trans S190.ghost)) A7 c7 (And.intro lc7 cm7) (ld7.mono (lf185_4.trans S190.ghost)) A9 c9 (And.intro lc9 cm9) (ld9.mono (lf185_5.trans S190.ghost)) (refineP (setsM bareM)) ok187_0 () (by first | assumption | omega | decide) (Block.st S190 tb)) ?_
   rintro _ w194 ⟨h194, v194_0, v194_1, T194, rfl, ok194_0, in194_1⟩
   obtain ⟨k194, lk194, ll194, U194⟩ := call_joins S190 T194
   have lc194_0 := (lf185_0).trans lk194
   have lc194_1 := (lf185_1).trans lk194
   have lc194_2 := (lf185_2).trans lk194
   have lc194_3 := (lf185_3).trans lk194
   have lc194_4 := (lf185_4).trans lk194
   have lc194_5 := (lf185_5).trans lk194
   have lc194_6 := (le185).trans lk194
   have S195 := U194
   dsimp only [lAa, lAn, lA0, lAs] at S195
   have lo_in194_1 := i64_lo in194_1; have hi_in194_1 := i64_hi in194_1
   have hf196 := spUp (Chg.of_below T194.below) hf191
   have hf197 := spUp (Chg.of_below T194.below) hf192
   have hf198 := spUp (Chg.of_below T194.below) hf193
   refine ⟨.inl (Chg.of_below T194.below), ?_⟩
   obtain ⟨h199, le199, T199, rp199⟩ := S195.freeze (i := 7) rfl
   have lf199_0 := (lc194_0).trans le199
   have lf199_1 := (lc194_1).trans le199
   have lf199_2 := (lc194_2).trans le199
   have lf199_3 := (lc194_3).trans le199
   have lf199_4 := (lc194_4).trans le199
   have lf199_5 := (lc194_5).trans le199
   have lf199_6 := (lc194_6).trans le199
   have lf199_7 := (lk194).trans le199
   have S200 := T199.fx 7 (emp) rfl
   dsimp only [lAa, lAn, lA0, lAs] at S200
   obtain ⟨A199, c199, e199, lc199, cm199, ld199⟩ := rp199
   injection e199 with e199 _; subst e199
   have cn199 := cm199; simp only [maxLen] at cn199
   obtain ⟨h201, le201, T201, rp201⟩ := S200.freeze (i := 8) rfl
   have lf201_0 := (lf199_0).trans le201
   have lf201_1 := (lf199_1).trans le201
   have lf201_2 := (lf199_2).trans le201
   have lf201_3 := (lf199_3).trans le201
   have lf201_4 := (lf199_4).trans le201
   have lf201_5 := (lf199_5).trans le201
   have lf201_6 := (lf199_6).trans le201
   have lf201_7 := (lf199_7).trans le201
   have lf201_8 := (le199).trans le201
   have S202 := T201.fx 8 (emp) rfl
   dsimp only [lAa, lAn, lA0, lAs] at S202
   obtain ⟨A201, c201, e201, lc201, cm201, ld201⟩ := rp201
   injection e201 with e201 _; subst e201
   have cn201 := cm201; simp only [maxLen] at cn201
   refine qd0 (i := 5) (v := .tuple #[.agg ((encPart ((buildM bareM (refineP (setsM bareM))).part)) ++ ([.slice A199 ((buildM bareM (refineP (setsM bareM))).next).length c199, .slice A201 ((buildM bareM (refineP (setsM bareM))).final).length c201] : List Value)).toArray, .int .i64 (errB bareM (refineP (setsM bareM)))]) rfl (by decide +kernel) rfl rfl (x_move rfl) (of_no rfl) ?_
   refine qd0 (i := 6) (v := .agg ((encPart ((buildM bareM (refineP (setsM bareM))).part)) ++ ([.slice A199 ((buildM bareM (refineP (setsM bareM))).next).length c199, .slice A201 ((buildM bareM (refineP (setsM bareM))).final).length c201] : List Value)).toArray) rfl (by decide +kernel) rfl rfl (x_extract (vs := [.agg ((encPart ((buildM bareM (refineP (setsM bareM))).part)) ++ ([.slice A199 ((buildM bareM (refineP (setsM bareM))).next).length c199, .slice A201 ((buildM bareM (refineP (setsM bareM))).final).length c201] : List Value)).toArray, .int .i64 (errB bareM (refineP (setsM bareM)))]) rfl rfl) (of_no rfl) ?_
   refine qd0 (i := 7) (v := .int .i64 (errB bareM (refineP (setsM bareM)))) rfl (by decide +kernel) rfl rfl (x_extract (vs := [.agg ((encPart ((buildM bareM (refineP (setsM bareM))).part)) ++ ([.slice A199 ((buildM bareM (refineP (setsM bareM))).next).length c199, .slice A201 ((buildM bareM (refineP (setsM bareM))).final).length c201] : List Value)).toArray, .int .i64 (errB bareM (refineP (setsM bareM)))]) rfl rfl) (of_no rfl) ?_
   refine ra_one (i := 9) (by decide +kernel) ?_
   intro wd203 gd203
   have S204 := S202.keep gd203
   have hf205 := spUp gd203 hf196
   have hf206 := spUp gd203 hf197
   have hf207 := spUp gd203 hf198
   obtain ⟨w208, r208, g208, T208⟩ := e_store_all (P := Tryd.prog) (v := .agg ((encPart ((buildM bareM (refineP (setsM bareM))).part)) ++ ([.slice A199 ((buildM bareM (refineP (setsM bareM))).next).length c199, .slice A201 ((buildM bareM (refineP (setsM bareM))).final).length c201] : List Value)).toArray) (vs := ((encPart ((buildM bareM (refineP (setsM bareM))).part)) ++ ([.slice A199 ((buildM bareM (refineP (setsM bareM))).next).length c199, .slice A201 ((buildM bareM (refineP (setsM bareM))).final).length c201] : List Value))) (cs := ((encPart zPart) ++ ([.slice none 0 0, .slice none 0 0] : List Value))) S204 ty35 rfl (len_app (encPart_len ok194_0) rfl) (len_app (encPart_len (okPart_zero)) rfl) (j := 5) rfl (one_app (encPart_one _) (by simp [Value.oneCell']))
   have S209 := T208.fx 5 (box b173 35 ((encPart ((buildM bareM (refineP (setsM bareM))).part)) ++ ([.slice A199 ((buildM bareM (refineP (setsM bareM))).next).length c199, .slice A201 ((buildM bareM (refineP (setsM bareM))).final).length c201] : List Value))) rfl
   dsimp only [lAa, lAn, lA0, lAs] at S209
   have hf210 : (LeadsS kSet A185 (setsM bareM)).1 w208 := (ld185.mono ((Le.refl _).trans (lf201_7.trans S209.ghost)))
   have hf211 : (CFs ⟨b11, 0, none⟩ [.slice A3 bareM.spots.length c3, .slice A5 bareM.first.length c5, .slice A7 bareM.follow.length c7, .slice A9 bareM.last.length c9, .bool bareM.empty]).1 w208 := (CF.box (m := 5) (S209.box_at (j := 4) rfl) rfl)
   have hf212 : (CFs ⟨b11, 0, none⟩ [.slice A3 bareM.spots.length c3, .slice A5 bareM.first.length c5, .slice A7 bareM.follow.length c7, .slice A9 bareM.last.length c9, .bool bareM.empty]).1 w208 := (CF.box (m := 5) (S209.box_at (j := 4) rfl) rfl)
   refine d_s rfl rfl (x_store rfl rfl r208) (.inr (keep_w (by decide +kernel) (keep_w (by decide +kernel) (keep_w (by decide +kernel) trivial)))) ?_
   refine qd0 (i := 10) (v := .int .i64 (errB bareM (refineP (setsM bareM)))) rfl (by decide +kernel) rfl rfl (x_assign rfl) (of_no rfl) ?_
   refine ra_done (by decide +kernel) ?_
   intro wd213 gd213
   have S214 := S209.keep gd213
   exact jn69 _ _ ⟨h201, b173, A199, c199, A201, c201, lf201_5, S214.sub [4, 5] (by decide) rfl _ rfl, rfl, rfl, rfl, in194_1, ok194_0, (And.intro lc199 cm199), (ld199.mono le201), (And.intro lc201 cm201), ld201⟩
end Go.Proofs.YtfoemogojbnfhaaDoor
namespace Gx
open Go Go.RowKit
set_option linter.unusedSimpArgs false
set_option linter.unusedSectionVars false
set_option linter.unusedVariables false
abbrev kSp : List Spot := [(⟨setOf ([97] : List Int), 0⟩ : Spot), (⟨setOf ([98] : List Int), 0⟩ : Spot), (⟨setOf ([99] : List Int), 0⟩ : Spot)]
abbrev kFo : List (List Int) := [([] : List Int), ([2] : List Int), ([] : List Int)]
abbrev kMl (l : List Bool) : Mach := ⟨[⟨setOf [97], 0⟩, ⟨setOf [98], 0⟩, ⟨setOf [99], 0⟩], [0, 1], [[], [2], []], l, false⟩
theorem three_of : ∀ c : Nat, c < 256 → has (setOf [99]) ((c : Nat) : Int) = true → c = 99 := by decide +kernel
theorem km_s0 (l : List Bool) : (at_ (kMl l).spots 0).set = setOf [97] := by
  show (at_ [(⟨setOf [97], 0⟩ : Spot), ⟨setOf [98], 0⟩, ⟨setOf [99], 0⟩] 0).set = _
  decide +kernel
theorem km_s1 (l : List Bool) : (at_ (kMl l).spots 1).set = setOf [98] := by
  show (at_ [(⟨setOf [97], 0⟩ : Spot), ⟨setOf [98], 0⟩, ⟨setOf [99], 0⟩] 1).set = _
  decide +kernel
theorem km_s2 (l : List Bool) : (at_ (kMl l).spots 2).set = setOf [99] := by
  show (at_ [(⟨setOf [97], 0⟩ : Spot), ⟨setOf [98], 0⟩, ⟨setOf [99], 0⟩] 2).set = _
  decide +kernel
theorem km_path {b : List Bool} {l : List Int} {i : Int} (h : Path (kMl b) [0, 1] l i) : (i = 0 ∧ l = [97]) ∨ (i = 1 ∧ l = [98]) ∨ (i = 2 ∧ l = [98, 99]) := by
  induction h with
  | one h1 h2 h3 h4 =>
    rename_i i c
    have hi : i = 0 ∨ i = 1 := by simpa using h1
    rcases hi with rfl | rfl
    · rw [km_s0] at h4
      have := one_of c.toNat (by omega) (by rw [Int.toNat_of_nonneg h2]; exact h4)
      exact .inl ⟨rfl, by rw [show c = 97 by omega]⟩
    · rw [km_s1] at h4
      have := two_of c.toNat (by omega) (by rw [Int.toNat_of_nonneg h2]; exact h4)
      exact .inr (.inl ⟨rfl, by rw [show c = 98 by omega]⟩)
  | snoc h1 h2 h3 h4 h5 ih =>
    rename_i l j i c
    rcases ih with ⟨rfl, e⟩ | ⟨rfl, e⟩ | ⟨rfl, e⟩
    · have : i ∈ ([] : List Int) := h2
      cases this
    · have hi : i ∈ ([2] : List Int) := h2
      have hi2 : i = 2 := by simpa using hi
      subst hi2
      rw [km_s2] at h5
      have := three_of c.toNat (by omega) (by rw [Int.toNat_of_nonneg h3]; exact h5)
      exact .inr (.inr ⟨rfl, by rw [e, show c = 99 by omega]; rfl⟩)
    · have : i ∈ ([] : List Int) := h2
      cases this
theorem km_right {a b c : Bool} : Right (kMl [a, b, c]) := right_iff.1 (by cases a <;> cases b <;> cases c <;> decide +kernel)
theorem km_least1 : IsLeastW (runM (kMl [true, false, true])) ⟨#[97]⟩ := by
  refine ⟨by decide +kernel, fun w hw => ?_⟩
  obtain ⟨i, hp, hl⟩ := (runM_path km_right rfl w).1 hw
  unfold lessW
  rcases km_path hp with ⟨_, e⟩ | ⟨rfl, e⟩ | ⟨_, e⟩
  · rw [e]; decide +kernel
  · exact absurd hl (by decide)
  · rw [e]; decide +kernel
theorem km_least2 : IsLeastW (runM (kMl [false, false, true])) ⟨#[98, 99]⟩ := by
  refine ⟨by decide +kernel, fun w hw => ?_⟩
  obtain ⟨i, hp, hl⟩ := (runM_path km_right rfl w).1 hw
  unfold lessW
  rcases km_path hp with ⟨rfl, e⟩ | ⟨rfl, e⟩ | ⟨_, e⟩
  · exact absurd hl (by decide)
  · exact absurd hl (by decide)
  · rw [e]; decide +kernel
theorem km_none : ∀ w, runM (kMl [false, false, false]) w = false := fun w => by
  refine Bool.eq_false_iff.2 fun hw => ?_
  obtain ⟨i, hp, hl⟩ := (runM_path km_right rfl w).1 hw
  rcases km_path hp with ⟨rfl, e⟩ | ⟨rfl, e⟩ | ⟨rfl, e⟩ <;> exact absurd hl (by decide)
abbrev kP : PartM := refineP (setsM (kMl [true, false, true]))
theorem km_ok : okB (kMl [true, false, true]) kP = true := by decide +kernel
theorem km_err : ¬ (errB (kMl [true, false, true]) kP ≠ 0) := fun h => h (errB_iff.2 km_ok)
theorem km_rd : rightD (buildM (kMl [true, false, true]) kP) = true := build_right (okPart_ref _) km_ok
theorem km_errD : ¬ (errD (buildM (kMl [true, false, true]) kP) ≠ 0) := fun h => h (errD_yes km_rd)
theorem km_run : runD (buildM (kMl [true, false, true]) kP) = runM (kMl [true, false, true]) := funext fun w => build_run (okPart_ref _) km_ok w
theorem km_1 : ¬ (wordW (runD (buildM (kMl [true, false, true]) kP)) ≠ ⟨#[97]⟩) := fun h => h (by rw [km_run]; exact (word_is km_least1).1)
theorem km_2 : okW (runD (buildM (kMl [true, false, true]) kP)) = true := by rw [km_run]; exact (word_is km_least1).2
theorem km_leastN : IsLeastW (runD (notD (buildM (kMl [true, false, true]) kP))) ⟨#[]⟩ := by
  refine ⟨?_, fun w _ => ?_⟩
  · rw [not_run km_rd (by rw [build_part km_ok]; exact okPart_ref _), km_run]
    decide +kernel
  · unfold lessW
    rw [bytesL_nil]
    exact leL_not.1 (leL_nil _)
theorem km_3 : ¬ (wordW (runD (notD (buildM (kMl [true, false, true]) kP))) ≠ ⟨#[]⟩) := fun h => h (word_is km_leastN).1
theorem km_4 : okW (runD (notD (buildM (kMl [true, false, true]) kP))) = true := (word_is km_leastN).2
theorem km_5 : ¬ (wordW (runM (kMl [true, false, true])) ≠ ⟨#[97]⟩) := fun h => h (word_is km_least1).1
theorem km_6 : okW (runM (kMl [true, false, true])) = true := (word_is km_least1).2
theorem km_7 : ¬ (wordW (runM (kMl ([true, false, true].set (0 : Int).toNat false))) ≠ ⟨#[98, 99]⟩) := fun h => h (word_is km_least2).1
theorem km_8 : okW (runM (kMl ([true, false, true].set (0 : Int).toNat false))) = true := (word_is km_least2).2
theorem km_9 : ¬ (wordW (runM (kMl (([true, false, true].set (0 : Int).toNat false).set (2 : Int).toNat false))) ≠ ⟨#[]⟩) := fun h => h (word_no km_none).1
theorem km_10 : okW (runM (kMl (([true, false, true].set (0 : Int).toNat false).set (2 : Int).toNat false))) = false := (word_no km_none).2
theorem km_11 : okW (runM ⟨[], [], [], [true], false⟩) = false := (word_no fun w => run_wrong _ w (by decide +kernel)).2
theorem km_12 : (!okW (runD zeroD)) = true := by
  have h : rightD zeroD = false := rightD_1 rfl
  rw [(word_no fun w => runD_no h).2]; rfl
theorem km_len : ((buildM (kMl [true, false, true]) kP).next.length : Int) ≤ 1048577 := build_len (by decide)
theorem notD_len {d : Dfa} (h : rightD d = true) : (notD d).next.length = d.next.length := by rw [notD_yes h]
theorem km_len2 : ((notD (buildM (kMl [true, false, true]) kP)).next.length : Int) ≤ 1048577 := by rw [notD_len km_rd]; exact km_len
theorem km_13 : lessW ⟨#[97, 98]⟩ ⟨#[98]⟩ = false := by decide +kernel
theorem km_14 : lessW ⟨#[97, 98]⟩ ⟨#[97, 99]⟩ = true := by decide +kernel
theorem km_15 : lessW ⟨#[97]⟩ ⟨#[97]⟩ = false := by decide +kernel
theorem km_16 : lessW ⟨#[]⟩ ⟨#[97]⟩ = true := by decide +kernel
end Gx
namespace Go.Proofs.YtfoemogojbnfhaaDoor
open Go Go.RowKit Gx
set_option maxHeartbeats 1000000
set_option linter.unusedVariables false
set_option linter.unusedSimpArgs false
set_option maxRecDepth 8000
attribute [local irreducible] listOf count first someIn has setOf wbits Lib.ctz badQ badRow rightD goD runD notD errD notTo nextB nextC outTo readTo rowIn finalB lastB leastB leastBTo buildM errB fitsP madeM allM bfs numbered putB beginB okB lessL lessW strLt cmpW cmpI orI wordW okW wordS wordT revTo leL lfp
theorem seekKnown_calls (w : World) (tb : Block 0 tzTab w) :
    Calls Tryd.prog 14 #[] w fun e w' => ∃ v, e = .returned v ∧ ∃ (hn : Ghost), St w.heap.size w hn w' [] ∧ v = .bool true := by
 refine calls_of_run Tryd.func14 rfl Tryd.ntmps14 rfl ?_
 have S0 := St.init w
 have kl1_ := km_len; have kl2_ := km_len2
 refine run_seq ?_
 refine run_reg (l := [0]) rfl ?_
 refine p_v (v := .bool false) rfl rfl rfl (x_assign rfl) ?_
 refine run_region_end ?_
 refine run_seq ?_
 refine run_reg (l := [0, 1, 2, 3, 4, 5, 6, 7, 8, 9, 10, 11, 12, 13, 14, 15, 16, 17, 18]) rfl ?_
 obtain ⟨v1, w1, r1, g1, T1⟩ := e_build_ones (kd := (Kd.int .u8)) (xs := ([97] : List Int)) (len := 1) [.int .u8 97] S0 u39 ty5 rfl rfl rfl rfl rfl (ones_cons rfl ones_nil) [.int .u8 97] (Elems.single (k := (Kd.int .u8)) (h := (fun _ => none)) (x := 97) (cs := [.int .u8 97]) ⟨rfl, (in_u8 (by first|omega|(simp;omega)|assumption|simp) (by first|omega|(simp;omega)|assumption|simp))⟩) rfl
 have S2 := T1
 dsimp only [lAa, lAn, lA0, lAs] at S2
 refine p_v (v := v1) rfl rfl rfl (y_build_slice (pv := [(0, .int .u8 97)]) rfl r1) ?_
 obtain ⟨A3, c3, ev3, lc3, cm3⟩ := S2.row_val (j := 0) rfl
 refine p_c rfl rfl rfl (y_call (args := [.slice A3 ([97] : List Int).length c3]) ca64 rfl (cons_eq ev3 rfl)) (of_calls w1 ([97] : List Int) A3 c3 (And.intro lc3 cm3) (row_leads_eq S2 (j := 0) rfl ev3)) ?_
 rintro _ w4 ⟨h4, T4, rfl⟩
 have S5 := S2.keep (Chg.of_below T4.below)
 refine p_v (v := .agg (encSpot (⟨setOf ([97] : List Int), 0⟩ : Spot)).toArray) rfl rfl rfl (y_build (pv := [(0, .agg (encSet (setOf ([97] : List Int))).toArray)]) rfl (run_build_struct pl101 ty101 rfl (cs := (encSpot (⟨setOf ([97] : List Int), 0⟩ : Spot))) rfl)) ?_
 obtain ⟨v6, w6, r6, g6, T6⟩ := e_build_ones (kd := (Kd.int .u8)) (xs := ([98] : List Int)) (len := 1) [.int .u8 98] S5 u39 ty5 rfl rfl rfl rfl rfl (ones_cons rfl ones_nil) [.int .u8 98] (Elems.single (k := (Kd.int .u8)) (h := (fun _ => none)) (x := 98) (cs := [.int .u8 98]) ⟨rfl, (in_u8 (by first|omega|(simp;omega)|assumption|simp) (by first|omega|(simp;omega)|assumption|simp))⟩) rfl
 have S7 := T6
 dsimp only [lAa, lAn, lA0, lAs] at S7
 refine p_v (v := v6) rfl rfl rfl (y_build_slice (pv := [(0, .int .u8 98)]) rfl r6) ?_
 obtain ⟨A8, c8, ev8, lc8, cm8⟩ := S7.row_val (j := 1) rfl
 refine p_c rfl rfl rfl (y_call (args := [.slice A8 ([98] : List Int).length c8]) ca64 rfl (cons_eq ev8 rfl)) (of_calls w6 ([98] : List Int) A8 c8 (And.intro lc8 cm8) (row_leads_eq S7 (j := 1) rfl ev8)) ?_
 rintro _ w9 ⟨h9, T9, rfl⟩
 have S10 := S7.keep (Chg.of_below T9.below)
 refine p_v (v := .agg (encSpot (⟨setOf ([98] : List Int), 0⟩ : Spot)).toArray) rfl rfl rfl (y_build (pv := [(0, .agg (encSet (setOf ([98] : List Int))).toArray)]) rfl (run_build_struct pl101 ty101 rfl (cs := (encSpot (⟨setOf ([98] : List Int), 0⟩ : Spot))) rfl)) ?_
 obtain ⟨v11, w11, r11, g11, T11⟩ := e_build_ones (kd := (Kd.int .u8)) (xs := ([99] : List Int)) (len := 1) [.int .u8 99] S10 u39 ty5 rfl rfl rfl rfl rfl (ones_cons rfl ones_nil) [.int .u8 99] (Elems.single (k := (Kd.int .u8)) (h := (fun _ => none)) (x := 99) (cs := [.int .u8 99]) ⟨rfl, (in_u8 (by first|omega|(simp;omega)|assumption|simp) (by first|omega|(simp;omega)|assumption|simp))⟩) rfl
 have S12 := T11
 dsimp only [lAa, lAn, lA0, lAs] at S12
 refine p_v (v := v11) rfl rfl rfl (y_build_slice (pv := [(0, .int .u8 99)]) rfl r11) ?_
 obtain ⟨A13, c13, ev13, lc13, cm13⟩ := S12.row_val (j := 2) rfl
 refine p_c rfl rfl rfl (y_call (args := [.slice A13 ([99] : List Int).length c13]) ca64 rfl (cons_eq ev13 rfl)) (of_calls w11 ([99] : List Int) A13 c13 (And.intro lc13 cm13) (row_leads_eq S12 (j := 2) rfl ev13)) ?_
 rintro _ w14 ⟨h14, T14, rfl⟩
 have S15 := S12.keep (Chg.of_below T14.below)
 refine p_v (v := .agg (encSpot (⟨setOf ([99] : List Int), 0⟩ : Spot)).toArray) rfl rfl rfl (y_build (pv := [(0, .agg (encSet (setOf ([99] : List Int))).toArray)]) rfl (run_build_struct pl101 ty101 rfl (cs := (encSpot (⟨setOf ([99] : List Int), 0⟩ : Spot))) rfl)) ?_
 obtain ⟨v16, w16, r16, g16, T16⟩ := e_build_segs (kd := kSpot) (xs := kSp) (len := 3) (m := 5) [(.agg (encSpot (⟨setOf ([97] : List Int), 0⟩ : Spot)).toArray, (encSpot (⟨setOf ([97] : List Int), 0⟩ : Spot))), (.agg (encSpot (⟨setOf ([98] : List Int), 0⟩ : Spot)).toArray, (encSpot (⟨setOf ([98] : List Int), 0⟩ : Spot))), (.agg (encSpot (⟨setOf ([99] : List Int), 0⟩ : Spot)).toArray, (encSpot (⟨setOf ([99] : List Int), 0⟩ : Spot)))] S15 u22 ty101 rfl rfl rfl rfl (segs_cons rfl rfl (segs_cons rfl rfl (segs_cons rfl rfl segs_nil))) (cs := ((encSpot (⟨setOf ([97] : List Int), 0⟩ : Spot)) ++ (encSpot (⟨setOf ([98] : List Int), 0⟩ : Spot)) ++ (encSpot (⟨setOf ([99] : List Int), 0⟩ : Spot)))) (Elems.cons (k := kSpot) (h := (fun _ => none)) (x := (⟨setOf ([97] : List Int), 0⟩ : Spot)) (cs := (encSpot (⟨setOf ([97] : List Int), 0⟩ : Spot))) ⟨rfl, (by first | assumption | (show inK .u8 _; constructor <;> decide) | (constructor <;> simp [IntKind.min, IntKind.max] <;> omega))⟩ (Elems.cons (k := kSpot) (h := (fun _ => none)) (x := (⟨setOf ([98] : List Int), 0⟩ : Spot)) (cs := (encSpot (⟨setOf ([98] : List Int), 0⟩ : Spot))) ⟨rfl, (by first | assumption | (show inK .u8 _; constructor <;> decide) | (constructor <;> simp [IntKind.min, IntKind.max] <;> omega))⟩ (Elems.single (k := kSpot) (h := (fun _ => none)) (x := (⟨setOf ([99] : List Int), 0⟩ : Spot)) (cs := (encSpot (⟨setOf ([99] : List Int), 0⟩ : Spot))) ⟨rfl, (by first | assumption | (show inK .u8 _; constructor <;> decide) | (constructor <;> simp [IntKind.min, IntKind.max] <;> omega))⟩))) (by simp)
 have S17 := T16
 dsimp only [lAa, lAn, lA0, lAs] at S17
 refine p_v (v := v16) rfl rfl rfl (y_build_slice (pv := [(0, .agg (encSpot (⟨setOf ([97] : List Int), 0⟩ : Spot)).toArray), (1, .agg (encSpot (⟨setOf ([98] : List Int), 0⟩ : Spot)).toArray), (2, .agg (encSpot (⟨setOf ([99] : List Int), 0⟩ : Spot)).toArray)]) rfl r16) ?_
 obtain ⟨v18, w18, r18, g18, T18⟩ := e_build_ones (kd := (Kd.int .i64)) (xs := ([0, 1] : List Int)) (len := 2) [.int .i64 0, .int .i64 1] S17 u23 ty3 rfl rfl rfl rfl rfl (ones_cons rfl (ones_cons rfl ones_nil)) ([.int .i64 0] ++ [.int .i64 1]) (Elems.cons (k := (Kd.int .i64)) (h := (fun _ => none)) (x := 0) (cs := [.int .i64 0]) ⟨rfl, (in_i64 (by first|omega|(simp;omega)|assumption|simp) (by first|omega|(simp;omega)|assumption|simp))⟩ (Elems.single (k := (Kd.int .i64)) (h := (fun _ => none)) (x := 1) (cs := [.int .i64 1]) ⟨rfl, (in_i64 (by first|omega|(simp;omega)|assumption|simp) (by first|omega|(simp;omega)|assumption|simp))⟩)) rfl
 have S19 := T18
 dsimp only [lAa, lAn, lA0, lAs] at S19
 refine p_v (v := v18) rfl rfl rfl (y_build_slice (pv := [(0, .int .i64 0), (1, .int .i64 1)]) rfl r18) ?_
 obtain ⟨v20, w20, r20, g20, T20⟩ := e_build_ones (kd := (Kd.int .i64)) (xs := ([] : List Int)) (len := 0) [] S19 u23 ty3 rfl rfl rfl rfl rfl ones_nil [] (Elems.nil _ _) rfl
 have S21 := T20
 dsimp only [lAa, lAn, lA0, lAs] at S21
 refine p_v (v := v20) rfl rfl rfl (y_build_slice (pv := []) rfl r20) ?_
 obtain ⟨v22, w22, r22, g22, T22⟩ := e_build_ones (kd := (Kd.int .i64)) (xs := ([2] : List Int)) (len := 1) [.int .i64 2] S21 u23 ty3 rfl rfl rfl rfl rfl (ones_cons rfl ones_nil) [.int .i64 2] (Elems.single (k := (Kd.int .i64)) (h := (fun _ => none)) (x := 2) (cs := [.int .i64 2]) ⟨rfl, (in_i64 (by first|omega|(simp;omega)|assumption|simp) (by first|omega|(simp;omega)|assumption|simp))⟩) rfl
 have S23 := T22
 dsimp only [lAa, lAn, lA0, lAs] at S23
 refine p_v (v := v22) rfl rfl rfl (y_build_slice (pv := [(0, .int .i64 2)]) rfl r22) ?_
 obtain ⟨v24, w24, r24, g24, T24⟩ := e_build_ones (kd := (Kd.int .i64)) (xs := ([] : List Int)) (len := 0) [] S23 u23 ty3 rfl rfl rfl rfl rfl ones_nil [] (Elems.nil _ _) rfl
 have S25 := T24
 dsimp only [lAa, lAn, lA0, lAs] at S25
 refine p_v (v := v24) rfl rfl rfl (y_build_slice (pv := []) rfl r24) ?_
 obtain ⟨h27, le27, T27, rp27⟩ := S25.freeze (i := 5) rfl
 have S28 := T27.fx 5 (emp) rfl
 dsimp only [lAa, lAn, lA0, lAs] at S28
 obtain ⟨A27, c27, e27, lc27, cm27, ld27⟩ := rp27
 injection e27 with e27 _; subst e27
 have cn27 := cm27; simp only [maxLen] at cn27
 obtain ⟨h29, le29, T29, rp29⟩ := S28.freeze (i := 6) rfl
 have lf29_0 := (le27).trans le29
 have S30 := T29.fx 6 (emp) rfl
 dsimp only [lAa, lAn, lA0, lAs] at S30
 obtain ⟨A29, c29, e29, lc29, cm29, ld29⟩ := rp29
 injection e29 with e29 _; subst e29
 have cn29 := cm29; simp only [maxLen] at cn29
 obtain ⟨h31, le31, T31, rp31⟩ := S30.freeze (i := 7) rfl
 have lf31_0 := (lf29_0).trans le31
 have lf31_1 := (le29).trans le31
 have S32 := T31.fx 7 (emp) rfl
 dsimp only [lAa, lAn, lA0, lAs] at S32
 obtain ⟨A31, c31, e31, lc31, cm31, ld31⟩ := rp31
 injection e31 with e31 _; subst e31
 have cn31 := cm31; simp only [maxLen] at cn31
 obtain ⟨v26, w26, r26, g26, T26⟩ := e_build_ones (kd := (Kd.int .i64).slice) (xs := kFo) (len := 3) [.slice A27 ([] : List Int).length c27, .slice A29 ([2] : List Int).length c29, .slice A31 ([] : List Int).length c31] S32 u24 ty23 rfl rfl rfl rfl rfl (ones_cons rfl (ones_cons rfl (ones_cons rfl ones_nil))) ([.slice A27 ([] : List Int).length c27] ++ [.slice A29 ([2] : List Int).length c29] ++ [.slice A31 ([] : List Int).length c31]) (Elems.cons (k := (Kd.int .i64).slice) (h := h31) (x := ([] : List Int)) (cs := [.slice A27 ([] : List Int).length c27]) ⟨_, _, rfl, (And.intro lc27 cm27).1, (And.intro lc27 cm27).2, ld27.mono lf31_1⟩ (Elems.cons (k := (Kd.int .i64).slice) (h := h31) (x := ([2] : List Int)) (cs := [.slice A29 ([2] : List Int).length c29]) ⟨_, _, rfl, (And.intro lc29 cm29).1, (And.intro lc29 cm29).2, ld29.mono le31⟩ (Elems.single (k := (Kd.int .i64).slice) (h := h31) (x := ([] : List Int)) (cs := [.slice A31 ([] : List Int).length c31]) ⟨_, _, rfl, (And.intro lc31 cm31).1, (And.intro lc31 cm31).2, ld31.mono (Le.refl _)⟩))) rfl
 have S33 := T26
 dsimp only [lAa, lAn, lA0, lAs] at S33
 refine p_v (v := v26) rfl rfl rfl (y_build_slice (pv := [(0, .slice A27 ([] : List Int).length c27), (1, .slice A29 ([2] : List Int).length c29), (2, .slice A31 ([] : List Int).length c31)]) rfl r26) ?_
 obtain ⟨v34, w34, r34, g34, T34⟩ := e_build_ones (kd := Kd.bool) (xs := ([true, false, true] : List Bool)) (len := 3) [.bool true, .bool false, .bool true] S33 u25 ty4 rfl rfl rfl rfl rfl (ones_cons rfl (ones_cons rfl (ones_cons rfl ones_nil))) ([.bool true] ++ [.bool false] ++ [.bool true]) (Elems.cons (k := Kd.bool) (h := h31) (x := true) (cs := [.bool true]) ⟨rfl, trivial⟩ (Elems.cons (k := Kd.bool) (h := h31) (x := false) (cs := [.bool false]) ⟨rfl, trivial⟩ (Elems.single (k := Kd.bool) (h := h31) (x := true) (cs := [.bool true]) ⟨rfl, trivial⟩))) rfl
 have S35 := T34
 dsimp only [lAa, lAn, lA0, lAs] at S35
 refine p_v (v := v34) rfl rfl rfl (y_build_slice (pv := [(0, .bool true), (1, .bool false), (2, .bool true)]) rfl r34) ?_
 refine p_v (v := .agg #[v16, v18, v26, v34, .bool false]) rfl rfl rfl (y_build (pv := [(0, v16), (1, v18), (2, v26), (3, v34)]) rfl (run_build_struct pl27 ty27 rfl (cs := [v16, v18, v26, v34, .bool false]) (fill_any (vc := [v16]) rfl (row_cells S35 (j := 3) rfl) rfl rfl (fill_any (vc := [v18]) rfl (row_cells S35 (j := 4) rfl) rfl rfl (fill_any (vc := [v26]) rfl (row_cells S35 (j := 8) rfl) rfl rfl (fill_any (vc := [v34]) rfl (row_cells S35 (j := 9) rfl) rfl rfl (fill_end rfl))))))) ?_
 obtain ⟨b36, w36, r36, g36, T36⟩ := e_box (P := Tryd.prog) S35 27 (v := (.agg #[.slice none 0 0, .slice none 0 0, .slice none 0 0, .slice none 0 0, .bool false])) [.slice none 0 0, .slice none 0 0, .slice none 0 0, .slice none 0 0, .bool false] rfl
 have S37 := T36
 dsimp only [lAa, lAn, lA0, lAs] at S37
 refine p_v (v := .pointer (some ⟨b36, 0, none⟩)) rfl rfl rfl (x_alloc ty27 r36) ?_
 have oc39 := row_one S37 (j := 3) rfl
 have oc40 := row_one S37 (j := 4) rfl
 have oc41 := row_one S37 (j := 8) rfl
 have oc42 := row_one S37 (j := 9) rfl
 obtain ⟨w38, r38, g38, T38⟩ := e_store (P := Tryd.prog) (off := 0) (v := .agg #[v16, v18, v26, v34, .bool false]) (vs := [v16, v18, v26, v34, .bool false]) S37 ty27 rfl rfl (j := 10) rfl (by first | decide | exact Nat.le_of_ble_eq_true rfl) (one_cons oc39 (one_cons oc40 (one_cons oc41 (one_cons oc42 (one_cons rfl one_nil)))))
 have S43 := T38.fx 10 (box b36 27 [v16, v18, v26, v34, .bool false]) rfl
 dsimp only [lAa, lAn, lA0, lAs] at S43
 refine p_s rfl rfl (x_store rfl rfl r38) ?_
 refine run_region_end ?_
 refine run_seq ?_
 have hf44 : (CFs ⟨b36, 0, none⟩ [v16, v18, v26, v34, .bool false]).1 w38 := (CF.box (m := 5) (S43.box_at (j := 10) rfl) rfl)
 have hf45 : (CFs ⟨b36, 0, none⟩ [v16, v18, v26, v34, .bool false]).1 w38 := (CF.box (m := 5) (S43.box_at (j := 10) rfl) rfl)
 refine daS (hkC 0 hf44 (hkC 1 hf45 (hkN (w := w38)))) 11 rfl mixed ?_
 intro wd46 gd46 hd46
 have S47 := S43.keep gd46
 have hf48 := spUp gd46 hf44
 have hf49 := spUp gd46 hf45
 refine qd1 0 (i := 0) (v := .agg #[v16, v18, v26, v34, .bool false]) rfl rfl (by decide +kernel) rfl rfl (fun wq hq => (x_load (seg := [v16, v18, v26, v34, .bool false]) ty27 rfl (by simp) rfl hq)) (of_eq hf48 (of_no rfl)) ?_
 refine qd1 1 (i := 1) (v := .agg #[v16, v18, v26, v34, .bool false]) rfl rfl (by decide +kernel) rfl rfl (fun wq hq => (x_load (seg := [v16, v18, v26, v34, .bool false]) ty27 rfl (by simp) rfl hq)) (of_ne rfl (of_eq hf49 (of_no rfl))) ?_
 refine ra_join (fun ρ w' => ∃ (h : Ghost) (j106_b89 : Nat) (j106_A80 : Option Addr) (j106_c80 : Nat) (j106_A82 : Option Addr) (j106_c82 : Nat), Le h31 h ∧ St w.heap.size w h w' [row 101 kSpot v16 kSp, row 3 (Kd.int .i64) v18 ([0, 1] : List Int), row 23 (Kd.int .i64).slice v26 kFo, row 4 Kd.bool v34 ([true, false, true] : List Bool), box b36 27 [v16, v18, v26, v34, .bool false], box j106_b89 35 ((encPart ((buildM (⟨kSp, ([0, 1] : List Int), kFo, ([true, false, true] : List Bool), false⟩ : Mach) (refineP (setsM (⟨kSp, ([0, 1] : List Int), kFo, ([true, false, true] : List Bool), false⟩ : Mach)))).part)) ++ ([.slice j106_A80 ((buildM (⟨kSp, ([0, 1] : List Int), kFo, ([true, false, true] : List Bool), false⟩ : Mach) (refineP (setsM (⟨kSp, ([0, 1] : List Int), kFo, ([true, false, true] : List Bool), false⟩ : Mach)))).next).length j106_c80, .slice j106_A82 ((buildM (⟨kSp, ([0, 1] : List Int), kFo, ([true, false, true] : List Bool), false⟩ : Mach) (refineP (setsM (⟨kSp, ([0, 1] : List Int), kFo, ([true, false, true] : List Bool), false⟩ : Mach)))).final).length j106_c82] : List Value))] ∧ ρ 1 = .pointer (some ⟨b36, 0, none⟩) ∧ ρ 2 = .pointer (some ⟨j106_b89, 0, none⟩) ∧ ρ 3 = .int .i64 (errB (⟨kSp, ([0, 1] : List Int), kFo, ([true, false, true] : List Bool), false⟩ : Mach) (refineP (setsM (⟨kSp, ([0, 1] : List Int), kFo, ([true, false, true] : List Bool), false⟩ : Mach)))) ∧ inK .i64 (errB (⟨kSp, ([0, 1] : List Int), kFo, ([true, false, true] : List Bool), false⟩ : Mach) (refineP (setsM (⟨kSp, ([0, 1] : List Int), kFo, ([true, false, true] : List Bool), false⟩ : Mach)))) ∧ okPart ((buildM (⟨kSp, ([0, 1] : List Int), kFo, ([true, false, true] : List Bool), false⟩ : Mach) (refineP (setsM (⟨kSp, ([0, 1] : List Int), kFo, ([true, false, true] : List Bool), false⟩ : Mach)))).part) ∧ (((buildM (⟨kSp, ([0, 1] : List Int), kFo, ([true, false, true] : List Bool), false⟩ : Mach) (refineP (setsM (⟨kSp, ([0, 1] : List Int), kFo, ([true, false, true] : List Bool), false⟩ : Mach)))).next).length ≤ j106_c80 ∧ j106_c80 ≤ maxLen) ∧ Leads (Kd.int .i64).slice h j106_A80 ((buildM (⟨kSp, ([0, 1] : List Int), kFo, ([true, false, true] : List Bool), false⟩ : Mach) (refineP (setsM (⟨kSp, ([0, 1] : List Int), kFo, ([true, false, true] : List Bool), false⟩ : Mach)))).next) ∧ (((buildM (⟨kSp, ([0, 1] : List Int), kFo, ([true, false, true] : List Bool), false⟩ : Mach) (refineP (setsM (⟨kSp, ([0, 1] : List Int), kFo, ([true, false, true] : List Bool), false⟩ : Mach)))).final).length ≤ j106_c82 ∧ j106_c82 ≤ maxLen) ∧ Leads Kd.bool h j106_A82 ((buildM (⟨kSp, ([0, 1] : List Int), kFo, ([true, false, true] : List Bool), false⟩ : Mach) (refineP (setsM (⟨kSp, ([0, 1] : List Int), kFo, ([true, false, true] : List Bool), false⟩ : Mach)))).final)) ?_ (fun jn106 => ?_)
 ·skip
  rintro ρj106 wj106 ⟨hj106, j106_b89, j106_A80, j106_c80, j106_A82, j106_c82, lej106, Sj106, rj106_1, rj106_2, rj106_3, jf106_0, jf106_1, jf106_2, jf106_3, jf106_4, jf106_5⟩
  have jl106_0 := i64_lo jf106_0; have jh106_0 := i64_hi jf106_0
  have jb106_2 := jf106_2.1; have jc106_2 := jf106_2.2; simp only [maxLen] at jc106_2
  have jb106_4 := jf106_4.1; have jc106_4 := jf106_4.2; simp only [maxLen] at jc106_4
  have jr106_0 := Sj106.row_le (j := 0) rfl; simp only [maxLen] at jr106_0
  have jr106_1 := Sj106.row_le (j := 1) rfl; simp only [maxLen] at jr106_1
  have jr106_2 := Sj106.row_le (j := 2) rfl; simp only [maxLen] at jr106_2
  have jr106_3 := Sj106.row_le (j := 3) rfl; simp only [maxLen] at jr106_3
  refine run_seq ?_
  refine run_reg (l := [0, 1, 2, 3, 4, 5, 6, 7]) rfl ?_
  refine p_v (v := .agg ((encPart ((buildM (⟨kSp, ([0, 1] : List Int), kFo, ([true, false, true] : List Bool), false⟩ : Mach) (refineP (setsM (⟨kSp, ([0, 1] : List Int), kFo, ([true, false, true] : List Bool), false⟩ : Mach)))).part)) ++ ([.slice j106_A80 ((buildM (⟨kSp, ([0, 1] : List Int), kFo, ([true, false, true] : List Bool), false⟩ : Mach) (refineP (setsM (⟨kSp, ([0, 1] : List Int), kFo, ([true, false, true] : List Bool), false⟩ : Mach)))).next).length j106_c80, .slice j106_A82 ((buildM (⟨kSp, ([0, 1] : List Int), kFo, ([true, false, true] : List Bool), false⟩ : Mach) (refineP (setsM (⟨kSp, ([0, 1] : List Int), kFo, ([true, false, true] : List Bool), false⟩ : Mach)))).final).length j106_c82] : List Value)).toArray) rfl rfl rfl (x_load (seg := ((encPart ((buildM (⟨kSp, ([0, 1] : List Int), kFo, ([true, false, true] : List Bool), false⟩ : Mach) (refineP (setsM (⟨kSp, ([0, 1] : List Int), kFo, ([true, false, true] : List Bool), false⟩ : Mach)))).part)) ++ ([.slice j106_A80 ((buildM (⟨kSp, ([0, 1] : List Int), kFo, ([true, false, true] : List Bool), false⟩ : Mach) (refineP (setsM (⟨kSp, ([0, 1] : List Int), kFo, ([true, false, true] : List Bool), false⟩ : Mach)))).next).length j106_c80, .slice j106_A82 ((buildM (⟨kSp, ([0, 1] : List Int), kFo, ([true, false, true] : List Bool), false⟩ : Mach) (refineP (setsM (⟨kSp, ([0, 1] : List Int), kFo, ([true, false, true] : List Bool), false⟩ : Mach)))).final).length j106_c82] : List Value))) ty35 (len_app (encPart_len jf106_1) rfl) (by simp) rj106_2 (CF.box (m := 259) (Sj106.box_at (j := 5) rfl) (take_all (len_app (encPart_len jf106_1) rfl)))) ?_
  refine p_c rfl rfl rfl (y_call (args := [.agg ((encPart ((buildM (⟨kSp, ([0, 1] : List Int), kFo, ([true, false, true] : List Bool), false⟩ : Mach) (refineP (setsM (⟨kSp, ([0, 1] : List Int), kFo, ([true, false, true] : List Bool), false⟩ : Mach)))).part)) ++ ([.slice j106_A80 ((buildM (⟨kSp, ([0, 1] : List Int), kFo, ([true, false, true] : List Bool), false⟩ : Mach) (refineP (setsM (⟨kSp, ([0, 1] : List Int), kFo, ([true, false, true] : List Bool), false⟩ : Mach)))).next).length j106_c80, .slice j106_A82 ((buildM (⟨kSp, ([0, 1] : List Int), kFo, ([true, false, true] : List Bool), false⟩ : Mach) (refineP (setsM (⟨kSp, ([0, 1] : List Int), kFo, ([true, false, true] : List Bool), false⟩ : Mach)))).final).length j106_c82] : List Value)).toArray]) ca23 rfl rfl) (notD_calls wj106 (buildM (⟨kSp, ([0, 1] : List Int), kFo, ([true, false, true] : List Bool), false⟩ : Mach) (refineP (setsM (⟨kSp, ([0, 1] : List Int), kFo, ([true, false, true] : List Bool), false⟩ : Mach)))) jf106_1 j106_A80 j106_c80 jf106_2 (jf106_3.mono ((Le.refl _).trans Sj106.ghost)) j106_A82 j106_c82 jf106_4 (jf106_5.mono ((Le.refl _).trans Sj106.ghost)) (by first | assumption | omega)) ?_
  rintro _ w107 ⟨h107, v107_0, v107_1, T107, rfl, ok107_0, in107_1⟩
  obtain ⟨k107, lk107, ll107, U107⟩ := call_joins Sj106 T107
  have lc107_0 := (((lf31_0).trans lej106)).trans lk107
  have lc107_1 := (((lf31_1).trans lej106)).trans lk107
  have lc107_2 := (((le31).trans lej106)).trans lk107
  have lc107_3 := (lej106).trans lk107
  have S108 := U107
  dsimp only [lAa, lAn, lA0, lAs] at S108
  have lo_in107_1 := i64_lo in107_1; have hi_in107_1 := i64_hi in107_1
  obtain ⟨h109, le109, T109, rp109⟩ := S108.freeze (i := 6) rfl
  have lf109_0 := (lc107_0).trans le109
  have lf109_1 := (lc107_1).trans le109
  have lf109_2 := (lc107_2).trans le109
  have lf109_3 := (lc107_3).trans le109
  have lf109_4 := (lk107).trans le109
  have S110 := T109.fx 6 (emp) rfl
  dsimp only [lAa, lAn, lA0, lAs] at S110
  obtain ⟨A109, c109, e109, lc109, cm109, ld109⟩ := rp109
  injection e109 with e109 _; subst e109
  have cn109 := cm109; simp only [maxLen] at cn109
  obtain ⟨h111, le111, T111, rp111⟩ := S110.freeze (i := 7) rfl
  have lf111_0 := (lf109_0).trans le111
  have lf111_1 := (lf109_1).trans le111
  have lf111_2 := (lf109_2).trans le111
  have lf111_3 := (lf109_3).trans le111
  have lf111_4 := (lf109_4).trans le111
  have lf111_5 := (le109).trans le111
  have S112 := T111.fx 7 (emp) rfl
  dsimp only [lAa, lAn, lA0, lAs] at S112
  obtain ⟨A111, c111, e111, lc111, cm111, ld111⟩ := rp111
  injection e111 with e111 _; subst e111
  have cn111 := cm111; simp only [maxLen] at cn111
  refine p_v (v := .tuple #[.agg ((encPart ((notD (buildM (⟨kSp, ([0, 1] : List Int), kFo, ([true, false, true] : List Bool), false⟩ : Mach) (refineP (setsM (⟨kSp, ([0, 1] : List Int), kFo, ([true, false, true] : List Bool), false⟩ : Mach))))).part)) ++ ([.slice A109 ((notD (buildM (⟨kSp, ([0, 1] : List Int), kFo, ([true, false, true] : List Bool), false⟩ : Mach) (refineP (setsM (⟨kSp, ([0, 1] : List Int), kFo, ([true, false, true] : List Bool), false⟩ : Mach))))).next).length c109, .slice A111 ((notD (buildM (⟨kSp, ([0, 1] : List Int), kFo, ([true, false, true] : List Bool), false⟩ : Mach) (refineP (setsM (⟨kSp, ([0, 1] : List Int), kFo, ([true, false, true] : List Bool), false⟩ : Mach))))).final).length c111] : List Value)).toArray, .int .i64 (errD (buildM (⟨kSp, ([0, 1] : List Int), kFo, ([true, false, true] : List Bool), false⟩ : Mach) (refineP (setsM (⟨kSp, ([0, 1] : List Int), kFo, ([true, false, true] : List Bool), false⟩ : Mach)))))]) rfl rfl rfl (x_move rfl) ?_
  refine p_v (v := .agg ((encPart ((notD (buildM (⟨kSp, ([0, 1] : List Int), kFo, ([true, false, true] : List Bool), false⟩ : Mach) (refineP (setsM (⟨kSp, ([0, 1] : List Int), kFo, ([true, false, true] : List Bool), false⟩ : Mach))))).part)) ++ ([.slice A109 ((notD (buildM (⟨kSp, ([0, 1] : List Int), kFo, ([true, false, true] : List Bool), false⟩ : Mach) (refineP (setsM (⟨kSp, ([0, 1] : List Int), kFo, ([true, false, true] : List Bool), false⟩ : Mach))))).next).length c109, .slice A111 ((notD (buildM (⟨kSp, ([0, 1] : List Int), kFo, ([true, false, true] : List Bool), false⟩ : Mach) (refineP (setsM (⟨kSp, ([0, 1] : List Int), kFo, ([true, false, true] : List Bool), false⟩ : Mach))))).final).length c111] : List Value)).toArray) rfl rfl rfl (x_extract (vs := [.agg ((encPart ((notD (buildM (⟨kSp, ([0, 1] : List Int), kFo, ([true, false, true] : List Bool), false⟩ : Mach) (refineP (setsM (⟨kSp, ([0, 1] : List Int), kFo, ([true, false, true] : List Bool), false⟩ : Mach))))).part)) ++ ([.slice A109 ((notD (buildM (⟨kSp, ([0, 1] : List Int), kFo, ([true, false, true] : List Bool), false⟩ : Mach) (refineP (setsM (⟨kSp, ([0, 1] : List Int), kFo, ([true, false, true] : List Bool), false⟩ : Mach))))).next).length c109, .slice A111 ((notD (buildM (⟨kSp, ([0, 1] : List Int), kFo, ([true, false, true] : List Bool), false⟩ : Mach) (refineP (setsM (⟨kSp, ([0, 1] : List Int), kFo, ([true, false, true] : List Bool), false⟩ : Mach))))).final).length c111] : List Value)).toArray, .int .i64 (errD (buildM (⟨kSp, ([0, 1] : List Int), kFo, ([true, false, true] : List Bool), false⟩ : Mach) (refineP (setsM (⟨kSp, ([0, 1] : List Int), kFo, ([true, false, true] : List Bool), false⟩ : Mach)))))]) rfl rfl) ?_
  refine p_v (v := .int .i64 (errD (buildM (⟨kSp, ([0, 1] : List Int), kFo, ([true, false, true] : List Bool), false⟩ : Mach) (refineP (setsM (⟨kSp, ([0, 1] : List Int), kFo, ([true, false, true] : List Bool), false⟩ : Mach)))))) rfl rfl rfl (x_extract (vs := [.agg ((encPart ((notD (buildM (⟨kSp, ([0, 1] : List Int), kFo, ([true, false, true] : List Bool), false⟩ : Mach) (refineP (setsM (⟨kSp, ([0, 1] : List Int), kFo, ([true, false, true] : List Bool), false⟩ : Mach))))).part)) ++ ([.slice A109 ((notD (buildM (⟨kSp, ([0, 1] : List Int), kFo, ([true, false, true] : List Bool), false⟩ : Mach) (refineP (setsM (⟨kSp, ([0, 1] : List Int), kFo, ([true, false, true] : List Bool), false⟩ : Mach))))).next).length c109, .slice A111 ((notD (buildM (⟨kSp, ([0, 1] : List Int), kFo, ([true, false, true] : List Bool), false⟩ : Mach) (refineP (setsM (⟨kSp, ([0, 1] : List Int), kFo, ([true, false, true] : List Bool), false⟩ : Mach))))).final).length c111] : List Value)).toArray, .int .i64 (errD (buildM (⟨kSp, ([0, 1] : List Int), kFo, ([true, false, true] : List Bool), false⟩ : Mach) (refineP (setsM (⟨kSp, ([0, 1] : List Int), kFo, ([true, false, true] : List Bool), false⟩ : Mach)))))]) rfl rfl) ?_
  obtain ⟨b113, w113, r113, g113, T113⟩ := e_box (P := Tryd.prog) S112 35 (v := zv35) ((encPart zPart) ++ ([.slice none 0 0, .slice none 0 0] : List Value)) (by kernel_rfl)
  have S114 := T113
  dsimp only [lAa, lAn, lA0, lAs] at S114
  refine p_v (v := .pointer (some ⟨b113, 0, none⟩)) rfl rfl rfl (x_alloc ty35 r113) ?_
  obtain ⟨w115, r115, g115, T115⟩ := e_store_all (P := Tryd.prog) (v := .agg ((encPart ((notD (buildM (⟨kSp, ([0, 1] : List Int), kFo, ([true, false, true] : List Bool), false⟩ : Mach) (refineP (setsM (⟨kSp, ([0, 1] : List Int), kFo, ([true, false, true] : List Bool), false⟩ : Mach))))).part)) ++ ([.slice A109 ((notD (buildM (⟨kSp, ([0, 1] : List Int), kFo, ([true, false, true] : List Bool), false⟩ : Mach) (refineP (setsM (⟨kSp, ([0, 1] : List Int), kFo, ([true, false, true] : List Bool), false⟩ : Mach))))).next).length c109, .slice A111 ((notD (buildM (⟨kSp, ([0, 1] : List Int), kFo, ([true, false, true] : List Bool), false⟩ : Mach) (refineP (setsM (⟨kSp, ([0, 1] : List Int), kFo, ([true, false, true] : List Bool), false⟩ : Mach))))).final).length c111] : List Value)).toArray) (vs := ((encPart ((notD (buildM (⟨kSp, ([0, 1] : List Int), kFo, ([true, false, true] : List Bool), false⟩ : Mach) (refineP (setsM (⟨kSp, ([0, 1] : List Int), kFo, ([true, false, true] : List Bool), false⟩ : Mach))))).part)) ++ ([.slice A109 ((notD (buildM (⟨kSp, ([0, 1] : List Int), kFo, ([true, false, true] : List Bool), false⟩ : Mach) (refineP (setsM (⟨kSp, ([0, 1] : List Int), kFo, ([true, false, true] : List Bool), false⟩ : Mach))))).next).length c109, .slice A111 ((notD (buildM (⟨kSp, ([0, 1] : List Int), kFo, ([true, false, true] : List Bool), false⟩ : Mach) (refineP (setsM (⟨kSp, ([0, 1] : List Int), kFo, ([true, false, true] : List Bool), false⟩ : Mach))))).final).length c111] : List Value))) (cs := ((encPart zPart) ++ ([.slice none 0 0, .slice none 0 0] : List Value))) S114 ty35 rfl (len_app (encPart_len ok107_0) rfl) (len_app (encPart_len (okPart_zero)) rfl) (j := 8) rfl (one_app (encPart_one _) (by simp [Value.oneCell']))
  have S116 := T115.fx 8 (box b113 35 ((encPart ((notD (buildM (⟨kSp, ([0, 1] : List Int), kFo, ([true, false, true] : List Bool), false⟩ : Mach) (refineP (setsM (⟨kSp, ([0, 1] : List Int), kFo, ([true, false, true] : List Bool), false⟩ : Mach))))).part)) ++ ([.slice A109 ((notD (buildM (⟨kSp, ([0, 1] : List Int), kFo, ([true, false, true] : List Bool), false⟩ : Mach) (refineP (setsM (⟨kSp, ([0, 1] : List Int), kFo, ([true, false, true] : List Bool), false⟩ : Mach))))).next).length c109, .slice A111 ((notD (buildM (⟨kSp, ([0, 1] : List Int), kFo, ([true, false, true] : List Bool), false⟩ : Mach) (refineP (setsM (⟨kSp, ([0, 1] : List Int), kFo, ([true, false, true] : List Bool), false⟩ : Mach))))).final).length c111] : List Value))) rfl
  dsimp only [lAa, lAn, lA0, lAs] at S116
  refine p_s rfl rfl (x_store rfl rfl r115) ?_
  refine p_v (v := .int .i64 (errD (buildM (⟨kSp, ([0, 1] : List Int), kFo, ([true, false, true] : List Bool), false⟩ : Mach) (refineP (setsM (⟨kSp, ([0, 1] : List Int), kFo, ([true, false, true] : List Bool), false⟩ : Mach)))))) rfl rfl rfl (x_assign rfl) ?_
  refine run_region_end ?_
  refine run_seq ?_
  refine run_reg (l := [0, 1, 2, 3, 4, 5, 6]) rfl ?_
  refine p_v (v := .agg ((encPart ((buildM (⟨kSp, ([0, 1] : List Int), kFo, ([true, false, true] : List Bool), false⟩ : Mach) (refineP (setsM (⟨kSp, ([0, 1] : List Int), kFo, ([true, false, true] : List Bool), false⟩ : Mach)))).part)) ++ ([.slice j106_A80 ((buildM (⟨kSp, ([0, 1] : List Int), kFo, ([true, false, true] : List Bool), false⟩ : Mach) (refineP (setsM (⟨kSp, ([0, 1] : List Int), kFo, ([true, false, true] : List Bool), false⟩ : Mach)))).next).length j106_c80, .slice j106_A82 ((buildM (⟨kSp, ([0, 1] : List Int), kFo, ([true, false, true] : List Bool), false⟩ : Mach) (refineP (setsM (⟨kSp, ([0, 1] : List Int), kFo, ([true, false, true] : List Bool), false⟩ : Mach)))).final).length j106_c82] : List Value)).toArray) rfl rfl rfl (x_load (seg := ((encPart ((buildM (⟨kSp, ([0, 1] : List Int), kFo, ([true, false, true] : List Bool), false⟩ : Mach) (refineP (setsM (⟨kSp, ([0, 1] : List Int), kFo, ([true, false, true] : List Bool), false⟩ : Mach)))).part)) ++ ([.slice j106_A80 ((buildM (⟨kSp, ([0, 1] : List Int), kFo, ([true, false, true] : List Bool), false⟩ : Mach) (refineP (setsM (⟨kSp, ([0, 1] : List Int), kFo, ([true, false, true] : List Bool), false⟩ : Mach)))).next).length j106_c80, .slice j106_A82 ((buildM (⟨kSp, ([0, 1] : List Int), kFo, ([true, false, true] : List Bool), false⟩ : Mach) (refineP (setsM (⟨kSp, ([0, 1] : List Int), kFo, ([true, false, true] : List Bool), false⟩ : Mach)))).final).length j106_c82] : List Value))) ty35 (len_app (encPart_len jf106_1) rfl) (by simp) rj106_2 (CF.box (m := 259) (S116.box_at (j := 5) rfl) (take_all (len_app (encPart_len jf106_1) rfl)))) ?_
  refine p_c rfl rfl rfl (y_call (args := [.agg ((encPart ((buildM (⟨kSp, ([0, 1] : List Int), kFo, ([true, false, true] : List Bool), false⟩ : Mach) (refineP (setsM (⟨kSp, ([0, 1] : List Int), kFo, ([true, false, true] : List Bool), false⟩ : Mach)))).part)) ++ ([.slice j106_A80 ((buildM (⟨kSp, ([0, 1] : List Int), kFo, ([true, false, true] : List Bool), false⟩ : Mach) (refineP (setsM (⟨kSp, ([0, 1] : List Int), kFo, ([true, false, true] : List Bool), false⟩ : Mach)))).next).length j106_c80, .slice j106_A82 ((buildM (⟨kSp, ([0, 1] : List Int), kFo, ([true, false, true] : List Bool), false⟩ : Mach) (refineP (setsM (⟨kSp, ([0, 1] : List Int), kFo, ([true, false, true] : List Bool), false⟩ : Mach)))).final).length j106_c82] : List Value)).toArray]) ca58 rfl rfl) (wordD_calls w115 (buildM (⟨kSp, ([0, 1] : List Int), kFo, ([true, false, true] : List Bool), false⟩ : Mach) (refineP (setsM (⟨kSp, ([0, 1] : List Int), kFo, ([true, false, true] : List Bool), false⟩ : Mach)))) jf106_1 j106_A80 j106_c80 jf106_2 (jf106_3.mono (lf111_4.trans S116.ghost)) j106_A82 j106_c82 jf106_4 (jf106_5.mono (lf111_4.trans S116.ghost)) (by first | assumption | omega | decide) (Block.st S116 tb)) ?_
  rintro _ w117 ⟨h117, T117, rfl, sz117_0, fx117⟩
  have S118 := S116.keep (Chg.of_below T117.below)
  have bd_sz117_0 := sz117_0; simp only [maxLen] at bd_sz117_0
  have hwA_ := fx117.1; have hwB_ := fx117.2
  refine p_v (v := .tuple #[.string (wordW (runD (buildM (⟨kSp, ([0, 1] : List Int), kFo, ([true, false, true] : List Bool), false⟩ : Mach) (refineP (setsM (⟨kSp, ([0, 1] : List Int), kFo, ([true, false, true] : List Bool), false⟩ : Mach)))))), .bool (okW (runD (buildM (⟨kSp, ([0, 1] : List Int), kFo, ([true, false, true] : List Bool), false⟩ : Mach) (refineP (setsM (⟨kSp, ([0, 1] : List Int), kFo, ([true, false, true] : List Bool), false⟩ : Mach))))))]) rfl rfl rfl (x_move rfl) ?_
  refine p_v (v := .string (wordW (runD (buildM (⟨kSp, ([0, 1] : List Int), kFo, ([true, false, true] : List Bool), false⟩ : Mach) (refineP (setsM (⟨kSp, ([0, 1] : List Int), kFo, ([true, false, true] : List Bool), false⟩ : Mach))))))) rfl rfl rfl (x_extract (vs := [.string (wordW (runD (buildM (⟨kSp, ([0, 1] : List Int), kFo, ([true, false, true] : List Bool), false⟩ : Mach) (refineP (setsM (⟨kSp, ([0, 1] : List Int), kFo, ([true, false, true] : List Bool), false⟩ : Mach)))))), .bool (okW (runD (buildM (⟨kSp, ([0, 1] : List Int), kFo, ([true, false, true] : List Bool), false⟩ : Mach) (refineP (setsM (⟨kSp, ([0, 1] : List Int), kFo, ([true, false, true] : List Bool), false⟩ : Mach))))))]) rfl rfl) ?_
  refine p_v (v := .bool (okW (runD (buildM (⟨kSp, ([0, 1] : List Int), kFo, ([true, false, true] : List Bool), false⟩ : Mach) (refineP (setsM (⟨kSp, ([0, 1] : List Int), kFo, ([true, false, true] : List Bool), false⟩ : Mach))))))) rfl rfl rfl (x_extract (vs := [.string (wordW (runD (buildM (⟨kSp, ([0, 1] : List Int), kFo, ([true, false, true] : List Bool), false⟩ : Mach) (refineP (setsM (⟨kSp, ([0, 1] : List Int), kFo, ([true, false, true] : List Bool), false⟩ : Mach)))))), .bool (okW (runD (buildM (⟨kSp, ([0, 1] : List Int), kFo, ([true, false, true] : List Bool), false⟩ : Mach) (refineP (setsM (⟨kSp, ([0, 1] : List Int), kFo, ([true, false, true] : List Bool), false⟩ : Mach))))))]) rfl rfl) ?_
  refine p_v (v := .string (wordW (runD (buildM (⟨kSp, ([0, 1] : List Int), kFo, ([true, false, true] : List Bool), false⟩ : Mach) (refineP (setsM (⟨kSp, ([0, 1] : List Int), kFo, ([true, false, true] : List Bool), false⟩ : Mach))))))) rfl rfl rfl (x_assign rfl) ?_
  refine p_v (v := .bool (okW (runD (buildM (⟨kSp, ([0, 1] : List Int), kFo, ([true, false, true] : List Bool), false⟩ : Mach) (refineP (setsM (⟨kSp, ([0, 1] : List Int), kFo, ([true, false, true] : List Bool), false⟩ : Mach))))))) rfl rfl rfl (x_assign rfl) ?_
  refine run_region_end ?_
  refine run_seq ?_
  refine run_reg (l := [0, 1, 2, 3, 4, 5, 6]) rfl ?_
  refine p_v (v := .agg ((encPart ((notD (buildM (⟨kSp, ([0, 1] : List Int), kFo, ([true, false, true] : List Bool), false⟩ : Mach) (refineP (setsM (⟨kSp, ([0, 1] : List Int), kFo, ([true, false, true] : List Bool), false⟩ : Mach))))).part)) ++ ([.slice A109 ((notD (buildM (⟨kSp, ([0, 1] : List Int), kFo, ([true, false, true] : List Bool), false⟩ : Mach) (refineP (setsM (⟨kSp, ([0, 1] : List Int), kFo, ([true, false, true] : List Bool), false⟩ : Mach))))).next).length c109, .slice A111 ((notD (buildM (⟨kSp, ([0, 1] : List Int), kFo, ([true, false, true] : List Bool), false⟩ : Mach) (refineP (setsM (⟨kSp, ([0, 1] : List Int), kFo, ([true, false, true] : List Bool), false⟩ : Mach))))).final).length c111] : List Value)).toArray) rfl rfl rfl (x_load (seg := ((encPart ((notD (buildM (⟨kSp, ([0, 1] : List Int), kFo, ([true, false, true] : List Bool), false⟩ : Mach) (refineP (setsM (⟨kSp, ([0, 1] : List Int), kFo, ([true, false, true] : List Bool), false⟩ : Mach))))).part)) ++ ([.slice A109 ((notD (buildM (⟨kSp, ([0, 1] : List Int), kFo, ([true, false, true] : List Bool), false⟩ : Mach) (refineP (setsM (⟨kSp, ([0, 1] : List Int), kFo, ([true, false, true] : List Bool), false⟩ : Mach))))).next).length c109, .slice A111 ((notD (buildM (⟨kSp, ([0, 1] : List Int), kFo, ([true, false, true] : List Bool), false⟩ : Mach) (refineP (setsM (⟨kSp, ([0, 1] : List Int), kFo, ([true, false, true] : List Bool), false⟩ : Mach))))).final).length c111] : List Value))) ty35 (len_app (encPart_len ok107_0) rfl) (by simp) rfl (CF.box (m := 259) (S118.box_at (j := 8) rfl) (take_all (len_app (encPart_len ok107_0) rfl)))) ?_
  refine p_c rfl rfl rfl (y_call (args := [.agg ((encPart ((notD (buildM (⟨kSp, ([0, 1] : List Int), kFo, ([true, false, true] : List Bool), false⟩ : Mach) (refineP (setsM (⟨kSp, ([0, 1] : List Int), kFo, ([true, false, true] : List Bool), false⟩ : Mach))))).part)) ++ ([.slice A109 ((notD (buildM (⟨kSp, ([0, 1] : List Int), kFo, ([true, false, true] : List Bool), false⟩ : Mach) (refineP (setsM (⟨kSp, ([0, 1] : List Int), kFo, ([true, false, true] : List Bool), false⟩ : Mach))))).next).length c109, .slice A111 ((notD (buildM (⟨kSp, ([0, 1] : List Int), kFo, ([true, false, true] : List Bool), false⟩ : Mach) (refineP (setsM (⟨kSp, ([0, 1] : List Int), kFo, ([true, false, true] : List Bool), false⟩ : Mach))))).final).length c111] : List Value)).toArray]) ca58 rfl rfl) (wordD_calls w117 (notD (buildM (⟨kSp, ([0, 1] : List Int), kFo, ([true, false, true] : List Bool), false⟩ : Mach) (refineP (setsM (⟨kSp, ([0, 1] : List Int), kFo, ([true, false, true] : List Bool), false⟩ : Mach))))) ok107_0 A109 c109 (And.intro lc109 cm109) (ld109.mono (le111.trans S118.ghost)) A111 c111 (And.intro lc111 cm111) (ld111.mono ((Le.refl _).trans S118.ghost)) (by first | assumption | omega | decide) (Block.st S118 tb)) ?_
  rintro _ w119 ⟨h119, T119, rfl, sz119_0, fx119⟩
  have S120 := S118.keep (Chg.of_below T119.below)
  have bd_sz119_0 := sz119_0; simp only [maxLen] at bd_sz119_0
  have hwA_ := fx119.1; have hwB_ := fx119.2
  refine p_v (v := .tuple #[.string (wordW (runD (notD (buildM (⟨kSp, ([0, 1] : List Int), kFo, ([true, false, true] : List Bool), false⟩ : Mach) (refineP (setsM (⟨kSp, ([0, 1] : List Int), kFo, ([true, false, true] : List Bool), false⟩ : Mach))))))), .bool (okW (runD (notD (buildM (⟨kSp, ([0, 1] : List Int), kFo, ([true, false, true] : List Bool), false⟩ : Mach) (refineP (setsM (⟨kSp, ([0, 1] : List Int), kFo, ([true, false, true] : List Bool), false⟩ : Mach)))))))]) rfl rfl rfl (x_move rfl) ?_
  refine p_v (v := .string (wordW (runD (notD (buildM (⟨kSp, ([0, 1] : List Int), kFo, ([true, false, true] : List Bool), false⟩ : Mach) (refineP (setsM (⟨kSp, ([0, 1] : List Int), kFo, ([true, false, true] : List Bool), false⟩ : Mach)))))))) rfl rfl rfl (x_extract (vs := [.string (wordW (runD (notD (buildM (⟨kSp, ([0, 1] : List Int), kFo, ([true, false, true] : List Bool), false⟩ : Mach) (refineP (setsM (⟨kSp, ([0, 1] : List Int), kFo, ([true, false, true] : List Bool), false⟩ : Mach))))))), .bool (okW (runD (notD (buildM (⟨kSp, ([0, 1] : List Int), kFo, ([true, false, true] : List Bool), false⟩ : Mach) (refineP (setsM (⟨kSp, ([0, 1] : List Int), kFo, ([true, false, true] : List Bool), false⟩ : Mach)))))))]) rfl rfl) ?_
  refine p_v (v := .bool (okW (runD (notD (buildM (⟨kSp, ([0, 1] : List Int), kFo, ([true, false, true] : List Bool), false⟩ : Mach) (refineP (setsM (⟨kSp, ([0, 1] : List Int), kFo, ([true, false, true] : List Bool), false⟩ : Mach)))))))) rfl rfl rfl (x_extract (vs := [.string (wordW (runD (notD (buildM (⟨kSp, ([0, 1] : List Int), kFo, ([true, false, true] : List Bool), false⟩ : Mach) (refineP (setsM (⟨kSp, ([0, 1] : List Int), kFo, ([true, false, true] : List Bool), false⟩ : Mach))))))), .bool (okW (runD (notD (buildM (⟨kSp, ([0, 1] : List Int), kFo, ([true, false, true] : List Bool), false⟩ : Mach) (refineP (setsM (⟨kSp, ([0, 1] : List Int), kFo, ([true, false, true] : List Bool), false⟩ : Mach)))))))]) rfl rfl) ?_
  refine p_v (v := .string (wordW (runD (notD (buildM (⟨kSp, ([0, 1] : List Int), kFo, ([true, false, true] : List Bool), false⟩ : Mach) (refineP (setsM (⟨kSp, ([0, 1] : List Int), kFo, ([true, false, true] : List Bool), false⟩ : Mach)))))))) rfl rfl rfl (x_assign rfl) ?_
  refine p_v (v := .bool (okW (runD (notD (buildM (⟨kSp, ([0, 1] : List Int), kFo, ([true, false, true] : List Bool), false⟩ : Mach) (refineP (setsM (⟨kSp, ([0, 1] : List Int), kFo, ([true, false, true] : List Bool), false⟩ : Mach)))))))) rfl rfl rfl (x_assign rfl) ?_
  refine run_region_end ?_
  refine run_seq ?_
  refine run_reg (l := [0, 1, 2, 3, 4, 5, 6]) rfl ?_
  refine p_v (v := .agg #[v16, v18, v26, v34, .bool false]) rfl rfl rfl (x_load (seg := [v16, v18, v26, v34, .bool false]) ty27 rfl (by simp) rj106_1 (CF.box (m := 5) (S120.box_at (j := 4) rfl) rfl)) ?_
  obtain ⟨A121, c121, ev121, lc121, cm121⟩ := S120.row_val (j := 0) rfl
  obtain ⟨A122, c122, ev122, lc122, cm122⟩ := S120.row_val (j := 1) rfl
  obtain ⟨A123, c123, ev123, lc123, cm123⟩ := S120.row_val (j := 2) rfl
  obtain ⟨A124, c124, ev124, lc124, cm124⟩ := S120.row_val (j := 3) rfl
  refine p_c rfl rfl rfl (y_call (args := [.agg #[.slice A121 kSp.length c121, .slice A122 ([0, 1] : List Int).length c122, .slice A123 kFo.length c123, .slice A124 ([true, false, true] : List Bool).length c124, .bool false]]) ca62 rfl (cons_eq (Eq.trans (b := .agg #[v16, v18, v26, v34, .bool false]) rfl (by rw [ev121, ev122, ev123, ev124])) rfl)) (path_calls w119 (⟨kSp, ([0, 1] : List Int), kFo, ([true, false, true] : List Bool), false⟩ : Mach) A121 c121 (And.intro lc121 cm121) (row_leads_eq S120 (j := 0) rfl ev121) A122 c122 (And.intro lc122 cm122) (row_leads_eq S120 (j := 1) rfl ev122) A123 c123 (And.intro lc123 cm123) (row_leads_eq S120 (j := 2) rfl ev123) A124 c124 (And.intro lc124 cm124) (row_leads_eq S120 (j := 3) rfl ev124) (Block.st S120 tb)) ?_
  rintro _ w125 ⟨h125, T125, rfl, sz125_0, fx125⟩
  have S126 := S120.keep (Chg.of_below T125.below)
  have bd_sz125_0 := sz125_0; simp only [maxLen] at bd_sz125_0
  have hpA_ := fx125.1; have hpB_ := fx125.2
  refine p_v (v := .tuple #[.string (wordW (runM (⟨kSp, ([0, 1] : List Int), kFo, ([true, false, true] : List Bool), false⟩ : Mach))), .bool (okW (runM (⟨kSp, ([0, 1] : List Int), kFo, ([true, false, true] : List Bool), false⟩ : Mach)))]) rfl rfl rfl (x_move rfl) ?_
  refine p_v (v := .string (wordW (runM (⟨kSp, ([0, 1] : List Int), kFo, ([true, false, true] : List Bool), false⟩ : Mach)))) rfl rfl rfl (x_extract (vs := [.string (wordW (runM (⟨kSp, ([0, 1] : List Int), kFo, ([true, false, true] : List Bool), false⟩ : Mach))), .bool (okW (runM (⟨kSp, ([0, 1] : List Int), kFo, ([true, false, true] : List Bool), false⟩ : Mach)))]) rfl rfl) ?_
  refine p_v (v := .bool (okW (runM (⟨kSp, ([0, 1] : List Int), kFo, ([true, false, true] : List Bool), false⟩ : Mach)))) rfl rfl rfl (x_extract (vs := [.string (wordW (runM (⟨kSp, ([0, 1] : List Int), kFo, ([true, false, true] : List Bool), false⟩ : Mach))), .bool (okW (runM (⟨kSp, ([0, 1] : List Int), kFo, ([true, false, true] : List Bool), false⟩ : Mach)))]) rfl rfl) ?_
  refine p_v (v := .string (wordW (runM (⟨kSp, ([0, 1] : List Int), kFo, ([true, false, true] : List Bool), false⟩ : Mach)))) rfl rfl rfl (x_assign rfl) ?_
  refine p_v (v := .bool (okW (runM (⟨kSp, ([0, 1] : List Int), kFo, ([true, false, true] : List Bool), false⟩ : Mach)))) rfl rfl rfl (x_assign rfl) ?_
  refine run_region_end ?_
  refine run_seq ?_
  refine run_reg (l := [0, 1, 2, 3]) rfl ?_
  refine p_v (v := .pointer (some ⟨b36, 3, none⟩)) rfl rfl rfl (x_fieldAt fd27_3 ty25 rfl rj106_1) ?_
  refine p_v (v := v34) rfl rfl rfl (x_load (seg := [v34]) ty25 rfl (by simp) rfl (CF.box (m := 1) (S126.box_at (j := 4) rfl) rfl)) ?_
  obtain ⟨ad127, a127, at127⟩ := e_index_own (q := (0 : Int)) (m := 1) S126 (j := 3) rfl rfl (by first|omega|(simp;omega)|assumption|simp) (by first|omega|(simp;omega)|assumption|simp)
  refine p_v (v := .pointer (some ad127)) rfl rfl rfl (x_index_own u25 ty4 rfl rfl a127 (by first|omega|(simp;omega)|assumption|simp) (by first|omega|(simp;omega)|assumption|simp)) ?_
  obtain ⟨w128, r128, g128, T128⟩ := e_store_own (u := .bool false) (q := (0 : Int)) false (vs := [.bool false]) S126 ty4 rfl (j := 3) rfl rfl ⟨rfl, trivial⟩ at127 (by first|omega|(simp;omega)|assumption|simp) (by first|omega|(simp;omega)|assumption|simp)
  have S129 := T128.fx 3 (row 4 Kd.bool v34 (([true, false, true] : List Bool).set ((0 : Int)).toNat false)) rfl
  dsimp only [lAa, lAn, lA0, lAs] at S129
  refine p_s rfl rfl (x_store rfl rfl r128) ?_
  refine run_region_end ?_
  refine run_seq ?_
  refine run_reg (l := [0, 1, 2, 3, 4, 5, 6]) rfl ?_
  refine p_v (v := .agg #[v16, v18, v26, v34, .bool false]) rfl rfl rfl (x_load (seg := [v16, v18, v26, v34, .bool false]) ty27 rfl (by simp) rj106_1 (CF.box (m := 5) (S129.box_at (j := 4) rfl) rfl)) ?_
  obtain ⟨A130, c130, ev130, lc130, cm130⟩ := S129.row_val (j := 0) rfl
  obtain ⟨A131, c131, ev131, lc131, cm131⟩ := S129.row_val (j := 1) rfl
  obtain ⟨A132, c132, ev132, lc132, cm132⟩ := S129.row_val (j := 2) rfl
  obtain ⟨A133, c133, ev133, lc133, cm133⟩ := S129.row_val (j := 3) rfl
  refine p_c rfl rfl rfl (y_call (args := [.agg #[.slice A130 kSp.length c130, .slice A131 ([0, 1] : List Int).length c131, .slice A132 kFo.length c132, .slice A133 (([true, false, true] : List Bool).set ((0 : Int)).toNat false).length c133, .bool false]]) ca62 rfl (cons_eq (Eq.trans (b := .agg #[v16, v18, v26, v34, .bool false]) rfl (by rw [ev130, ev131, ev132, ev133])) rfl)) (path_calls w128 (⟨kSp, ([0, 1] : List Int), kFo, ([true, false, true] : List Bool).set ((0 : Int)).toNat false, false⟩ : Mach) A130 c130 (And.intro lc130 cm130) (row_leads_eq S129 (j := 0) rfl ev130) A131 c131 (And.intro lc131 cm131) (row_leads_eq S129 (j := 1) rfl ev131) A132 c132 (And.intro lc132 cm132) (row_leads_eq S129 (j := 2) rfl ev132) A133 c133 (And.intro lc133 cm133) (row_leads_eq S129 (j := 3) rfl ev133) (Block.st S129 tb)) ?_
  rintro _ w134 ⟨h134, T134, rfl, sz134_0, fx134⟩
  have S135 := S129.keep (Chg.of_below T134.below)
  have bd_sz134_0 := sz134_0; simp only [maxLen] at bd_sz134_0
  have hpA_ := fx134.1; have hpB_ := fx134.2
  refine p_v (v := .tuple #[.string (wordW (runM (⟨kSp, ([0, 1] : List Int), kFo, ([true, false, true] : List Bool).set ((0 : Int)).toNat false, false⟩ : Mach))), .bool (okW (runM (⟨kSp, ([0, 1] : List Int), kFo, ([true, false, true] : List Bool).set ((0 : Int)).toNat false, false⟩ : Mach)))]) rfl rfl rfl (x_move rfl) ?_
  refine p_v (v := .string (wordW (runM (⟨kSp, ([0, 1] : List Int), kFo, ([true, false, true] : List Bool).set ((0 : Int)).toNat false, false⟩ : Mach)))) rfl rfl rfl (x_extract (vs := [.string (wordW (runM (⟨kSp, ([0, 1] : List Int), kFo, ([true, false, true] : List Bool).set ((0 : Int)).toNat false, false⟩ : Mach))), .bool (okW (runM (⟨kSp, ([0, 1] : List Int), kFo, ([true, false, true] : List Bool).set ((0 : Int)).toNat false, false⟩ : Mach)))]) rfl rfl) ?_
  refine p_v (v := .bool (okW (runM (⟨kSp, ([0, 1] : List Int), kFo, ([true, false, true] : List Bool).set ((0 : Int)).toNat false, false⟩ : Mach)))) rfl rfl rfl (x_extract (vs := [.string (wordW (runM (⟨kSp, ([0, 1] : List Int), kFo, ([true, false, true] : List Bool).set ((0 : Int)).toNat false, false⟩ : Mach))), .bool (okW (runM (⟨kSp, ([0, 1] : List Int), kFo, ([true, false, true] : List Bool).set ((0 : Int)).toNat false, false⟩ : Mach)))]) rfl rfl) ?_
  refine p_v (v := .string (wordW (runM (⟨kSp, ([0, 1] : List Int), kFo, ([true, false, true] : List Bool).set ((0 : Int)).toNat false, false⟩ : Mach)))) rfl rfl rfl (x_assign rfl) ?_
  refine p_v (v := .bool (okW (runM (⟨kSp, ([0, 1] : List Int), kFo, ([true, false, true] : List Bool).set ((0 : Int)).toNat false, false⟩ : Mach)))) rfl rfl rfl (x_assign rfl) ?_
  refine run_region_end ?_
  refine run_seq ?_
  refine run_reg (l := [0, 1, 2, 3]) rfl ?_
  refine p_v (v := .pointer (some ⟨b36, 3, none⟩)) rfl rfl rfl (x_fieldAt fd27_3 ty25 rfl rj106_1) ?_
  refine p_v (v := v34) rfl rfl rfl (x_load (seg := [v34]) ty25 rfl (by simp) rfl (CF.box (m := 1) (S135.box_at (j := 4) rfl) rfl)) ?_
  obtain ⟨ad136, a136, at136⟩ := e_index_own (q := (2 : Int)) (m := 1) S135 (j := 3) rfl rfl (by first|omega|(simp;omega)|assumption|simp) (by first|omega|(simp;omega)|assumption|simp)
  refine p_v (v := .pointer (some ad136)) rfl rfl rfl (x_index_own u25 ty4 rfl rfl a136 (by first|omega|(simp;omega)|assumption|simp) (by first|omega|(simp;omega)|assumption|simp)) ?_
  obtain ⟨w137, r137, g137, T137⟩ := e_store_own (u := .bool false) (q := (2 : Int)) false (vs := [.bool false]) S135 ty4 rfl (j := 3) rfl rfl ⟨rfl, trivial⟩ at136 (by first|omega|(simp;omega)|assumption|simp) (by first|omega|(simp;omega)|assumption|simp)
  have S138 := T137.fx 3 (row 4 Kd.bool v34 ((([true, false, true] : List Bool).set ((0 : Int)).toNat false).set ((2 : Int)).toNat false)) rfl
  dsimp only [lAa, lAn, lA0, lAs] at S138
  refine p_s rfl rfl (x_store rfl rfl r137) ?_
  refine run_region_end ?_
  refine run_seq ?_
  refine run_reg (l := [0, 1, 2, 3, 4, 5, 6]) rfl ?_
  refine p_v (v := .agg #[v16, v18, v26, v34, .bool false]) rfl rfl rfl (x_load (seg := [v16, v18, v26, v34, .bool false]) ty27 rfl (by simp) rj106_1 (CF.box (m := 5) (S138.box_at (j := 4) rfl) rfl)) ?_
  obtain ⟨A139, c139, ev139, lc139, cm139⟩ := S138.row_val (j := 0) rfl
  obtain ⟨A140, c140, ev140, lc140, cm140⟩ := S138.row_val (j := 1) rfl
  obtain ⟨A141, c141, ev141, lc141, cm141⟩ := S138.row_val (j := 2) rfl
  obtain ⟨A142, c142, ev142, lc142, cm142⟩ := S138.row_val (j := 3) rfl
  refine p_c rfl rfl rfl (y_call (args := [.agg #[.slice A139 kSp.length c139, .slice A140 ([0, 1] : List Int).length c140, .slice A141 kFo.length c141, .slice A142 ((([true, false, true] : List Bool).set ((0 : Int)).toNat false).set ((2 : Int)).toNat false).length c142, .bool false]]) ca62 rfl (cons_eq (Eq.trans (b := .agg #[v16, v18, v26, v34, .bool false]) rfl (by rw [ev139, ev140, ev141, ev142])) rfl)) (path_calls w137 (⟨kSp, ([0, 1] : List Int), kFo, (([true, false, true] : List Bool).set ((0 : Int)).toNat false).set ((2 : Int)).toNat false, false⟩ : Mach) A139 c139 (And.intro lc139 cm139) (row_leads_eq S138 (j := 0) rfl ev139) A140 c140 (And.intro lc140 cm140) (row_leads_eq S138 (j := 1) rfl ev140) A141 c141 (And.intro lc141 cm141) (row_leads_eq S138 (j := 2) rfl ev141) A142 c142 (And.intro lc142 cm142) (row_leads_eq S138 (j := 3) rfl ev142) (Block.st S138 tb)) ?_
  rintro _ w143 ⟨h143, T143, rfl, sz143_0, fx143⟩
  have S144 := S138.keep (Chg.of_below T143.below)
  have bd_sz143_0 := sz143_0; simp only [maxLen] at bd_sz143_0
  have hpA_ := fx143.1; have hpB_ := fx143.2
  refine p_v (v := .tuple #[.string (wordW (runM (⟨kSp, ([0, 1] : List Int), kFo, (([true, false, true] : List Bool).set ((0 : Int)).toNat false).set ((2 : Int)).toNat false, false⟩ : Mach))), .bool (okW (runM (⟨kSp, ([0, 1] : List Int), kFo, (([true, false, true] : List Bool).set ((0 : Int)).toNat false).set ((2 : Int)).toNat false, false⟩ : Mach)))]) rfl rfl rfl (x_move rfl) ?_
  refine p_v (v := .string (wordW (runM (⟨kSp, ([0, 1] : List Int), kFo, (([true, false, true] : List Bool).set ((0 : Int)).toNat false).set ((2 : Int)).toNat false, false⟩ : Mach)))) rfl rfl rfl (x_extract (vs := [.string (wordW (runM (⟨kSp, ([0, 1] : List Int), kFo, (([true, false, true] : List Bool).set ((0 : Int)).toNat false).set ((2 : Int)).toNat false, false⟩ : Mach))), .bool (okW (runM (⟨kSp, ([0, 1] : List Int), kFo, (([true, false, true] : List Bool).set ((0 : Int)).toNat false).set ((2 : Int)).toNat false, false⟩ : Mach)))]) rfl rfl) ?_
  refine p_v (v := .bool (okW (runM (⟨kSp, ([0, 1] : List Int), kFo, (([true, false, true] : List Bool).set ((0 : Int)).toNat false).set ((2 : Int)).toNat false, false⟩ : Mach)))) rfl rfl rfl (x_extract (vs := [.string (wordW (runM (⟨kSp, ([0, 1] : List Int), kFo, (([true, false, true] : List Bool).set ((0 : Int)).toNat false).set ((2 : Int)).toNat false, false⟩ : Mach))), .bool (okW (runM (⟨kSp, ([0, 1] : List Int), kFo, (([true, false, true] : List Bool).set ((0 : Int)).toNat false).set ((2 : Int)).toNat false, false⟩ : Mach)))]) rfl rfl) ?_
  refine p_v (v := .string (wordW (runM (⟨kSp, ([0, 1] : List Int), kFo, (([true, false, true] : List Bool).set ((0 : Int)).toNat false).set ((2 : Int)).toNat false, false⟩ : Mach)))) rfl rfl rfl (x_assign rfl) ?_
  refine p_v (v := .bool (okW (runM (⟨kSp, ([0, 1] : List Int), kFo, (([true, false, true] : List Bool).set ((0 : Int)).toNat false).set ((2 : Int)).toNat false, false⟩ : Mach)))) rfl rfl rfl (x_assign rfl) ?_
  refine run_region_end ?_
  refine run_seq ?_
  refine run_reg (l := [0, 1, 2, 3, 4, 5, 6, 7]) rfl ?_
  obtain ⟨v145, w145, r145, g145, T145⟩ := e_build_ones (kd := Kd.bool) (xs := ([true] : List Bool)) (len := 1) [.bool true] S144 u25 ty4 rfl rfl rfl rfl rfl (ones_cons rfl ones_nil) [.bool true] (Elems.single (k := Kd.bool) (h := h111) (x := true) (cs := [.bool true]) ⟨rfl, trivial⟩) rfl
  have S146 := T145
  dsimp only [lAa, lAn, lA0, lAs] at S146
  refine p_v (v := v145) rfl rfl rfl (y_build_slice (pv := [(0, .bool true)]) rfl r145) ?_
  refine p_v (v := .agg #[.slice none 0 0, .slice none 0 0, .slice none 0 0, v145, .bool false]) rfl rfl rfl (y_build (pv := [(3, v145)]) rfl (run_build_struct pl27 ty27 rfl (cs := [.slice none 0 0, .slice none 0 0, .slice none 0 0, v145, .bool false]) (fill_any (vc := [v145]) rfl (row_cells S146 (j := 9) rfl) rfl rfl (fill_end rfl)))) ?_
  obtain ⟨A147, c147, ev147, lc147, cm147⟩ := S146.row_val (j := 9) rfl
  refine p_c rfl rfl rfl (y_call (args := [.agg #[.slice none 0 0, .slice none 0 0, .slice none 0 0, .slice A147 ([true] : List Bool).length c147, .bool false]]) ca62 rfl (cons_eq (Eq.trans (b := .agg #[.slice none 0 0, .slice none 0 0, .slice none 0 0, v145, .bool false]) rfl (by rw [ev147])) rfl)) (path_calls w145 (⟨([] : List Spot), ([] : List Int), ([] : List (List Int)), ([true] : List Bool), false⟩ : Mach) none 0 (by simp [maxLen]) (leads_nil _ _) none 0 (by simp [maxLen]) (leads_nil _ _) none 0 (by simp [maxLen]) (leads_nil _ _) A147 c147 (And.intro lc147 cm147) (row_leads_eq S146 (j := 9) rfl ev147) (Block.st S146 tb)) ?_
  rintro _ w148 ⟨h148, T148, rfl, sz148_0, fx148⟩
  have S149 := S146.keep (Chg.of_below T148.below)
  have bd_sz148_0 := sz148_0; simp only [maxLen] at bd_sz148_0
  have hpA_ := fx148.1; have hpB_ := fx148.2
  refine p_v (v := .tuple #[.string (wordW (runM (⟨([] : List Spot), ([] : List Int), ([] : List (List Int)), ([true] : List Bool), false⟩ : Mach))), .bool (okW (runM (⟨([] : List Spot), ([] : List Int), ([] : List (List Int)), ([true] : List Bool), false⟩ : Mach)))]) rfl rfl rfl (x_move rfl) ?_
  refine p_v (v := .string (wordW (runM (⟨([] : List Spot), ([] : List Int), ([] : List (List Int)), ([true] : List Bool), false⟩ : Mach)))) rfl rfl rfl (x_extract (vs := [.string (wordW (runM (⟨([] : List Spot), ([] : List Int), ([] : List (List Int)), ([true] : List Bool), false⟩ : Mach))), .bool (okW (runM (⟨([] : List Spot), ([] : List Int), ([] : List (List Int)), ([true] : List Bool), false⟩ : Mach)))]) rfl rfl) ?_
  refine p_v (v := .bool (okW (runM (⟨([] : List Spot), ([] : List Int), ([] : List (List Int)), ([true] : List Bool), false⟩ : Mach)))) rfl rfl rfl (x_extract (vs := [.string (wordW (runM (⟨([] : List Spot), ([] : List Int), ([] : List (List Int)), ([true] : List Bool), false⟩ : Mach))), .bool (okW (runM (⟨([] : List Spot), ([] : List Int), ([] : List (List Int)), ([true] : List Bool), false⟩ : Mach)))]) rfl rfl) ?_
  refine p_v (v := .string (wordW (runM (⟨([] : List Spot), ([] : List Int), ([] : List (List Int)), ([true] : List Bool), false⟩ : Mach)))) rfl rfl rfl (x_assign rfl) ?_
  refine p_v (v := .bool (okW (runM (⟨([] : List Spot), ([] : List Int), ([] : List (List Int)), ([true] : List Bool), false⟩ : Mach)))) rfl rfl rfl (x_assign rfl) ?_
  refine run_region_end ?_
  refine run_seq ?_
  refine run_seq ?_
  refine run_reg (l := [0, 1, 2, 3, 4, 5, 6, 7, 8, 9, 10, 11, 12, 13, 14, 15, 16, 17, 18, 19, 20, 21, 22, 23, 24, 25, 26, 27, 28, 29, 30, 31, 32, 33, 34, 35, 36, 37, 38, 39, 40, 41, 42, 43, 44, 45, 46, 47]) rfl ?_
  refine p_v (v := .int .i64 (errB (⟨kSp, ([0, 1] : List Int), kFo, ([true, false, true] : List Bool), false⟩ : Mach) (refineP (setsM (⟨kSp, ([0, 1] : List Int), kFo, ([true, false, true] : List Bool), false⟩ : Mach))))) rfl rfl rfl (x_move rj106_3) ?_
  refine p_v (v := .bool (decide ((errB (⟨kSp, ([0, 1] : List Int), kFo, ([true, false, true] : List Bool), false⟩ : Mach) (refineP (setsM (⟨kSp, ([0, 1] : List Int), kFo, ([true, false, true] : List Bool), false⟩ : Mach)))) ≠ 0))) rfl rfl rfl (x_neq rfl rfl) ?_
  refine p_v (v := .bool (decide ((errB (⟨kSp, ([0, 1] : List Int), kFo, ([true, false, true] : List Bool), false⟩ : Mach) (refineP (setsM (⟨kSp, ([0, 1] : List Int), kFo, ([true, false, true] : List Bool), false⟩ : Mach)))) ≠ 0))) rfl rfl rfl (x_move rfl) ?_
  have hc150 : ¬ ((errB (⟨kSp, ([0, 1] : List Int), kFo, ([true, false, true] : List Bool), false⟩ : Mach) (refineP (setsM (⟨kSp, ([0, 1] : List Int), kFo, ([true, false, true] : List Bool), false⟩ : Mach)))) ≠ 0) := by
   exact km_err
  refine p_v (v := .int .i64 (errD (buildM (⟨kSp, ([0, 1] : List Int), kFo, ([true, false, true] : List Bool), false⟩ : Mach) (refineP (setsM (⟨kSp, ([0, 1] : List Int), kFo, ([true, false, true] : List Bool), false⟩ : Mach)))))) rfl (wanted_of (j := 2) (want := false) (d := 87) (b := false) rfl rfl (congrArg Value.bool (decide_eq_false hc150)) rfl) rfl (x_move rfl) ?_
  refine p_v (v := .bool (decide ((errD (buildM (⟨kSp, ([0, 1] : List Int), kFo, ([true, false, true] : List Bool), false⟩ : Mach) (refineP (setsM (⟨kSp, ([0, 1] : List Int), kFo, ([true, false, true] : List Bool), false⟩ : Mach))))) ≠ 0))) rfl (wanted_of (j := 2) (want := false) (d := 87) (b := false) rfl rfl (congrArg Value.bool (decide_eq_false hc150)) rfl) rfl (x_neq rfl rfl) ?_
  refine p_v (v := .bool (decide ((errD (buildM (⟨kSp, ([0, 1] : List Int), kFo, ([true, false, true] : List Bool), false⟩ : Mach) (refineP (setsM (⟨kSp, ([0, 1] : List Int), kFo, ([true, false, true] : List Bool), false⟩ : Mach))))) ≠ 0))) rfl rfl rfl (x_pick_f (congrArg Value.bool (decide_eq_false hc150)) rfl) ?_
  refine p_v (v := .bool (decide ((errD (buildM (⟨kSp, ([0, 1] : List Int), kFo, ([true, false, true] : List Bool), false⟩ : Mach) (refineP (setsM (⟨kSp, ([0, 1] : List Int), kFo, ([true, false, true] : List Bool), false⟩ : Mach))))) ≠ 0))) rfl rfl rfl (x_move rfl) ?_
  have hc151 : ¬ ((errD (buildM (⟨kSp, ([0, 1] : List Int), kFo, ([true, false, true] : List Bool), false⟩ : Mach) (refineP (setsM (⟨kSp, ([0, 1] : List Int), kFo, ([true, false, true] : List Bool), false⟩ : Mach))))) ≠ 0) := by
   exact km_errD
  refine p_v (v := .string (wordW (runD (buildM (⟨kSp, ([0, 1] : List Int), kFo, ([true, false, true] : List Bool), false⟩ : Mach) (refineP (setsM (⟨kSp, ([0, 1] : List Int), kFo, ([true, false, true] : List Bool), false⟩ : Mach))))))) rfl (wanted_of (j := 6) (want := false) (d := 91) (b := false) rfl rfl (congrArg Value.bool (decide_eq_false hc151)) rfl) rfl (x_move rfl) ?_
  refine p_v (v := .bool (decide ((wordW (runD (buildM (⟨kSp, ([0, 1] : List Int), kFo, ([true, false, true] : List Bool), false⟩ : Mach) (refineP (setsM (⟨kSp, ([0, 1] : List Int), kFo, ([true, false, true] : List Bool), false⟩ : Mach)))))) ≠ (⟨#[97]⟩ : ByteArray)))) rfl (wanted_of (j := 6) (want := false) (d := 91) (b := false) rfl rfl (congrArg Value.bool (decide_eq_false hc151)) rfl) rfl (x_neq_string rfl rfl) ?_
  refine p_v (v := .bool (decide ((wordW (runD (buildM (⟨kSp, ([0, 1] : List Int), kFo, ([true, false, true] : List Bool), false⟩ : Mach) (refineP (setsM (⟨kSp, ([0, 1] : List Int), kFo, ([true, false, true] : List Bool), false⟩ : Mach)))))) ≠ (⟨#[97]⟩ : ByteArray)))) rfl rfl rfl (x_pick_f (congrArg Value.bool (decide_eq_false hc151)) rfl) ?_
  refine p_v (v := .bool (decide ((wordW (runD (buildM (⟨kSp, ([0, 1] : List Int), kFo, ([true, false, true] : List Bool), false⟩ : Mach) (refineP (setsM (⟨kSp, ([0, 1] : List Int), kFo, ([true, false, true] : List Bool), false⟩ : Mach)))))) ≠ (⟨#[97]⟩ : ByteArray)))) rfl rfl rfl (x_move rfl) ?_
  have hc152 : ¬ ((wordW (runD (buildM (⟨kSp, ([0, 1] : List Int), kFo, ([true, false, true] : List Bool), false⟩ : Mach) (refineP (setsM (⟨kSp, ([0, 1] : List Int), kFo, ([true, false, true] : List Bool), false⟩ : Mach)))))) ≠ (⟨#[97]⟩ : ByteArray)) := by
   exact km_1
  refine p_v (v := .bool (okW (runD (buildM (⟨kSp, ([0, 1] : List Int), kFo, ([true, false, true] : List Bool), false⟩ : Mach) (refineP (setsM (⟨kSp, ([0, 1] : List Int), kFo, ([true, false, true] : List Bool), false⟩ : Mach))))))) rfl (wanted_of (j := 10) (want := false) (d := 95) (b := false) rfl rfl (congrArg Value.bool (decide_eq_false hc152)) rfl) rfl (x_move rfl) ?_
  refine p_v (v := .bool (!(okW (runD (buildM (⟨kSp, ([0, 1] : List Int), kFo, ([true, false, true] : List Bool), false⟩ : Mach) (refineP (setsM (⟨kSp, ([0, 1] : List Int), kFo, ([true, false, true] : List Bool), false⟩ : Mach)))))))) rfl (wanted_of (j := 10) (want := false) (d := 95) (b := false) rfl rfl (congrArg Value.bool (decide_eq_false hc152)) rfl) rfl (x_not rfl) ?_
  refine p_v (v := .bool (!(okW (runD (buildM (⟨kSp, ([0, 1] : List Int), kFo, ([true, false, true] : List Bool), false⟩ : Mach) (refineP (setsM (⟨kSp, ([0, 1] : List Int), kFo, ([true, false, true] : List Bool), false⟩ : Mach)))))))) rfl rfl rfl (x_pick_f (congrArg Value.bool (decide_eq_false hc152)) rfl) ?_
  refine p_v (v := .bool (!(okW (runD (buildM (⟨kSp, ([0, 1] : List Int), kFo, ([true, false, true] : List Bool), false⟩ : Mach) (refineP (setsM (⟨kSp, ([0, 1] : List Int), kFo, ([true, false, true] : List Bool), false⟩ : Mach)))))))) rfl rfl rfl (x_move rfl) ?_
  have hc153 : (okW (runD (buildM (⟨kSp, ([0, 1] : List Int), kFo, ([true, false, true] : List Bool), false⟩ : Mach) (refineP (setsM (⟨kSp, ([0, 1] : List Int), kFo, ([true, false, true] : List Bool), false⟩ : Mach)))))) = true := by
   exact km_2
  refine p_v (v := .string (wordW (runD (notD (buildM (⟨kSp, ([0, 1] : List Int), kFo, ([true, false, true] : List Bool), false⟩ : Mach) (refineP (setsM (⟨kSp, ([0, 1] : List Int), kFo, ([true, false, true] : List Bool), false⟩ : Mach)))))))) rfl (wanted_of (j := 14) (want := false) (d := 99) (b := false) rfl rfl (congrArg (fun z => Value.bool (!z)) hc153) rfl) rfl (x_move rfl) ?_
  refine p_v (v := .bool (decide ((wordW (runD (notD (buildM (⟨kSp, ([0, 1] : List Int), kFo, ([true, false, true] : List Bool), false⟩ : Mach) (refineP (setsM (⟨kSp, ([0, 1] : List Int), kFo, ([true, false, true] : List Bool), false⟩ : Mach))))))) ≠ (⟨#[]⟩ : ByteArray)))) rfl (wanted_of (j := 14) (want := false) (d := 99) (b := false) rfl rfl (congrArg (fun z => Value.bool (!z)) hc153) rfl) rfl (x_neq_string rfl rfl) ?_
  refine p_v (v := .bool (decide ((wordW (runD (notD (buildM (⟨kSp, ([0, 1] : List Int), kFo, ([true, false, true] : List Bool), false⟩ : Mach) (refineP (setsM (⟨kSp, ([0, 1] : List Int), kFo, ([true, false, true] : List Bool), false⟩ : Mach))))))) ≠ (⟨#[]⟩ : ByteArray)))) rfl rfl rfl (x_pick_f (congrArg (fun z => Value.bool (!z)) hc153) rfl) ?_
  refine p_v (v := .bool (decide ((wordW (runD (notD (buildM (⟨kSp, ([0, 1] : List Int), kFo, ([true, false, true] : List Bool), false⟩ : Mach) (refineP (setsM (⟨kSp, ([0, 1] : List Int), kFo, ([true, false, true] : List Bool), false⟩ : Mach))))))) ≠ (⟨#[]⟩ : ByteArray)))) rfl rfl rfl (x_move rfl) ?_
  have hc154 : ¬ ((wordW (runD (notD (buildM (⟨kSp, ([0, 1] : List Int), kFo, ([true, false, true] : List Bool), false⟩ : Mach) (refineP (setsM (⟨kSp, ([0, 1] : List Int), kFo, ([true, false, true] : List Bool), false⟩ : Mach))))))) ≠ (⟨#[]⟩ : ByteArray)) := by
   exact km_3
  refine p_v (v := .bool (okW (runD (notD (buildM (⟨kSp, ([0, 1] : List Int), kFo, ([true, false, true] : List Bool), false⟩ : Mach) (refineP (setsM (⟨kSp, ([0, 1] : List Int), kFo, ([true, false, true] : List Bool), false⟩ : Mach)))))))) rfl (wanted_of (j := 18) (want := false) (d := 103) (b := false) rfl rfl (congrArg Value.bool (decide_eq_false hc154)) rfl) rfl (x_move rfl) ?_
  refine p_v (v := .bool (!(okW (runD (notD (buildM (⟨kSp, ([0, 1] : List Int), kFo, ([true, false, true] : List Bool), false⟩ : Mach) (refineP (setsM (⟨kSp, ([0, 1] : List Int), kFo, ([true, false, true] : List Bool), false⟩ : Mach))))))))) rfl (wanted_of (j := 18) (want := false) (d := 103) (b := false) rfl rfl (congrArg Value.bool (decide_eq_false hc154)) rfl) rfl (x_not rfl) ?_
  refine p_v (v := .bool (!(okW (runD (notD (buildM (⟨kSp, ([0, 1] : List Int), kFo, ([true, false, true] : List Bool), false⟩ : Mach) (refineP (setsM (⟨kSp, ([0, 1] : List Int), kFo, ([true, false, true] : List Bool), false⟩ : Mach))))))))) rfl rfl rfl (x_pick_f (congrArg Value.bool (decide_eq_false hc154)) rfl) ?_
  refine p_v (v := .bool (!(okW (runD (notD (buildM (⟨kSp, ([0, 1] : List Int), kFo, ([true, false, true] : List Bool), false⟩ : Mach) (refineP (setsM (⟨kSp, ([0, 1] : List Int), kFo, ([true, false, true] : List Bool), false⟩ : Mach))))))))) rfl rfl rfl (x_move rfl) ?_
  have hc155 : (okW (runD (notD (buildM (⟨kSp, ([0, 1] : List Int), kFo, ([true, false, true] : List Bool), false⟩ : Mach) (refineP (setsM (⟨kSp, ([0, 1] : List Int), kFo, ([true, false, true] : List Bool), false⟩ : Mach))))))) = true := by
   exact km_4
  refine p_v (v := .string (wordW (runM (⟨kSp, ([0, 1] : List Int), kFo, ([true, false, true] : List Bool), false⟩ : Mach)))) rfl (wanted_of (j := 22) (want := false) (d := 107) (b := false) rfl rfl (congrArg (fun z => Value.bool (!z)) hc155) rfl) rfl (x_move rfl) ?_
  refine p_v (v := .bool (decide ((wordW (runM (⟨kSp, ([0, 1] : List Int), kFo, ([true, false, true] : List Bool), false⟩ : Mach))) ≠ (⟨#[97]⟩ : ByteArray)))) rfl (wanted_of (j := 22) (want := false) (d := 107) (b := false) rfl rfl (congrArg (fun z => Value.bool (!z)) hc155) rfl) rfl (x_neq_string rfl rfl) ?_
  refine p_v (v := .bool (decide ((wordW (runM (⟨kSp, ([0, 1] : List Int), kFo, ([true, false, true] : List Bool), false⟩ : Mach))) ≠ (⟨#[97]⟩ : ByteArray)))) rfl rfl rfl (x_pick_f (congrArg (fun z => Value.bool (!z)) hc155) rfl) ?_
  refine p_v (v := .bool (decide ((wordW (runM (⟨kSp, ([0, 1] : List Int), kFo, ([true, false, true] : List Bool), false⟩ : Mach))) ≠ (⟨#[97]⟩ : ByteArray)))) rfl rfl rfl (x_move rfl) ?_
  have hc156 : ¬ ((wordW (runM (⟨kSp, ([0, 1] : List Int), kFo, ([true, false, true] : List Bool), false⟩ : Mach))) ≠ (⟨#[97]⟩ : ByteArray)) := by
   exact km_5
  refine p_v (v := .bool (okW (runM (⟨kSp, ([0, 1] : List Int), kFo, ([true, false, true] : List Bool), false⟩ : Mach)))) rfl (wanted_of (j := 26) (want := false) (d := 111) (b := false) rfl rfl (congrArg Value.bool (decide_eq_false hc156)) rfl) rfl (x_move rfl) ?_
  refine p_v (v := .bool (!(okW (runM (⟨kSp, ([0, 1] : List Int), kFo, ([true, false, true] : List Bool), false⟩ : Mach))))) rfl (wanted_of (j := 26) (want := false) (d := 111) (b := false) rfl rfl (congrArg Value.bool (decide_eq_false hc156)) rfl) rfl (x_not rfl) ?_
  refine p_v (v := .bool (!(okW (runM (⟨kSp, ([0, 1] : List Int), kFo, ([true, false, true] : List Bool), false⟩ : Mach))))) rfl rfl rfl (x_pick_f (congrArg Value.bool (decide_eq_false hc156)) rfl) ?_
  refine p_v (v := .bool (!(okW (runM (⟨kSp, ([0, 1] : List Int), kFo, ([true, false, true] : List Bool), false⟩ : Mach))))) rfl rfl rfl (x_move rfl) ?_
  have hc157 : (okW (runM (⟨kSp, ([0, 1] : List Int), kFo, ([true, false, true] : List Bool), false⟩ : Mach))) = true := by
   exact km_6
  refine p_v (v := .string (wordW (runM (⟨kSp, ([0, 1] : List Int), kFo, ([true, false, true] : List Bool).set ((0 : Int)).toNat false, false⟩ : Mach)))) rfl (wanted_of (j := 30) (want := false) (d := 115) (b := false) rfl rfl (congrArg (fun z => Value.bool (!z)) hc157) rfl) rfl (x_move rfl) ?_
  refine p_v (v := .bool (decide ((wordW (runM (⟨kSp, ([0, 1] : List Int), kFo, ([true, false, true] : List Bool).set ((0 : Int)).toNat false, false⟩ : Mach))) ≠ (⟨#[98, 99]⟩ : ByteArray)))) rfl (wanted_of (j := 30) (want := false) (d := 115) (b := false) rfl rfl (congrArg (fun z => Value.bool (!z)) hc157) rfl) rfl (x_neq_string rfl rfl) ?_
  refine p_v (v := .bool (decide ((wordW (runM (⟨kSp, ([0, 1] : List Int), kFo, ([true, false, true] : List Bool).set ((0 : Int)).toNat false, false⟩ : Mach))) ≠ (⟨#[98, 99]⟩ : ByteArray)))) rfl rfl rfl (x_pick_f (congrArg (fun z => Value.bool (!z)) hc157) rfl) ?_
  refine p_v (v := .bool (decide ((wordW (runM (⟨kSp, ([0, 1] : List Int), kFo, ([true, false, true] : List Bool).set ((0 : Int)).toNat false, false⟩ : Mach))) ≠ (⟨#[98, 99]⟩ : ByteArray)))) rfl rfl rfl (x_move rfl) ?_
  have hc158 : ¬ ((wordW (runM (⟨kSp, ([0, 1] : List Int), kFo, ([true, false, true] : List Bool).set ((0 : Int)).toNat false, false⟩ : Mach))) ≠ (⟨#[98, 99]⟩ : ByteArray)) := by
   exact km_7
  refine p_v (v := .bool (okW (runM (⟨kSp, ([0, 1] : List Int), kFo, ([true, false, true] : List Bool).set ((0 : Int)).toNat false, false⟩ : Mach)))) rfl (wanted_of (j := 34) (want := false) (d := 119) (b := false) rfl rfl (congrArg Value.bool (decide_eq_false hc158)) rfl) rfl (x_move rfl) ?_
  refine p_v (v := .bool (!(okW (runM (⟨kSp, ([0, 1] : List Int), kFo, ([true, false, true] : List Bool).set ((0 : Int)).toNat false, false⟩ : Mach))))) rfl (wanted_of (j := 34) (want := false) (d := 119) (b := false) rfl rfl (congrArg Value.bool (decide_eq_false hc158)) rfl) rfl (x_not rfl) ?_
  refine p_v (v := .bool (!(okW (runM (⟨kSp, ([0, 1] : List Int), kFo, ([true, false, true] : List Bool).set ((0 : Int)).toNat false, false⟩ : Mach))))) rfl rfl rfl (x_pick_f (congrArg Value.bool (decide_eq_false hc158)) rfl) ?_
  refine p_v (v := .bool (!(okW (runM (⟨kSp, ([0, 1] : List Int), kFo, ([true, false, true] : List Bool).set ((0 : Int)).toNat false, false⟩ : Mach))))) rfl rfl rfl (x_move rfl) ?_
  have hc159 : (okW (runM (⟨kSp, ([0, 1] : List Int), kFo, ([true, false, true] : List Bool).set ((0 : Int)).toNat false, false⟩ : Mach))) = true := by
   exact km_8
  refine p_v (v := .string (wordW (runM (⟨kSp, ([0, 1] : List Int), kFo, (([true, false, true] : List Bool).set ((0 : Int)).toNat false).set ((2 : Int)).toNat false, false⟩ : Mach)))) rfl (wanted_of (j := 38) (want := false) (d := 123) (b := false) rfl rfl (congrArg (fun z => Value.bool (!z)) hc159) rfl) rfl (x_move rfl) ?_
  refine p_v (v := .bool (decide ((wordW (runM (⟨kSp, ([0, 1] : List Int), kFo, (([true, false, true] : List Bool).set ((0 : Int)).toNat false).set ((2 : Int)).toNat false, false⟩ : Mach))) ≠ (⟨#[]⟩ : ByteArray)))) rfl (wanted_of (j := 38) (want := false) (d := 123) (b := false) rfl rfl (congrArg (fun z => Value.bool (!z)) hc159) rfl) rfl (x_neq_string rfl rfl) ?_
  refine p_v (v := .bool (decide ((wordW (runM (⟨kSp, ([0, 1] : List Int), kFo, (([true, false, true] : List Bool).set ((0 : Int)).toNat false).set ((2 : Int)).toNat false, false⟩ : Mach))) ≠ (⟨#[]⟩ : ByteArray)))) rfl rfl rfl (x_pick_f (congrArg (fun z => Value.bool (!z)) hc159) rfl) ?_
  refine p_v (v := .bool (decide ((wordW (runM (⟨kSp, ([0, 1] : List Int), kFo, (([true, false, true] : List Bool).set ((0 : Int)).toNat false).set ((2 : Int)).toNat false, false⟩ : Mach))) ≠ (⟨#[]⟩ : ByteArray)))) rfl rfl rfl (x_move rfl) ?_
  have hc160 : ¬ ((wordW (runM (⟨kSp, ([0, 1] : List Int), kFo, (([true, false, true] : List Bool).set ((0 : Int)).toNat false).set ((2 : Int)).toNat false, false⟩ : Mach))) ≠ (⟨#[]⟩ : ByteArray)) := by
   exact km_9
  refine p_v (v := .bool (okW (runM (⟨kSp, ([0, 1] : List Int), kFo, (([true, false, true] : List Bool).set ((0 : Int)).toNat false).set ((2 : Int)).toNat false, false⟩ : Mach)))) rfl (wanted_of (j := 42) (want := false) (d := 127) (b := false) rfl rfl (congrArg Value.bool (decide_eq_false hc160)) rfl) rfl (x_move rfl) ?_
  refine p_v (v := .bool (okW (runM (⟨kSp, ([0, 1] : List Int), kFo, (([true, false, true] : List Bool).set ((0 : Int)).toNat false).set ((2 : Int)).toNat false, false⟩ : Mach)))) rfl rfl rfl (x_pick_f (congrArg Value.bool (decide_eq_false hc160)) rfl) ?_
  refine p_v (v := .bool (okW (runM (⟨kSp, ([0, 1] : List Int), kFo, (([true, false, true] : List Bool).set ((0 : Int)).toNat false).set ((2 : Int)).toNat false, false⟩ : Mach)))) rfl rfl rfl (x_move rfl) ?_
  have hc161 : (okW (runM (⟨kSp, ([0, 1] : List Int), kFo, (([true, false, true] : List Bool).set ((0 : Int)).toNat false).set ((2 : Int)).toNat false, false⟩ : Mach))) = false := by
   exact km_10
  refine p_v (v := .bool (okW (runM (⟨([] : List Spot), ([] : List Int), ([] : List (List Int)), ([true] : List Bool), false⟩ : Mach)))) rfl (wanted_of (j := 45) (want := false) (d := 130) (b := false) rfl rfl (congrArg Value.bool hc161) rfl) rfl (x_move rfl) ?_
  refine p_v (v := .bool (okW (runM (⟨([] : List Spot), ([] : List Int), ([] : List (List Int)), ([true] : List Bool), false⟩ : Mach)))) rfl rfl rfl (x_pick_f (congrArg Value.bool hc161) rfl) ?_
  refine run_region_end ?_
  have hc162 : (okW (runM (⟨([] : List Spot), ([] : List Int), ([] : List (List Int)), ([true] : List Bool), false⟩ : Mach))) = false := by
   exact km_11
  refine run_cond (b := false) (congrArg Value.bool hc162) ?_
  simp only [if_true, if_false, Bool.false_eq_true]
  refine run_skip ?_
  refine run_seq ?_
  refine run_reg (l := [0, 1, 2, 3, 4, 5, 6, 7, 8, 9, 10, 11, 12, 13, 14, 15, 16, 17, 18, 19]) rfl ?_
  refine p_c rfl rfl rfl (y_call (args := [.string (⟨#[97, 98]⟩ : ByteArray), .string (⟨#[98]⟩ : ByteArray)]) ca56 rfl rfl) (less_calls w148 (⟨#[97, 98]⟩ : ByteArray) (by decide) (⟨#[98]⟩ : ByteArray) (by decide)) ?_
  rintro _ w163 ⟨h163, T163, rfl⟩
  have S164 := S149.keep (Chg.of_below T163.below)
  refine p_v (v := .bool (!(lessW (⟨#[97, 98]⟩ : ByteArray) (⟨#[98]⟩ : ByteArray)))) rfl rfl rfl (x_not rfl) ?_
  refine p_v (v := .bool (!(lessW (⟨#[97, 98]⟩ : ByteArray) (⟨#[98]⟩ : ByteArray)))) rfl rfl rfl (x_move rfl) ?_
  have hc165 : (lessW (⟨#[97, 98]⟩ : ByteArray) (⟨#[98]⟩ : ByteArray)) = false := by
   exact km_13
  refine p_c rfl (wanted_of (j := 2) (want := true) (d := 135) (b := true) rfl rfl (congrArg (fun z => Value.bool (!z)) hc165) rfl) rfl (y_call (args := [.string (⟨#[97, 98]⟩ : ByteArray), .string (⟨#[97, 99]⟩ : ByteArray)]) ca56 rfl rfl) (less_calls w163 (⟨#[97, 98]⟩ : ByteArray) (by decide) (⟨#[97, 99]⟩ : ByteArray) (by decide)) ?_
  rintro _ w166 ⟨h166, T166, rfl⟩
  have S167 := S164.keep (Chg.of_below T166.below)
  refine p_v (v := .bool (lessW (⟨#[97, 98]⟩ : ByteArray) (⟨#[97, 99]⟩ : ByteArray))) rfl rfl rfl (x_pick_t (congrArg (fun z => Value.bool (!z)) hc165) rfl) ?_
  refine p_v (v := .bool (lessW (⟨#[97, 98]⟩ : ByteArray) (⟨#[97, 99]⟩ : ByteArray))) rfl rfl rfl (x_move rfl) ?_
  have hc168 : (lessW (⟨#[97, 98]⟩ : ByteArray) (⟨#[97, 99]⟩ : ByteArray)) = true := by
   exact km_14
  refine p_c rfl (wanted_of (j := 5) (want := true) (d := 138) (b := true) rfl rfl (congrArg Value.bool hc168) rfl) rfl (y_call (args := [.string (⟨#[97]⟩ : ByteArray), .string (⟨#[97]⟩ : ByteArray)]) ca56 rfl rfl) (less_calls w166 (⟨#[97]⟩ : ByteArray) (by decide) (⟨#[97]⟩ : ByteArray) (by decide)) ?_
  rintro _ w169 ⟨h169, T169, rfl⟩
  have S170 := S167.keep (Chg.of_below T169.below)
  refine p_v (v := .bool (!(lessW (⟨#[97]⟩ : ByteArray) (⟨#[97]⟩ : ByteArray)))) rfl (wanted_of (j := 5) (want := true) (d := 138) (b := true) rfl rfl (congrArg Value.bool hc168) rfl) rfl (x_not rfl) ?_
  refine p_v (v := .bool (!(lessW (⟨#[97]⟩ : ByteArray) (⟨#[97]⟩ : ByteArray)))) rfl rfl rfl (x_pick_t (congrArg Value.bool hc168) rfl) ?_
  refine p_v (v := .bool (!(lessW (⟨#[97]⟩ : ByteArray) (⟨#[97]⟩ : ByteArray)))) rfl rfl rfl (x_move rfl) ?_
  have hc171 : (lessW (⟨#[97]⟩ : ByteArray) (⟨#[97]⟩ : ByteArray)) = false := by
   exact km_15
  refine p_c rfl (wanted_of (j := 9) (want := true) (d := 142) (b := true) rfl rfl (congrArg (fun z => Value.bool (!z)) hc171) rfl) rfl (y_call (args := [.string (⟨#[]⟩ : ByteArray), .string (⟨#[97]⟩ : ByteArray)]) ca56 rfl rfl) (less_calls w169 (⟨#[]⟩ : ByteArray) (by decide) (⟨#[97]⟩ : ByteArray) (by decide)) ?_
  rintro _ w172 ⟨h172, T172, rfl⟩
  have S173 := S170.keep (Chg.of_below T172.below)
  refine p_v (v := .bool (lessW (⟨#[]⟩ : ByteArray) (⟨#[97]⟩ : ByteArray))) rfl rfl rfl (x_pick_t (congrArg (fun z => Value.bool (!z)) hc171) rfl) ?_
  refine p_v (v := .bool (lessW (⟨#[]⟩ : ByteArray) (⟨#[97]⟩ : ByteArray))) rfl rfl rfl (x_move rfl) ?_
  have hc174 : (lessW (⟨#[]⟩ : ByteArray) (⟨#[97]⟩ : ByteArray)) = true := by
   exact km_16
  refine p_v (v := .agg ((encPart zPart) ++ ([.slice none 0 0, .slice none 0 0] : List Value)).toArray) rfl (wanted_of (j := 12) (want := true) (d := 145) (b := true) rfl rfl (congrArg Value.bool hc174) rfl) rfl (y_build (pv := []) rfl (run_build_struct pl35 ty35 rfl (cs := ((encPart zPart) ++ ([.slice none 0 0, .slice none 0 0] : List Value))) (by kernel_rfl))) ?_
  refine p_c rfl (wanted_of (j := 12) (want := true) (d := 145) (b := true) rfl rfl (congrArg Value.bool hc174) rfl) rfl (y_call (args := [.agg ((encPart zPart) ++ ([.slice none 0 0, .slice none 0 0] : List Value)).toArray]) ca59 rfl rfl) (emptyD_calls w172 (⟨zPart, ([] : List (List Int)), ([] : List Bool)⟩ : Dfa) (okPart_zero) none 0 (by simp [maxLen]) (leads_nil _ _) none 0 (by simp [maxLen]) (leads_nil _ _) (by first | assumption | omega | decide) (Block.st S173 tb)) ?_
  rintro _ w175 ⟨h175, T175, rfl⟩
  have S176 := S173.keep (Chg.of_below T175.below)
  refine p_v (v := .bool (!okW (runD (⟨zPart, ([] : List (List Int)), ([] : List Bool)⟩ : Dfa)))) rfl rfl rfl (x_pick_t (congrArg Value.bool hc174) rfl) ?_
  refine p_v (v := .bool (!okW (runD (⟨zPart, ([] : List (List Int)), ([] : List Bool)⟩ : Dfa)))) rfl rfl rfl (x_move rfl) ?_
  have hc177 : (!okW (runD (⟨zPart, ([] : List (List Int)), ([] : List Bool)⟩ : Dfa))) = true := by
   exact km_12
  refine p_c rfl (wanted_of (j := 16) (want := true) (d := 149) (b := true) rfl rfl (congrArg Value.bool hc177) rfl) rfl (y_call (args := []) ca55 rfl rfl) (awake13_calls w175  (Block.st S176 tb)) ?_
  rintro _ w178 ⟨h178, T178, rfl⟩
  have S179 := S176.keep (Chg.of_below T178.below)
  refine p_v (v := .bool true) rfl rfl rfl (x_pick_t (congrArg Value.bool hc177) rfl) ?_
  refine p_v (v := .bool true) rfl rfl rfl (x_assign rfl) ?_
  refine run_region_end ?_
  refine run_ret Tryd.func14 (res1 rfl (res_tmp (v := .bool true) rfl)) ?_
  have q0 : (true : Bool) = true := rfl
  refine ⟨_, rfl, h111, ?_, ?_⟩
  · exact S179.sub [] (by decide) rfl _ rfl
  · rfl
 ·skip
  refine ra_two (i := 2) (i2 := 8) (by decide +kernel) ?_ ?_
  ·skip
   intro wd181 gd181
   have S182 := S47.keep gd181
   have hf183 := spUp gd181 hf48
   have hf184 := spUp gd181 hf49
   obtain ⟨A185, c185, ev185, lc185, cm185⟩ := S182.row_val (j := 3) rfl
   obtain ⟨A186, c186, ev186, lc186, cm186⟩ := S182.row_val (j := 4) rfl
   obtain ⟨A187, c187, ev187, lc187, cm187⟩ := S182.row_val (j := 8) rfl
   obtain ⟨A188, c188, ev188, lc188, cm188⟩ := S182.row_val (j := 9) rfl
   refine d_c rfl rfl rfl (y_call (args := [.agg #[.slice A185 kSp.length c185, .slice A186 ([0, 1] : List Int).length c186, .slice A187 kFo.length c187, .slice A188 ([true, false, true] : List Bool).length c188, .bool false]]) ca63 rfl (cons_eq (Eq.trans (b := .agg #[v16, v18, v26, v34, .bool false]) rfl (by rw [ev185, ev186, ev187, ev188])) rfl)) (setsN_calls wd181 (⟨kSp, ([0, 1] : List Int), kFo, ([true, false, true] : List Bool), false⟩ : Mach) A185 c185 (And.intro lc185 cm185) (row_leads_eq S182 (j := 3) rfl ev185) A186 c186 (And.intro lc186 cm186) (row_leads_eq S182 (j := 4) rfl ev186) A187 c187 (And.intro lc187 cm187) (row_leads_eq S182 (j := 8) rfl ev187) A188 c188 (And.intro lc188 cm188) (row_leads_eq S182 (j := 9) rfl ev188) (by first | assumption | omega | decide)) ?_
   rintro v189_0 w189 ⟨h189, _, T189, rfl⟩
   obtain ⟨k189, lk189, ll189, U189⟩ := call_joins S182 T189
   have lc189_0 := (lf31_0).trans lk189
   have lc189_1 := (lf31_1).trans lk189
   have lc189_2 := (le31).trans lk189
   have S190 := U189
   dsimp only [lAa, lAn, lA0, lAs] at S190
   have hf191 := spUp (Chg.of_below T189.below) hf183
   have hf192 := spUp (Chg.of_below T189.below) hf184
   refine ⟨.inl (Chg.of_below T189.below), ?_⟩
   obtain ⟨h193, le193, T193, rp193⟩ := S190.freeze (i := 11) rfl
   have lf193_0 := (lc189_0).trans le193
   have lf193_1 := (lc189_1).trans le193
   have lf193_2 := (lc189_2).trans le193
   have lf193_3 := (lk189).trans le193
   have S194 := T193.fx 11 (emp) rfl
   dsimp only [lAa, lAn, lA0, lAs] at S194
   obtain ⟨A193, c193, e193, lc193, cm193, ld193⟩ := rp193
   injection e193 with e193 _; subst e193
   have cn193 := cm193; simp only [maxLen] at cn193
   obtain ⟨_, _, _, _, _, _, _, ok195_0⟩ := calls_some (refine_calls w189 (setsM (⟨kSp, ([0, 1] : List Int), kFo, ([true, false, true] : List Bool), false⟩ : Mach)) A193 c193 (And.intro lc193 cm193) (ld193.mono ((Le.refl _).trans S194.ghost)))
   have hf196 : (LeadsS kSet A193 (setsM (⟨kSp, ([0, 1] : List Int), kFo, ([true, false, true] : List Bool), false⟩ : Mach))).1 w189 := (ld193.mono ((Le.refl _).trans S194.ghost))
   refine raMo (hkC 3 hf196 (hkN (w := w189))) ?_
   refine d_m (i := 3) (v := .agg (encPart (refineP (setsM (⟨kSp, ([0, 1] : List Int), kFo, ([true, false, true] : List Bool), false⟩ : Mach)))).toArray) (fun wf => Leads kSet (hp wf) A193 (setsM (⟨kSp, ([0, 1] : List Int), kFo, ([true, false, true] : List Bool), false⟩ : Mach))) (fun _ ho => ho _ (List.mem_of_getElem? (i := 0) rfl) rfl) rfl (by decide +kernel) (by decide +kernel) (by decide +kernel) rfl rfl (fun wq => (y_call (args := [.slice A193 (setsM (⟨kSp, ([0, 1] : List Int), kFo, ([true, false, true] : List Bool), false⟩ : Mach)).length c193]) ca49 rfl rfl)) (fun wq hq => (refine_calls wq (setsM (⟨kSp, ([0, 1] : List Int), kFo, ([true, false, true] : List Bool), false⟩ : Mach)) A193 c193 (And.intro lc193 cm193) hq).mono fun e w2 he => by obtain ⟨_, rfl, _, T, rfl, _⟩ := he; exact ⟨rfl, Chg.of_below T.below⟩) (of_eq hf196 (of_no rfl)) ?_
   refine ra_two (i := 4) (i2 := 8) (by decide +kernel) ?_ ?_
   ·skip
    intro wd197 gd197
    have S198 := S194.keep gd197
    have hf199 := spUp gd197 hf196
    have hf200 := spUp gd197 hf191
    have hf201 := spUp gd197 hf192
    obtain ⟨A202, c202, ev202, lc202, cm202⟩ := S198.row_val (j := 3) rfl
    obtain ⟨A203, c203, ev203, lc203, cm203⟩ := S198.row_val (j := 4) rfl
    obtain ⟨A204, c204, ev204, lc204, cm204⟩ := S198.row_val (j := 8) rfl
    obtain ⟨A205, c205, ev205, lc205, cm205⟩ := S198.row_val (j := 9) rfl
    refine d_c rfl rfl rfl (y_call (args := [.agg #[.slice A202 kSp.length c202, .slice A203 ([0, 1] : List Int).length c203, .slice A204 kFo.length c204, .slice A205 ([true, false, true] : List Bool).length c205, .bool false], .agg (encPart (refineP (setsM (⟨kSp, ([0, 1] : List Int), kFo, ([true, false, true] : List Bool), false⟩ : Mach)))).toArray, .pointer none]) ca21 rfl (cons_eq (Eq.trans (b := .agg #[v16, v18, v26, v34, .bool false]) rfl (by rw [ev202, ev203, ev204, ev205])) (cons_eq rfl (cons_eq rfl rfl)))) (build_calls wd197 (⟨kSp, ([0, 1] : List Int), kFo, ([true, false, true] : List Bool), false⟩ : Mach) A202 c202 (And.intro lc202 cm202) (row_leads_eq S198 (j := 3) rfl ev202) A203 c203 (And.intro lc203 cm203) (row_leads_eq S198 (j := 4) rfl ev203) A204 c204 (And.intro lc204 cm204) (row_leads_eq S198 (j := 8) rfl ev204) A205 c205 (And.intro lc205 cm205) (row_leads_eq S198 (j := 9) rfl ev205) (refineP (setsM (⟨kSp, ([0, 1] : List Int), kFo, ([true, false, true] : List Bool), false⟩ : Mach))) ok195_0 () (by first | assumption | omega | decide) (Block.st S198 tb)) ?_
    rintro _ w206 ⟨h206, v206_0, v206_1, T206, rfl, ok206_0, in206_1⟩
    obtain ⟨k206, lk206, ll206, U206⟩ := call_joins S198 T206
    have lc206_0 := (lf193_0).trans lk206
    have lc206_1 := (lf193_1).trans lk206
    have lc206_2 := (lf193_2).trans lk206
    have lc206_3 := (lf193_3).trans lk206
    have lc206_4 := (le193).trans lk206
    have S207 := U206
    dsimp only [lAa, lAn, lA0, lAs] at S207
    have lo_in206_1 := i64_lo in206_1; have hi_in206_1 := i64_hi in206_1
    have hf208 := spUp (Chg.of_below T206.below) hf199
    have hf209 := spUp (Chg.of_below T206.below) hf200
    have hf210 := spUp (Chg.of_below T206.below) hf201
    refine ⟨.inl (Chg.of_below T206.below), ?_⟩
    obtain ⟨h211, le211, T211, rp211⟩ := S207.freeze (i := 12) rfl
    have lf211_0 := (lc206_0).trans le211
    have lf211_1 := (lc206_1).trans le211
    have lf211_2 := (lc206_2).trans le211
    have lf211_3 := (lc206_3).trans le211
    have lf211_4 := (lc206_4).trans le211
    have lf211_5 := (lk206).trans le211
    have S212 := T211.fx 12 (emp) rfl
    dsimp only [lAa, lAn, lA0, lAs] at S212
    obtain ⟨A211, c211, e211, lc211, cm211, ld211⟩ := rp211
    injection e211 with e211 _; subst e211
    have cn211 := cm211; simp only [maxLen] at cn211
    obtain ⟨h213, le213, T213, rp213⟩ := S212.freeze (i := 13) rfl
    have lf213_0 := (lf211_0).trans le213
    have lf213_1 := (lf211_1).trans le213
    have lf213_2 := (lf211_2).trans le213
    have lf213_3 := (lf211_3).trans le213
    have lf213_4 := (lf211_4).trans le213
    have lf213_5 := (lf211_5).trans le213
    have lf213_6 := (le211).trans le213
    have S214 := T213.fx 13 (emp) rfl
    dsimp only [lAa, lAn, lA0, lAs] at S214
    obtain ⟨A213, c213, e213, lc213, cm213, ld213⟩ := rp213
    injection e213 with e213 _; subst e213
    have cn213 := cm213; simp only [maxLen] at cn213
    refine qd0 (i := 5) (v := .tuple #[.agg ((encPart ((buildM (⟨kSp, ([0, 1] : List Int), kFo, ([true, false, true] : List Bool), false⟩ : Mach) (refineP (setsM (⟨kSp, ([0, 1] : List Int), kFo, ([true, false, true] : List Bool), false⟩ : Mach)))).part)) ++ ([.slice A211 ((buildM (⟨kSp, ([0, 1] : List Int), kFo, ([true, false, true] : List Bool), false⟩ : Mach) (refineP (setsM (⟨kSp, ([0, 1] : List Int), kFo, ([true, false, true] : List Bool), false⟩ : Mach)))).next).length c211, .slice A213 ((buildM (⟨kSp, ([0, 1] : List Int), kFo, ([true, false, true] : List Bool), false⟩ : Mach) (refineP (setsM (⟨kSp, ([0, 1] : List Int), kFo, ([true, false, true] : List Bool), false⟩ : Mach)))).final).length c213] : List Value)).toArray, .int .i64 (errB (⟨kSp, ([0, 1] : List Int), kFo, ([true, false, true] : List Bool), false⟩ : Mach) (refineP (setsM (⟨kSp, ([0, 1] : List Int), kFo, ([true, false, true] : List Bool), false⟩ : Mach))))]) rfl (by decide +kernel) rfl rfl (x_move rfl) (of_no rfl) ?_
    refine qd0 (i := 6) (v := .agg ((encPart ((buildM (⟨kSp, ([0, 1] : List Int), kFo, ([true, false, true] : List Bool), false⟩ : Mach) (refineP (setsM (⟨kSp, ([0, 1] : List Int), kFo, ([true, false, true] : List Bool), false⟩ : Mach)))).part)) ++ ([.slice A211 ((buildM (⟨kSp, ([0, 1] : List Int), kFo, ([true, false, true] : List Bool), false⟩ : Mach) (refineP (setsM (⟨kSp, ([0, 1] : List Int), kFo, ([true, false, true] : List Bool), false⟩ : Mach)))).next).length c211, .slice A213 ((buildM (⟨kSp, ([0, 1] : List Int), kFo, ([true, false, true] : List Bool), false⟩ : Mach) (refineP (setsM (⟨kSp, ([0, 1] : List Int), kFo, ([true, false, true] : List Bool), false⟩ : Mach)))).final).length c213] : List Value)).toArray) rfl (by decide +kernel) rfl rfl (x_extract (vs := [.agg ((encPart ((buildM (⟨kSp, ([0, 1] : List Int), kFo, ([true, false, true] : List Bool), false⟩ : Mach) (refineP (setsM (⟨kSp, ([0, 1] : List Int), kFo, ([true, false, true] : List Bool), false⟩ : Mach)))).part)) ++ ([.slice A211 ((buildM (⟨kSp, ([0, 1] : List Int), kFo, ([true, false, true] : List Bool), false⟩ : Mach) (refineP (setsM (⟨kSp, ([0, 1] : List Int), kFo, ([true, false, true] : List Bool), false⟩ : Mach)))).next).length c211, .slice A213 ((buildM (⟨kSp, ([0, 1] : List Int), kFo, ([true, false, true] : List Bool), false⟩ : Mach) (refineP (setsM (⟨kSp, ([0, 1] : List Int), kFo, ([true, false, true] : List Bool), false⟩ : Mach)))).final).length c213] : List Value)).toArray, .int .i64 (errB (⟨kSp, ([0, 1] : List Int), kFo, ([true, false, true] : List Bool), false⟩ : Mach) (refineP (setsM (⟨kSp, ([0, 1] : List Int), kFo, ([true, false, true] : List Bool), false⟩ : Mach))))]) rfl rfl) (of_no rfl) ?_
    refine qd0 (i := 7) (v := .int .i64 (errB (⟨kSp, ([0, 1] : List Int), kFo, ([true, false, true] : List Bool), false⟩ : Mach) (refineP (setsM (⟨kSp, ([0, 1] : List Int), kFo, ([true, false, true] : List Bool), false⟩ : Mach))))) rfl (by decide +kernel) rfl rfl (x_extract (vs := [.agg ((encPart ((buildM (⟨kSp, ([0, 1] : List Int), kFo, ([true, false, true] : List Bool), false⟩ : Mach) (refineP (setsM (⟨kSp, ([0, 1] : List Int), kFo, ([true, false, true] : List Bool), false⟩ : Mach)))).part)) ++ ([.slice A211 ((buildM (⟨kSp, ([0, 1] : List Int), kFo, ([true, false, true] : List Bool), false⟩ : Mach) (refineP (setsM (⟨kSp, ([0, 1] : List Int), kFo, ([true, false, true] : List Bool), false⟩ : Mach)))).next).length c211, .slice A213 ((buildM (⟨kSp, ([0, 1] : List Int), kFo, ([true, false, true] : List Bool), false⟩ : Mach) (refineP (setsM (⟨kSp, ([0, 1] : List Int), kFo, ([true, false, true] : List Bool), false⟩ : Mach)))).final).length c213] : List Value)).toArray, .int .i64 (errB (⟨kSp, ([0, 1] : List Int), kFo, ([true, false, true] : List Bool), false⟩ : Mach) (refineP (setsM (⟨kSp, ([0, 1] : List Int), kFo, ([true, false, true] : List Bool), false⟩ : Mach))))]) rfl rfl) (of_no rfl) ?_
    refine ra_one (i := 8) (by decide +kernel) ?_
    intro wd215 gd215
    have S216 := S214.keep gd215
    have hf217 := spUp gd215 hf208
    have hf218 := spUp gd215 hf209
    have hf219 := spUp gd215 hf210
    obtain ⟨b220, w220, r220, g220, T220⟩ := e_box (P := Tryd.prog) S216 35 (v := zv35) ((encPart zPart) ++ ([.slice none 0 0, .slice none 0 0] : List Value)) (by kernel_rfl)
    have S221 := T220
    dsimp only [lAa, lAn, lA0, lAs] at S221
    have hf222 := spUp g220 hf217
    have hf223 := spUp g220 hf218
    have hf224 := spUp g220 hf219
    refine d_v (v := .pointer (some ⟨b220, 0, none⟩)) rfl rfl rfl (x_alloc ty35 r220) (.inl g220) ?_
    refine ra_one (i := 9) (by decide +kernel) ?_
    intro wd225 gd225
    have S226 := S221.keep gd225
    have hf227 := spUp gd225 hf222
    have hf228 := spUp gd225 hf223
    have hf229 := spUp gd225 hf224
    obtain ⟨w230, r230, g230, T230⟩ := e_store_all (P := Tryd.prog) (v := .agg ((encPart ((buildM (⟨kSp, ([0, 1] : List Int), kFo, ([true, false, true] : List Bool), false⟩ : Mach) (refineP (setsM (⟨kSp, ([0, 1] : List Int), kFo, ([true, false, true] : List Bool), false⟩ : Mach)))).part)) ++ ([.slice A211 ((buildM (⟨kSp, ([0, 1] : List Int), kFo, ([true, false, true] : List Bool), false⟩ : Mach) (refineP (setsM (⟨kSp, ([0, 1] : List Int), kFo, ([true, false, true] : List Bool), false⟩ : Mach)))).next).length c211, .slice A213 ((buildM (⟨kSp, ([0, 1] : List Int), kFo, ([true, false, true] : List Bool), false⟩ : Mach) (refineP (setsM (⟨kSp, ([0, 1] : List Int), kFo, ([true, false, true] : List Bool), false⟩ : Mach)))).final).length c213] : List Value)).toArray) (vs := ((encPart ((buildM (⟨kSp, ([0, 1] : List Int), kFo, ([true, false, true] : List Bool), false⟩ : Mach) (refineP (setsM (⟨kSp, ([0, 1] : List Int), kFo, ([true, false, true] : List Bool), false⟩ : Mach)))).part)) ++ ([.slice A211 ((buildM (⟨kSp, ([0, 1] : List Int), kFo, ([true, false, true] : List Bool), false⟩ : Mach) (refineP (setsM (⟨kSp, ([0, 1] : List Int), kFo, ([true, false, true] : List Bool), false⟩ : Mach)))).next).length c211, .slice A213 ((buildM (⟨kSp, ([0, 1] : List Int), kFo, ([true, false, true] : List Bool), false⟩ : Mach) (refineP (setsM (⟨kSp, ([0, 1] : List Int), kFo, ([true, false, true] : List Bool), false⟩ : Mach)))).final).length c213] : List Value))) (cs := ((encPart zPart) ++ ([.slice none 0 0, .slice none 0 0] : List Value))) S226 ty35 rfl (len_app (encPart_len ok206_0) rfl) (len_app (encPart_len (okPart_zero)) rfl) (j := 14) rfl (one_app (encPart_one _) (by simp [Value.oneCell']))
    have S231 := T230.fx 14 (box b220 35 ((encPart ((buildM (⟨kSp, ([0, 1] : List Int), kFo, ([true, false, true] : List Bool), false⟩ : Mach) (refineP (setsM (⟨kSp, ([0, 1] : List Int), kFo, ([true, false, true] : List Bool), false⟩ : Mach)))).part)) ++ ([.slice A211 ((buildM (⟨kSp, ([0, 1] : List Int), kFo, ([true, false, true] : List Bool), false⟩ : Mach) (refineP (setsM (⟨kSp, ([0, 1] : List Int), kFo, ([true, false, true] : List Bool), false⟩ : Mach)))).next).length c211, .slice A213 ((buildM (⟨kSp, ([0, 1] : List Int), kFo, ([true, false, true] : List Bool), false⟩ : Mach) (refineP (setsM (⟨kSp, ([0, 1] : List Int), kFo, ([true, false, true] : List Bool), false⟩ : Mach)))).final).length c213] : List Value))) rfl
    dsimp only [lAa, lAn, lA0, lAs] at S231
    have hf232 : (LeadsS kSet A193 (setsM (⟨kSp, ([0, 1] : List Int), kFo, ([true, false, true] : List Bool), false⟩ : Mach))).1 w230 := (ld193.mono ((Le.refl _).trans (lf213_5.trans S231.ghost)))
    have hf233 : (CFs ⟨b36, 0, none⟩ [v16, v18, v26, v34, .bool false]).1 w230 := (CF.box (m := 5) (S231.box_at (j := 10) rfl) rfl)
    have hf234 : (CFs ⟨b36, 0, none⟩ [v16, v18, v26, v34, .bool false]).1 w230 := (CF.box (m := 5) (S231.box_at (j := 10) rfl) rfl)
    refine d_s rfl rfl (x_store rfl rfl r230) (.inr (keep_w (by decide +kernel) (keep_w (by decide +kernel) (keep_w (by decide +kernel) trivial)))) ?_
    refine qd0 (i := 10) (v := .int .i64 (errB (⟨kSp, ([0, 1] : List Int), kFo, ([true, false, true] : List Bool), false⟩ : Mach) (refineP (setsM (⟨kSp, ([0, 1] : List Int), kFo, ([true, false, true] : List Bool), false⟩ : Mach))))) rfl (by decide +kernel) rfl rfl (x_assign rfl) (of_no rfl) ?_
    refine ra_done (by decide +kernel) ?_
    intro wd235 gd235
    have S236 := S231.keep gd235
    exact jn106 _ _ ⟨h213, b220, A211, c211, A213, c213, lf213_3, S236.sub [3, 4, 8, 9, 10, 14] (by decide) rfl _ rfl, rfl, rfl, rfl, in206_1, ok206_0, (And.intro lc211 cm211), (ld211.mono le213), (And.intro lc213 cm213), ld213⟩
   ·skip
    intro wd237 gd237
    have S238 := S194.keep gd237
    have hf239 := spUp gd237 hf196
    have hf240 := spUp gd237 hf191
    have hf241 := spUp gd237 hf192
    obtain ⟨b242, w242, r242, g242, T242⟩ := e_box (P := Tryd.prog) S238 35 (v := zv35) ((encPart zPart) ++ ([.slice none 0 0, .slice none 0 0] : List Value)) (by kernel_rfl)
    have S243 := T242
    dsimp only [lAa, lAn, lA0, lAs] at S243
    have hf244 := spUp g242 hf239
    have hf245 := spUp g242 hf240
    have hf246 := spUp g242 hf241
    refine d_v (v := .pointer (some ⟨b242, 0, none⟩)) rfl rfl rfl (x_alloc ty35 r242) (.inl g242) ?_
    refine ra_one (i := 4) (by decide +kernel) ?_
    intro wd247 gd247
    have S248 := S243.keep gd247
    have hf249 := spUp gd247 hf244
    have hf250 := spUp gd247 hf245
    have hf251 := spUp gd247 hf246
    obtain ⟨A252, c252, ev252, lc252, cm252⟩ := S248.row_val (j := 3) rfl
    obtain ⟨A253, c253, ev253, lc253, cm253⟩ := S248.row_val (j := 4) rfl
    obtain ⟨A254, c254, ev254, lc254, cm254⟩ := S248.row_val (j := 8) rfl
    obtain ⟨A255, c255, ev255, lc255, cm255⟩ := S248.row_val (j := 9) rfl
    refine d_c rfl rfl rfl (y_call (args := [.agg #[.slice A252 kSp.length c252, .slice A253 ([0, 1] : List Int).length c253, .slice A254 kFo.length c254, .slice A255 ([true, false, true] : List Bool).length c255, .bool false], .agg (encPart (refineP (setsM (⟨kSp, ([0, 1] : List Int), kFo, ([true, false, true] : List Bool), false⟩ : Mach)))).toArray, .pointer none]) ca21 rfl (cons_eq (Eq.trans (b := .agg #[v16, v18, v26, v34, .bool false]) rfl (by rw [ev252, ev253, ev254, ev255])) (cons_eq rfl (cons_eq rfl rfl)))) (build_calls wd247 (⟨kSp, ([0, 1] : List Int), kFo, ([true, false, true] : List Bool), false⟩ : Mach) A252 c252 (And.intro lc252 cm252) (row_leads_eq S248 (j := 3) rfl ev252) A253 c253 (And.intro lc253 cm253) (row_leads_eq S248 (j := 4) rfl ev253) A254 c254 (And.intro lc254 cm254) (row_leads_eq S248 (j := 8) rfl ev254) A255 c255 (And.intro lc255 cm255) (row_leads_eq S248 (j := 9) rfl ev255) (refineP (setsM (⟨kSp, ([0, 1] : List Int), kFo, ([true, false, true] : List Bool), false⟩ : Mach))) ok195_0 () (by first | assumption | omega | decide) (Block.st S248 tb)) ?_
    rintro _ w256 ⟨h256, v256_0, v256_1, T256, rfl, ok256_0, in256_1⟩
    obtain ⟨k256, lk256, ll256, U256⟩ := call_joins S248 T256
    have lc256_0 := (lf193_0).trans lk256
    have lc256_1 := (lf193_1).trans lk256
    have lc256_2 := (lf193_2).trans lk256
    have lc256_3 := (lf193_3).trans lk256
    have lc256_4 := (le193).trans lk256
    have S257 := U256
    dsimp only [lAa, lAn, lA0, lAs] at S257
    have lo_in256_1 := i64_lo in256_1; have hi_in256_1 := i64_hi in256_1
    have hf258 := spUp (Chg.of_below T256.below) hf249
    have hf259 := spUp (Chg.of_below T256.below) hf250
    have hf260 := spUp (Chg.of_below T256.below) hf251
    refine ⟨.inl (Chg.of_below T256.below), ?_⟩
    obtain ⟨h261, le261, T261, rp261⟩ := S257.freeze (i := 13) rfl
    have lf261_0 := (lc256_0).trans le261
    have lf261_1 := (lc256_1).trans le261
    have lf261_2 := (lc256_2).trans le261
    have lf261_3 := (lc256_3).trans le261
    have lf261_4 := (lc256_4).trans le261
    have lf261_5 := (lk256).trans le261
    have S262 := T261.fx 13 (emp) rfl
    dsimp only [lAa, lAn, lA0, lAs] at S262
    obtain ⟨A261, c261, e261, lc261, cm261, ld261⟩ := rp261
    injection e261 with e261 _; subst e261
    have cn261 := cm261; simp only [maxLen] at cn261
    obtain ⟨h263, le263, T263, rp263⟩ := S262.freeze (i := 14) rfl
    have lf263_0 := (lf261_0).trans le263
    have lf263_1 := (lf261_1).trans le263
    have lf263_2 := (lf261_2).trans le263
    have lf263_3 := (lf261_3).trans le263
    have lf263_4 := (lf261_4).trans le263
    have lf263_5 := (lf261_5).trans le263
    have lf263_6 := (le261).trans le263
    have S264 := T263.fx 14 (emp) rfl
    dsimp only [lAa, lAn, lA0, lAs] at S264
    obtain ⟨A263, c263, e263, lc263, cm263, ld263⟩ := rp263
    injection e263 with e263 _; subst e263
    have cn263 := cm263; simp only [maxLen] at cn263
    refine qd0 (i := 5) (v := .tuple #[.agg ((encPart ((buildM (⟨kSp, ([0, 1] : List Int), kFo, ([true, false, true] : List Bool), false⟩ : Mach) (refineP (setsM (⟨kSp, ([0, 1] : List Int), kFo, ([true, false, true] : List Bool), false⟩ : Mach)))).part)) ++ ([.slice A261 ((buildM (⟨kSp, ([0, 1] : List Int), kFo, ([true, false, true] : List Bool), false⟩ : Mach) (refineP (setsM (⟨kSp, ([0, 1] : List Int), kFo, ([true, false, true] : List Bool), false⟩ : Mach)))).next).length c261, .slice A263 ((buildM (⟨kSp, ([0, 1] : List Int), kFo, ([true, false, true] : List Bool), false⟩ : Mach) (refineP (setsM (⟨kSp, ([0, 1] : List Int), kFo, ([true, false, true] : List Bool), false⟩ : Mach)))).final).length c263] : List Value)).toArray, .int .i64 (errB (⟨kSp, ([0, 1] : List Int), kFo, ([true, false, true] : List Bool), false⟩ : Mach) (refineP (setsM (⟨kSp, ([0, 1] : List Int), kFo, ([true, false, true] : List Bool), false⟩ : Mach))))]) rfl (by decide +kernel) rfl rfl (x_move rfl) (of_no rfl) ?_
    refine qd0 (i := 6) (v := .agg ((encPart ((buildM (⟨kSp, ([0, 1] : List Int), kFo, ([true, false, true] : List Bool), false⟩ : Mach) (refineP (setsM (⟨kSp, ([0, 1] : List Int), kFo, ([true, false, true] : List Bool), false⟩ : Mach)))).part)) ++ ([.slice A261 ((buildM (⟨kSp, ([0, 1] : List Int), kFo, ([true, false, true] : List Bool), false⟩ : Mach) (refineP (setsM (⟨kSp, ([0, 1] : List Int), kFo, ([true, false, true] : List Bool), false⟩ : Mach)))).next).length c261, .slice A263 ((buildM (⟨kSp, ([0, 1] : List Int), kFo, ([true, false, true] : List Bool), false⟩ : Mach) (refineP (setsM (⟨kSp, ([0, 1] : List Int), kFo, ([true, false, true] : List Bool), false⟩ : Mach)))).final).length c263] : List Value)).toArray) rfl (by decide +kernel) rfl rfl (x_extract (vs := [.agg ((encPart ((buildM (⟨kSp, ([0, 1] : List Int), kFo, ([true, false, true] : List Bool), false⟩ : Mach) (refineP (setsM (⟨kSp, ([0, 1] : List Int), kFo, ([true, false, true] : List Bool), false⟩ : Mach)))).part)) ++ ([.slice A261 ((buildM (⟨kSp, ([0, 1] : List Int), kFo, ([true, false, true] : List Bool), false⟩ : Mach) (refineP (setsM (⟨kSp, ([0, 1] : List Int), kFo, ([true, false, true] : List Bool), false⟩ : Mach)))).next).length c261, .slice A263 ((buildM (⟨kSp, ([0, 1] : List Int), kFo, ([true, false, true] : List Bool), false⟩ : Mach) (refineP (setsM (⟨kSp, ([0, 1] : List Int), kFo, ([true, false, true] : List Bool), false⟩ : Mach)))).final).length c263] : List Value)).toArray, .int .i64 (errB (⟨kSp, ([0, 1] : List Int), kFo, ([true, false, true] : List Bool), false⟩ : Mach) (refineP (setsM (⟨kSp, ([0, 1] : List Int), kFo, ([true, false, true] : List Bool), false⟩ : Mach))))]) rfl rfl) (of_no rfl) ?_
    refine qd0 (i := 7) (v := .int .i64 (errB (⟨kSp, ([0, 1] : List Int), kFo, ([true, false, true] : List Bool), false⟩ : Mach) (refineP (setsM (⟨kSp, ([0, 1] : List Int), kFo, ([true, false, true] : List Bool), false⟩ : Mach))))) rfl (by decide +kernel) rfl rfl (x_extract (vs := [.agg ((encPart ((buildM (⟨kSp, ([0, 1] : List Int), kFo, ([true, false, true] : List Bool), false⟩ : Mach) (refineP (setsM (⟨kSp, ([0, 1] : List Int), kFo, ([true, false, true] : List Bool), false⟩ : Mach)))).part)) ++ ([.slice A261 ((buildM (⟨kSp, ([0, 1] : List Int), kFo, ([true, false, true] : List Bool), false⟩ : Mach) (refineP (setsM (⟨kSp, ([0, 1] : List Int), kFo, ([true, false, true] : List Bool), false⟩ : Mach)))).next).length c261, .slice A263 ((buildM (⟨kSp, ([0, 1] : List Int), kFo, ([true, false, true] : List Bool), false⟩ : Mach) (refineP (setsM (⟨kSp, ([0, 1] : List Int), kFo, ([true, false, true] : List Bool), false⟩ : Mach)))).final).length c263] : List Value)).toArray, .int .i64 (errB (⟨kSp, ([0, 1] : List Int), kFo, ([true, false, true] : List Bool), false⟩ : Mach) (refineP (setsM (⟨kSp, ([0, 1] : List Int), kFo, ([true, false, true] : List Bool), false⟩ : Mach))))]) rfl rfl) (of_no rfl) ?_
    refine ra_one (i := 9) (by decide +kernel) ?_
    intro wd265 gd265
    have S266 := S264.keep gd265
    have hf267 := spUp gd265 hf258
    have hf268 := spUp gd265 hf259
    have hf269 := spUp gd265 hf260
    obtain ⟨w270, r270, g270, T270⟩ := e_store_all (P := Tryd.prog) (v := .agg ((encPart ((buildM (⟨kSp, ([0, 1] : List Int), kFo, ([true, false, true] : List Bool), false⟩ : Mach) (refineP (setsM (⟨kSp, ([0, 1] : List Int), kFo, ([true, false, true] : List Bool), false⟩ : Mach)))).part)) ++ ([.slice A261 ((buildM (⟨kSp, ([0, 1] : List Int), kFo, ([true, false, true] : List Bool), false⟩ : Mach) (refineP (setsM (⟨kSp, ([0, 1] : List Int), kFo, ([true, false, true] : List Bool), false⟩ : Mach)))).next).length c261, .slice A263 ((buildM (⟨kSp, ([0, 1] : List Int), kFo, ([true, false, true] : List Bool), false⟩ : Mach) (refineP (setsM (⟨kSp, ([0, 1] : List Int), kFo, ([true, false, true] : List Bool), false⟩ : Mach)))).final).length c263] : List Value)).toArray) (vs := ((encPart ((buildM (⟨kSp, ([0, 1] : List Int), kFo, ([true, false, true] : List Bool), false⟩ : Mach) (refineP (setsM (⟨kSp, ([0, 1] : List Int), kFo, ([true, false, true] : List Bool), false⟩ : Mach)))).part)) ++ ([.slice A261 ((buildM (⟨kSp, ([0, 1] : List Int), kFo, ([true, false, true] : List Bool), false⟩ : Mach) (refineP (setsM (⟨kSp, ([0, 1] : List Int), kFo, ([true, false, true] : List Bool), false⟩ : Mach)))).next).length c261, .slice A263 ((buildM (⟨kSp, ([0, 1] : List Int), kFo, ([true, false, true] : List Bool), false⟩ : Mach) (refineP (setsM (⟨kSp, ([0, 1] : List Int), kFo, ([true, false, true] : List Bool), false⟩ : Mach)))).final).length c263] : List Value))) (cs := ((encPart zPart) ++ ([.slice none 0 0, .slice none 0 0] : List Value))) S266 ty35 rfl (len_app (encPart_len ok256_0) rfl) (len_app (encPart_len (okPart_zero)) rfl) (j := 12) rfl (one_app (encPart_one _) (by simp [Value.oneCell']))
    have S271 := T270.fx 12 (box b242 35 ((encPart ((buildM (⟨kSp, ([0, 1] : List Int), kFo, ([true, false, true] : List Bool), false⟩ : Mach) (refineP (setsM (⟨kSp, ([0, 1] : List Int), kFo, ([true, false, true] : List Bool), false⟩ : Mach)))).part)) ++ ([.slice A261 ((buildM (⟨kSp, ([0, 1] : List Int), kFo, ([true, false, true] : List Bool), false⟩ : Mach) (refineP (setsM (⟨kSp, ([0, 1] : List Int), kFo, ([true, false, true] : List Bool), false⟩ : Mach)))).next).length c261, .slice A263 ((buildM (⟨kSp, ([0, 1] : List Int), kFo, ([true, false, true] : List Bool), false⟩ : Mach) (refineP (setsM (⟨kSp, ([0, 1] : List Int), kFo, ([true, false, true] : List Bool), false⟩ : Mach)))).final).length c263] : List Value))) rfl
    dsimp only [lAa, lAn, lA0, lAs] at S271
    have hf272 : (LeadsS kSet A193 (setsM (⟨kSp, ([0, 1] : List Int), kFo, ([true, false, true] : List Bool), false⟩ : Mach))).1 w270 := (ld193.mono ((Le.refl _).trans (lf263_5.trans S271.ghost)))
    have hf273 : (CFs ⟨b36, 0, none⟩ [v16, v18, v26, v34, .bool false]).1 w270 := (CF.box (m := 5) (S271.box_at (j := 10) rfl) rfl)
    have hf274 : (CFs ⟨b36, 0, none⟩ [v16, v18, v26, v34, .bool false]).1 w270 := (CF.box (m := 5) (S271.box_at (j := 10) rfl) rfl)
    refine d_s rfl rfl (x_store rfl rfl r270) (.inr (keep_w (by decide +kernel) (keep_w (by decide +kernel) (keep_w (by decide +kernel) trivial)))) ?_
    refine qd0 (i := 10) (v := .int .i64 (errB (⟨kSp, ([0, 1] : List Int), kFo, ([true, false, true] : List Bool), false⟩ : Mach) (refineP (setsM (⟨kSp, ([0, 1] : List Int), kFo, ([true, false, true] : List Bool), false⟩ : Mach))))) rfl (by decide +kernel) rfl rfl (x_assign rfl) (of_no rfl) ?_
    refine ra_done (by decide +kernel) ?_
    intro wd275 gd275
    have S276 := S271.keep gd275
    exact jn106 _ _ ⟨h263, b242, A261, c261, A263, c263, lf263_3, S276.sub [3, 4, 8, 9, 10, 12] (by decide) rfl _ rfl, rfl, rfl, rfl, in256_1, ok256_0, (And.intro lc261 cm261), (ld261.mono le263), (And.intro lc263 cm263), ld263⟩
  ·skip
   intro wd277 gd277
   have S278 := S47.keep gd277
   have hf279 := spUp gd277 hf48
   have hf280 := spUp gd277 hf49
   obtain ⟨b281, w281, r281, g281, T281⟩ := e_box (P := Tryd.prog) S278 35 (v := zv35) ((encPart zPart) ++ ([.slice none 0 0, .slice none 0 0] : List Value)) (by kernel_rfl)
   have S282 := T281
   dsimp only [lAa, lAn, lA0, lAs] at S282
   have hf283 := spUp g281 hf279
   have hf284 := spUp g281 hf280
   refine d_v (v := .pointer (some ⟨b281, 0, none⟩)) rfl rfl rfl (x_alloc ty35 r281) (.inl g281) ?_
   refine ra_one (i := 2) (by decide +kernel) ?_
   intro wd285 gd285
   have S286 := S282.keep gd285
   have hf287 := spUp gd285 hf283
   have hf288 := spUp gd285 hf284
   obtain ⟨A289, c289, ev289, lc289, cm289⟩ := S286.row_val (j := 3) rfl
   obtain ⟨A290, c290, ev290, lc290, cm290⟩ := S286.row_val (j := 4) rfl
   obtain ⟨A291, c291, ev291, lc291, cm291⟩ := S286.row_val (j := 8) rfl
   obtain ⟨A292, c292, ev292, lc292, cm292⟩ := S286.row_val (j := 9) rfl
   refine d_c rfl rfl rfl (y_call (args := [.agg #[.slice A289 kSp.length c289, .slice A290 ([0, 1] : List Int).length c290, .slice A291 kFo.length c291, .slice A292 ([true, false, true] : List Bool).length c292, .bool false]]) ca63 rfl (cons_eq (Eq.trans (b := .agg #[v16, v18, v26, v34, .bool false]) rfl (by rw [ev289, ev290, ev291, ev292])) rfl)) (setsN_calls wd285 (⟨kSp, ([0, 1] : List Int), kFo, ([true, false, true] : List Bool), false⟩ : Mach) A289 c289 (And.intro lc289 cm289) (row_leads_eq S286 (j := 3) rfl ev289) A290 c290 (And.intro lc290 cm290) (row_leads_eq S286 (j := 4) rfl ev290) A291 c291 (And.intro lc291 cm291) (row_leads_eq S286 (j := 8) rfl ev291) A292 c292 (And.intro lc292 cm292) (row_leads_eq S286 (j := 9) rfl ev292) (by first | assumption | omega | decide)) ?_
   rintro v293_0 w293 ⟨h293, _, T293, rfl⟩
   obtain ⟨k293, lk293, ll293, U293⟩ := call_joins S286 T293
   have lc293_0 := (lf31_0).trans lk293
   have lc293_1 := (lf31_1).trans lk293
   have lc293_2 := (le31).trans lk293
   have S294 := U293
   dsimp only [lAa, lAn, lA0, lAs] at S294
   have hf295 := spUp (Chg.of_below T293.below) hf287
   have hf296 := spUp (Chg.of_below T293.below) hf288
   refine ⟨.inl (Chg.of_below T293.below), ?_⟩
   obtain ⟨h297, le297, T297, rp297⟩ := S294.freeze (i := 12) rfl
   have lf297_0 := (lc293_0).trans le297
   have lf297_1 := (lc293_1).trans le297
   have lf297_2 := (lc293_2).trans le297
   have lf297_3 := (lk293).trans le297
   have S298 := T297.fx 12 (emp) rfl
   dsimp only [lAa, lAn, lA0, lAs] at S298
   obtain ⟨A297, c297, e297, lc297, cm297, ld297⟩ := rp297
   injection e297 with e297 _; subst e297
   have cn297 := cm297; simp only [maxLen] at cn297
   obtain ⟨_, _, _, _, _, _, _, ok299_0⟩ := calls_some (refine_calls w293 (setsM (⟨kSp, ([0, 1] : List Int), kFo, ([true, false, true] : List Bool), false⟩ : Mach)) A297 c297 (And.intro lc297 cm297) (ld297.mono ((Le.refl _).trans S298.ghost)))
   have hf300 : (LeadsS kSet A297 (setsM (⟨kSp, ([0, 1] : List Int), kFo, ([true, false, true] : List Bool), false⟩ : Mach))).1 w293 := (ld297.mono ((Le.refl _).trans S298.ghost))
   refine raMo (hkC 3 hf300 (hkN (w := w293))) ?_
   refine d_m (i := 3) (v := .agg (encPart (refineP (setsM (⟨kSp, ([0, 1] : List Int), kFo, ([true, false, true] : List Bool), false⟩ : Mach)))).toArray) (fun wf => Leads kSet (hp wf) A297 (setsM (⟨kSp, ([0, 1] : List Int), kFo, ([true, false, true] : List Bool), false⟩ : Mach))) (fun _ ho => ho _ (List.mem_of_getElem? (i := 0) rfl) rfl) rfl (by decide +kernel) (by decide +kernel) (by decide +kernel) rfl rfl (fun wq => (y_call (args := [.slice A297 (setsM (⟨kSp, ([0, 1] : List Int), kFo, ([true, false, true] : List Bool), false⟩ : Mach)).length c297]) ca49 rfl rfl)) (fun wq hq => (refine_calls wq (setsM (⟨kSp, ([0, 1] : List Int), kFo, ([true, false, true] : List Bool), false⟩ : Mach)) A297 c297 (And.intro lc297 cm297) hq).mono fun e w2 he => by obtain ⟨_, rfl, _, T, rfl, _⟩ := he; exact ⟨rfl, Chg.of_below T.below⟩) (of_eq hf300 (of_no rfl)) ?_
   refine ra_one (i := 4) (by decide +kernel) ?_
   intro wd301 gd301
   have S302 := S298.keep gd301
   have hf303 := spUp gd301 hf300
   have hf304 := spUp gd301 hf295
   have hf305 := spUp gd301 hf296
   obtain ⟨A306, c306, ev306, lc306, cm306⟩ := S302.row_val (j := 3) rfl
   obtain ⟨A307, c307, ev307, lc307, cm307⟩ := S302.row_val (j := 4) rfl
   obtain ⟨A308, c308, ev308, lc308, cm308⟩ := S302.row_val (j := 8) rfl
   obtain ⟨A309, c309, ev309, lc309, cm309⟩ := S302.row_val (j := 9) rfl
   refine d_c rfl rfl rfl (y_call (args := [.agg #[.slice A306 kSp.length c306, .slice A307 ([0, 1] : List Int).length c307, .slice A308 kFo.length c308, .slice A309 ([true, false, true] : List Bool).length c309, .bool false], .agg (encPart (refineP (setsM (⟨kSp, ([0, 1] : List Int), kFo, ([true, false, true] : List Bool), false⟩ : Mach)))).toArray, .pointer none]) ca21 rfl (cons_eq (Eq.trans (b := .agg #[v16, v18, v26, v34, .bool false]) rfl (by rw [ev306, ev307, ev308, ev309])) (cons_eq rfl (cons_eq rfl rfl)))) (build_calls wd301 (⟨kSp, ([0, 1] : List Int), kFo, ([true, false, true] : List Bool), false⟩ : Mach) A306 c306 (And.intro lc306 cm306) (row_leads_eq S302 (j := 3) rfl ev306) A307 c307 (And.intro lc307 cm307) (row_leads_eq S302 (j := 4) rfl ev307) A308 c308 (And.intro lc308 cm308) (row_leads_eq S302 (j := 8) rfl ev308) A309 c309 (And.intro lc309 cm309) (row_leads_eq S302 (j := 9) rfl ev309) (refineP (setsM (⟨kSp, ([0, 1] : List Int), kFo, ([true, false, true] : List Bool), false⟩ : Mach))) ok299_0 () (by first | assumption | omega | decide) (Block.st S302 tb)) ?_
   rintro _ w310 ⟨h310, v310_0, v310_1, T310, rfl, ok310_0, in310_1⟩
   obtain ⟨k310, lk310, ll310, U310⟩ := call_joins S302 T310
   have lc310_0 := (lf297_0).trans lk310
   have lc310_1 := (lf297_1).trans lk310
   have lc310_2 := (lf297_2).trans lk310
   have lc310_3 := (lf297_3).trans lk310
   have lc310_4 := (le297).trans lk310
   have S311 := U310
   dsimp only [lAa, lAn, lA0, lAs] at S311
   have lo_in310_1 := i64_lo in310_1; have hi_in310_1 := i64_hi in310_1
   have hf312 := spUp (Chg.of_below T310.below) hf303
   have hf313 := spUp (Chg.of_below T310.below) hf304
   have hf314 := spUp (Chg.of_below T310.below) hf305
   refine ⟨.inl (Chg.of_below T310.below), ?_⟩
   obtain ⟨h315, le315, T315, rp315⟩ := S311.freeze (i := 13) rfl
   have lf315_0 := (lc310_0).trans le315
   have lf315_1 := (lc310_1).trans le315
   have lf315_2 := (lc310_2).trans le315
   have lf315_3 := (lc310_3).trans le315
   have lf315_4 := (lc310_4).trans le315
   have lf315_5 := (lk310).trans le315
   have S316 := T315.fx 13 (emp) rfl
   dsimp only [lAa, lAn, lA0, lAs] at S316
   obtain ⟨A315, c315, e315, lc315, cm315, ld315⟩ := rp315
   injection e315 with e315 _; subst e315
   have cn315 := cm315; simp only [maxLen] at cn315
   obtain ⟨h317, le317, T317, rp317⟩ := S316.freeze (i := 14) rfl
   have lf317_0 := (lf315_0).trans le317
   have lf317_1 := (lf315_1).trans le317
   have lf317_2 := (lf315_2).trans le317
   have lf317_3 := (lf315_3).trans le317
   have lf317_4 := (lf315_4).trans le317
   have lf317_5 := (lf315_5).trans le317
   have lf317_6 := (le315).trans le317
   have S318 := T317.fx 14 (emp) rfl
   dsimp only [lAa, lAn, lA0, lAs] at S318
   obtain ⟨A317, c317, e317, lc317, cm317, ld317⟩ := rp317
   injection e317 with e317 _; subst e317
   have cn317 := cm317; simp only [maxLen] at cn317
   refine qd0 (i := 5) (v := .tuple #[.agg ((encPart ((buildM (⟨kSp, ([0, 1] : List Int), kFo, ([true, false, true] : List Bool), false⟩ : Mach) (refineP (setsM (⟨kSp, ([0, 1] : List Int), kFo, ([true, false, true] : List Bool), false⟩ : Mach)))).part)) ++ ([.slice A315 ((buildM (⟨kSp, ([0, 1] : List Int), kFo, ([true, false, true] : List Bool), false⟩ : Mach) (refineP (setsM (⟨kSp, ([0, 1] : List Int), kFo, ([true, false, true] : List Bool), false⟩ : Mach)))).next).length c315, .slice A317 ((buildM (⟨kSp, ([0, 1] : List Int), kFo, ([true, false, true] : List Bool), false⟩ : Mach) (refineP (setsM (⟨kSp, ([0, 1] : List Int), kFo, ([true, false, true] : List Bool), false⟩ : Mach)))).final).length c317] : List Value)).toArray, .int .i64 (errB (⟨kSp, ([0, 1] : List Int), kFo, ([true, false, true] : List Bool), false⟩ : Mach) (refineP (setsM (⟨kSp, ([0, 1] : List Int), kFo, ([true, false, true] : List Bool), false⟩ : Mach))))]) rfl (by decide +kernel) rfl rfl (x_move rfl) (of_no rfl) ?_
   refine qd0 (i := 6) (v := .agg ((encPart ((buildM (⟨kSp, ([0, 1] : List Int), kFo, ([true, false, true] : List Bool), false⟩ : Mach) (refineP (setsM (⟨kSp, ([0, 1] : List Int), kFo, ([true, false, true] : List Bool), false⟩ : Mach)))).part)) ++ ([.slice A315 ((buildM (⟨kSp, ([0, 1] : List Int), kFo, ([true, false, true] : List Bool), false⟩ : Mach) (refineP (setsM (⟨kSp, ([0, 1] : List Int), kFo, ([true, false, true] : List Bool), false⟩ : Mach)))).next).length c315, .slice A317 ((buildM (⟨kSp, ([0, 1] : List Int), kFo, ([true, false, true] : List Bool), false⟩ : Mach) (refineP (setsM (⟨kSp, ([0, 1] : List Int), kFo, ([true, false, true] : List Bool), false⟩ : Mach)))).final).length c317] : List Value)).toArray) rfl (by decide +kernel) rfl rfl (x_extract (vs := [.agg ((encPart ((buildM (⟨kSp, ([0, 1] : List Int), kFo, ([true, false, true] : List Bool), false⟩ : Mach) (refineP (setsM (⟨kSp, ([0, 1] : List Int), kFo, ([true, false, true] : List Bool), false⟩ : Mach)))).part)) ++ ([.slice A315 ((buildM (⟨kSp, ([0, 1] : List Int), kFo, ([true, false, true] : List Bool), false⟩ : Mach) (refineP (setsM (⟨kSp, ([0, 1] : List Int), kFo, ([true, false, true] : List Bool), false⟩ : Mach)))).next).length c315, .slice A317 ((buildM (⟨kSp, ([0, 1] : List Int), kFo, ([true, false, true] : List Bool), false⟩ : Mach) (refineP (setsM (⟨kSp, ([0, 1] : List Int), kFo, ([true, false, true] : List Bool), false⟩ : Mach)))).final).length c317] : List Value)).toArray, .int .i64 (errB (⟨kSp, ([0, 1] : List Int), kFo, ([true, false, true] : List Bool), false⟩ : Mach) (refineP (setsM (⟨kSp, ([0, 1] : List Int), kFo, ([true, false, true] : List Bool), false⟩ : Mach))))]) rfl rfl) (of_no rfl) ?_
   refine qd0 (i := 7) (v := .int .i64 (errB (⟨kSp, ([0, 1] : List Int), kFo, ([true, false, true] : List Bool), false⟩ : Mach) (refineP (setsM (⟨kSp, ([0, 1] : List Int), kFo, ([true, false, true] : List Bool), false⟩ : Mach))))) rfl (by decide +kernel) rfl rfl (x_extract (vs := [.agg ((encPart ((buildM (⟨kSp, ([0, 1] : List Int), kFo, ([true, false, true] : List Bool), false⟩ : Mach) (refineP (setsM (⟨kSp, ([0, 1] : List Int), kFo, ([true, false, true] : List Bool), false⟩ : Mach)))).part)) ++ ([.slice A315 ((buildM (⟨kSp, ([0, 1] : List Int), kFo, ([true, false, true] : List Bool), false⟩ : Mach) (refineP (setsM (⟨kSp, ([0, 1] : List Int), kFo, ([true, false, true] : List Bool), false⟩ : Mach)))).next).length c315, .slice A317 ((buildM (⟨kSp, ([0, 1] : List Int), kFo, ([true, false, true] : List Bool), false⟩ : Mach) (refineP (setsM (⟨kSp, ([0, 1] : List Int), kFo, ([true, false, true] : List Bool), false⟩ : Mach)))).final).length c317] : List Value)).toArray, .int .i64 (errB (⟨kSp, ([0, 1] : List Int), kFo, ([true, false, true] : List Bool), false⟩ : Mach) (refineP (setsM (⟨kSp, ([0, 1] : List Int), kFo, ([true, false, true] : List Bool), false⟩ : Mach))))]) rfl rfl) (of_no rfl) ?_
   refine ra_one (i := 9) (by decide +kernel) ?_
   intro wd319 gd319
   have S320 := S318.keep gd319
   have hf321 := spUp gd319 hf312
   have hf322 := spUp gd319 hf313
   have hf323 := spUp gd319 hf314
   obtain ⟨w324, r324, g324, T324⟩ := e_store_all (P := Tryd.prog) (v := .agg ((encPart ((buildM (⟨kSp, ([0, 1] : List Int), kFo, ([true, false, true] : List Bool), false⟩ : Mach) (refineP (setsM (⟨kSp, ([0, 1] : List Int), kFo, ([true, false, true] : List Bool), false⟩ : Mach)))).part)) ++ ([.slice A315 ((buildM (⟨kSp, ([0, 1] : List Int), kFo, ([true, false, true] : List Bool), false⟩ : Mach) (refineP (setsM (⟨kSp, ([0, 1] : List Int), kFo, ([true, false, true] : List Bool), false⟩ : Mach)))).next).length c315, .slice A317 ((buildM (⟨kSp, ([0, 1] : List Int), kFo, ([true, false, true] : List Bool), false⟩ : Mach) (refineP (setsM (⟨kSp, ([0, 1] : List Int), kFo, ([true, false, true] : List Bool), false⟩ : Mach)))).final).length c317] : List Value)).toArray) (vs := ((encPart ((buildM (⟨kSp, ([0, 1] : List Int), kFo, ([true, false, true] : List Bool), false⟩ : Mach) (refineP (setsM (⟨kSp, ([0, 1] : List Int), kFo, ([true, false, true] : List Bool), false⟩ : Mach)))).part)) ++ ([.slice A315 ((buildM (⟨kSp, ([0, 1] : List Int), kFo, ([true, false, true] : List Bool), false⟩ : Mach) (refineP (setsM (⟨kSp, ([0, 1] : List Int), kFo, ([true, false, true] : List Bool), false⟩ : Mach)))).next).length c315, .slice A317 ((buildM (⟨kSp, ([0, 1] : List Int), kFo, ([true, false, true] : List Bool), false⟩ : Mach) (refineP (setsM (⟨kSp, ([0, 1] : List Int), kFo, ([true, false, true] : List Bool), false⟩ : Mach)))).final).length c317] : List Value))) (cs := ((encPart zPart) ++ ([.slice none 0 0, .slice none 0 0] : List Value))) S320 ty35 rfl (len_app (encPart_len ok310_0) rfl) (len_app (encPart_len (okPart_zero)) rfl) (j := 11) rfl (one_app (encPart_one _) (by simp [Value.oneCell']))
   have S325 := T324.fx 11 (box b281 35 ((encPart ((buildM (⟨kSp, ([0, 1] : List Int), kFo, ([true, false, true] : List Bool), false⟩ : Mach) (refineP (setsM (⟨kSp, ([0, 1] : List Int), kFo, ([true, false, true] : List Bool), false⟩ : Mach)))).part)) ++ ([.slice A315 ((buildM (⟨kSp, ([0, 1] : List Int), kFo, ([true, false, true] : List Bool), false⟩ : Mach) (refineP (setsM (⟨kSp, ([0, 1] : List Int), kFo, ([true, false, true] : List Bool), false⟩ : Mach)))).next).length c315, .slice A317 ((buildM (⟨kSp, ([0, 1] : List Int), kFo, ([true, false, true] : List Bool), false⟩ : Mach) (refineP (setsM (⟨kSp, ([0, 1] : List Int), kFo, ([true, false, true] : List Bool), false⟩ : Mach)))).final).length c317] : List Value))) rfl
   dsimp only [lAa, lAn, lA0, lAs] at S325
   have hf326 : (LeadsS kSet A297 (setsM (⟨kSp, ([0, 1] : List Int), kFo, ([true, false, true] : List Bool), false⟩ : Mach))).1 w324 := (ld297.mono ((Le.refl _).trans (lf317_5.trans S325.ghost)))
   have hf327 : (CFs ⟨b36, 0, none⟩ [v16, v18, v26, v34, .bool false]).1 w324 := (CF.box (m := 5) (S325.box_at (j := 10) rfl) rfl)
   have hf328 : (CFs ⟨b36, 0, none⟩ [v16, v18, v26, v34, .bool false]).1 w324 := (CF.box (m := 5) (S325.box_at (j := 10) rfl) rfl)
   refine d_s rfl rfl (x_store rfl rfl r324) (.inr (keep_w (by decide +kernel) (keep_w (by decide +kernel) (keep_w (by decide +kernel) trivial)))) ?_
   refine qd0 (i := 10) (v := .int .i64 (errB (⟨kSp, ([0, 1] : List Int), kFo, ([true, false, true] : List Bool), false⟩ : Mach) (refineP (setsM (⟨kSp, ([0, 1] : List Int), kFo, ([true, false, true] : List Bool), false⟩ : Mach))))) rfl (by decide +kernel) rfl rfl (x_assign rfl) (of_no rfl) ?_
   refine ra_done (by decide +kernel) ?_
   intro wd329 gd329
   have S330 := S325.keep gd329
   exact jn106 _ _ ⟨h317, b281, A315, c315, A317, c317, lf317_3, S330.sub [3, 4, 8, 9, 10, 11] (by decide) rfl _ rfl, rfl, rfl, rfl, in310_1, ok310_0, (And.intro lc315 cm315), (ld315.mono le317), (And.intro lc317 cm317), ld317⟩
end Go.Proofs.YtfoemogojbnfhaaDoor
namespace Gx
open Go Go.RowKit
set_option linter.unusedSimpArgs false
set_option linter.unusedSectionVars false
set_option linter.unusedVariables false
def Opens {α : Type} (P : Program) (k : Kd α) (t : TypeId) : Prop :=
  ∀ {H : Type} {enc : TypeId × Value → H} {w : World} {spare : Nat → Bool} {held : Bool} {fuel : Nat} {cs : List Value} {x : DataW H × List MemPlace}, DataW.trod enc P w 0 spare held fuel t cs = some x → ∃ m, k.rep (hp w) m cs
section
variable {P : Program} {t e : TypeId}
theorem inK_wf {k : IntKind} {n : Int} (h : (Lit.int k n).wf = true) : inK k n := by
  simp only [Lit.wf, Bool.and_eq_true, decide_eq_true_eq] at h
  exact h
theorem Opens.int {k : IntKind} (ht : P.underlying t = some (.int k)) : Opens P (Kd.int k) t := fun h => by
  obtain ⟨n, rfl, _, hw⟩ := DataW.trod_int ht h
  exact ⟨n, rfl, inK_wf hw⟩
theorem Opens.bool (ht : P.underlying t = some .bool) : Opens P Kd.bool t := fun h => by
  obtain ⟨b, rfl, _⟩ := DataW.trod_bool ht h
  exact ⟨b, rfl, trivial⟩
theorem Opens.string (ht : P.underlying t = some .string) : Opens P Kd.string t := fun h => by
  obtain ⟨s, rfl, _, hs⟩ := DataW.trod_string ht h
  exact ⟨s, rfl, hs⟩
theorem exists_list {α : Type} {Q : Nat → α → Prop} : ∀ (n : Nat), (∀ i, i < n → ∃ m, Q i m) → ∃ l : List α, l.length = n ∧ ∀ i m, l[i]? = some m → Q i m
  | 0, _ => ⟨[], rfl, fun i m h => by simp at h⟩
  | n + 1, h => by
    obtain ⟨l, hl, hq⟩ := exists_list n fun i hi => h i (by omega)
    obtain ⟨m, hm⟩ := h n (by omega)
    refine ⟨l ++ [m], by simp [hl], fun i y hy => ?_⟩
    rw [List.getElem?_append] at hy
    split at hy
    · exact hq i y hy
    · rename_i hi
      have e : i - l.length = 0 := by
        rcases Nat.eq_zero_or_pos (i - l.length) with h0 | h0
        · exact h0
        · rw [List.getElem?_eq_none (by simp; omega)] at hy; cases hy
      rw [e] at hy
      simp at hy
      subst hy
      have : i = n := by omega
      rw [this]; exact hm
theorem Opens.ints {k : IntKind} {n : Nat} (hn : 0 < n) (ht : P.underlying t = some (.array n e)) (he : P.underlying e = some (.int k)) (hc : P.cellsOf e = 1) (hct : P.cellsOf t = n) : Opens P (kInts k n hn) t := fun {H enc w spare held fuel cs x} h => by
  obtain ⟨xs, m, _, _, hl, hx, hel⟩ := DataW.trod_array ht h
  rw [hct] at hl
  have h1 : ∀ i, i < n → ∃ z : Int, cs[i]? = some (.int k z) ∧ inK k z := fun i hi => by
    have h2 := hel i hi
    rw [hc, Nat.mul_one, List.getElem?_eq_getElem (by omega)] at h2
    obtain ⟨z, hz, _, hw⟩ := DataW.trod_int he h2
    refine ⟨z, ?_, inK_wf hw⟩
    have h3 := congrArg (fun l : List Value => l[0]?) hz
    simpa [List.getElem?_take, List.getElem?_drop] using h3
  obtain ⟨l, hll, hq⟩ := exists_list n h1
  refine ⟨l, ?_, hll, fun z hz => ?_⟩
  · apply List.ext_getElem?
    intro i
    rw [encInts, List.getElem?_map]
    by_cases hi : i < n
    · have h4 := hq i (l[i]'(by omega)) (List.getElem?_eq_getElem _)
      rw [h4.1, List.getElem?_eq_getElem (by omega)]; rfl
    · rw [List.getElem?_eq_none (by omega), List.getElem?_eq_none (by omega)]; rfl
  · obtain ⟨i, hi⟩ := List.mem_iff_getElem?.1 hz
    exact (hq i z hi).2
theorem Opens.set (ht : P.underlying t = some (.array 4 e)) (he : P.underlying e = some (.int .u64)) (hc : P.cellsOf e = 1) (hct : P.cellsOf t = 4) : Opens P kSet t := fun h => by
  obtain ⟨l, hl, hok⟩ := Opens.ints (n := 4) (by omega) ht he hc hct h
  exact ⟨ofWords l, by rw [hl, encSet_of hok], trivial⟩
theorem Opens.slice {α : Type} {k : Kd α} (ht : P.underlying t = some (.slice e)) (hc : P.cellsOf e = k.sz) (ho : Opens P k e) : Opens P k.slice t := fun {H enc w spare held fuel cs x} h => by
  rcases DataW.trod_slice ht h with ⟨rfl, _⟩ | ⟨a, len, cap, elems, rest, n, _, rfl, _, _, hl, hm, hlen, hel, _, _⟩
  · exact ⟨[], none, 0, rfl, Nat.le_refl _, by simp [maxLen], fun hne => (hne rfl).elim⟩
  · rw [hc] at hel
    have h1 : ∀ i, i < len → ∃ m, ∃ seg, k.rep (hp w) m seg ∧ ∀ j v, seg[j]? = some v → gcell (hp w) (a.add (i * k.sz + j)) = some v := fun i hi => by
      have h2 := hel i hi
      rw [List.getElem?_eq_getElem (by omega)] at h2
      obtain ⟨seg, hseg, hd⟩ := Option.bind_eq_some_iff.1 h2
      obtain ⟨m, hr⟩ := ho hd
      refine ⟨m, seg, hr, fun j v hj => ?_⟩
      obtain ⟨_, hlen2, hcell⟩ := World.cells?_some hseg
      have hjl : j < k.sz := by
        have := (List.getElem?_eq_some_iff.1 hj).1
        rw [k.len hr] at this; exact this
      have h5 := hcell j hjl
      rw [hj] at h5
      rw [Addr.add_add] at h5
      show gcell (hp w) _ = _
      unfold gcell hp
      unfold World.cell? at h5
      exact h5
    obtain ⟨l, hll, hq⟩ := exists_list len h1
    refine ⟨l, some a, cap, by rw [hll], by omega, hm, fun _ => ⟨a, rfl, hq⟩⟩
end
end Gx
