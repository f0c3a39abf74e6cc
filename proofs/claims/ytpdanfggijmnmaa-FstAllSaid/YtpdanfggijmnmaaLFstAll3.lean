/- My own library for walks through the translated code, and the walks of the functions that the law FstAll comes to, part 4; no conditions but those that each contract tells. -/
import Derived.Test.YtpdanfggijmnmaaLFstAll2
namespace Go.Proofs.Ytpdanfggijmnmaa
open Go Go.RowKit Gx
set_option maxHeartbeats 3000000
set_option linter.unusedVariables false
set_option linter.unusedSimpArgs false
set_option maxRecDepth 8000
attribute [local irreducible] listOf zd0 first someIn has zb6 wbits Lib.ctz zc4 zbj rowOk tab markP intoP intoTo zcm zb7 zcr runTo endsIn endTo runM posTo mayP zb3 zb1 mayTo atP lastTo docAt anyTo allTo lfp trues zcw zcq gIn zc1 endL zc5 gRowTo zay markL marksO zat okMk pickL zdi runPM
theorem key60 : KeyK Try.prog 60 (fun x : (Int × Int) => Value.agg (zag x).toArray) := keyk_pairA u60 u3 ty3
theorem single_calls (w : World) (m : Mach) (A0_0 : Option Addr) (c0_0 : Nat) (b0_0 : m.spots.length ≤ c0_0 ∧ c0_0 ≤ maxLen) (l0_0 : zbe kSpot (hp w) A0_0 m.spots) (A0_1 : Option Addr) (c0_1 : Nat) (b0_1 : m.first.length ≤ c0_1 ∧ c0_1 ≤ maxLen) (l0_1 : zbe (Kd.int .i64) (hp w) A0_1 m.first) (A0_2 : Option Addr) (c0_2 : Nat) (b0_2 : m.follow.length ≤ c0_2 ∧ c0_2 ≤ maxLen) (l0_2 : zbe (Kd.int .i64).slice (hp w) A0_2 m.follow) (A0_3 : Option Addr) (c0_3 : Nat) (b0_3 : m.last.length ≤ c0_3 ∧ c0_3 ≤ maxLen) (l0_3 : zbe Kd.bool (hp w) A0_3 m.last) :
    Calls Try.prog 17 #[.agg #[.slice A0_0 m.spots.length c0_0, .slice A0_1 m.first.length c0_1, .slice A0_2 m.follow.length c0_2, .slice A0_3 m.last.length c0_3, .bool m.empty]] w fun e w' => ∃ v, e = .returned v ∧ ∃ (hn : Ghost), St w.heap.size w hn w' [] ∧ v = .bool (zcd m) := by
 refine zas Try.func17 rfl Try.ntmps17 rfl ?_
 have S0 := St.init w
 have bb0_0 := b0_0.1; have bc0_0 := b0_0.2; simp only [maxLen] at bc0_0
 have bb0_1 := b0_1.1; have bc0_1 := b0_1.2; simp only [maxLen] at bc0_1
 have bb0_2 := b0_2.1; have bc0_2 := b0_2.2; simp only [maxLen] at bc0_2
 have bb0_3 := b0_3.1; have bc0_3 := b0_3.2; simp only [maxLen] at bc0_3
 refine zab <| zac (l := [0, 1]) rfl ?_
 obtain ⟨b1, w1, r1, g1, T1⟩ := zc0 (P := Try.prog) S0 27 (v := .agg #[.slice A0_0 m.spots.length c0_0, .slice A0_1 m.first.length c0_1, .slice A0_2 m.follow.length c0_2, .slice A0_3 m.last.length c0_3, .bool m.empty]) [.slice A0_0 m.spots.length c0_0, .slice A0_1 m.first.length c0_1, .slice A0_2 m.follow.length c0_2, .slice A0_3 m.last.length c0_3, .bool m.empty] rfl
 have S2 := T1
 dsimp only [lAa, lAn, lA0, lAs] at S2
 refine p_v (v := .pointer (some ⟨b1, 0, none⟩)) rfl rfl rfl (x_box rfl r1) <| p_v (v := .bool false) rfl rfl rfl (zae rfl) <| zaa <| zab <| zab <| zac (l := [0, 1, 2]) rfl <| p_v (v := .agg #[.slice A0_0 m.spots.length c0_0, .slice A0_1 m.first.length c0_1, .slice A0_2 m.follow.length c0_2, .slice A0_3 m.last.length c0_3, .bool m.empty]) rfl rfl rfl (zah (seg := [.slice A0_0 m.spots.length c0_0, .slice A0_1 m.first.length c0_1, .slice A0_2 m.follow.length c0_2, .slice A0_3 m.last.length c0_3, .bool m.empty]) ty27 rfl (by simp) rfl (CF.box (m := 5) (S2.box_at (j := 0) rfl) rfl)) <| p_c rfl rfl rfl (zbd (args := [.agg #[.slice A0_0 m.spots.length c0_0, .slice A0_1 m.first.length c0_1, .slice A0_2 m.follow.length c0_2, .slice A0_3 m.last.length c0_3, .bool m.empty]]) ca24 rfl rfl) (rightN_calls w1 m A0_0 c0_0 b0_0 (l0_0.mono (St.le0 S2)) A0_1 c0_1 b0_1 (l0_1.mono (St.le0 S2)) A0_2 c0_2 b0_2 (l0_2.mono (St.le0 S2)) A0_3 c0_3 b0_3 (l0_3.mono (St.le0 S2))) ?_
 rintro _ w3 ⟨h3, T3, rfl⟩
 have S4 := S2.keep (Chg.of_below T3.below)
 refine p_v (v := .bool (!(zbj m))) rfl rfl rfl (x_not rfl) <| zaa ?_
 refine zby (b := zbj m) rfl (fun hc5 => ?_) (fun hc5 => ?_)
 ·skip
  refine zab <| zac (l := [0]) rfl <| p_v (v := .bool false) rfl rfl rfl (zae rfl) <| zaa <| zav Try.func17 (res1 rfl (zax (v := .bool false) rfl)) ?_
  have q0 : (zcd m : Bool) = false := by
   first | exact single_0 (by assumption) | exact single_no (hI_.2.2.come _ (hI_.outIn _ hpo_).1) (hI_.outIn _ hpo_).2.1 (by assumption) | exact single_fin (by assumption) hI_.2.2 (by omega) hI_.2.2.1 (by omega) (by omega) hI_ (by assumption) hx_ hI_.2
  refine ⟨_, rfl, (fun _ => none), ?_, ?_⟩
  · exact S4.sub [] (by decide) rfl _ rfl
  · first | rfl | (simp only [q0]; rfl) | (simp only [q0])
 have hR_ := right_iff.1 hc5
 have hsm_ := hR_.small; have hfo_ := hR_.follow; have hla_ := hR_.last
 refine zao <| zab <| zac (l := [0, 1, 2, 3, 4]) rfl <| p_v (v := .agg #[.slice A0_0 m.spots.length c0_0, .slice A0_1 m.first.length c0_1, .slice A0_2 m.follow.length c0_2, .slice A0_3 m.last.length c0_3, .bool m.empty]) rfl rfl rfl (zah (seg := [.slice A0_0 m.spots.length c0_0, .slice A0_1 m.first.length c0_1, .slice A0_2 m.follow.length c0_2, .slice A0_3 m.last.length c0_3, .bool m.empty]) ty27 rfl (by simp) rfl (CF.box (m := 5) (S4.box_at (j := 0) rfl) rfl)) ?_
 obtain ⟨b6, w6, r6, g6, T6⟩ := e_makeMap (P := Try.prog) S4 55 (fun x : (Int × Int) => Value.agg (zag x).toArray) (fun x : Int => Value.int .i64 x)
 have S7 := T6
 dsimp only [lAa, lAn, lA0, lAs] at S7
 refine p_v (v := .map (some b6)) rfl rfl rfl (x_makeMap r6) <| p_v (v := .agg #[.slice A0_0 m.spots.length c0_0, .slice A0_1 m.first.length c0_1, .slice A0_2 m.follow.length c0_2, .slice A0_3 m.last.length c0_3, .bool m.empty, .slice none 0 0, .map (some b6)]) rfl rfl rfl (y_build (pv := [(0, .agg #[.slice A0_0 m.spots.length c0_0, .slice A0_1 m.first.length c0_1, .slice A0_2 m.follow.length c0_2, .slice A0_3 m.last.length c0_3, .bool m.empty]), (2, .map (some b6))]) rfl (zb4 pl58 ty58 rfl (cs := [.slice A0_0 m.spots.length c0_0, .slice A0_1 m.first.length c0_1, .slice A0_2 m.follow.length c0_2, .slice A0_3 m.last.length c0_3, .bool m.empty, .slice none 0 0, .map (some b6)]) rfl)) ?_
 obtain ⟨b8, w8, r8, g8, T8⟩ := zc0 (P := Try.prog) S7 58 (v := .agg #[.slice A0_0 m.spots.length c0_0, .slice A0_1 m.first.length c0_1, .slice A0_2 m.follow.length c0_2, .slice A0_3 m.last.length c0_3, .bool m.empty, .slice none 0 0, .map (some b6)]) [.slice A0_0 m.spots.length c0_0, .slice A0_1 m.first.length c0_1, .slice A0_2 m.follow.length c0_2, .slice A0_3 m.last.length c0_3, .bool m.empty, .slice none 0 0, .map (some b6)] rfl
 have S9 := T8
 dsimp only [lAa, lAn, lA0, lAs] at S9
 refine p_v (v := .pointer (some ⟨b8, 0, none⟩)) rfl rfl rfl (x_box rfl r8) <| p_v (v := .pointer (some ⟨b8, 0, none⟩)) rfl rfl rfl (zae rfl) <| zaa <| zab <| zac (l := [0, 1]) rfl <| p_v (v := .pointer (some ⟨b8, 0, none⟩)) rfl rfl rfl (zad rfl) ?_
 refine p_i rfl rfl rfl (zbd (args := [.pointer (some ⟨b8, 0, none⟩)]) ca30 rfl rfl) (zas Try.func30 rfl Try.ntmps30 rfl ?_)
 refine zab <| zab <| zac (l := [0, 1, 2, 3, 4, 5, 6]) rfl <| p_v (v := .pointer (some ⟨b8, 0, none⟩)) rfl rfl rfl (zad rfl) <| p_v (v := .pointer (some ⟨b8, 0, none⟩)) rfl rfl rfl (za7 rfl) <| p_v (v := .pointer (some ⟨b8, 0, none⟩)) rfl rfl rfl (zak fd58_0 ty27 rfl rfl) <| p_v (v := .pointer (some ⟨b8, 1, none⟩)) rfl rfl rfl (zak fd27_1 ty23 rfl rfl) <| p_v (v := .slice A0_1 m.first.length c0_1) rfl rfl rfl (zah (seg := [.slice A0_1 m.first.length c0_1]) ty23 rfl (by simp) rfl (CF.box (m := 1) (S9.box_at (j := 2) rfl) rfl)) <| p_v (v := .int .i64 (m.first.length : Int)) rfl rfl rfl (zar u23 rfl) <| p_v (v := .int .i64 0) rfl rfl rfl (zad rfl) <| zaa <| zam ?_
 have T10 := S9.row_nil 60 zb2
 obtain ⟨vn10, ev10, T10⟩ : ∃ v, v = (.slice none 0 0 : Value) ∧ St w.heap.size w (fun _ => none) w8 [box b1 27 [.slice A0_0 m.spots.length c0_0, .slice A0_1 m.first.length c0_1, .slice A0_2 m.follow.length c0_2, .slice A0_3 m.last.length c0_3, .bool m.empty], amap (fun x : (Int × Int) => Value.agg (zag x).toArray) (fun x : Int => Value.int .i64 x) b6 ([] : List ((Int × Int) × Int)), box b8 58 [.slice A0_0 m.spots.length c0_0, .slice A0_1 m.first.length c0_1, .slice A0_2 m.follow.length c0_2, .slice A0_3 m.last.length c0_3, .bool m.empty, v, .map (some b6)], row 60 zb2 v ([] : List (Int × Int))] := ⟨_, rfl, T10⟩
 have S11 : St w.heap.size w (fun _ => none) w8 [box b1 27 [.slice A0_0 m.spots.length c0_0, .slice A0_1 m.first.length c0_1, .slice A0_2 m.follow.length c0_2, .slice A0_3 m.last.length c0_3, .bool m.empty], amap (fun x : (Int × Int) => Value.agg (zag x).toArray) (fun x : Int => Value.int .i64 x) b6 ([] : List ((Int × Int) × Int)), box b8 58 [.slice A0_0 m.spots.length c0_0, .slice A0_1 m.first.length c0_1, .slice A0_2 m.follow.length c0_2, .slice A0_3 m.last.length c0_3, .bool m.empty, vn10, .map (some b6)], row 60 zb2 vn10 ([] : List (Int × Int))] := T10
 refine za8 (S := (List (Int × Int)) × (List ((Int × Int) × Int)) × Int) (fun (q_ : (List (Int × Int)) × (List ((Int × Int) × Int)) × Int) ρ w' => match q_ with | (p_5, b, t18) => ∃ (h : Ghost) (v_p_5 : Value), Le (fun _ => none) h ∧ St w.heap.size w h w' [box b1 27 [.slice A0_0 m.spots.length c0_0, .slice A0_1 m.first.length c0_1, .slice A0_2 m.follow.length c0_2, .slice A0_3 m.last.length c0_3, .bool m.empty], amap (fun x : (Int × Int) => Value.agg (zag x).toArray) (fun x : Int => Value.int .i64 x) b6 b, box b8 58 [.slice A0_0 m.spots.length c0_0, .slice A0_1 m.first.length c0_1, .slice A0_2 m.follow.length c0_2, .slice A0_3 m.last.length c0_3, .bool m.empty, v_p_5, .map (some b6)], row 60 zb2 v_p_5 p_5] ∧ ρ 0 = .pointer (some ⟨b8, 0, none⟩) ∧ ρ 16 = .slice A0_1 m.first.length c0_1 ∧ ρ 17 = .int .i64 (m.first.length : Int) ∧ ρ 18 = .int .i64 t18 ∧ inK .i64 t18 ∧ (0 ≤ t18 ∧ t18 ≤ (m.first.length : Int) ∧ RW m [] p_5 b (W0 m t18))) (fun q_ => match q_ with | (p_5, b, t18) => (m.first.length - t18).toNat) (([] : List (Int × Int)), ([] : List ((Int × Int) × Int)), 0) ⟨(fun _ => none), vn10, Le.refl _, S11.sub [0, 1, 2, 3] (by decide) rfl _ rfl, rfl, rfl, rfl, rfl, (zai (by first|omega|(simp;omega)|assumption|simp) (by first|omega|(simp;omega)|assumption|simp)), (by exact ⟨by omega, by omega, rw_00⟩)⟩ ?_
 rintro ⟨p_5, b, t18⟩ ih12 ρ12 w12 ⟨h12, v_p_5, le12, S12, r12_0, r12_16, r12_17, r12_18, f12_0, hI12⟩
 have lf12_0 := za1 f12_0; have hf12_0 := za2 f12_0
 have rl12_3 := S12.row_le (j := 3) rfl; simp only [maxLen] at rl12_3
 have hx_ := fun (h : t18 < (m.first.length : Int)) => hR_.firsts _ (zbp hI12.1 h)
 have hle_ := rw_len hR_ hI12.2.2
 refine zab <| zac (l := [0]) rfl <| p_v (v := .bool (decide (t18 < (m.first.length : Int)))) rfl rfl rfl (zc2 r12_18 r12_17) <| zaa <| zab ?_
 refine zal (p := t18 < (m.first.length : Int)) rfl (fun hc13 => ?_) (fun hc13 => ?_)
 ·skip
  refine zao <| zab <| zam <| zab <| zac (l := [0, 1, 2]) rfl ?_
  obtain ⟨ad14, seg14, a14, rp14, ce14⟩ := zap (q := t18) (m := 1) l0_1 rfl (by first|omega|(simp;omega)|assumption|simp) (by first|omega|(simp;omega)|assumption|simp)
  refine p_v (v := .pointer (some ad14)) rfl rfl rfl (zan u23 ty3 r12_16 r12_18 a14 (by first|omega|(simp;omega)|assumption|simp) (by first|omega|(simp;omega)|assumption|simp)) ?_
  obtain ⟨rfl, in14⟩ := rp14
  have lo14 := za1 in14; have hi14 := za2 in14
  refine p_v (v := .int .i64 (at_ m.first t18)) rfl rfl rfl (zah (seg := [.int .i64 (at_ m.first t18)]) ty3 rfl (by simp) rfl (CF.ghost ce14 (St.le0 S12))) <| p_v (v := .int .i64 (at_ m.first t18)) rfl rfl rfl (zae rfl) <| zaa <| zab <| zac (l := [0, 1, 2, 3, 4, 5, 6]) rfl <| p_v (v := .pointer (some ⟨b8, 0, none⟩)) rfl rfl rfl (zad r12_0) <| p_v (v := .pointer (some ⟨b8, 0, none⟩)) rfl rfl rfl (za7 rfl) <| p_v (v := .pointer (some ⟨b8, 0, none⟩)) rfl rfl rfl (zak fd58_0 ty27 rfl rfl) <| p_v (v := .pointer (some ⟨b8, 1, none⟩)) rfl rfl rfl (zak fd27_1 ty23 rfl rfl) <| p_v (v := .slice A0_1 m.first.length c0_1) rfl rfl rfl (zah (seg := [.slice A0_1 m.first.length c0_1]) ty23 rfl (by simp) rfl (CF.box (m := 1) (S12.box_at (j := 2) rfl) rfl)) <| p_v (v := .int .i64 (m.first.length : Int)) rfl rfl rfl (zar u23 rfl) <| p_v (v := .int .i64 0) rfl rfl rfl (zad rfl) ?_
  refine zaa <| zam <| za8 (S := (List (Int × Int)) × (List ((Int × Int) × Int)) × Int) (fun (q_ : (List (Int × Int)) × (List ((Int × Int) × Int)) × Int) ρ w' => match q_ with | (p_52, b2, t28) => ∃ (h : Ghost) (v_p_52 : Value), Le h12 h ∧ St w.heap.size w h w' [box b1 27 [.slice A0_0 m.spots.length c0_0, .slice A0_1 m.first.length c0_1, .slice A0_2 m.follow.length c0_2, .slice A0_3 m.last.length c0_3, .bool m.empty], amap (fun x : (Int × Int) => Value.agg (zag x).toArray) (fun x : Int => Value.int .i64 x) b6 b2, box b8 58 [.slice A0_0 m.spots.length c0_0, .slice A0_1 m.first.length c0_1, .slice A0_2 m.follow.length c0_2, .slice A0_3 m.last.length c0_3, .bool m.empty, v_p_52, .map (some b6)], row 60 zb2 v_p_52 p_52] ∧ ρ 0 = .pointer (some ⟨b8, 0, none⟩) ∧ ρ 3 = .int .i64 (at_ m.first t18) ∧ ρ 16 = .slice A0_1 m.first.length c0_1 ∧ ρ 17 = .int .i64 (m.first.length : Int) ∧ ρ 18 = .int .i64 t18 ∧ ρ 26 = .slice A0_1 m.first.length c0_1 ∧ ρ 27 = .int .i64 (m.first.length : Int) ∧ ρ 28 = .int .i64 t28 ∧ inK .i64 t28 ∧ (0 ≤ t28 ∧ t28 ≤ (m.first.length : Int) ∧ RW m [] p_52 b2 (W1 m t18 t28))) (fun q_ => match q_ with | (p_52, b2, t28) => (m.first.length - t28).toNat) (p_5, b, 0) ⟨h12, v_p_5, Le.refl _, S12.sub [0, 1, 2, 3] (by decide) rfl _ rfl, r12_0, rfl, r12_16, r12_17, r12_18, rfl, rfl, rfl, (zai (by first|omega|(simp;omega)|assumption|simp) (by first|omega|(simp;omega)|assumption|simp)), (by exact ⟨by omega, by omega, rw_w hI12.2.2 w_01⟩)⟩ ?_
  rintro ⟨p_52, b2, t28⟩ ih15 ρ15 w15 ⟨h15, v_p_52, le15, S15, r15_0, r15_3, r15_16, r15_17, r15_18, r15_26, r15_27, r15_28, f15_0, hI15⟩
  have lf15_0 := za1 f15_0; have hf15_0 := za2 f15_0
  have rl15_3 := S15.row_le (j := 3) rfl; simp only [maxLen] at rl15_3
  have hy_ := fun (h : t28 < (m.first.length : Int)) => hR_.firsts _ (zbp hI15.1 h)
  have hle2_ := rw_len hR_ hI15.2.2
  refine zab <| zac (l := [0]) rfl <| p_v (v := .bool (decide (t28 < (m.first.length : Int)))) rfl rfl rfl (zc2 r15_28 r15_27) <| zaa <| zab ?_
  refine zal (p := t28 < (m.first.length : Int)) rfl (fun hc16 => ?_) (fun hc16 => ?_)
  ·skip
   refine zao <| zab <| zam <| zab <| zac (l := [0, 1, 2]) rfl ?_
   obtain ⟨ad17, seg17, a17, rp17, ce17⟩ := zap (q := t28) (m := 1) l0_1 rfl (by first|omega|(simp;omega)|assumption|simp) (by first|omega|(simp;omega)|assumption|simp)
   refine p_v (v := .pointer (some ad17)) rfl rfl rfl (zan u23 ty3 r15_26 r15_28 a17 (by first|omega|(simp;omega)|assumption|simp) (by first|omega|(simp;omega)|assumption|simp)) ?_
   obtain ⟨rfl, in17⟩ := rp17
   have lo17 := za1 in17; have hi17 := za2 in17
   refine p_v (v := .int .i64 (at_ m.first t28)) rfl rfl rfl (zah (seg := [.int .i64 (at_ m.first t28)]) ty3 rfl (by simp) rfl (CF.ghost ce17 (St.le0 S15))) <| p_v (v := .int .i64 (at_ m.first t28)) rfl rfl rfl (zae rfl) <| zaa <| zac (l := [0, 1, 2, 3]) rfl <| p_v (v := .pointer (some ⟨b8, 0, none⟩)) rfl rfl rfl (zad r15_0) <| p_v (v := .int .i64 (at_ m.first t18)) rfl rfl rfl (zad r15_3) <| p_v (v := .int .i64 (at_ m.first t28)) rfl rfl rfl (zad rfl) ?_
   refine p_i rfl rfl rfl (zbd (args := [.pointer (some ⟨b8, 0, none⟩), .int .i64 (at_ m.first t18), .int .i64 (at_ m.first t28)]) ca48 rfl rfl) (zas Try.func48 rfl Try.ntmps48 rfl ?_)
   refine zab <| zac (l := [0, 1, 2, 3, 4]) rfl <| p_v (v := .int .i64 (at_ m.first t18)) rfl rfl rfl (zad rfl) <| p_v (v := .int .i64 (at_ m.first t28)) rfl rfl rfl (zad rfl) <| p_v (v := .agg (zag ((at_ m.first t18, at_ m.first t28) : Int × Int)).toArray) rfl rfl rfl (y_build (pv := [(0, .int .i64 (at_ m.first t18)), (1, .int .i64 (at_ m.first t28))]) rfl (run_build_array u60 ty3 ty60 (cs := (zag ((at_ m.first t18, at_ m.first t28) : Int × Int))) (by rfl))) ?_
   obtain ⟨b18, w18, r18, g18, T18⟩ := zc0 (P := Try.prog) S15 60 (v := (.agg #[.int .i64 0, .int .i64 0])) (zag ((0, 0) : Int × Int)) rfl
   have S19 := T18
   dsimp only [lAa, lAn, lA0, lAs] at S19
   refine p_v (v := .pointer (some ⟨b18, 0, none⟩)) rfl rfl rfl (zcs ty60 r18) ?_
   obtain ⟨w20, r20, g20, T20⟩ := zb9 (P := Try.prog) (off := 0) (v := .agg (zag ((at_ m.first t18, at_ m.first t28) : Int × Int)).toArray) (vs := (zag ((at_ m.first t18, at_ m.first t28) : Int × Int))) S19 ty60 rfl rfl (j := 4) rfl (by first | decide | exact Nat.le_of_ble_eq_true rfl) (zdb _)
   have S21 := T20.fx 4 (box b18 60 (zag ((at_ m.first t18, at_ m.first t28) : Int × Int))) rfl
   dsimp only [lAa, lAn, lA0, lAs] at S21
   refine p_s rfl rfl (zbt rfl rfl r20) <| zaa <| zab <| zab ?_
   by_cases hc22 : 0 < ((zbc ((at_ m.first t18, at_ m.first t28) : Int × Int) b2).getD 0)
   ·skip
    have hf23 : (CFs ⟨b8, 6, none⟩ [.map (some b6)]).1 w20 := (CF.box (m := 1) (S21.box_at (j := 2) rfl) rfl)
    have hf24 : (CFs ⟨b18, 0, none⟩ (zag ((at_ m.first t18, at_ m.first t28) : Int × Int))).1 w20 := (CF.box (m := 2) (S21.box_at (j := 4) rfl) rfl)
    have hf25 : (MapHs (fun x : (Int × Int) => Value.agg (zag x).toArray) (fun x : Int => Value.int .i64 x) b6 b2).1 w20 := (S21.map_at (j := 1) rfl)
    refine daS (hkC 3 hf23 (hkC 4 hf24 (hkC 5 hf25 (hkN (w := w20))))) 30 rfl zdt ?_
    intro wd26 gd26 hd26
    have S27 := S21.keep gd26
    have hf28 := spUp gd26 hf23
    have hf29 := spUp gd26 hf24
    have hf30 := spUp gd26 hf25
    refine qd0 (i := 0) (v := .pointer (some ⟨b8, 0, none⟩)) rfl (by decide +kernel) rfl rfl (zad rfl) (zaf rfl) <| qd0 (i := 1) (v := .pointer (some ⟨b8, 0, none⟩)) rfl (by decide +kernel) rfl rfl (za7 rfl) (zaf rfl) <| qd0 (i := 2) (v := .pointer (some ⟨b8, 6, none⟩)) rfl (by decide +kernel) rfl rfl (zak fd58_2 ty55 rfl rfl) (zaf rfl) <| qd1 0 (i := 3) (v := .map (some b6)) rfl rfl (by decide +kernel) rfl rfl (fun wq hq => (zah (seg := [.map (some b6)]) ty55 rfl (by simp) rfl hq)) (za0 hf28 (zaf rfl)) <| qd1 1 (i := 4) (v := .agg (zag ((at_ m.first t18, at_ m.first t28) : Int × Int)).toArray) rfl rfl (by decide +kernel) rfl rfl (fun wq hq => (zah (seg := (zag ((at_ m.first t18, at_ m.first t28) : Int × Int))) ty60 rfl (by simp) rfl hq)) (zaq rfl (za0 hf29 (zaf rfl))) <| qdn (i := 5) (v := .int .i64 ((zbc ((at_ m.first t18, at_ m.first t28) : Int × Int) b2).getD 0)) (fun wf => MapH (fun x : (Int × Int) => Value.agg (zag x).toArray) (fun x : Int => Value.int .i64 x) b6 b2 wf) (fun _ ho => ho _ (List.mem_of_getElem? (i := 2) rfl) rfl) rfl (by decide +kernel) rfl rfl (fun wq hq => (x_lookup (a := .map (some b6)) (k := .agg (zag ((at_ m.first t18, at_ m.first t28) : Int × Int)).toArray) rfl rfl (e_lookup_hf (kvs := b2) key60 hq u55 (zcn ty3) 0 ((at_ m.first t18, at_ m.first t28) : Int × Int)))) (zaq rfl (zaq rfl (za0 hf30 (zaf rfl)))) <| qd0 (i := 6) (v := .bool (decide (0 < ((zbc ((at_ m.first t18, at_ m.first t28) : Int × Int) b2).getD 0)))) rfl (by decide +kernel) rfl rfl (x_gtr rfl rfl) (zaf rfl) <| qd0 (i := 7) (v := .bool (decide (0 < ((zbc ((at_ m.first t18, at_ m.first t28) : Int × Int) b2).getD 0)))) rfl (by decide +kernel) rfl rfl (zad rfl) (zaf rfl) <| zce (i := 8) rfl (by decide +kernel) (by decide +kernel) (by decide +kernel) (wo 7 17 rfl rfl (bT hc22) rfl) rfl (zaf rfl) <| zce (i := 9) rfl (by decide +kernel) (by decide +kernel) (by decide +kernel) (wo 7 17 rfl rfl (bT hc22) rfl) rfl (zaf rfl) <| zce (i := 10) rfl (by decide +kernel) (by decide +kernel) (by decide +kernel) (wo 7 17 rfl rfl (bT hc22) rfl) rfl (zaf rfl) <| zce (i := 11) rfl (by decide +kernel) (by decide +kernel) (by decide +kernel) (wo 7 17 rfl rfl (bT hc22) rfl) rfl (zaf rfl) ?_
    refine zce (i := 12) rfl (by decide +kernel) (by decide +kernel) (by decide +kernel) (wo 7 17 rfl rfl (bT hc22) rfl) rfl (zaf rfl) <| zce (i := 13) rfl (by decide +kernel) (by decide +kernel) (by decide +kernel) (wo 7 17 rfl rfl (bT hc22) rfl) rfl (zaf rfl) <| zce (i := 14) rfl (by decide +kernel) (by decide +kernel) (by decide +kernel) (wo 7 17 rfl rfl (bT hc22) rfl) rfl (zaf rfl) <| zce (i := 15) rfl (by decide +kernel) (by decide +kernel) (by decide +kernel) (wo 7 17 rfl rfl (bT hc22) rfl) rfl (zaf rfl) <| zce (i := 16) rfl (by decide +kernel) (by decide +kernel) (by decide +kernel) (wo 7 17 rfl rfl (bT hc22) rfl) rfl (zaf rfl) <| zce (i := 17) rfl (by decide +kernel) (by decide +kernel) (by decide +kernel) (wo 7 17 rfl rfl (bT hc22) rfl) rfl (zaf rfl) <| zce (i := 18) rfl (by decide +kernel) (by decide +kernel) (by decide +kernel) (wo 7 17 rfl rfl (bT hc22) rfl) rfl (zaf rfl) <| zce (i := 19) rfl (by decide +kernel) (by decide +kernel) (by decide +kernel) (wo 7 17 rfl rfl (bT hc22) rfl) rfl (zaf rfl) <| zce (i := 20) rfl (by decide +kernel) (by decide +kernel) (by decide +kernel) (wo 7 17 rfl rfl (bT hc22) rfl) rfl (zaf rfl) <| zce (i := 21) rfl (by decide +kernel) (by decide +kernel) (by decide +kernel) (wo 7 17 rfl rfl (bT hc22) rfl) rfl (zaf rfl) <| zce (i := 22) rfl (by decide +kernel) (by decide +kernel) (by decide +kernel) (wo 7 17 rfl rfl (bT hc22) rfl) rfl (zaf rfl) <| zce (i := 23) rfl (by decide +kernel) (by decide +kernel) (by decide +kernel) (wo 7 17 rfl rfl (bT hc22) rfl) rfl (zaf rfl) ?_
    refine zce (i := 24) rfl (by decide +kernel) (by decide +kernel) (by decide +kernel) (wo 7 17 rfl rfl (bT hc22) rfl) rfl (zaf rfl) <| zce (i := 25) rfl (by decide +kernel) (by decide +kernel) (by decide +kernel) (wo 7 17 rfl rfl (bT hc22) rfl) rfl (zaf rfl) <| zce (i := 26) rfl (by decide +kernel) (by decide +kernel) (by decide +kernel) (wo 7 17 rfl rfl (bT hc22) rfl) rfl (zaf rfl) <| zce (i := 27) rfl (by decide +kernel) (by decide +kernel) (by decide +kernel) (wo 7 17 rfl rfl (bT hc22) rfl) rfl (zaf rfl) <| zce (i := 28) rfl (by decide +kernel) (by decide +kernel) (by decide +kernel) (wo 7 17 rfl rfl (bT hc22) rfl) rfl (zaf rfl) <| qd0 (i := 29) (v := .bool true) rfl (by decide +kernel) rfl rfl (zbf (bT hc22) rfl) (zaf rfl) <| zbw (by decide +kernel) ?_
    intro wd31 gd31
    have S32 := S27.keep gd31
    refine zbh (b := true) rfl ?_
    simp only [if_true, if_false, Bool.false_eq_true]
    refine zav Try.func48 (res0 rfl) ?_
    refine ⟨_, rfl, ?_⟩
    refine zaa <| zaj <| zac (l := [0, 1]) rfl <| p_v (v := .int .i64 (t28 + 1)) rfl rfl rfl (zbv r15_28 rfl (zai (by first|omega|(simp;omega)|assumption|simp) (by first|omega|(simp;omega)|assumption|simp))) <| p_v (v := .int .i64 (t28 + 1)) rfl rfl rfl (zad rfl) <| zaa ?_
    refine ih15 (p_52, b2, t28 + 1) _ _ (by dsimp only; omega) ⟨h15, v_p_52, le15, S32.sub [0, 1, 2, 3] (by decide) rfl _ rfl, r15_0, r15_3, r15_16, r15_17, r15_18, r15_26, r15_27, rfl, (zai (by first|omega|(simp;omega)|assumption|simp) (by first|omega|(simp;omega)|assumption|simp)), (by first | exact ⟨by omega, by omega, rw_old hI15.2.2 w_11 (by assumption)⟩ | exact ⟨by omega, by omega, rw_no hI15.2.2 w_11 (by assumption)⟩ | exact ⟨by omega, by omega, rw_put hI15.2.2 w_11 (by assumption) (Come.first (zbp hI12.1 (by omega)) (zbp hI15.1 (by omega)) (by assumption))⟩)⟩
   obtain ⟨ad33, seg33, a33, rp33, ce33⟩ := zap (q := at_ m.first t18) (m := 5) l0_0 rfl (by first|omega|(simp;omega)|assumption|simp) (by first|omega|(simp;omega)|assumption|simp)
   obtain ⟨rfl, ok33⟩ := rp33
   have slook33 := u8_lo ok33; have shiok33 := u8_hi ok33
   obtain ⟨ad35, seg35, a35, rp35, ce35⟩ := zap (q := at_ m.first t28) (m := 5) l0_0 rfl (by first|omega|(simp;omega)|assumption|simp) (by first|omega|(simp;omega)|assumption|simp)
   obtain ⟨rfl, ok35⟩ := rp35
   have slook35 := u8_lo ok35; have shiok35 := u8_hi ok35
   obtain ⟨_, _, _, _, _, _, _, in38_0⟩ := calls_some (count_calls w20 (((at_ m.spots (at_ m.first t18)).set) &&& ((at_ m.spots (at_ m.first t28)).set)))
   have lo_in38_0 := za1 in38_0; have hi_in38_0 := za2 in38_0
   have cl38 := count_le (((at_ m.spots (at_ m.first t18)).set) &&& ((at_ m.spots (at_ m.first t28)).set))
   have hf39 : (CFs ⟨b8, 6, none⟩ [.map (some b6)]).1 w20 := (CF.box (m := 1) (S21.box_at (j := 2) rfl) rfl)
   have hf40 : (CFs ⟨b18, 0, none⟩ (zag ((at_ m.first t18, at_ m.first t28) : Int × Int))).1 w20 := (CF.box (m := 2) (S21.box_at (j := 4) rfl) rfl)
   have hf41 : (MapHs (fun x : (Int × Int) => Value.agg (zag x).toArray) (fun x : Int => Value.int .i64 x) b6 b2).1 w20 := (S21.map_at (j := 1) rfl)
   have hf42 : (CFs ⟨b8, 0, none⟩ [.slice A0_0 m.spots.length c0_0]).1 w20 := (CF.box (m := 1) (S21.box_at (j := 2) rfl) rfl)
   have hf43 : (CFs (ad33.add 0) (zau ((at_ m.spots (at_ m.first t18)).set))).1 w20 := (CF.ghost (sub_seg (o := 0) (m := 4) (ds := (zau ((at_ m.spots (at_ m.first t18)).set))) ce33 rfl) (St.le0 S21))
   have hf44 : (CFs ⟨b8, 0, none⟩ [.slice A0_0 m.spots.length c0_0]).1 w20 := (CF.box (m := 1) (S21.box_at (j := 2) rfl) rfl)
   have hf45 : (CFs (ad35.add 0) (zau ((at_ m.spots (at_ m.first t28)).set))).1 w20 := (CF.ghost (sub_seg (o := 0) (m := 4) (ds := (zau ((at_ m.spots (at_ m.first t28)).set))) ce35 rfl) (St.le0 S21))
   refine daS (hkC 3 hf39 (hkC 4 hf40 (hkC 5 hf41 (hkC 12 hf42 (hkC 16 hf43 (hkC 21 hf44 (hkC 25 hf45 (hkN (w := w20))))))))) 30 rfl zdt ?_
   intro wd46 gd46 hd46
   have S47 := S21.keep gd46
   have hf48 := spUp gd46 hf39
   have hf49 := spUp gd46 hf40
   have hf50 := spUp gd46 hf41
   have hf51 := spUp gd46 hf42
   have hf52 := spUp gd46 hf43
   have hf53 := spUp gd46 hf44
   have hf54 := spUp gd46 hf45
   refine qd0 (i := 0) (v := .pointer (some ⟨b8, 0, none⟩)) rfl (by decide +kernel) rfl rfl (zad rfl) (zaf rfl) <| qd0 (i := 1) (v := .pointer (some ⟨b8, 0, none⟩)) rfl (by decide +kernel) rfl rfl (za7 rfl) (zaf rfl) <| qd0 (i := 2) (v := .pointer (some ⟨b8, 6, none⟩)) rfl (by decide +kernel) rfl rfl (zak fd58_2 ty55 rfl rfl) (zaf rfl) <| qd1 0 (i := 3) (v := .map (some b6)) rfl rfl (by decide +kernel) rfl rfl (fun wq hq => (zah (seg := [.map (some b6)]) ty55 rfl (by simp) rfl hq)) (za0 hf48 (zaf rfl)) <| qd1 1 (i := 4) (v := .agg (zag ((at_ m.first t18, at_ m.first t28) : Int × Int)).toArray) rfl rfl (by decide +kernel) rfl rfl (fun wq hq => (zah (seg := (zag ((at_ m.first t18, at_ m.first t28) : Int × Int))) ty60 rfl (by simp) rfl hq)) (zaq rfl (za0 hf49 (zaf rfl))) <| qdn (i := 5) (v := .int .i64 ((zbc ((at_ m.first t18, at_ m.first t28) : Int × Int) b2).getD 0)) (fun wf => MapH (fun x : (Int × Int) => Value.agg (zag x).toArray) (fun x : Int => Value.int .i64 x) b6 b2 wf) (fun _ ho => ho _ (List.mem_of_getElem? (i := 2) rfl) rfl) rfl (by decide +kernel) rfl rfl (fun wq hq => (x_lookup (a := .map (some b6)) (k := .agg (zag ((at_ m.first t18, at_ m.first t28) : Int × Int)).toArray) rfl rfl (e_lookup_hf (kvs := b2) key60 hq u55 (zcn ty3) 0 ((at_ m.first t18, at_ m.first t28) : Int × Int)))) (zaq rfl (zaq rfl (za0 hf50 (zaf rfl)))) <| qd0 (i := 6) (v := .bool (decide (0 < ((zbc ((at_ m.first t18, at_ m.first t28) : Int × Int) b2).getD 0)))) rfl (by decide +kernel) rfl rfl (x_gtr rfl rfl) (zaf rfl) <| qd0 (i := 7) (v := .bool (decide (0 < ((zbc ((at_ m.first t18, at_ m.first t28) : Int × Int) b2).getD 0)))) rfl (by decide +kernel) rfl rfl (zad rfl) (zaf rfl) <| qd0 (i := 8) (v := .pointer (some ⟨b8, 0, none⟩)) rfl (by decide +kernel) (wo 7 17 rfl rfl (bF hc22) rfl) rfl (zad rfl) (zaf rfl) <| qd0 (i := 9) (v := .pointer (some ⟨b8, 0, none⟩)) rfl (by decide +kernel) (wo 7 17 rfl rfl (bF hc22) rfl) rfl (za7 rfl) (zaf rfl) <| qd0 (i := 10) (v := .pointer (some ⟨b8, 0, none⟩)) rfl (by decide +kernel) (wo 7 17 rfl rfl (bF hc22) rfl) rfl (zak fd58_0 ty27 rfl rfl) (zaf rfl) <| qd0 (i := 11) (v := .pointer (some ⟨b8, 0, none⟩)) rfl (by decide +kernel) (wo 7 17 rfl rfl (bF hc22) rfl) rfl (zak zda ty22 rfl rfl) (zaf rfl) ?_
   refine qd1 3 (i := 12) (v := .slice A0_0 m.spots.length c0_0) rfl rfl (by decide +kernel) (wo 7 17 rfl rfl (bF hc22) rfl) rfl (fun wq hq => (zah (seg := [.slice A0_0 m.spots.length c0_0]) ty22 rfl (by simp) rfl hq)) (zaq rfl (zaq rfl (zaq rfl (za0 hf51 (zaf rfl))))) <| qd0 (i := 13) (v := .int .i64 (at_ m.first t18)) rfl (by decide +kernel) (wo 7 17 rfl rfl (bF hc22) rfl) rfl (zad rfl) (zaf rfl) <| qd0 (i := 14) (v := .pointer (some ad33)) rfl (by decide +kernel) (wo 7 17 rfl rfl (bF hc22) rfl) rfl (zan u22 ty43 rfl rfl a33 (by first|omega|(simp;omega)|assumption|simp) (by first|omega|(simp;omega)|assumption|simp)) (zaf rfl) <| qd0 (i := 15) (v := .pointer (some (ad33.add 0))) rfl (by decide +kernel) (wo 7 17 rfl rfl (bF hc22) rfl) rfl (zcu fd43_0 ty41 rfl rfl) (zaf rfl) <| qd1 4 (i := 16) (v := .agg (zau ((at_ m.spots (at_ m.first t18)).set)).toArray) rfl rfl (by decide +kernel) (wo 7 17 rfl rfl (bF hc22) rfl) rfl (fun wq hq => (zah (seg := (zau ((at_ m.spots (at_ m.first t18)).set))) ty41 rfl (by simp) rfl hq)) (zaq rfl (zaq rfl (zaq rfl (zaq rfl (za0 hf52 (zaf rfl)))))) <| qd0 (i := 17) (v := .pointer (some ⟨b8, 0, none⟩)) rfl (by decide +kernel) (wo 7 17 rfl rfl (bF hc22) rfl) rfl (zad rfl) (zaf rfl) <| qd0 (i := 18) (v := .pointer (some ⟨b8, 0, none⟩)) rfl (by decide +kernel) (wo 7 17 rfl rfl (bF hc22) rfl) rfl (za7 rfl) (zaf rfl) <| qd0 (i := 19) (v := .pointer (some ⟨b8, 0, none⟩)) rfl (by decide +kernel) (wo 7 17 rfl rfl (bF hc22) rfl) rfl (zak fd58_0 ty27 rfl rfl) (zaf rfl) <| qd0 (i := 20) (v := .pointer (some ⟨b8, 0, none⟩)) rfl (by decide +kernel) (wo 7 17 rfl rfl (bF hc22) rfl) rfl (zak zda ty22 rfl rfl) (zaf rfl) <| qd1 5 (i := 21) (v := .slice A0_0 m.spots.length c0_0) rfl rfl (by decide +kernel) (wo 7 17 rfl rfl (bF hc22) rfl) rfl (fun wq hq => (zah (seg := [.slice A0_0 m.spots.length c0_0]) ty22 rfl (by simp) rfl hq)) (zaq rfl (zaq rfl (zaq rfl (zaq rfl (zaq rfl (za0 hf53 (zaf rfl))))))) <| qd0 (i := 22) (v := .int .i64 (at_ m.first t28)) rfl (by decide +kernel) (wo 7 17 rfl rfl (bF hc22) rfl) rfl (zad rfl) (zaf rfl) <| qd0 (i := 23) (v := .pointer (some ad35)) rfl (by decide +kernel) (wo 7 17 rfl rfl (bF hc22) rfl) rfl (zan u22 ty43 rfl rfl a35 (by first|omega|(simp;omega)|assumption|simp) (by first|omega|(simp;omega)|assumption|simp)) (zaf rfl) ?_
   refine qd0 (i := 24) (v := .pointer (some (ad35.add 0))) rfl (by decide +kernel) (wo 7 17 rfl rfl (bF hc22) rfl) rfl (zcu fd43_0 ty41 rfl rfl) (zaf rfl) <| qd1 6 (i := 25) (v := .agg (zau ((at_ m.spots (at_ m.first t28)).set)).toArray) rfl rfl (by decide +kernel) (wo 7 17 rfl rfl (bF hc22) rfl) rfl (fun wq hq => (zah (seg := (zau ((at_ m.spots (at_ m.first t28)).set))) ty41 rfl (by simp) rfl hq)) (zaq rfl (zaq rfl (zaq rfl (zaq rfl (zaq rfl (zaq rfl (za0 hf54 (zaf rfl)))))))) <| d_m (i := 26) (v := .agg (zau (((at_ m.spots (at_ m.first t18)).set) &&& ((at_ m.spots (at_ m.first t28)).set))).toArray) (fun _ => True) (fun _ ho => trivial) rfl (by decide +kernel) (by decide +kernel) (by decide +kernel) (wo 7 17 rfl rfl (bF hc22) rfl) rfl (fun wq => (zbd (args := [.agg (zau ((at_ m.spots (at_ m.first t18)).set)).toArray, .agg (zau ((at_ m.spots (at_ m.first t28)).set)).toArray]) ca54 rfl rfl)) (fun wq hq => (and_calls wq ((at_ m.spots (at_ m.first t18)).set) ((at_ m.spots (at_ m.first t28)).set)).mono fun e w2 he => by obtain ⟨_, rfl, _, T, rfl⟩ := he; exact ⟨rfl, Chg.of_below T.below⟩) (zaf rfl) <| d_m (i := 27) (v := .int .i64 (zd0 (((at_ m.spots (at_ m.first t18)).set) &&& ((at_ m.spots (at_ m.first t28)).set)))) (fun _ => True) (fun _ ho => trivial) rfl (by decide +kernel) (by decide +kernel) (by decide +kernel) (wo 7 17 rfl rfl (bF hc22) rfl) rfl (fun wq => (zbd (args := [.agg (zau (((at_ m.spots (at_ m.first t18)).set) &&& ((at_ m.spots (at_ m.first t28)).set))).toArray]) ca53 rfl rfl)) (fun wq hq => (count_calls wq (((at_ m.spots (at_ m.first t18)).set) &&& ((at_ m.spots (at_ m.first t28)).set))).mono fun e w2 he => by obtain ⟨_, rfl, _, T, rfl, _⟩ := he; exact ⟨rfl, Chg.of_below T.below⟩) (zaf rfl) <| qd0 (i := 28) (v := .bool (decide ((zd0 (((at_ m.spots (at_ m.first t18)).set) &&& ((at_ m.spots (at_ m.first t28)).set))) = 0))) rfl (by decide +kernel) (wo 7 17 rfl rfl (bF hc22) rfl) rfl (x_eql rfl rfl) (zaf rfl) <| qd0 (i := 29) (v := .bool (decide ((zd0 (((at_ m.spots (at_ m.first t18)).set) &&& ((at_ m.spots (at_ m.first t28)).set))) = 0))) rfl (by decide +kernel) rfl rfl (zbq (bF hc22) rfl) (zaf rfl) <| zbw (by decide +kernel) ?_
   intro wd55 gd55
   have S56 := S47.keep gd55
   refine zal (p := (zd0 (((at_ m.spots (at_ m.first t18)).set) &&& ((at_ m.spots (at_ m.first t28)).set))) = 0) rfl (fun hc57 => ?_) (fun hc57 => ?_)
   ·skip
    refine zav Try.func48 (res0 rfl) ?_
    refine ⟨_, rfl, ?_⟩
    refine zaa <| zaj <| zac (l := [0, 1]) rfl <| p_v (v := .int .i64 (t28 + 1)) rfl rfl rfl (zbv r15_28 rfl (zai (by first|omega|(simp;omega)|assumption|simp) (by first|omega|(simp;omega)|assumption|simp))) <| p_v (v := .int .i64 (t28 + 1)) rfl rfl rfl (zad rfl) <| zaa ?_
    refine ih15 (p_52, b2, t28 + 1) _ _ (by dsimp only; omega) ⟨h15, v_p_52, le15, S56.sub [0, 1, 2, 3] (by decide) rfl _ rfl, r15_0, r15_3, r15_16, r15_17, r15_18, r15_26, r15_27, rfl, (zai (by first|omega|(simp;omega)|assumption|simp) (by first|omega|(simp;omega)|assumption|simp)), (by first | exact ⟨by omega, by omega, rw_old hI15.2.2 w_11 (by assumption)⟩ | exact ⟨by omega, by omega, rw_no hI15.2.2 w_11 (by assumption)⟩ | exact ⟨by omega, by omega, rw_put hI15.2.2 w_11 (by assumption) (Come.first (zbp hI12.1 (by omega)) (zbp hI15.1 (by omega)) (by assumption))⟩)⟩
   refine zao <| zab ?_
   have hf58 : (CFs ⟨b8, 6, none⟩ [.map (some b6)]).1 wd55 := (CF.box (m := 1) (S56.box_at (j := 2) rfl) rfl)
   have hf59 : (CFs ⟨b18, 0, none⟩ (zag ((at_ m.first t18, at_ m.first t28) : Int × Int))).1 wd55 := (CF.box (m := 2) (S56.box_at (j := 4) rfl) rfl)
   refine daS (hkC 3 hf58 (hkC 4 hf59 (hkN (w := wd55)))) 6 rfl zdt ?_
   intro wd60 gd60 hd60
   have S61 := S56.keep gd60
   have hf62 := spUp gd60 hf58
   have hf63 := spUp gd60 hf59
   refine qd0 (i := 0) (v := .pointer (some ⟨b8, 0, none⟩)) rfl (by decide +kernel) rfl rfl (zad rfl) (zaf rfl) <| qd0 (i := 1) (v := .pointer (some ⟨b8, 0, none⟩)) rfl (by decide +kernel) rfl rfl (za7 rfl) (zaf rfl) <| qd0 (i := 2) (v := .pointer (some ⟨b8, 6, none⟩)) rfl (by decide +kernel) rfl rfl (zak fd58_2 ty55 rfl rfl) (zaf rfl) <| qd1 0 (i := 3) (v := .map (some b6)) rfl rfl (by decide +kernel) rfl rfl (fun wq hq => (zah (seg := [.map (some b6)]) ty55 rfl (by simp) rfl hq)) (za0 hf62 (zaf rfl)) <| qd1 1 (i := 4) (v := .agg (zag ((at_ m.first t18, at_ m.first t28) : Int × Int)).toArray) rfl rfl (by decide +kernel) rfl rfl (fun wq hq => (zah (seg := (zag ((at_ m.first t18, at_ m.first t28) : Int × Int))) ty60 rfl (by simp) rfl hq)) (zaq rfl (za0 hf63 (zaf rfl))) <| zc7 (i := 5) (by decide +kernel) ?_
   intro wd64 gd64
   have S65 := S61.keep gd64
   have hf66 := spUp gd64 hf62
   have hf67 := spUp gd64 hf63
   obtain ⟨w68, r68, g68, T68⟩ := e_mapUpdate key60 S65 (j := 1) rfl u55 ((at_ m.first t18, at_ m.first t28) : Int × Int) 1
   have S69 := T68.fx 1 (amap (fun x : (Int × Int) => Value.agg (zag x).toArray) (fun x : Int => Value.int .i64 x) b6 (zcz ((at_ m.first t18, at_ m.first t28) : Int × Int) 1 b2)) rfl
   dsimp only [lAa, lAn, lA0, lAs] at S69
   have hf70 : (CFs ⟨b8, 6, none⟩ [.map (some b6)]).1 w68 := (CF.box (m := 1) (S69.box_at (j := 2) rfl) rfl)
   have hf71 : (CFs ⟨b18, 0, none⟩ (zag ((at_ m.first t18, at_ m.first t28) : Int × Int))).1 w68 := (CF.box (m := 2) (S69.box_at (j := 4) rfl) rfl)
   refine d_s rfl rfl (x_mapUpdate rfl rfl rfl r68) (.inr (zck (by decide +kernel) (zck (by decide +kernel) trivial))) <| zbw (by decide +kernel) ?_
   intro wd72 gd72
   have S73 := S69.keep gd72
   have hf74 : (CFs ⟨b8, 5, none⟩ [v_p_52]).1 wd72 := (CF.box (m := 1) (S73.box_at (j := 2) rfl) rfl)
   have hf75 : (CFs ⟨b18, 0, none⟩ (zag ((at_ m.first t18, at_ m.first t28) : Int × Int))).1 wd72 := (CF.box (m := 2) (S73.box_at (j := 4) rfl) rfl)
   refine daS (hkC 4 hf74 (hkC 5 hf75 (hkN (w := wd72)))) 11 rfl zdt ?_
   intro wd76 gd76 hd76
   have S77 := S73.keep gd76
   have hf78 := spUp gd76 hf74
   have hf79 := spUp gd76 hf75
   refine qd0 (i := 0) (v := .pointer (some ⟨b8, 0, none⟩)) rfl (by decide +kernel) rfl rfl (zad rfl) (zaf rfl) <| qd0 (i := 1) (v := .pointer (some ⟨b8, 0, none⟩)) rfl (by decide +kernel) rfl rfl (zad rfl) (zaf rfl) <| qd0 (i := 2) (v := .pointer (some ⟨b8, 0, none⟩)) rfl (by decide +kernel) rfl rfl (za7 rfl) (zaf rfl) <| qd0 (i := 3) (v := .pointer (some ⟨b8, 5, none⟩)) rfl (by decide +kernel) rfl rfl (zak fd58_1 ty56 rfl rfl) (zaf rfl) <| qd1 0 (i := 4) (v := v_p_52) rfl rfl (by decide +kernel) rfl rfl (fun wq hq => (zah (seg := [v_p_52]) ty56 rfl (by simp) rfl hq)) (za0 hf78 (zaf rfl)) <| qd1 1 (i := 5) (v := .agg (zag ((at_ m.first t18, at_ m.first t28) : Int × Int)).toArray) rfl rfl (by decide +kernel) rfl rfl (fun wq hq => (zah (seg := (zag ((at_ m.first t18, at_ m.first t28) : Int × Int))) ty60 rfl (by simp) rfl hq)) (zaq rfl (za0 hf79 (zaf rfl))) <| zc7 (i := 6) (by decide +kernel) ?_
   intro wd80 gd80
   have S81 := S77.keep gd80
   have hf82 := spUp gd80 hf78
   have hf83 := spUp gd80 hf79
   obtain ⟨v84, w84, r84, g84, T84⟩ := e_build_segs (kd := zb2) (xs := ([((at_ m.first t18, at_ m.first t28) : Int × Int)] : List (Int × Int))) (len := 1) (m := 2) [(.agg (zag ((at_ m.first t18, at_ m.first t28) : Int × Int)).toArray, (zag ((at_ m.first t18, at_ m.first t28) : Int × Int)))] S81 u56 ty60 rfl rfl rfl rfl (segs_cons rfl rfl segs_nil) (cs := (zag ((at_ m.first t18, at_ m.first t28) : Int × Int))) (zbu.single (k := zb2) (h := h15) (x := ((at_ m.first t18, at_ m.first t28) : Int × Int)) (cs := (zag ((at_ m.first t18, at_ m.first t28) : Int × Int))) ⟨rfl, (by first | assumption | exact ⟨zai (by decide) (by decide), zai (by decide) (by decide)⟩ | exact ⟨zai (by omega) (by omega), zai (by omega) (by omega)⟩)⟩) (by first | rfl | simp only [List.flatMap_cons, List.flatMap_nil, List.append_nil] | simp)
   have S85 := T84
   dsimp only [lAa, lAn, lA0, lAs] at S85
   have hf86 := spUp g84 hf82
   have hf87 := spUp g84 hf83
   refine d_v (v := v84) rfl rfl rfl (zaw (pv := [(0, .agg (zag ((at_ m.first t18, at_ m.first t28) : Int × Int)).toArray)]) rfl r84) (.inl g84) <| zc7 (i := 7) (by decide +kernel) ?_
   intro wd88 gd88
   have S89 := S85.keep gd88
   have hf90 := spUp gd88 hf86
   have hf91 := spUp gd88 hf87
   obtain ⟨A93, c93, ev93, lc93, cm93⟩ := S89.row_val (j := 5) rfl
   obtain ⟨v94, w94, r94, g94, T94⟩ := zdg (kd := zb2) (A := A93) (c := c93) (ys := ([((at_ m.first t18, at_ m.first t28) : Int × Int)] : List (Int × Int))) (len := ([((at_ m.first t18, at_ m.first t28) : Int × Int)] : List (Int × Int)).length) 56 S89 u56 ty60 rfl rfl (j := 3) rfl rfl (zdv S89 (j := 5) rfl ev93) (by first|omega|(simp;omega)|assumption|simp) (by first|omega|(simp;omega)|assumption|simp)
   have S95 := T94.fx 3 (row 60 zb2 v94 (p_52 ++ ([((at_ m.first t18, at_ m.first t28) : Int × Int)] : List (Int × Int)))) rfl
   dsimp only [lAa, lAn, lA0, lAs] at S95
   have hf96 : (CFs ⟨b8, 5, none⟩ [v_p_52]).1 w94 := (CF.box (m := 1) (S95.box_at (j := 2) rfl) rfl)
   have hf97 : (CFs ⟨b18, 0, none⟩ (zag ((at_ m.first t18, at_ m.first t28) : Int × Int))).1 w94 := (CF.box (m := 2) (S95.box_at (j := 4) rfl) rfl)
   refine d_v (v := v94) rfl rfl rfl (zde rfl ev93 r94) (.inr (zck (by decide +kernel) (keep_v hf97 trivial))) <| qd0 (i := 8) (v := .pointer (some ⟨b8, 0, none⟩)) rfl (by decide +kernel) rfl rfl (za7 rfl) (zaf rfl) <| qd0 (i := 9) (v := .pointer (some ⟨b8, 5, none⟩)) rfl (by decide +kernel) rfl rfl (zak fd58_1 ty56 rfl rfl) (zaf rfl) <| zc7 (i := 10) (by decide +kernel) ?_
   intro wd98 gd98
   have S99 := S95.keep gd98
   have hf100 := spUp gd98 hf96
   have hf101 := spUp gd98 hf97
   have oc103 := row_one S99 (j := 3) rfl
   obtain ⟨w102, r102, g102, T102⟩ := zb9 (P := Try.prog) (off := 5) (v := v94) (vs := [v94]) S99 ty56 (row_cells S99 (j := 3) rfl) rfl (j := 2) rfl (by first | decide | exact Nat.le_of_ble_eq_true rfl) (zdf oc103 one_nil)
   have S104 := T102.fx 2 (box b8 58 [.slice A0_0 m.spots.length c0_0, .slice A0_1 m.first.length c0_1, .slice A0_2 m.follow.length c0_2, .slice A0_3 m.last.length c0_3, .bool m.empty, v94, .map (some b6)]) rfl
   dsimp only [lAa, lAn, lA0, lAs] at S104
   have hf105 : (CFs ⟨b18, 0, none⟩ (zag ((at_ m.first t18, at_ m.first t28) : Int × Int))).1 w102 := (CF.box (m := 2) (S104.box_at (j := 4) rfl) rfl)
   refine d_s rfl rfl (zbt rfl rfl r102) (.inr (zck (by decide +kernel) (zck (by decide +kernel) trivial))) <| zbw (by decide +kernel) ?_
   intro wd106 gd106
   have S107 := S104.keep gd106
   refine run_end Try.func48 (res0 rfl) ?_
   refine ⟨_, rfl, ?_⟩
   refine zaa <| zaj <| zac (l := [0, 1]) rfl <| p_v (v := .int .i64 (t28 + 1)) rfl rfl rfl (zbv r15_28 rfl (zai (by first|omega|(simp;omega)|assumption|simp) (by first|omega|(simp;omega)|assumption|simp))) <| p_v (v := .int .i64 (t28 + 1)) rfl rfl rfl (zad rfl) <| zaa ?_
   refine ih15 (p_52 ++ ([((at_ m.first t18, at_ m.first t28) : Int × Int)] : List (Int × Int)), zcz ((at_ m.first t18, at_ m.first t28) : Int × Int) 1 b2, t28 + 1) _ _ (by dsimp only; omega) ⟨h15, v94, le15, S107.sub [0, 1, 2, 3] (by decide) rfl _ rfl, r15_0, r15_3, r15_16, r15_17, r15_18, r15_26, r15_27, rfl, (zai (by first|omega|(simp;omega)|assumption|simp) (by first|omega|(simp;omega)|assumption|simp)), (by first | exact ⟨by omega, by omega, rw_old hI15.2.2 w_11 (by assumption)⟩ | exact ⟨by omega, by omega, rw_no hI15.2.2 w_11 (by assumption)⟩ | exact ⟨by omega, by omega, rw_put hI15.2.2 w_11 (by assumption) (Come.first (zbp hI12.1 (by omega)) (zbp hI15.1 (by omega)) (by assumption))⟩)⟩
  refine za3 rfl <| zaj <| zac (l := [0, 1]) rfl <| p_v (v := .int .i64 (t18 + 1)) rfl rfl rfl (zbv r15_18 rfl (zai (by first|omega|(simp;omega)|assumption|simp) (by first|omega|(simp;omega)|assumption|simp))) <| p_v (v := .int .i64 (t18 + 1)) rfl rfl rfl (zad rfl) <| zaa ?_
  refine ih12 (p_52, b2, t18 + 1) _ _ (by dsimp only; omega) ⟨h15, v_p_52, ((le12).trans le15), S15.sub [0, 1, 2, 3] (by decide) rfl _ rfl, r15_0, r15_16, r15_17, rfl, (zai (by first|omega|(simp;omega)|assumption|simp) (by first|omega|(simp;omega)|assumption|simp)), (by exact ⟨by omega, by omega, rw_w hI15.2.2 (w_10 (by omega))⟩)⟩
 refine za3 rfl <| zab <| zac (l := [0]) rfl <| p_v (v := .int .i64 0) rfl rfl rfl (zae rfl) <| zaa <| zam <| za8 (S := (List (Int × Int)) × (List ((Int × Int) × Int)) × Int) (fun (q_ : (List (Int × Int)) × (List ((Int × Int) × Int)) × Int) ρ w' => match q_ with | (p_52, b2, i) => ∃ (h : Ghost) (v_p_52 : Value), Le h12 h ∧ St w.heap.size w h w' [box b1 27 [.slice A0_0 m.spots.length c0_0, .slice A0_1 m.first.length c0_1, .slice A0_2 m.follow.length c0_2, .slice A0_3 m.last.length c0_3, .bool m.empty], amap (fun x : (Int × Int) => Value.agg (zag x).toArray) (fun x : Int => Value.int .i64 x) b6 b2, box b8 58 [.slice A0_0 m.spots.length c0_0, .slice A0_1 m.first.length c0_1, .slice A0_2 m.follow.length c0_2, .slice A0_3 m.last.length c0_3, .bool m.empty, v_p_52, .map (some b6)], row 60 zb2 v_p_52 p_52] ∧ ρ 0 = .pointer (some ⟨b8, 0, none⟩) ∧ ρ 6 = .int .i64 i ∧ inK .i64 i ∧ (0 ≤ i ∧ i ≤ (p_52.length : Int) ∧ RW m [] p_52 b2 (W2 m p_52 i))) (fun q_ => match q_ with | (p_52, b2, i) => (62500 - i).toNat) (p_5, b, 0) ⟨h12, v_p_5, Le.refl _, S12.sub [0, 1, 2, 3] (by decide) rfl _ rfl, r12_0, rfl, (zai (by first|omega|(simp;omega)|assumption|simp) (by first|omega|(simp;omega)|assumption|simp)), (by exact ⟨by omega, by omega, rw_w hI12.2.2 (w_02 (by omega))⟩)⟩ ?_
 rintro ⟨p_52, b2, i⟩ ih108 ρ108 w108 ⟨h108, v_p_52, le108, S108, r108_0, r108_6, f108_0, hI108⟩
 have lf108_0 := za1 f108_0; have hf108_0 := za2 f108_0
 have rl108_3 := S108.row_le (j := 3) rfl; simp only [maxLen] at rl108_3
 have hle3_ := rw_len hR_ hI108.2.2
 have hxi_ : i < (p_52.length : Int) → (0 ≤ (at_ p_52 i).1 ∧ (at_ p_52 i).1 < (m.spots.length : Int)) ∧ 0 ≤ (at_ p_52 i).2 ∧ (at_ p_52 i).2 < (m.spots.length : Int) := fun h => come_in hR_ (hI108.2.2.come _ (zbp hI108.1 h))
 refine zab <| zab <| zac (l := [0, 1, 2, 3, 4, 5, 6]) rfl <| p_v (v := .int .i64 i) rfl rfl rfl (zad r108_6) <| p_v (v := .pointer (some ⟨b8, 0, none⟩)) rfl rfl rfl (zad r108_0) <| p_v (v := .pointer (some ⟨b8, 0, none⟩)) rfl rfl rfl (za7 rfl) <| p_v (v := .pointer (some ⟨b8, 5, none⟩)) rfl rfl rfl (zak fd58_1 ty56 rfl rfl) <| p_v (v := v_p_52) rfl rfl rfl (zah (seg := [v_p_52]) ty56 rfl (by simp) rfl (CF.box (m := 1) (S108.box_at (j := 2) rfl) rfl)) ?_
 have lb109 := S108.row_le (j := 3) rfl; simp only [maxLen] at lb109
 refine p_v (v := .int .i64 (p_52.length : Int)) rfl rfl rfl (zdo u56 rfl (zdu S108 (j := 3) rfl)) <| p_v (v := .bool (decide (i < (p_52.length : Int)))) rfl rfl rfl (zc2 rfl rfl) <| zaa ?_
 refine zal (p := i < (p_52.length : Int)) rfl (fun hc110 => ?_) (fun hc110 => ?_)
 ·skip
  refine zao <| zab <| zam <| zab <| zac (l := [0, 1, 2, 3, 4, 5, 6, 7, 8]) rfl <| p_v (v := .pointer (some ⟨b8, 0, none⟩)) rfl rfl rfl (zad r108_0) <| p_v (v := .pointer (some ⟨b8, 0, none⟩)) rfl rfl rfl (za7 rfl) <| p_v (v := .pointer (some ⟨b8, 5, none⟩)) rfl rfl rfl (zak fd58_1 ty56 rfl rfl) <| p_v (v := v_p_52) rfl rfl rfl (zah (seg := [v_p_52]) ty56 rfl (by simp) rfl (CF.box (m := 1) (S108.box_at (j := 2) rfl) rfl)) <| p_v (v := .int .i64 i) rfl rfl rfl (zad r108_6) ?_
  obtain ⟨ad111, a111, at111⟩ := zba (q := i) (m := 2) S108 (j := 3) rfl rfl (by first|omega|(simp;omega)|assumption|simp) (by first|omega|(simp;omega)|assumption|simp)
  refine p_v (v := .pointer (some ad111)) rfl rfl rfl (za9 u56 ty60 rfl rfl a111 (by first|omega|(simp;omega)|assumption|simp) (by first|omega|(simp;omega)|assumption|simp)) ?_
  obtain ⟨seg112, rp112, cf112⟩ := zbo (q := i) S108 (j := 3) rfl rfl at111 (by first|omega|(simp;omega)|assumption|simp) (by first|omega|(simp;omega)|assumption|simp)
  obtain ⟨rfl, ok112⟩ := rp112
  have palok112 := za1 ok112.1; have pahok112 := za2 ok112.1; have pblok112 := za1 ok112.2; have pbhok112 := za2 ok112.2
  refine p_v (v := .agg (zag (at_ p_52 i)).toArray) rfl rfl rfl (zah (seg := (zag (at_ p_52 i))) ty60 rfl (by simp) rfl cf112) ?_
  obtain ⟨b113, w113, r113, g113, T113⟩ := zc0 (P := Try.prog) S108 60 (v := (.agg #[.int .i64 0, .int .i64 0])) (zag ((0, 0) : Int × Int)) rfl
  have S114 := T113
  dsimp only [lAa, lAn, lA0, lAs] at S114
  refine p_v (v := .pointer (some ⟨b113, 0, none⟩)) rfl rfl rfl (zcs ty60 r113) ?_
  obtain ⟨w115, r115, g115, T115⟩ := zb9 (P := Try.prog) (off := 0) (v := .agg (zag (at_ p_52 i)).toArray) (vs := (zag (at_ p_52 i))) S114 ty60 rfl rfl (j := 4) rfl (by first | decide | exact Nat.le_of_ble_eq_true rfl) (zdb _)
  have S116 := T115.fx 4 (box b113 60 (zag (at_ p_52 i))) rfl
  dsimp only [lAa, lAn, lA0, lAs] at S116
  refine p_s rfl rfl (zbt rfl rfl r115) <| zaa <| zab ?_
  obtain ⟨ad117, seg117, a117, rp117, ce117⟩ := zap (q := (at_ p_52 i).1) (m := 1) l0_2 rfl (by first|omega|(simp;omega)|assumption|simp) (by first|omega|(simp;omega)|assumption|simp)
  obtain ⟨A117, c117, rfl, lc117, cm117, ld117⟩ := rp117
  have cn117 := cm117; simp only [maxLen] at cn117
  have hf118 : (CFs ⟨b8, 2, none⟩ [.slice A0_2 m.follow.length c0_2]).1 w115 := (CF.box (m := 1) (S116.box_at (j := 2) rfl) rfl)
  have hf119 : (CFs ⟨b113, 0, none⟩ [.int .i64 ((at_ p_52 i).1)]).1 w115 := (CF.box (m := 1) (S116.box_at (j := 4) rfl) rfl)
  have hf120 : (CFs ad117 [.slice A117 (at_ m.follow ((at_ p_52 i).1)).length c117]).1 w115 := (CF.ghost ce117 (St.le0 S116))
  refine daS (hkC 4 hf118 (hkC 6 hf119 (hkC 8 hf120 (hkN (w := w115))))) 11 rfl zdt ?_
  intro wd121 gd121 hd121
  have S122 := S116.keep gd121
  have hf123 := spUp gd121 hf118
  have hf124 := spUp gd121 hf119
  have hf125 := spUp gd121 hf120
  refine qd0 (i := 0) (v := .pointer (some ⟨b8, 0, none⟩)) rfl (by decide +kernel) rfl rfl (zad r108_0) (zaf rfl) <| qd0 (i := 1) (v := .pointer (some ⟨b8, 0, none⟩)) rfl (by decide +kernel) rfl rfl (za7 rfl) (zaf rfl) <| qd0 (i := 2) (v := .pointer (some ⟨b8, 0, none⟩)) rfl (by decide +kernel) rfl rfl (zak fd58_0 ty27 rfl rfl) (zaf rfl) <| qd0 (i := 3) (v := .pointer (some ⟨b8, 2, none⟩)) rfl (by decide +kernel) rfl rfl (zak fd27_2 ty24 rfl rfl) (zaf rfl) <| qd1 0 (i := 4) (v := .slice A0_2 m.follow.length c0_2) rfl rfl (by decide +kernel) rfl rfl (fun wq hq => (zah (seg := [.slice A0_2 m.follow.length c0_2]) ty24 rfl (by simp) rfl hq)) (za0 hf123 (zaf rfl)) <| qd0 (i := 5) (v := .pointer (some ⟨b113, 0, none⟩)) rfl (by decide +kernel) rfl rfl (za5 (off := 0) (q := (0 : Int)) u60 ty3 rfl rfl (by decide) (by decide)) (zaf rfl) <| qd1 1 (i := 6) (v := .int .i64 ((at_ p_52 i).1)) rfl rfl (by decide +kernel) rfl rfl (fun wq hq => (zah (seg := [.int .i64 ((at_ p_52 i).1)]) ty3 rfl (by simp) rfl hq)) (zaq rfl (za0 hf124 (zaf rfl))) <| qd0 (i := 7) (v := .pointer (some ad117)) rfl (by decide +kernel) rfl rfl (zan u24 ty23 rfl rfl a117 (by first|omega|(simp;omega)|assumption|simp) (by first|omega|(simp;omega)|assumption|simp)) (zaf rfl) <| qd1 2 (i := 8) (v := .slice A117 (at_ m.follow ((at_ p_52 i).1)).length c117) rfl rfl (by decide +kernel) rfl rfl (fun wq hq => (zah (seg := [.slice A117 (at_ m.follow ((at_ p_52 i).1)).length c117]) ty23 rfl (by simp) rfl hq)) (zaq rfl (zaq rfl (za0 hf125 (zaf rfl)))) <| qd0 (i := 9) (v := .int .i64 ((at_ m.follow ((at_ p_52 i).1)).length : Int)) rfl (by decide +kernel) rfl rfl (zar u23 rfl) (zaf rfl) <| qd0 (i := 10) (v := .int .i64 0) rfl (by decide +kernel) rfl rfl (zad rfl) (zaf rfl) <| zbw (by decide +kernel) ?_
  intro wd126 gd126
  have S127 := S122.keep gd126
  refine zam <| za8 (S := (List (Int × Int)) × (List ((Int × Int) × Int)) × Int) (fun (q_ : (List (Int × Int)) × (List ((Int × Int) × Int)) × Int) ρ w' => match q_ with | (p_53, b3, t64) => ∃ (h : Ghost) (v_p_53 : Value), Le h108 h ∧ St w.heap.size w h w' [box b1 27 [.slice A0_0 m.spots.length c0_0, .slice A0_1 m.first.length c0_1, .slice A0_2 m.follow.length c0_2, .slice A0_3 m.last.length c0_3, .bool m.empty], amap (fun x : (Int × Int) => Value.agg (zag x).toArray) (fun x : Int => Value.int .i64 x) b6 b3, box b8 58 [.slice A0_0 m.spots.length c0_0, .slice A0_1 m.first.length c0_1, .slice A0_2 m.follow.length c0_2, .slice A0_3 m.last.length c0_3, .bool m.empty, v_p_53, .map (some b6)], row 60 zb2 v_p_53 p_53, box b113 60 (zag (at_ p_52 i))] ∧ ρ 0 = .pointer (some ⟨b8, 0, none⟩) ∧ ρ 6 = .int .i64 i ∧ ρ 7 = .pointer (some ⟨b113, 0, none⟩) ∧ ρ 62 = .slice A117 (at_ m.follow ((at_ p_52 i).1)).length c117 ∧ ρ 63 = .int .i64 ((at_ m.follow ((at_ p_52 i).1)).length : Int) ∧ ρ 64 = .int .i64 t64 ∧ inK .i64 t64 ∧ (0 ≤ t64 ∧ t64 ≤ ((at_ m.follow (at_ p_52 i).1).length : Int) ∧ RW m p_52 p_53 b3 (W3 m p_52 i t64))) (fun q_ => match q_ with | (p_53, b3, t64) => ((at_ m.follow (at_ p_52 i).1).length - t64).toNat) (p_52, b2, 0) ⟨h108, v_p_52, Le.refl _, S127.sub [0, 1, 2, 3, 4] (by decide) rfl _ rfl, r108_0, r108_6, rfl, rfl, rfl, rfl, (zai (by first|omega|(simp;omega)|assumption|simp) (by first|omega|(simp;omega)|assumption|simp)), (by exact ⟨by omega, by omega, rw_w (rw_in hI108.2.2) w_23⟩)⟩ ?_
  rintro ⟨p_53, b3, t64⟩ ih128 ρ128 w128 ⟨h128, v_p_53, le128, S128, r128_0, r128_6, r128_7, r128_62, r128_63, r128_64, f128_0, hI128⟩
  have lf128_0 := za1 f128_0; have hf128_0 := za2 f128_0
  have rl128_3 := S128.row_le (j := 3) rfl; simp only [maxLen] at rl128_3
  have hle4_ := rw_len hR_ hI128.2.2; have hge_ := rw_ge hI128.2.2
  have ha_ : t64 < ((at_ m.follow (at_ p_52 i).1).length : Int) → 0 ≤ at_ (at_ m.follow (at_ p_52 i).1) t64 ∧ at_ (at_ m.follow (at_ p_52 i).1) t64 < (m.spots.length : Int) := fun h => hR_.rows (hxi_ (by omega)).1.1 (hxi_ (by omega)).1.2 _ (zbp hI128.1 h)
  refine zab <| zac (l := [0]) rfl <| p_v (v := .bool (decide (t64 < ((at_ m.follow ((at_ p_52 i).1)).length : Int)))) rfl rfl rfl (zc2 r128_64 r128_63) <| zaa <| zab ?_
  refine zal (p := t64 < ((at_ m.follow ((at_ p_52 i).1)).length : Int)) rfl (fun hc129 => ?_) (fun hc129 => ?_)
  ·skip
   refine zao <| zab <| zam <| zab <| zac (l := [0, 1, 2]) rfl ?_
   obtain ⟨ad130, seg130, a130, rp130, ce130⟩ := zap (q := t64) (m := 1) ld117 rfl (by first|omega|(simp;omega)|assumption|simp) (by first|omega|(simp;omega)|assumption|simp)
   refine p_v (v := .pointer (some ad130)) rfl rfl rfl (zan u23 ty3 r128_62 r128_64 a130 (by first|omega|(simp;omega)|assumption|simp) (by first|omega|(simp;omega)|assumption|simp)) ?_
   obtain ⟨rfl, in130⟩ := rp130
   have lo130 := za1 in130; have hi130 := za2 in130
   refine p_v (v := .int .i64 (at_ (at_ m.follow ((at_ p_52 i).1)) t64)) rfl rfl rfl (zah (seg := [.int .i64 (at_ (at_ m.follow ((at_ p_52 i).1)) t64)]) ty3 rfl (by simp) rfl (CF.ghost ce130 (St.le0 S128))) <| p_v (v := .int .i64 (at_ (at_ m.follow ((at_ p_52 i).1)) t64)) rfl rfl rfl (zae rfl) <| zaa <| zab ?_
   obtain ⟨ad131, seg131, a131, rp131, ce131⟩ := zap (q := (at_ p_52 i).2) (m := 1) l0_2 rfl (by first|omega|(simp;omega)|assumption|simp) (by first|omega|(simp;omega)|assumption|simp)
   obtain ⟨A131, c131, rfl, lc131, cm131, ld131⟩ := rp131
   have cn131 := cm131; simp only [maxLen] at cn131
   have hf132 : (CFs ⟨b8, 2, none⟩ [.slice A0_2 m.follow.length c0_2]).1 w128 := (CF.box (m := 1) (S128.box_at (j := 2) rfl) rfl)
   have hf133 : (CFs ⟨b113, 1, none⟩ [.int .i64 ((at_ p_52 i).2)]).1 w128 := (CF.box (m := 1) (S128.box_at (j := 4) rfl) rfl)
   have hf134 : (CFs ad131 [.slice A131 (at_ m.follow ((at_ p_52 i).2)).length c131]).1 w128 := (CF.ghost ce131 (St.le0 S128))
   refine daS (hkC 4 hf132 (hkC 6 hf133 (hkC 8 hf134 (hkN (w := w128))))) 11 rfl zdt ?_
   intro wd135 gd135 hd135
   have S136 := S128.keep gd135
   have hf137 := spUp gd135 hf132
   have hf138 := spUp gd135 hf133
   have hf139 := spUp gd135 hf134
   refine qd0 (i := 0) (v := .pointer (some ⟨b8, 0, none⟩)) rfl (by decide +kernel) rfl rfl (zad r128_0) (zaf rfl) <| qd0 (i := 1) (v := .pointer (some ⟨b8, 0, none⟩)) rfl (by decide +kernel) rfl rfl (za7 rfl) (zaf rfl) <| qd0 (i := 2) (v := .pointer (some ⟨b8, 0, none⟩)) rfl (by decide +kernel) rfl rfl (zak fd58_0 ty27 rfl rfl) (zaf rfl) <| qd0 (i := 3) (v := .pointer (some ⟨b8, 2, none⟩)) rfl (by decide +kernel) rfl rfl (zak fd27_2 ty24 rfl rfl) (zaf rfl) <| qd1 0 (i := 4) (v := .slice A0_2 m.follow.length c0_2) rfl rfl (by decide +kernel) rfl rfl (fun wq hq => (zah (seg := [.slice A0_2 m.follow.length c0_2]) ty24 rfl (by simp) rfl hq)) (za0 hf137 (zaf rfl)) <| qd0 (i := 5) (v := .pointer (some ⟨b113, 1, none⟩)) rfl (by decide +kernel) rfl rfl (za5 (off := 0) (q := (1 : Int)) u60 ty3 r128_7 rfl (by decide) (by decide)) (zaf rfl) <| qd1 1 (i := 6) (v := .int .i64 ((at_ p_52 i).2)) rfl rfl (by decide +kernel) rfl rfl (fun wq hq => (zah (seg := [.int .i64 ((at_ p_52 i).2)]) ty3 rfl (by simp) rfl hq)) (zaq rfl (za0 hf138 (zaf rfl))) <| qd0 (i := 7) (v := .pointer (some ad131)) rfl (by decide +kernel) rfl rfl (zan u24 ty23 rfl rfl a131 (by first|omega|(simp;omega)|assumption|simp) (by first|omega|(simp;omega)|assumption|simp)) (zaf rfl) <| qd1 2 (i := 8) (v := .slice A131 (at_ m.follow ((at_ p_52 i).2)).length c131) rfl rfl (by decide +kernel) rfl rfl (fun wq hq => (zah (seg := [.slice A131 (at_ m.follow ((at_ p_52 i).2)).length c131]) ty23 rfl (by simp) rfl hq)) (zaq rfl (zaq rfl (za0 hf139 (zaf rfl)))) <| qd0 (i := 9) (v := .int .i64 ((at_ m.follow ((at_ p_52 i).2)).length : Int)) rfl (by decide +kernel) rfl rfl (zar u23 rfl) (zaf rfl) <| qd0 (i := 10) (v := .int .i64 0) rfl (by decide +kernel) rfl rfl (zad rfl) (zaf rfl) <| zbw (by decide +kernel) ?_
   intro wd140 gd140
   have S141 := S136.keep gd140
   refine zam <| za8 (S := (List (Int × Int)) × (List ((Int × Int) × Int)) × Int) (fun (q_ : (List (Int × Int)) × (List ((Int × Int) × Int)) × Int) ρ w' => match q_ with | (p_54, b4, t78) => ∃ (h : Ghost) (v_p_54 : Value), Le h128 h ∧ St w.heap.size w h w' [box b1 27 [.slice A0_0 m.spots.length c0_0, .slice A0_1 m.first.length c0_1, .slice A0_2 m.follow.length c0_2, .slice A0_3 m.last.length c0_3, .bool m.empty], amap (fun x : (Int × Int) => Value.agg (zag x).toArray) (fun x : Int => Value.int .i64 x) b6 b4, box b8 58 [.slice A0_0 m.spots.length c0_0, .slice A0_1 m.first.length c0_1, .slice A0_2 m.follow.length c0_2, .slice A0_3 m.last.length c0_3, .bool m.empty, v_p_54, .map (some b6)], row 60 zb2 v_p_54 p_54, box b113 60 (zag (at_ p_52 i))] ∧ ρ 0 = .pointer (some ⟨b8, 0, none⟩) ∧ ρ 6 = .int .i64 i ∧ ρ 7 = .pointer (some ⟨b113, 0, none⟩) ∧ ρ 9 = .int .i64 (at_ (at_ m.follow ((at_ p_52 i).1)) t64) ∧ ρ 62 = .slice A117 (at_ m.follow ((at_ p_52 i).1)).length c117 ∧ ρ 63 = .int .i64 ((at_ m.follow ((at_ p_52 i).1)).length : Int) ∧ ρ 64 = .int .i64 t64 ∧ ρ 76 = .slice A131 (at_ m.follow ((at_ p_52 i).2)).length c131 ∧ ρ 77 = .int .i64 ((at_ m.follow ((at_ p_52 i).2)).length : Int) ∧ ρ 78 = .int .i64 t78 ∧ inK .i64 t78 ∧ (0 ≤ t78 ∧ t78 ≤ ((at_ m.follow (at_ p_52 i).2).length : Int) ∧ RW m p_52 p_54 b4 (W4 m p_52 i t64 t78))) (fun q_ => match q_ with | (p_54, b4, t78) => ((at_ m.follow (at_ p_52 i).2).length - t78).toNat) (p_53, b3, 0) ⟨h128, v_p_53, Le.refl _, S141.sub [0, 1, 2, 3, 4] (by decide) rfl _ rfl, r128_0, r128_6, r128_7, rfl, r128_62, r128_63, r128_64, rfl, rfl, rfl, (zai (by first|omega|(simp;omega)|assumption|simp) (by first|omega|(simp;omega)|assumption|simp)), (by exact ⟨by omega, by omega, rw_w hI128.2.2 w_34⟩)⟩ ?_
   rintro ⟨p_54, b4, t78⟩ ih142 ρ142 w142 ⟨h142, v_p_54, le142, S142, r142_0, r142_6, r142_7, r142_9, r142_62, r142_63, r142_64, r142_76, r142_77, r142_78, f142_0, hI142⟩
   have lf142_0 := za1 f142_0; have hf142_0 := za2 f142_0
   have rl142_3 := S142.row_le (j := 3) rfl; simp only [maxLen] at rl142_3
   have hle5_ := rw_len hR_ hI142.2.2; have hge5_ := rw_ge hI142.2.2
   have hb_ : t78 < ((at_ m.follow (at_ p_52 i).2).length : Int) → 0 ≤ at_ (at_ m.follow (at_ p_52 i).2) t78 ∧ at_ (at_ m.follow (at_ p_52 i).2) t78 < (m.spots.length : Int) := fun h => hR_.rows (hxi_ (by omega)).2.1 (hxi_ (by omega)).2.2 _ (zbp hI142.1 h)
   refine zab <| zac (l := [0]) rfl <| p_v (v := .bool (decide (t78 < ((at_ m.follow ((at_ p_52 i).2)).length : Int)))) rfl rfl rfl (zc2 r142_78 r142_77) <| zaa <| zab ?_
   refine zal (p := t78 < ((at_ m.follow ((at_ p_52 i).2)).length : Int)) rfl (fun hc143 => ?_) (fun hc143 => ?_)
   ·skip
    refine zao <| zab <| zam <| zab <| zac (l := [0, 1, 2]) rfl ?_
    obtain ⟨ad144, seg144, a144, rp144, ce144⟩ := zap (q := t78) (m := 1) ld131 rfl (by first|omega|(simp;omega)|assumption|simp) (by first|omega|(simp;omega)|assumption|simp)
    refine p_v (v := .pointer (some ad144)) rfl rfl rfl (zan u23 ty3 r142_76 r142_78 a144 (by first|omega|(simp;omega)|assumption|simp) (by first|omega|(simp;omega)|assumption|simp)) ?_
    obtain ⟨rfl, in144⟩ := rp144
    have lo144 := za1 in144; have hi144 := za2 in144
    refine p_v (v := .int .i64 (at_ (at_ m.follow ((at_ p_52 i).2)) t78)) rfl rfl rfl (zah (seg := [.int .i64 (at_ (at_ m.follow ((at_ p_52 i).2)) t78)]) ty3 rfl (by simp) rfl (CF.ghost ce144 (St.le0 S142))) <| p_v (v := .int .i64 (at_ (at_ m.follow ((at_ p_52 i).2)) t78)) rfl rfl rfl (zae rfl) <| zaa <| zac (l := [0, 1, 2, 3]) rfl <| p_v (v := .pointer (some ⟨b8, 0, none⟩)) rfl rfl rfl (zad r142_0) <| p_v (v := .int .i64 (at_ (at_ m.follow ((at_ p_52 i).1)) t64)) rfl rfl rfl (zad r142_9) <| p_v (v := .int .i64 (at_ (at_ m.follow ((at_ p_52 i).2)) t78)) rfl rfl rfl (zad rfl) ?_
    refine p_i rfl rfl rfl (zbd (args := [.pointer (some ⟨b8, 0, none⟩), .int .i64 (at_ (at_ m.follow ((at_ p_52 i).1)) t64), .int .i64 (at_ (at_ m.follow ((at_ p_52 i).2)) t78)]) ca48 rfl rfl) (zas Try.func48 rfl Try.ntmps48 rfl ?_)
    refine zab <| zac (l := [0, 1, 2, 3, 4]) rfl <| p_v (v := .int .i64 (at_ (at_ m.follow ((at_ p_52 i).1)) t64)) rfl rfl rfl (zad rfl) <| p_v (v := .int .i64 (at_ (at_ m.follow ((at_ p_52 i).2)) t78)) rfl rfl rfl (zad rfl) <| p_v (v := .agg (zag ((at_ (at_ m.follow ((at_ p_52 i).1)) t64, at_ (at_ m.follow ((at_ p_52 i).2)) t78) : Int × Int)).toArray) rfl rfl rfl (y_build (pv := [(0, .int .i64 (at_ (at_ m.follow ((at_ p_52 i).1)) t64)), (1, .int .i64 (at_ (at_ m.follow ((at_ p_52 i).2)) t78))]) rfl (run_build_array u60 ty3 ty60 (cs := (zag ((at_ (at_ m.follow ((at_ p_52 i).1)) t64, at_ (at_ m.follow ((at_ p_52 i).2)) t78) : Int × Int))) (by rfl))) ?_
    obtain ⟨b145, w145, r145, g145, T145⟩ := zc0 (P := Try.prog) S142 60 (v := (.agg #[.int .i64 0, .int .i64 0])) (zag ((0, 0) : Int × Int)) rfl
    have S146 := T145
    dsimp only [lAa, lAn, lA0, lAs] at S146
    refine p_v (v := .pointer (some ⟨b145, 0, none⟩)) rfl rfl rfl (zcs ty60 r145) ?_
    obtain ⟨w147, r147, g147, T147⟩ := zb9 (P := Try.prog) (off := 0) (v := .agg (zag ((at_ (at_ m.follow ((at_ p_52 i).1)) t64, at_ (at_ m.follow ((at_ p_52 i).2)) t78) : Int × Int)).toArray) (vs := (zag ((at_ (at_ m.follow ((at_ p_52 i).1)) t64, at_ (at_ m.follow ((at_ p_52 i).2)) t78) : Int × Int))) S146 ty60 rfl rfl (j := 5) rfl (by first | decide | exact Nat.le_of_ble_eq_true rfl) (zdb _)
    have S148 := T147.fx 5 (box b145 60 (zag ((at_ (at_ m.follow ((at_ p_52 i).1)) t64, at_ (at_ m.follow ((at_ p_52 i).2)) t78) : Int × Int))) rfl
    dsimp only [lAa, lAn, lA0, lAs] at S148
    refine p_s rfl rfl (zbt rfl rfl r147) <| zaa <| zab <| zab ?_
    by_cases hc149 : 0 < ((zbc ((at_ (at_ m.follow ((at_ p_52 i).1)) t64, at_ (at_ m.follow ((at_ p_52 i).2)) t78) : Int × Int) b4).getD 0)
    ·skip
     have hf150 : (CFs ⟨b8, 6, none⟩ [.map (some b6)]).1 w147 := (CF.box (m := 1) (S148.box_at (j := 2) rfl) rfl)
     have hf151 : (CFs ⟨b145, 0, none⟩ (zag ((at_ (at_ m.follow ((at_ p_52 i).1)) t64, at_ (at_ m.follow ((at_ p_52 i).2)) t78) : Int × Int))).1 w147 := (CF.box (m := 2) (S148.box_at (j := 5) rfl) rfl)
     have hf152 : (MapHs (fun x : (Int × Int) => Value.agg (zag x).toArray) (fun x : Int => Value.int .i64 x) b6 b4).1 w147 := (S148.map_at (j := 1) rfl)
     refine daS (hkC 3 hf150 (hkC 4 hf151 (hkC 5 hf152 (hkN (w := w147))))) 30 rfl zdt ?_
     intro wd153 gd153 hd153
     have S154 := S148.keep gd153
     have hf155 := spUp gd153 hf150
     have hf156 := spUp gd153 hf151
     have hf157 := spUp gd153 hf152
     refine qd0 (i := 0) (v := .pointer (some ⟨b8, 0, none⟩)) rfl (by decide +kernel) rfl rfl (zad rfl) (zaf rfl) <| qd0 (i := 1) (v := .pointer (some ⟨b8, 0, none⟩)) rfl (by decide +kernel) rfl rfl (za7 rfl) (zaf rfl) <| qd0 (i := 2) (v := .pointer (some ⟨b8, 6, none⟩)) rfl (by decide +kernel) rfl rfl (zak fd58_2 ty55 rfl rfl) (zaf rfl) <| qd1 0 (i := 3) (v := .map (some b6)) rfl rfl (by decide +kernel) rfl rfl (fun wq hq => (zah (seg := [.map (some b6)]) ty55 rfl (by simp) rfl hq)) (za0 hf155 (zaf rfl)) <| qd1 1 (i := 4) (v := .agg (zag ((at_ (at_ m.follow ((at_ p_52 i).1)) t64, at_ (at_ m.follow ((at_ p_52 i).2)) t78) : Int × Int)).toArray) rfl rfl (by decide +kernel) rfl rfl (fun wq hq => (zah (seg := (zag ((at_ (at_ m.follow ((at_ p_52 i).1)) t64, at_ (at_ m.follow ((at_ p_52 i).2)) t78) : Int × Int))) ty60 rfl (by simp) rfl hq)) (zaq rfl (za0 hf156 (zaf rfl))) <| qdn (i := 5) (v := .int .i64 ((zbc ((at_ (at_ m.follow ((at_ p_52 i).1)) t64, at_ (at_ m.follow ((at_ p_52 i).2)) t78) : Int × Int) b4).getD 0)) (fun wf => MapH (fun x : (Int × Int) => Value.agg (zag x).toArray) (fun x : Int => Value.int .i64 x) b6 b4 wf) (fun _ ho => ho _ (List.mem_of_getElem? (i := 2) rfl) rfl) rfl (by decide +kernel) rfl rfl (fun wq hq => (x_lookup (a := .map (some b6)) (k := .agg (zag ((at_ (at_ m.follow ((at_ p_52 i).1)) t64, at_ (at_ m.follow ((at_ p_52 i).2)) t78) : Int × Int)).toArray) rfl rfl (e_lookup_hf (kvs := b4) key60 hq u55 (zcn ty3) 0 ((at_ (at_ m.follow ((at_ p_52 i).1)) t64, at_ (at_ m.follow ((at_ p_52 i).2)) t78) : Int × Int)))) (zaq rfl (zaq rfl (za0 hf157 (zaf rfl)))) <| qd0 (i := 6) (v := .bool (decide (0 < ((zbc ((at_ (at_ m.follow ((at_ p_52 i).1)) t64, at_ (at_ m.follow ((at_ p_52 i).2)) t78) : Int × Int) b4).getD 0)))) rfl (by decide +kernel) rfl rfl (x_gtr rfl rfl) (zaf rfl) <| qd0 (i := 7) (v := .bool (decide (0 < ((zbc ((at_ (at_ m.follow ((at_ p_52 i).1)) t64, at_ (at_ m.follow ((at_ p_52 i).2)) t78) : Int × Int) b4).getD 0)))) rfl (by decide +kernel) rfl rfl (zad rfl) (zaf rfl) <| zce (i := 8) rfl (by decide +kernel) (by decide +kernel) (by decide +kernel) (wo 7 17 rfl rfl (bT hc149) rfl) rfl (zaf rfl) <| zce (i := 9) rfl (by decide +kernel) (by decide +kernel) (by decide +kernel) (wo 7 17 rfl rfl (bT hc149) rfl) rfl (zaf rfl) <| zce (i := 10) rfl (by decide +kernel) (by decide +kernel) (by decide +kernel) (wo 7 17 rfl rfl (bT hc149) rfl) rfl (zaf rfl) <| zce (i := 11) rfl (by decide +kernel) (by decide +kernel) (by decide +kernel) (wo 7 17 rfl rfl (bT hc149) rfl) rfl (zaf rfl) ?_
     refine zce (i := 12) rfl (by decide +kernel) (by decide +kernel) (by decide +kernel) (wo 7 17 rfl rfl (bT hc149) rfl) rfl (zaf rfl) <| zce (i := 13) rfl (by decide +kernel) (by decide +kernel) (by decide +kernel) (wo 7 17 rfl rfl (bT hc149) rfl) rfl (zaf rfl) <| zce (i := 14) rfl (by decide +kernel) (by decide +kernel) (by decide +kernel) (wo 7 17 rfl rfl (bT hc149) rfl) rfl (zaf rfl) <| zce (i := 15) rfl (by decide +kernel) (by decide +kernel) (by decide +kernel) (wo 7 17 rfl rfl (bT hc149) rfl) rfl (zaf rfl) <| zce (i := 16) rfl (by decide +kernel) (by decide +kernel) (by decide +kernel) (wo 7 17 rfl rfl (bT hc149) rfl) rfl (zaf rfl) <| zce (i := 17) rfl (by decide +kernel) (by decide +kernel) (by decide +kernel) (wo 7 17 rfl rfl (bT hc149) rfl) rfl (zaf rfl) <| zce (i := 18) rfl (by decide +kernel) (by decide +kernel) (by decide +kernel) (wo 7 17 rfl rfl (bT hc149) rfl) rfl (zaf rfl) <| zce (i := 19) rfl (by decide +kernel) (by decide +kernel) (by decide +kernel) (wo 7 17 rfl rfl (bT hc149) rfl) rfl (zaf rfl) <| zce (i := 20) rfl (by decide +kernel) (by decide +kernel) (by decide +kernel) (wo 7 17 rfl rfl (bT hc149) rfl) rfl (zaf rfl) <| zce (i := 21) rfl (by decide +kernel) (by decide +kernel) (by decide +kernel) (wo 7 17 rfl rfl (bT hc149) rfl) rfl (zaf rfl) <| zce (i := 22) rfl (by decide +kernel) (by decide +kernel) (by decide +kernel) (wo 7 17 rfl rfl (bT hc149) rfl) rfl (zaf rfl) <| zce (i := 23) rfl (by decide +kernel) (by decide +kernel) (by decide +kernel) (wo 7 17 rfl rfl (bT hc149) rfl) rfl (zaf rfl) ?_
     refine zce (i := 24) rfl (by decide +kernel) (by decide +kernel) (by decide +kernel) (wo 7 17 rfl rfl (bT hc149) rfl) rfl (zaf rfl) <| zce (i := 25) rfl (by decide +kernel) (by decide +kernel) (by decide +kernel) (wo 7 17 rfl rfl (bT hc149) rfl) rfl (zaf rfl) <| zce (i := 26) rfl (by decide +kernel) (by decide +kernel) (by decide +kernel) (wo 7 17 rfl rfl (bT hc149) rfl) rfl (zaf rfl) <| zce (i := 27) rfl (by decide +kernel) (by decide +kernel) (by decide +kernel) (wo 7 17 rfl rfl (bT hc149) rfl) rfl (zaf rfl) <| zce (i := 28) rfl (by decide +kernel) (by decide +kernel) (by decide +kernel) (wo 7 17 rfl rfl (bT hc149) rfl) rfl (zaf rfl) <| qd0 (i := 29) (v := .bool true) rfl (by decide +kernel) rfl rfl (zbf (bT hc149) rfl) (zaf rfl) <| zbw (by decide +kernel) ?_
     intro wd158 gd158
     have S159 := S154.keep gd158
     refine zbh (b := true) rfl ?_
     simp only [if_true, if_false, Bool.false_eq_true]
     refine zav Try.func48 (res0 rfl) ?_
     refine ⟨_, rfl, ?_⟩
     refine zaa <| zaj <| zac (l := [0, 1]) rfl <| p_v (v := .int .i64 (t78 + 1)) rfl rfl rfl (zbv r142_78 rfl (zai (by first|omega|(simp;omega)|assumption|simp) (by first|omega|(simp;omega)|assumption|simp))) <| p_v (v := .int .i64 (t78 + 1)) rfl rfl rfl (zad rfl) <| zaa ?_
     refine ih142 (p_54, b4, t78 + 1) _ _ (by dsimp only; omega) ⟨h142, v_p_54, le142, S159.sub [0, 1, 2, 3, 4] (by decide) rfl _ rfl, r142_0, r142_6, r142_7, r142_9, r142_62, r142_63, r142_64, r142_76, r142_77, rfl, (zai (by first|omega|(simp;omega)|assumption|simp) (by first|omega|(simp;omega)|assumption|simp)), (by first | exact ⟨by omega, by omega, rw_old hI142.2.2 w_44 (by assumption)⟩ | exact ⟨by omega, by omega, rw_no hI142.2.2 w_44 (by assumption)⟩ | exact ⟨by omega, by omega, rw_put hI142.2.2 w_44 (by assumption) (Come.next (hI108.2.2.come _ (zbp hI108.1 (by omega))) ⟨zbp hI128.1 (by omega), zbp hI142.1 (by omega)⟩ (by assumption))⟩)⟩
    obtain ⟨ad160, seg160, a160, rp160, ce160⟩ := zap (q := at_ (at_ m.follow ((at_ p_52 i).1)) t64) (m := 5) l0_0 rfl (by first|omega|(simp;omega)|assumption|simp) (by first|omega|(simp;omega)|assumption|simp)
    obtain ⟨rfl, ok160⟩ := rp160
    have slook160 := u8_lo ok160; have shiok160 := u8_hi ok160
    obtain ⟨ad162, seg162, a162, rp162, ce162⟩ := zap (q := at_ (at_ m.follow ((at_ p_52 i).2)) t78) (m := 5) l0_0 rfl (by first|omega|(simp;omega)|assumption|simp) (by first|omega|(simp;omega)|assumption|simp)
    obtain ⟨rfl, ok162⟩ := rp162
    have slook162 := u8_lo ok162; have shiok162 := u8_hi ok162
    obtain ⟨_, _, _, _, _, _, _, in165_0⟩ := calls_some (count_calls w147 (((at_ m.spots (at_ (at_ m.follow ((at_ p_52 i).1)) t64)).set) &&& ((at_ m.spots (at_ (at_ m.follow ((at_ p_52 i).2)) t78)).set)))
    have lo_in165_0 := za1 in165_0; have hi_in165_0 := za2 in165_0
    have cl165 := count_le (((at_ m.spots (at_ (at_ m.follow ((at_ p_52 i).1)) t64)).set) &&& ((at_ m.spots (at_ (at_ m.follow ((at_ p_52 i).2)) t78)).set))
    have hf166 : (CFs ⟨b8, 6, none⟩ [.map (some b6)]).1 w147 := (CF.box (m := 1) (S148.box_at (j := 2) rfl) rfl)
    have hf167 : (CFs ⟨b145, 0, none⟩ (zag ((at_ (at_ m.follow ((at_ p_52 i).1)) t64, at_ (at_ m.follow ((at_ p_52 i).2)) t78) : Int × Int))).1 w147 := (CF.box (m := 2) (S148.box_at (j := 5) rfl) rfl)
    have hf168 : (MapHs (fun x : (Int × Int) => Value.agg (zag x).toArray) (fun x : Int => Value.int .i64 x) b6 b4).1 w147 := (S148.map_at (j := 1) rfl)
    have hf169 : (CFs ⟨b8, 0, none⟩ [.slice A0_0 m.spots.length c0_0]).1 w147 := (CF.box (m := 1) (S148.box_at (j := 2) rfl) rfl)
    have hf170 : (CFs (ad160.add 0) (zau ((at_ m.spots (at_ (at_ m.follow ((at_ p_52 i).1)) t64)).set))).1 w147 := (CF.ghost (sub_seg (o := 0) (m := 4) (ds := (zau ((at_ m.spots (at_ (at_ m.follow ((at_ p_52 i).1)) t64)).set))) ce160 rfl) (St.le0 S148))
    have hf171 : (CFs ⟨b8, 0, none⟩ [.slice A0_0 m.spots.length c0_0]).1 w147 := (CF.box (m := 1) (S148.box_at (j := 2) rfl) rfl)
    have hf172 : (CFs (ad162.add 0) (zau ((at_ m.spots (at_ (at_ m.follow ((at_ p_52 i).2)) t78)).set))).1 w147 := (CF.ghost (sub_seg (o := 0) (m := 4) (ds := (zau ((at_ m.spots (at_ (at_ m.follow ((at_ p_52 i).2)) t78)).set))) ce162 rfl) (St.le0 S148))
    refine daS (hkC 3 hf166 (hkC 4 hf167 (hkC 5 hf168 (hkC 12 hf169 (hkC 16 hf170 (hkC 21 hf171 (hkC 25 hf172 (hkN (w := w147))))))))) 30 rfl zdt ?_
    intro wd173 gd173 hd173
    have S174 := S148.keep gd173
    have hf175 := spUp gd173 hf166
    have hf176 := spUp gd173 hf167
    have hf177 := spUp gd173 hf168
    have hf178 := spUp gd173 hf169
    have hf179 := spUp gd173 hf170
    have hf180 := spUp gd173 hf171
    have hf181 := spUp gd173 hf172
    refine qd0 (i := 0) (v := .pointer (some ⟨b8, 0, none⟩)) rfl (by decide +kernel) rfl rfl (zad rfl) (zaf rfl) <| qd0 (i := 1) (v := .pointer (some ⟨b8, 0, none⟩)) rfl (by decide +kernel) rfl rfl (za7 rfl) (zaf rfl) <| qd0 (i := 2) (v := .pointer (some ⟨b8, 6, none⟩)) rfl (by decide +kernel) rfl rfl (zak fd58_2 ty55 rfl rfl) (zaf rfl) <| qd1 0 (i := 3) (v := .map (some b6)) rfl rfl (by decide +kernel) rfl rfl (fun wq hq => (zah (seg := [.map (some b6)]) ty55 rfl (by simp) rfl hq)) (za0 hf175 (zaf rfl)) <| qd1 1 (i := 4) (v := .agg (zag ((at_ (at_ m.follow ((at_ p_52 i).1)) t64, at_ (at_ m.follow ((at_ p_52 i).2)) t78) : Int × Int)).toArray) rfl rfl (by decide +kernel) rfl rfl (fun wq hq => (zah (seg := (zag ((at_ (at_ m.follow ((at_ p_52 i).1)) t64, at_ (at_ m.follow ((at_ p_52 i).2)) t78) : Int × Int))) ty60 rfl (by simp) rfl hq)) (zaq rfl (za0 hf176 (zaf rfl))) <| qdn (i := 5) (v := .int .i64 ((zbc ((at_ (at_ m.follow ((at_ p_52 i).1)) t64, at_ (at_ m.follow ((at_ p_52 i).2)) t78) : Int × Int) b4).getD 0)) (fun wf => MapH (fun x : (Int × Int) => Value.agg (zag x).toArray) (fun x : Int => Value.int .i64 x) b6 b4 wf) (fun _ ho => ho _ (List.mem_of_getElem? (i := 2) rfl) rfl) rfl (by decide +kernel) rfl rfl (fun wq hq => (x_lookup (a := .map (some b6)) (k := .agg (zag ((at_ (at_ m.follow ((at_ p_52 i).1)) t64, at_ (at_ m.follow ((at_ p_52 i).2)) t78) : Int × Int)).toArray) rfl rfl (e_lookup_hf (kvs := b4) key60 hq u55 (zcn ty3) 0 ((at_ (at_ m.follow ((at_ p_52 i).1)) t64, at_ (at_ m.follow ((at_ p_52 i).2)) t78) : Int × Int)))) (zaq rfl (zaq rfl (za0 hf177 (zaf rfl)))) <| qd0 (i := 6) (v := .bool (decide (0 < ((zbc ((at_ (at_ m.follow ((at_ p_52 i).1)) t64, at_ (at_ m.follow ((at_ p_52 i).2)) t78) : Int × Int) b4).getD 0)))) rfl (by decide +kernel) rfl rfl (x_gtr rfl rfl) (zaf rfl) <| qd0 (i := 7) (v := .bool (decide (0 < ((zbc ((at_ (at_ m.follow ((at_ p_52 i).1)) t64, at_ (at_ m.follow ((at_ p_52 i).2)) t78) : Int × Int) b4).getD 0)))) rfl (by decide +kernel) rfl rfl (zad rfl) (zaf rfl) <| qd0 (i := 8) (v := .pointer (some ⟨b8, 0, none⟩)) rfl (by decide +kernel) (wo 7 17 rfl rfl (bF hc149) rfl) rfl (zad rfl) (zaf rfl) <| qd0 (i := 9) (v := .pointer (some ⟨b8, 0, none⟩)) rfl (by decide +kernel) (wo 7 17 rfl rfl (bF hc149) rfl) rfl (za7 rfl) (zaf rfl) <| qd0 (i := 10) (v := .pointer (some ⟨b8, 0, none⟩)) rfl (by decide +kernel) (wo 7 17 rfl rfl (bF hc149) rfl) rfl (zak fd58_0 ty27 rfl rfl) (zaf rfl) <| qd0 (i := 11) (v := .pointer (some ⟨b8, 0, none⟩)) rfl (by decide +kernel) (wo 7 17 rfl rfl (bF hc149) rfl) rfl (zak zda ty22 rfl rfl) (zaf rfl) ?_
    refine qd1 3 (i := 12) (v := .slice A0_0 m.spots.length c0_0) rfl rfl (by decide +kernel) (wo 7 17 rfl rfl (bF hc149) rfl) rfl (fun wq hq => (zah (seg := [.slice A0_0 m.spots.length c0_0]) ty22 rfl (by simp) rfl hq)) (zaq rfl (zaq rfl (zaq rfl (za0 hf178 (zaf rfl))))) <| qd0 (i := 13) (v := .int .i64 (at_ (at_ m.follow ((at_ p_52 i).1)) t64)) rfl (by decide +kernel) (wo 7 17 rfl rfl (bF hc149) rfl) rfl (zad rfl) (zaf rfl) <| qd0 (i := 14) (v := .pointer (some ad160)) rfl (by decide +kernel) (wo 7 17 rfl rfl (bF hc149) rfl) rfl (zan u22 ty43 rfl rfl a160 (by first|omega|(simp;omega)|assumption|simp) (by first|omega|(simp;omega)|assumption|simp)) (zaf rfl) <| qd0 (i := 15) (v := .pointer (some (ad160.add 0))) rfl (by decide +kernel) (wo 7 17 rfl rfl (bF hc149) rfl) rfl (zcu fd43_0 ty41 rfl rfl) (zaf rfl) <| qd1 4 (i := 16) (v := .agg (zau ((at_ m.spots (at_ (at_ m.follow ((at_ p_52 i).1)) t64)).set)).toArray) rfl rfl (by decide +kernel) (wo 7 17 rfl rfl (bF hc149) rfl) rfl (fun wq hq => (zah (seg := (zau ((at_ m.spots (at_ (at_ m.follow ((at_ p_52 i).1)) t64)).set))) ty41 rfl (by simp) rfl hq)) (zaq rfl (zaq rfl (zaq rfl (zaq rfl (za0 hf179 (zaf rfl)))))) <| qd0 (i := 17) (v := .pointer (some ⟨b8, 0, none⟩)) rfl (by decide +kernel) (wo 7 17 rfl rfl (bF hc149) rfl) rfl (zad rfl) (zaf rfl) <| qd0 (i := 18) (v := .pointer (some ⟨b8, 0, none⟩)) rfl (by decide +kernel) (wo 7 17 rfl rfl (bF hc149) rfl) rfl (za7 rfl) (zaf rfl) <| qd0 (i := 19) (v := .pointer (some ⟨b8, 0, none⟩)) rfl (by decide +kernel) (wo 7 17 rfl rfl (bF hc149) rfl) rfl (zak fd58_0 ty27 rfl rfl) (zaf rfl) <| qd0 (i := 20) (v := .pointer (some ⟨b8, 0, none⟩)) rfl (by decide +kernel) (wo 7 17 rfl rfl (bF hc149) rfl) rfl (zak zda ty22 rfl rfl) (zaf rfl) <| qd1 5 (i := 21) (v := .slice A0_0 m.spots.length c0_0) rfl rfl (by decide +kernel) (wo 7 17 rfl rfl (bF hc149) rfl) rfl (fun wq hq => (zah (seg := [.slice A0_0 m.spots.length c0_0]) ty22 rfl (by simp) rfl hq)) (zaq rfl (zaq rfl (zaq rfl (zaq rfl (zaq rfl (za0 hf180 (zaf rfl))))))) <| qd0 (i := 22) (v := .int .i64 (at_ (at_ m.follow ((at_ p_52 i).2)) t78)) rfl (by decide +kernel) (wo 7 17 rfl rfl (bF hc149) rfl) rfl (zad rfl) (zaf rfl) <| qd0 (i := 23) (v := .pointer (some ad162)) rfl (by decide +kernel) (wo 7 17 rfl rfl (bF hc149) rfl) rfl (zan u22 ty43 rfl rfl a162 (by first|omega|(simp;omega)|assumption|simp) (by first|omega|(simp;omega)|assumption|simp)) (zaf rfl) ?_
    refine qd0 (i := 24) (v := .pointer (some (ad162.add 0))) rfl (by decide +kernel) (wo 7 17 rfl rfl (bF hc149) rfl) rfl (zcu fd43_0 ty41 rfl rfl) (zaf rfl) <| qd1 6 (i := 25) (v := .agg (zau ((at_ m.spots (at_ (at_ m.follow ((at_ p_52 i).2)) t78)).set)).toArray) rfl rfl (by decide +kernel) (wo 7 17 rfl rfl (bF hc149) rfl) rfl (fun wq hq => (zah (seg := (zau ((at_ m.spots (at_ (at_ m.follow ((at_ p_52 i).2)) t78)).set))) ty41 rfl (by simp) rfl hq)) (zaq rfl (zaq rfl (zaq rfl (zaq rfl (zaq rfl (zaq rfl (za0 hf181 (zaf rfl)))))))) <| d_m (i := 26) (v := .agg (zau (((at_ m.spots (at_ (at_ m.follow ((at_ p_52 i).1)) t64)).set) &&& ((at_ m.spots (at_ (at_ m.follow ((at_ p_52 i).2)) t78)).set))).toArray) (fun _ => True) (fun _ ho => trivial) rfl (by decide +kernel) (by decide +kernel) (by decide +kernel) (wo 7 17 rfl rfl (bF hc149) rfl) rfl (fun wq => (zbd (args := [.agg (zau ((at_ m.spots (at_ (at_ m.follow ((at_ p_52 i).1)) t64)).set)).toArray, .agg (zau ((at_ m.spots (at_ (at_ m.follow ((at_ p_52 i).2)) t78)).set)).toArray]) ca54 rfl rfl)) (fun wq hq => (and_calls wq ((at_ m.spots (at_ (at_ m.follow ((at_ p_52 i).1)) t64)).set) ((at_ m.spots (at_ (at_ m.follow ((at_ p_52 i).2)) t78)).set)).mono fun e w2 he => by obtain ⟨_, rfl, _, T, rfl⟩ := he; exact ⟨rfl, Chg.of_below T.below⟩) (zaf rfl) <| d_m (i := 27) (v := .int .i64 (zd0 (((at_ m.spots (at_ (at_ m.follow ((at_ p_52 i).1)) t64)).set) &&& ((at_ m.spots (at_ (at_ m.follow ((at_ p_52 i).2)) t78)).set)))) (fun _ => True) (fun _ ho => trivial) rfl (by decide +kernel) (by decide +kernel) (by decide +kernel) (wo 7 17 rfl rfl (bF hc149) rfl) rfl (fun wq => (zbd (args := [.agg (zau (((at_ m.spots (at_ (at_ m.follow ((at_ p_52 i).1)) t64)).set) &&& ((at_ m.spots (at_ (at_ m.follow ((at_ p_52 i).2)) t78)).set))).toArray]) ca53 rfl rfl)) (fun wq hq => (count_calls wq (((at_ m.spots (at_ (at_ m.follow ((at_ p_52 i).1)) t64)).set) &&& ((at_ m.spots (at_ (at_ m.follow ((at_ p_52 i).2)) t78)).set))).mono fun e w2 he => by obtain ⟨_, rfl, _, T, rfl, _⟩ := he; exact ⟨rfl, Chg.of_below T.below⟩) (zaf rfl) <| qd0 (i := 28) (v := .bool (decide ((zd0 (((at_ m.spots (at_ (at_ m.follow ((at_ p_52 i).1)) t64)).set) &&& ((at_ m.spots (at_ (at_ m.follow ((at_ p_52 i).2)) t78)).set))) = 0))) rfl (by decide +kernel) (wo 7 17 rfl rfl (bF hc149) rfl) rfl (x_eql rfl rfl) (zaf rfl) <| qd0 (i := 29) (v := .bool (decide ((zd0 (((at_ m.spots (at_ (at_ m.follow ((at_ p_52 i).1)) t64)).set) &&& ((at_ m.spots (at_ (at_ m.follow ((at_ p_52 i).2)) t78)).set))) = 0))) rfl (by decide +kernel) rfl rfl (zbq (bF hc149) rfl) (zaf rfl) <| zbw (by decide +kernel) ?_
    intro wd182 gd182
    have S183 := S174.keep gd182
    refine zal (p := (zd0 (((at_ m.spots (at_ (at_ m.follow ((at_ p_52 i).1)) t64)).set) &&& ((at_ m.spots (at_ (at_ m.follow ((at_ p_52 i).2)) t78)).set))) = 0) rfl (fun hc184 => ?_) (fun hc184 => ?_)
    ·skip
     refine zav Try.func48 (res0 rfl) ?_
     refine ⟨_, rfl, ?_⟩
     refine zaa <| zaj <| zac (l := [0, 1]) rfl <| p_v (v := .int .i64 (t78 + 1)) rfl rfl rfl (zbv r142_78 rfl (zai (by first|omega|(simp;omega)|assumption|simp) (by first|omega|(simp;omega)|assumption|simp))) <| p_v (v := .int .i64 (t78 + 1)) rfl rfl rfl (zad rfl) <| zaa ?_
     refine ih142 (p_54, b4, t78 + 1) _ _ (by dsimp only; omega) ⟨h142, v_p_54, le142, S183.sub [0, 1, 2, 3, 4] (by decide) rfl _ rfl, r142_0, r142_6, r142_7, r142_9, r142_62, r142_63, r142_64, r142_76, r142_77, rfl, (zai (by first|omega|(simp;omega)|assumption|simp) (by first|omega|(simp;omega)|assumption|simp)), (by first | exact ⟨by omega, by omega, rw_old hI142.2.2 w_44 (by assumption)⟩ | exact ⟨by omega, by omega, rw_no hI142.2.2 w_44 (by assumption)⟩ | exact ⟨by omega, by omega, rw_put hI142.2.2 w_44 (by assumption) (Come.next (hI108.2.2.come _ (zbp hI108.1 (by omega))) ⟨zbp hI128.1 (by omega), zbp hI142.1 (by omega)⟩ (by assumption))⟩)⟩
    refine zao <| zab ?_
    have hf185 : (CFs ⟨b8, 6, none⟩ [.map (some b6)]).1 wd182 := (CF.box (m := 1) (S183.box_at (j := 2) rfl) rfl)
    have hf186 : (CFs ⟨b145, 0, none⟩ (zag ((at_ (at_ m.follow ((at_ p_52 i).1)) t64, at_ (at_ m.follow ((at_ p_52 i).2)) t78) : Int × Int))).1 wd182 := (CF.box (m := 2) (S183.box_at (j := 5) rfl) rfl)
    refine daS (hkC 3 hf185 (hkC 4 hf186 (hkN (w := wd182)))) 6 rfl zdt ?_
    intro wd187 gd187 hd187
    have S188 := S183.keep gd187
    have hf189 := spUp gd187 hf185
    have hf190 := spUp gd187 hf186
    refine qd0 (i := 0) (v := .pointer (some ⟨b8, 0, none⟩)) rfl (by decide +kernel) rfl rfl (zad rfl) (zaf rfl) <| qd0 (i := 1) (v := .pointer (some ⟨b8, 0, none⟩)) rfl (by decide +kernel) rfl rfl (za7 rfl) (zaf rfl) <| qd0 (i := 2) (v := .pointer (some ⟨b8, 6, none⟩)) rfl (by decide +kernel) rfl rfl (zak fd58_2 ty55 rfl rfl) (zaf rfl) <| qd1 0 (i := 3) (v := .map (some b6)) rfl rfl (by decide +kernel) rfl rfl (fun wq hq => (zah (seg := [.map (some b6)]) ty55 rfl (by simp) rfl hq)) (za0 hf189 (zaf rfl)) <| qd1 1 (i := 4) (v := .agg (zag ((at_ (at_ m.follow ((at_ p_52 i).1)) t64, at_ (at_ m.follow ((at_ p_52 i).2)) t78) : Int × Int)).toArray) rfl rfl (by decide +kernel) rfl rfl (fun wq hq => (zah (seg := (zag ((at_ (at_ m.follow ((at_ p_52 i).1)) t64, at_ (at_ m.follow ((at_ p_52 i).2)) t78) : Int × Int))) ty60 rfl (by simp) rfl hq)) (zaq rfl (za0 hf190 (zaf rfl))) <| zc7 (i := 5) (by decide +kernel) ?_
    intro wd191 gd191
    have S192 := S188.keep gd191
    have hf193 := spUp gd191 hf189
    have hf194 := spUp gd191 hf190
    obtain ⟨w195, r195, g195, T195⟩ := e_mapUpdate key60 S192 (j := 1) rfl u55 ((at_ (at_ m.follow ((at_ p_52 i).1)) t64, at_ (at_ m.follow ((at_ p_52 i).2)) t78) : Int × Int) 1
    have S196 := T195.fx 1 (amap (fun x : (Int × Int) => Value.agg (zag x).toArray) (fun x : Int => Value.int .i64 x) b6 (zcz ((at_ (at_ m.follow ((at_ p_52 i).1)) t64, at_ (at_ m.follow ((at_ p_52 i).2)) t78) : Int × Int) 1 b4)) rfl
    dsimp only [lAa, lAn, lA0, lAs] at S196
    have hf197 : (CFs ⟨b8, 6, none⟩ [.map (some b6)]).1 w195 := (CF.box (m := 1) (S196.box_at (j := 2) rfl) rfl)
    have hf198 : (CFs ⟨b145, 0, none⟩ (zag ((at_ (at_ m.follow ((at_ p_52 i).1)) t64, at_ (at_ m.follow ((at_ p_52 i).2)) t78) : Int × Int))).1 w195 := (CF.box (m := 2) (S196.box_at (j := 5) rfl) rfl)
    refine d_s rfl rfl (x_mapUpdate rfl rfl rfl r195) (.inr (zck (by decide +kernel) (zck (by decide +kernel) trivial))) <| zbw (by decide +kernel) ?_
    intro wd199 gd199
    have S200 := S196.keep gd199
    have hf201 : (CFs ⟨b8, 5, none⟩ [v_p_54]).1 wd199 := (CF.box (m := 1) (S200.box_at (j := 2) rfl) rfl)
    have hf202 : (CFs ⟨b145, 0, none⟩ (zag ((at_ (at_ m.follow ((at_ p_52 i).1)) t64, at_ (at_ m.follow ((at_ p_52 i).2)) t78) : Int × Int))).1 wd199 := (CF.box (m := 2) (S200.box_at (j := 5) rfl) rfl)
    refine daS (hkC 4 hf201 (hkC 5 hf202 (hkN (w := wd199)))) 11 rfl zdt ?_
    intro wd203 gd203 hd203
    have S204 := S200.keep gd203
    have hf205 := spUp gd203 hf201
    have hf206 := spUp gd203 hf202
    refine qd0 (i := 0) (v := .pointer (some ⟨b8, 0, none⟩)) rfl (by decide +kernel) rfl rfl (zad rfl) (zaf rfl) <| qd0 (i := 1) (v := .pointer (some ⟨b8, 0, none⟩)) rfl (by decide +kernel) rfl rfl (zad rfl) (zaf rfl) <| qd0 (i := 2) (v := .pointer (some ⟨b8, 0, none⟩)) rfl (by decide +kernel) rfl rfl (za7 rfl) (zaf rfl) <| qd0 (i := 3) (v := .pointer (some ⟨b8, 5, none⟩)) rfl (by decide +kernel) rfl rfl (zak fd58_1 ty56 rfl rfl) (zaf rfl) <| qd1 0 (i := 4) (v := v_p_54) rfl rfl (by decide +kernel) rfl rfl (fun wq hq => (zah (seg := [v_p_54]) ty56 rfl (by simp) rfl hq)) (za0 hf205 (zaf rfl)) <| qd1 1 (i := 5) (v := .agg (zag ((at_ (at_ m.follow ((at_ p_52 i).1)) t64, at_ (at_ m.follow ((at_ p_52 i).2)) t78) : Int × Int)).toArray) rfl rfl (by decide +kernel) rfl rfl (fun wq hq => (zah (seg := (zag ((at_ (at_ m.follow ((at_ p_52 i).1)) t64, at_ (at_ m.follow ((at_ p_52 i).2)) t78) : Int × Int))) ty60 rfl (by simp) rfl hq)) (zaq rfl (za0 hf206 (zaf rfl))) <| zc7 (i := 6) (by decide +kernel) ?_
    intro wd207 gd207
    have S208 := S204.keep gd207
    have hf209 := spUp gd207 hf205
    have hf210 := spUp gd207 hf206
    obtain ⟨v211, w211, r211, g211, T211⟩ := e_build_segs (kd := zb2) (xs := ([((at_ (at_ m.follow ((at_ p_52 i).1)) t64, at_ (at_ m.follow ((at_ p_52 i).2)) t78) : Int × Int)] : List (Int × Int))) (len := 1) (m := 2) [(.agg (zag ((at_ (at_ m.follow ((at_ p_52 i).1)) t64, at_ (at_ m.follow ((at_ p_52 i).2)) t78) : Int × Int)).toArray, (zag ((at_ (at_ m.follow ((at_ p_52 i).1)) t64, at_ (at_ m.follow ((at_ p_52 i).2)) t78) : Int × Int)))] S208 u56 ty60 rfl rfl rfl rfl (segs_cons rfl rfl segs_nil) (cs := (zag ((at_ (at_ m.follow ((at_ p_52 i).1)) t64, at_ (at_ m.follow ((at_ p_52 i).2)) t78) : Int × Int))) (zbu.single (k := zb2) (h := h142) (x := ((at_ (at_ m.follow ((at_ p_52 i).1)) t64, at_ (at_ m.follow ((at_ p_52 i).2)) t78) : Int × Int)) (cs := (zag ((at_ (at_ m.follow ((at_ p_52 i).1)) t64, at_ (at_ m.follow ((at_ p_52 i).2)) t78) : Int × Int))) ⟨rfl, (by first | assumption | exact ⟨zai (by decide) (by decide), zai (by decide) (by decide)⟩ | exact ⟨zai (by omega) (by omega), zai (by omega) (by omega)⟩)⟩) (by first | rfl | simp only [List.flatMap_cons, List.flatMap_nil, List.append_nil] | simp)
    have S212 := T211
    dsimp only [lAa, lAn, lA0, lAs] at S212
    have hf213 := spUp g211 hf209
    have hf214 := spUp g211 hf210
    refine d_v (v := v211) rfl rfl rfl (zaw (pv := [(0, .agg (zag ((at_ (at_ m.follow ((at_ p_52 i).1)) t64, at_ (at_ m.follow ((at_ p_52 i).2)) t78) : Int × Int)).toArray)]) rfl r211) (.inl g211) <| zc7 (i := 7) (by decide +kernel) ?_
    intro wd215 gd215
    have S216 := S212.keep gd215
    have hf217 := spUp gd215 hf213
    have hf218 := spUp gd215 hf214
    obtain ⟨A220, c220, ev220, lc220, cm220⟩ := S216.row_val (j := 6) rfl
    obtain ⟨v221, w221, r221, g221, T221⟩ := zdg (kd := zb2) (A := A220) (c := c220) (ys := ([((at_ (at_ m.follow ((at_ p_52 i).1)) t64, at_ (at_ m.follow ((at_ p_52 i).2)) t78) : Int × Int)] : List (Int × Int))) (len := ([((at_ (at_ m.follow ((at_ p_52 i).1)) t64, at_ (at_ m.follow ((at_ p_52 i).2)) t78) : Int × Int)] : List (Int × Int)).length) 56 S216 u56 ty60 rfl rfl (j := 3) rfl rfl (zdv S216 (j := 6) rfl ev220) (by first|omega|(simp;omega)|assumption|simp) (by first|omega|(simp;omega)|assumption|simp)
    have S222 := T221.fx 3 (row 60 zb2 v221 (p_54 ++ ([((at_ (at_ m.follow ((at_ p_52 i).1)) t64, at_ (at_ m.follow ((at_ p_52 i).2)) t78) : Int × Int)] : List (Int × Int)))) rfl
    dsimp only [lAa, lAn, lA0, lAs] at S222
    have hf223 : (CFs ⟨b8, 5, none⟩ [v_p_54]).1 w221 := (CF.box (m := 1) (S222.box_at (j := 2) rfl) rfl)
    have hf224 : (CFs ⟨b145, 0, none⟩ (zag ((at_ (at_ m.follow ((at_ p_52 i).1)) t64, at_ (at_ m.follow ((at_ p_52 i).2)) t78) : Int × Int))).1 w221 := (CF.box (m := 2) (S222.box_at (j := 5) rfl) rfl)
    refine d_v (v := v221) rfl rfl rfl (zde rfl ev220 r221) (.inr (zck (by decide +kernel) (keep_v hf224 trivial))) <| qd0 (i := 8) (v := .pointer (some ⟨b8, 0, none⟩)) rfl (by decide +kernel) rfl rfl (za7 rfl) (zaf rfl) <| qd0 (i := 9) (v := .pointer (some ⟨b8, 5, none⟩)) rfl (by decide +kernel) rfl rfl (zak fd58_1 ty56 rfl rfl) (zaf rfl) <| zc7 (i := 10) (by decide +kernel) ?_
    intro wd225 gd225
    have S226 := S222.keep gd225
    have hf227 := spUp gd225 hf223
    have hf228 := spUp gd225 hf224
    have oc230 := row_one S226 (j := 3) rfl
    obtain ⟨w229, r229, g229, T229⟩ := zb9 (P := Try.prog) (off := 5) (v := v221) (vs := [v221]) S226 ty56 (row_cells S226 (j := 3) rfl) rfl (j := 2) rfl (by first | decide | exact Nat.le_of_ble_eq_true rfl) (zdf oc230 one_nil)
    have S231 := T229.fx 2 (box b8 58 [.slice A0_0 m.spots.length c0_0, .slice A0_1 m.first.length c0_1, .slice A0_2 m.follow.length c0_2, .slice A0_3 m.last.length c0_3, .bool m.empty, v221, .map (some b6)]) rfl
    dsimp only [lAa, lAn, lA0, lAs] at S231
    have hf232 : (CFs ⟨b145, 0, none⟩ (zag ((at_ (at_ m.follow ((at_ p_52 i).1)) t64, at_ (at_ m.follow ((at_ p_52 i).2)) t78) : Int × Int))).1 w229 := (CF.box (m := 2) (S231.box_at (j := 5) rfl) rfl)
    refine d_s rfl rfl (zbt rfl rfl r229) (.inr (zck (by decide +kernel) (zck (by decide +kernel) trivial))) <| zbw (by decide +kernel) ?_
    intro wd233 gd233
    have S234 := S231.keep gd233
    refine run_end Try.func48 (res0 rfl) ?_
    refine ⟨_, rfl, ?_⟩
    refine zaa <| zaj <| zac (l := [0, 1]) rfl <| p_v (v := .int .i64 (t78 + 1)) rfl rfl rfl (zbv r142_78 rfl (zai (by first|omega|(simp;omega)|assumption|simp) (by first|omega|(simp;omega)|assumption|simp))) <| p_v (v := .int .i64 (t78 + 1)) rfl rfl rfl (zad rfl) <| zaa ?_
    refine ih142 (p_54 ++ ([((at_ (at_ m.follow ((at_ p_52 i).1)) t64, at_ (at_ m.follow ((at_ p_52 i).2)) t78) : Int × Int)] : List (Int × Int)), zcz ((at_ (at_ m.follow ((at_ p_52 i).1)) t64, at_ (at_ m.follow ((at_ p_52 i).2)) t78) : Int × Int) 1 b4, t78 + 1) _ _ (by dsimp only; omega) ⟨h142, v221, le142, S234.sub [0, 1, 2, 3, 4] (by decide) rfl _ rfl, r142_0, r142_6, r142_7, r142_9, r142_62, r142_63, r142_64, r142_76, r142_77, rfl, (zai (by first|omega|(simp;omega)|assumption|simp) (by first|omega|(simp;omega)|assumption|simp)), (by first | exact ⟨by omega, by omega, rw_old hI142.2.2 w_44 (by assumption)⟩ | exact ⟨by omega, by omega, rw_no hI142.2.2 w_44 (by assumption)⟩ | exact ⟨by omega, by omega, rw_put hI142.2.2 w_44 (by assumption) (Come.next (hI108.2.2.come _ (zbp hI108.1 (by omega))) ⟨zbp hI128.1 (by omega), zbp hI142.1 (by omega)⟩ (by assumption))⟩)⟩
   refine za3 rfl <| zaj <| zac (l := [0, 1]) rfl <| p_v (v := .int .i64 (t64 + 1)) rfl rfl rfl (zbv r142_64 rfl (zai (by first|omega|(simp;omega)|assumption|simp) (by first|omega|(simp;omega)|assumption|simp))) <| p_v (v := .int .i64 (t64 + 1)) rfl rfl rfl (zad rfl) <| zaa ?_
   refine ih128 (p_54, b4, t64 + 1) _ _ (by dsimp only; omega) ⟨h142, v_p_54, ((le128).trans le142), S142.sub [0, 1, 2, 3, 4] (by decide) rfl _ rfl, r142_0, r142_6, r142_7, r142_62, r142_63, rfl, (zai (by first|omega|(simp;omega)|assumption|simp) (by first|omega|(simp;omega)|assumption|simp)), (by exact ⟨by omega, by omega, rw_w hI142.2.2 (w_43 (by omega))⟩)⟩
  refine za3 rfl <| zaj <| zac (l := [0, 1, 2]) rfl <| p_v (v := .int .i64 i) rfl rfl rfl (zad r128_6) <| p_v (v := .int .i64 (i + 1)) rfl rfl rfl (zbv rfl rfl (zai (by first|omega|(simp;omega)|assumption|simp) (by first|omega|(simp;omega)|assumption|simp))) <| p_v (v := .int .i64 (i + 1)) rfl rfl rfl (zae rfl) <| zaa ?_
  refine ih108 (p_53, b3, i + 1) _ _ (by dsimp only; omega) ⟨h128, v_p_53, ((le108).trans le128), S128.sub [0, 1, 2, 3] (by decide) rfl _ rfl, r128_0, rfl, (zai (by first|omega|(simp;omega)|assumption|simp) (by first|omega|(simp;omega)|assumption|simp)), (by exact ⟨by omega, by omega, rw_next hI128.2.2 hI108.1 (by omega) (by omega)⟩)⟩
 refine za3 rfl <| run_end Try.func30 (res0 rfl) ?_
 refine ⟨_, rfl, ?_⟩
 refine zaa <| zab <| zab <| zac (l := [0, 1, 2]) rfl <| p_v (v := .pointer (some ⟨b8, 0, none⟩)) rfl rfl rfl (zad rfl) ?_
 refine p_i rfl rfl rfl (zbd (args := [.pointer (some ⟨b8, 0, none⟩)]) ca31 rfl rfl) (zas Try.func31 rfl Try.ntmps31 rfl ?_)
 refine zab <| zac (l := [0]) rfl <| p_v (v := .map none) rfl rfl rfl (zae rfl) <| zaa <| zab <| zac (l := [0, 1]) rfl ?_
 obtain ⟨b235, w235, r235, g235, T235⟩ := e_makeMap (P := Try.prog) S108 73 (fun x : (Int × Int) => Value.agg (zag x).toArray) (fun v : Value => v)
 have T235 := mgrid_new T235 (j := 4) rfl 60 zb2
 have S236 : St w.heap.size w h108 w235 [box b1 27 [.slice A0_0 m.spots.length c0_0, .slice A0_1 m.first.length c0_1, .slice A0_2 m.follow.length c0_2, .slice A0_3 m.last.length c0_3, .bool m.empty], amap (fun x : (Int × Int) => Value.agg (zag x).toArray) (fun x : Int => Value.int .i64 x) b6 b2, box b8 58 [.slice A0_0 m.spots.length c0_0, .slice A0_1 m.first.length c0_1, .slice A0_2 m.follow.length c0_2, .slice A0_3 m.last.length c0_3, .bool m.empty, v_p_52, .map (some b6)], row 60 zb2 v_p_52 p_52, mgrid (fun x : (Int × Int) => Value.agg (zag x).toArray) 60 zb2 b235 ([] : List ((Int × Int) × List (Int × Int)))] := T235
 refine p_v (v := .map (some b235)) rfl rfl rfl (x_makeMap r235) <| p_v (v := .map (some b235)) rfl rfl rfl (zae rfl) <| zaa <| zab <| zac (l := [0]) rfl <| p_v (v := .slice none 0 0) rfl rfl rfl (zae rfl) <| zaa <| zab <| zab <| zac (l := [0, 1, 2, 3, 4, 5]) rfl <| p_v (v := .pointer (some ⟨b8, 0, none⟩)) rfl rfl rfl (zad rfl) <| p_v (v := .pointer (some ⟨b8, 0, none⟩)) rfl rfl rfl (za7 rfl) ?_
 refine p_v (v := .pointer (some ⟨b8, 5, none⟩)) rfl rfl rfl (zak fd58_1 ty56 rfl rfl) <| p_v (v := v_p_52) rfl rfl rfl (zah (seg := [v_p_52]) ty56 rfl (by simp) rfl (CF.box (m := 1) (S236.box_at (j := 2) rfl) rfl)) ?_
 have lb237 := S236.row_le (j := 3) rfl; simp only [maxLen] at lb237
 refine p_v (v := .int .i64 (p_52.length : Int)) rfl rfl rfl (zdo u56 rfl (zdu S236 (j := 3) rfl)) <| p_v (v := .int .i64 0) rfl rfl rfl (zad rfl) <| zaa <| zam ?_
 have T238 := S236.row_nil 60 zb2
 obtain ⟨vn238, ev238, T238⟩ : ∃ v, v = (.slice none 0 0 : Value) ∧ St w.heap.size w h108 w235 ([box b1 27 [.slice A0_0 m.spots.length c0_0, .slice A0_1 m.first.length c0_1, .slice A0_2 m.follow.length c0_2, .slice A0_3 m.last.length c0_3, .bool m.empty], amap (fun x : (Int × Int) => Value.agg (zag x).toArray) (fun x : Int => Value.int .i64 x) b6 b2, box b8 58 [.slice A0_0 m.spots.length c0_0, .slice A0_1 m.first.length c0_1, .slice A0_2 m.follow.length c0_2, .slice A0_3 m.last.length c0_3, .bool m.empty, v_p_52, .map (some b6)], row 60 zb2 v_p_52 p_52, mgrid (fun x : (Int × Int) => Value.agg (zag x).toArray) 60 zb2 b235 ([] : List ((Int × Int) × List (Int × Int)))] ++ [row 60 zb2 v []]) := ⟨_, rfl, T238⟩
 have S239 := T238
 dsimp only [lAa, lAn, lA0, lAs] at S239
 refine za8 (S := (List (Int × Int)) × (List ((Int × Int) × List (Int × Int))) × Int) (fun (q_ : (List (Int × Int)) × (List ((Int × Int) × List (Int × Int))) × Int) ρ w' => match q_ with | (todo, ahead, t20) => ∃ (h : Ghost) (v_todo : Value), Le h108 h ∧ St w.heap.size w h w' [box b1 27 [.slice A0_0 m.spots.length c0_0, .slice A0_1 m.first.length c0_1, .slice A0_2 m.follow.length c0_2, .slice A0_3 m.last.length c0_3, .bool m.empty], amap (fun x : (Int × Int) => Value.agg (zag x).toArray) (fun x : Int => Value.int .i64 x) b6 b2, box b8 58 [.slice A0_0 m.spots.length c0_0, .slice A0_1 m.first.length c0_1, .slice A0_2 m.follow.length c0_2, .slice A0_3 m.last.length c0_3, .bool m.empty, v_p_52, .map (some b6)], row 60 zb2 v_p_52 p_52, mgrid (fun x : (Int × Int) => Value.agg (zag x).toArray) 60 zb2 b235 ahead, row 60 zb2 v_todo todo] ∧ ρ 0 = .pointer (some ⟨b8, 0, none⟩) ∧ ρ 3 = .map (some b235) ∧ ρ 4 = v_todo ∧ ρ 18 = v_p_52 ∧ ρ 19 = .int .i64 (p_52.length : Int) ∧ ρ 20 = .int .i64 t20 ∧ inK .i64 t20 ∧ (0 ≤ t20 ∧ t20 ≤ (p_52.length : Int) ∧ AH m ahead (A5 m p_52 t20) ∧ TI m p_52 todo t20)) (fun q_ => match q_ with | (todo, ahead, t20) => (p_52.length - t20).toNat) (([] : List (Int × Int)), ([] : List ((Int × Int) × List (Int × Int))), 0) ⟨h108, vn238, Le.refl _, S239.sub [0, 1, 2, 3, 4, 5] (by decide) rfl _ rfl, rfl, rfl, (ev238.symm), rfl, rfl, rfl, (zai (by first|omega|(simp;omega)|assumption|simp) (by first|omega|(simp;omega)|assumption|simp)), (by exact ⟨by omega, by omega, ah_0, ti_0⟩)⟩ ?_
 rintro ⟨todo, ahead, t20⟩ ih240 ρ240 w240 ⟨h240, v_todo, le240, S240, r240_0, r240_3, r240_4, r240_18, r240_19, r240_20, f240_0, hI240⟩
 have lf240_0 := za1 f240_0; have hf240_0 := za2 f240_0
 have rl240_3 := S240.row_le (j := 3) rfl; simp only [maxLen] at rl240_3
 have rl240_5 := S240.row_le (j := 5) rfl; simp only [maxLen] at rl240_5
 have hin_ : ∀ x ∈ p_52, InPr m x := fun x hx => come_in hR_ (hI108.2.2.come x hx)
 have hnd_ := hI108.2.2.nd; have htl_ := hI240.2.2.2.len
 have hxt20_ : t20 < (p_52.length : Int) → (0 ≤ (at_ p_52 t20).1 ∧ (at_ p_52 t20).1 < (m.spots.length : Int)) ∧ 0 ≤ (at_ p_52 t20).2 ∧ (at_ p_52 t20).2 < (m.spots.length : Int) := fun h => come_in hR_ (hI108.2.2.come _ (zbp hI240.1 h))
 refine zab <| zac (l := [0]) rfl <| p_v (v := .bool (decide (t20 < (p_52.length : Int)))) rfl rfl rfl (zc2 r240_20 r240_19) <| zaa <| zab ?_
 refine zal (p := t20 < (p_52.length : Int)) rfl (fun hc241 => ?_) (fun hc241 => ?_)
 ·skip
  refine zao <| zab <| zam <| zab <| zac (l := [0, 1, 2, 3]) rfl ?_
  obtain ⟨ad242, a242, at242⟩ := zba (q := t20) (m := 2) S240 (j := 3) rfl rfl (by first|omega|(simp;omega)|assumption|simp) (by first|omega|(simp;omega)|assumption|simp)
  refine p_v (v := .pointer (some ad242)) rfl rfl rfl (za9 u56 ty60 r240_18 r240_20 a242 (by first|omega|(simp;omega)|assumption|simp) (by first|omega|(simp;omega)|assumption|simp)) ?_
  obtain ⟨seg243, rp243, cf243⟩ := zbo (q := t20) S240 (j := 3) rfl rfl at242 (by first|omega|(simp;omega)|assumption|simp) (by first|omega|(simp;omega)|assumption|simp)
  obtain ⟨rfl, ok243⟩ := rp243
  have palok243 := za1 ok243.1; have pahok243 := za2 ok243.1; have pblok243 := za1 ok243.2; have pbhok243 := za2 ok243.2
  refine p_v (v := .agg (zag (at_ p_52 t20)).toArray) rfl rfl rfl (zah (seg := (zag (at_ p_52 t20))) ty60 rfl (by simp) rfl cf243) ?_
  obtain ⟨b244, w244, r244, g244, T244⟩ := zc0 (P := Try.prog) S240 60 (v := (.agg #[.int .i64 0, .int .i64 0])) (zag ((0, 0) : Int × Int)) rfl
  have S245 := T244
  dsimp only [lAa, lAn, lA0, lAs] at S245
  refine p_v (v := .pointer (some ⟨b244, 0, none⟩)) rfl rfl rfl (zcs ty60 r244) ?_
  obtain ⟨w246, r246, g246, T246⟩ := zb9 (P := Try.prog) (off := 0) (v := .agg (zag (at_ p_52 t20)).toArray) (vs := (zag (at_ p_52 t20))) S245 ty60 rfl rfl (j := 6) rfl (by first | decide | exact Nat.le_of_ble_eq_true rfl) (zdb _)
  have S247 := T246.fx 6 (box b244 60 (zag (at_ p_52 t20))) rfl
  dsimp only [lAa, lAn, lA0, lAs] at S247
  refine p_s rfl rfl (zbt rfl rfl r246) <| zaa <| zab ?_
  refine run_joinW (fun ρ w' => ∃ (h : Ghost) (j284_v272 : Value) (todo2 : List (Int × Int)), Le h240 h ∧ St w.heap.size w h w' [box b1 27 [.slice A0_0 m.spots.length c0_0, .slice A0_1 m.first.length c0_1, .slice A0_2 m.follow.length c0_2, .slice A0_3 m.last.length c0_3, .bool m.empty], amap (fun x : (Int × Int) => Value.agg (zag x).toArray) (fun x : Int => Value.int .i64 x) b6 b2, box b8 58 [.slice A0_0 m.spots.length c0_0, .slice A0_1 m.first.length c0_1, .slice A0_2 m.follow.length c0_2, .slice A0_3 m.last.length c0_3, .bool m.empty, v_p_52, .map (some b6)], row 60 zb2 v_p_52 p_52, mgrid (fun x : (Int × Int) => Value.agg (zag x).toArray) 60 zb2 b235 ahead, row 60 zb2 j284_v272 todo2, box b244 60 (zag (at_ p_52 t20))] ∧ ρ 0 = .pointer (some ⟨b8, 0, none⟩) ∧ ρ 3 = .map (some b235) ∧ ρ 4 = j284_v272 ∧ ρ 6 = .pointer (some ⟨b244, 0, none⟩) ∧ ρ 18 = v_p_52 ∧ ρ 19 = .int .i64 (p_52.length : Int) ∧ ρ 20 = .int .i64 t20 ∧ okPair (at_ p_52 t20) ∧ (TI m p_52 todo2 (t20 + 1))) ?_ (fun jn284 => ?_)
  ·skip
   rintro ρj284 wj284 ⟨hj284, j284_v272, todo2, lej284, Sj284, rj284_0, rj284_3, rj284_4, rj284_6, rj284_18, rj284_19, rj284_20, jf284_0, jI284⟩
   have jr284_3 := Sj284.row_le (j := 3) rfl; simp only [maxLen] at jr284_3
   have jr284_5 := Sj284.row_le (j := 5) rfl; simp only [maxLen] at jr284_5
   have JI101_ := jI284
   have htl2_ := JI101_.len
   refine zab ?_
   obtain ⟨ad285, seg285, a285, rp285, ce285⟩ := zap (q := (at_ p_52 t20).1) (m := 1) l0_2 rfl (by first|omega|(simp;omega)|assumption|simp) (by first|omega|(simp;omega)|assumption|simp)
   obtain ⟨A285, c285, rfl, lc285, cm285, ld285⟩ := rp285
   have cn285 := cm285; simp only [maxLen] at cn285
   have hf286 : (CFs ⟨b8, 2, none⟩ [.slice A0_2 m.follow.length c0_2]).1 wj284 := (CF.box (m := 1) (Sj284.box_at (j := 2) rfl) rfl)
   have hf287 : (CFs ⟨b244, 0, none⟩ [.int .i64 ((at_ p_52 t20).1)]).1 wj284 := (CF.box (m := 1) (Sj284.box_at (j := 6) rfl) rfl)
   have hf288 : (CFs ad285 [.slice A285 (at_ m.follow ((at_ p_52 t20).1)).length c285]).1 wj284 := (CF.ghost ce285 (St.le0 Sj284))
   refine daS (hkC 4 hf286 (hkC 6 hf287 (hkC 8 hf288 (hkN (w := wj284))))) 11 rfl zdt ?_
   intro wd289 gd289 hd289
   have S290 := Sj284.keep gd289
   have hf291 := spUp gd289 hf286
   have hf292 := spUp gd289 hf287
   have hf293 := spUp gd289 hf288
   refine qd0 (i := 0) (v := .pointer (some ⟨b8, 0, none⟩)) rfl (by decide +kernel) rfl rfl (zad rj284_0) (zaf rfl) <| qd0 (i := 1) (v := .pointer (some ⟨b8, 0, none⟩)) rfl (by decide +kernel) rfl rfl (za7 rfl) (zaf rfl) <| qd0 (i := 2) (v := .pointer (some ⟨b8, 0, none⟩)) rfl (by decide +kernel) rfl rfl (zak fd58_0 ty27 rfl rfl) (zaf rfl) <| qd0 (i := 3) (v := .pointer (some ⟨b8, 2, none⟩)) rfl (by decide +kernel) rfl rfl (zak fd27_2 ty24 rfl rfl) (zaf rfl) <| qd1 0 (i := 4) (v := .slice A0_2 m.follow.length c0_2) rfl rfl (by decide +kernel) rfl rfl (fun wq hq => (zah (seg := [.slice A0_2 m.follow.length c0_2]) ty24 rfl (by simp) rfl hq)) (za0 hf291 (zaf rfl)) <| qd0 (i := 5) (v := .pointer (some ⟨b244, 0, none⟩)) rfl (by decide +kernel) rfl rfl (za5 (off := 0) (q := (0 : Int)) u60 ty3 rj284_6 rfl (by decide) (by decide)) (zaf rfl) <| qd1 1 (i := 6) (v := .int .i64 ((at_ p_52 t20).1)) rfl rfl (by decide +kernel) rfl rfl (fun wq hq => (zah (seg := [.int .i64 ((at_ p_52 t20).1)]) ty3 rfl (by simp) rfl hq)) (zaq rfl (za0 hf292 (zaf rfl))) <| qd0 (i := 7) (v := .pointer (some ad285)) rfl (by decide +kernel) rfl rfl (zan u24 ty23 rfl rfl a285 (by first|omega|(simp;omega)|assumption|simp) (by first|omega|(simp;omega)|assumption|simp)) (zaf rfl) <| qd1 2 (i := 8) (v := .slice A285 (at_ m.follow ((at_ p_52 t20).1)).length c285) rfl rfl (by decide +kernel) rfl rfl (fun wq hq => (zah (seg := [.slice A285 (at_ m.follow ((at_ p_52 t20).1)).length c285]) ty23 rfl (by simp) rfl hq)) (zaq rfl (zaq rfl (za0 hf293 (zaf rfl)))) <| qd0 (i := 9) (v := .int .i64 ((at_ m.follow ((at_ p_52 t20).1)).length : Int)) rfl (by decide +kernel) rfl rfl (zar u23 rfl) (zaf rfl) <| qd0 (i := 10) (v := .int .i64 0) rfl (by decide +kernel) rfl rfl (zad rfl) (zaf rfl) <| zbw (by decide +kernel) ?_
   intro wd294 gd294
   have S295 := S290.keep gd294
   refine zam <| za8 (S := (List ((Int × Int) × List (Int × Int))) × Int) (fun (q_ : (List ((Int × Int) × List (Int × Int))) × Int) ρ w' => match q_ with | (ahead2, t58) => ∃ (h : Ghost), Le hj284 h ∧ St w.heap.size w h w' [box b1 27 [.slice A0_0 m.spots.length c0_0, .slice A0_1 m.first.length c0_1, .slice A0_2 m.follow.length c0_2, .slice A0_3 m.last.length c0_3, .bool m.empty], amap (fun x : (Int × Int) => Value.agg (zag x).toArray) (fun x : Int => Value.int .i64 x) b6 b2, box b8 58 [.slice A0_0 m.spots.length c0_0, .slice A0_1 m.first.length c0_1, .slice A0_2 m.follow.length c0_2, .slice A0_3 m.last.length c0_3, .bool m.empty, v_p_52, .map (some b6)], row 60 zb2 v_p_52 p_52, mgrid (fun x : (Int × Int) => Value.agg (zag x).toArray) 60 zb2 b235 ahead2, row 60 zb2 j284_v272 todo2, box b244 60 (zag (at_ p_52 t20))] ∧ ρ 0 = .pointer (some ⟨b8, 0, none⟩) ∧ ρ 3 = .map (some b235) ∧ ρ 4 = j284_v272 ∧ ρ 6 = .pointer (some ⟨b244, 0, none⟩) ∧ ρ 18 = v_p_52 ∧ ρ 19 = .int .i64 (p_52.length : Int) ∧ ρ 20 = .int .i64 t20 ∧ ρ 56 = .slice A285 (at_ m.follow ((at_ p_52 t20).1)).length c285 ∧ ρ 57 = .int .i64 ((at_ m.follow ((at_ p_52 t20).1)).length : Int) ∧ ρ 58 = .int .i64 t58 ∧ inK .i64 t58 ∧ (0 ≤ t58 ∧ t58 ≤ ((at_ m.follow (at_ p_52 t20).1).length : Int) ∧ AH m ahead2 (A6 m p_52 t20 t58))) (fun q_ => match q_ with | (ahead2, t58) => ((at_ m.follow (at_ p_52 t20).1).length - t58).toNat) (ahead, 0) ⟨hj284, Le.refl _, S295.sub [0, 1, 2, 3, 4, 5, 6] (by decide) rfl _ rfl, rj284_0, rj284_3, rj284_4, rj284_6, rj284_18, rj284_19, rj284_20, rfl, rfl, rfl, (zai (by first|omega|(simp;omega)|assumption|simp) (by first|omega|(simp;omega)|assumption|simp)), (by exact ⟨by omega, by omega, ah_56 hI240.2.2.1⟩)⟩ ?_
   rintro ⟨ahead2, t58⟩ ih296 ρ296 w296 ⟨h296, le296, S296, r296_0, r296_3, r296_4, r296_6, r296_18, r296_19, r296_20, r296_56, r296_57, r296_58, f296_0, hI296⟩
   have lf296_0 := za1 f296_0; have hf296_0 := za2 f296_0
   have rl296_3 := S296.row_le (j := 3) rfl; simp only [maxLen] at rl296_3
   have rl296_5 := S296.row_le (j := 5) rfl; simp only [maxLen] at rl296_5
   have ha_ : t58 < ((at_ m.follow (at_ p_52 t20).1).length : Int) → 0 ≤ at_ (at_ m.follow (at_ p_52 t20).1) t58 ∧ at_ (at_ m.follow (at_ p_52 t20).1) t58 < (m.spots.length : Int) := fun h => hR_.rows (hxt20_ (by omega)).1.1 (hxt20_ (by omega)).1.2 _ (zbp hI296.1 h)
   refine zab <| zac (l := [0]) rfl <| p_v (v := .bool (decide (t58 < ((at_ m.follow ((at_ p_52 t20).1)).length : Int)))) rfl rfl rfl (zc2 r296_58 r296_57) <| zaa <| zab ?_
   refine zal (p := t58 < ((at_ m.follow ((at_ p_52 t20).1)).length : Int)) rfl (fun hc297 => ?_) (fun hc297 => ?_)
   ·skip
    refine zao <| zab <| zam <| zab <| zac (l := [0, 1, 2]) rfl ?_
    obtain ⟨ad298, seg298, a298, rp298, ce298⟩ := zap (q := t58) (m := 1) ld285 rfl (by first|omega|(simp;omega)|assumption|simp) (by first|omega|(simp;omega)|assumption|simp)
    refine p_v (v := .pointer (some ad298)) rfl rfl rfl (zan u23 ty3 r296_56 r296_58 a298 (by first|omega|(simp;omega)|assumption|simp) (by first|omega|(simp;omega)|assumption|simp)) ?_
    obtain ⟨rfl, in298⟩ := rp298
    have lo298 := za1 in298; have hi298 := za2 in298
    refine p_v (v := .int .i64 (at_ (at_ m.follow ((at_ p_52 t20).1)) t58)) rfl rfl rfl (zah (seg := [.int .i64 (at_ (at_ m.follow ((at_ p_52 t20).1)) t58)]) ty3 rfl (by simp) rfl (CF.ghost ce298 (St.le0 S296))) <| p_v (v := .int .i64 (at_ (at_ m.follow ((at_ p_52 t20).1)) t58)) rfl rfl rfl (zae rfl) <| zaa <| zab ?_
    obtain ⟨ad299, seg299, a299, rp299, ce299⟩ := zap (q := (at_ p_52 t20).2) (m := 1) l0_2 rfl (by first|omega|(simp;omega)|assumption|simp) (by first|omega|(simp;omega)|assumption|simp)
    obtain ⟨A299, c299, rfl, lc299, cm299, ld299⟩ := rp299
    have cn299 := cm299; simp only [maxLen] at cn299
    have hf300 : (CFs ⟨b8, 2, none⟩ [.slice A0_2 m.follow.length c0_2]).1 w296 := (CF.box (m := 1) (S296.box_at (j := 2) rfl) rfl)
    have hf301 : (CFs ⟨b244, 1, none⟩ [.int .i64 ((at_ p_52 t20).2)]).1 w296 := (CF.box (m := 1) (S296.box_at (j := 6) rfl) rfl)
    have hf302 : (CFs ad299 [.slice A299 (at_ m.follow ((at_ p_52 t20).2)).length c299]).1 w296 := (CF.ghost ce299 (St.le0 S296))
    refine daS (hkC 4 hf300 (hkC 6 hf301 (hkC 8 hf302 (hkN (w := w296))))) 11 rfl zdt ?_
    intro wd303 gd303 hd303
    have S304 := S296.keep gd303
    have hf305 := spUp gd303 hf300
    have hf306 := spUp gd303 hf301
    have hf307 := spUp gd303 hf302
    refine qd0 (i := 0) (v := .pointer (some ⟨b8, 0, none⟩)) rfl (by decide +kernel) rfl rfl (zad r296_0) (zaf rfl) <| qd0 (i := 1) (v := .pointer (some ⟨b8, 0, none⟩)) rfl (by decide +kernel) rfl rfl (za7 rfl) (zaf rfl) <| qd0 (i := 2) (v := .pointer (some ⟨b8, 0, none⟩)) rfl (by decide +kernel) rfl rfl (zak fd58_0 ty27 rfl rfl) (zaf rfl) <| qd0 (i := 3) (v := .pointer (some ⟨b8, 2, none⟩)) rfl (by decide +kernel) rfl rfl (zak fd27_2 ty24 rfl rfl) (zaf rfl) <| qd1 0 (i := 4) (v := .slice A0_2 m.follow.length c0_2) rfl rfl (by decide +kernel) rfl rfl (fun wq hq => (zah (seg := [.slice A0_2 m.follow.length c0_2]) ty24 rfl (by simp) rfl hq)) (za0 hf305 (zaf rfl)) <| qd0 (i := 5) (v := .pointer (some ⟨b244, 1, none⟩)) rfl (by decide +kernel) rfl rfl (za5 (off := 0) (q := (1 : Int)) u60 ty3 r296_6 rfl (by decide) (by decide)) (zaf rfl) <| qd1 1 (i := 6) (v := .int .i64 ((at_ p_52 t20).2)) rfl rfl (by decide +kernel) rfl rfl (fun wq hq => (zah (seg := [.int .i64 ((at_ p_52 t20).2)]) ty3 rfl (by simp) rfl hq)) (zaq rfl (za0 hf306 (zaf rfl))) <| qd0 (i := 7) (v := .pointer (some ad299)) rfl (by decide +kernel) rfl rfl (zan u24 ty23 rfl rfl a299 (by first|omega|(simp;omega)|assumption|simp) (by first|omega|(simp;omega)|assumption|simp)) (zaf rfl) <| qd1 2 (i := 8) (v := .slice A299 (at_ m.follow ((at_ p_52 t20).2)).length c299) rfl rfl (by decide +kernel) rfl rfl (fun wq hq => (zah (seg := [.slice A299 (at_ m.follow ((at_ p_52 t20).2)).length c299]) ty23 rfl (by simp) rfl hq)) (zaq rfl (zaq rfl (za0 hf307 (zaf rfl)))) <| qd0 (i := 9) (v := .int .i64 ((at_ m.follow ((at_ p_52 t20).2)).length : Int)) rfl (by decide +kernel) rfl rfl (zar u23 rfl) (zaf rfl) <| qd0 (i := 10) (v := .int .i64 0) rfl (by decide +kernel) rfl rfl (zad rfl) (zaf rfl) <| zbw (by decide +kernel) ?_
    intro wd308 gd308
    have S309 := S304.keep gd308
    refine zam <| za8 (S := (List ((Int × Int) × List (Int × Int))) × Int) (fun (q_ : (List ((Int × Int) × List (Int × Int))) × Int) ρ w' => match q_ with | (ahead3, t72) => ∃ (h : Ghost), Le h296 h ∧ St w.heap.size w h w' [box b1 27 [.slice A0_0 m.spots.length c0_0, .slice A0_1 m.first.length c0_1, .slice A0_2 m.follow.length c0_2, .slice A0_3 m.last.length c0_3, .bool m.empty], amap (fun x : (Int × Int) => Value.agg (zag x).toArray) (fun x : Int => Value.int .i64 x) b6 b2, box b8 58 [.slice A0_0 m.spots.length c0_0, .slice A0_1 m.first.length c0_1, .slice A0_2 m.follow.length c0_2, .slice A0_3 m.last.length c0_3, .bool m.empty, v_p_52, .map (some b6)], row 60 zb2 v_p_52 p_52, mgrid (fun x : (Int × Int) => Value.agg (zag x).toArray) 60 zb2 b235 ahead3, row 60 zb2 j284_v272 todo2, box b244 60 (zag (at_ p_52 t20))] ∧ ρ 0 = .pointer (some ⟨b8, 0, none⟩) ∧ ρ 3 = .map (some b235) ∧ ρ 4 = j284_v272 ∧ ρ 6 = .pointer (some ⟨b244, 0, none⟩) ∧ ρ 8 = .int .i64 (at_ (at_ m.follow ((at_ p_52 t20).1)) t58) ∧ ρ 18 = v_p_52 ∧ ρ 19 = .int .i64 (p_52.length : Int) ∧ ρ 20 = .int .i64 t20 ∧ ρ 56 = .slice A285 (at_ m.follow ((at_ p_52 t20).1)).length c285 ∧ ρ 57 = .int .i64 ((at_ m.follow ((at_ p_52 t20).1)).length : Int) ∧ ρ 58 = .int .i64 t58 ∧ ρ 70 = .slice A299 (at_ m.follow ((at_ p_52 t20).2)).length c299 ∧ ρ 71 = .int .i64 ((at_ m.follow ((at_ p_52 t20).2)).length : Int) ∧ ρ 72 = .int .i64 t72 ∧ inK .i64 t72 ∧ (0 ≤ t72 ∧ t72 ≤ ((at_ m.follow (at_ p_52 t20).2).length : Int) ∧ AH m ahead3 (A7 m p_52 t20 t58 t72))) (fun q_ => match q_ with | (ahead3, t72) => ((at_ m.follow (at_ p_52 t20).2).length - t72).toNat) (ahead2, 0) ⟨h296, Le.refl _, S309.sub [0, 1, 2, 3, 4, 5, 6] (by decide) rfl _ rfl, r296_0, r296_3, r296_4, r296_6, rfl, r296_18, r296_19, r296_20, r296_56, r296_57, r296_58, rfl, rfl, rfl, (zai (by first|omega|(simp;omega)|assumption|simp) (by first|omega|(simp;omega)|assumption|simp)), (by exact ⟨by omega, by omega, ah_67 hI296.2.2⟩)⟩ ?_
    rintro ⟨ahead3, t72⟩ ih310 ρ310 w310 ⟨h310, le310, S310, r310_0, r310_3, r310_4, r310_6, r310_8, r310_18, r310_19, r310_20, r310_56, r310_57, r310_58, r310_70, r310_71, r310_72, f310_0, hI310⟩
    have lf310_0 := za1 f310_0; have hf310_0 := za2 f310_0
    have rl310_3 := S310.row_le (j := 3) rfl; simp only [maxLen] at rl310_3
    have rl310_5 := S310.row_le (j := 5) rfl; simp only [maxLen] at rl310_5
    have hb_ : t72 < ((at_ m.follow (at_ p_52 t20).2).length : Int) → 0 ≤ at_ (at_ m.follow (at_ p_52 t20).2) t72 ∧ at_ (at_ m.follow (at_ p_52 t20).2) t72 < (m.spots.length : Int) := fun h => hR_.rows (hxt20_ (by omega)).2.1 (hxt20_ (by omega)).2.2 _ (zbp hI310.1 h)
    have hrl_ := ah_len hR_ hin_ hI310.2.2 hI240.1 (by omega) ((at_ (at_ m.follow (at_ p_52 t20).1) t58, at_ (at_ m.follow (at_ p_52 t20).2) t72) : Int × Int)
    refine zab <| zac (l := [0]) rfl <| p_v (v := .bool (decide (t72 < ((at_ m.follow ((at_ p_52 t20).2)).length : Int)))) rfl rfl rfl (zc2 r310_72 r310_71) <| zaa <| zab ?_
    refine zal (p := t72 < ((at_ m.follow ((at_ p_52 t20).2)).length : Int)) rfl (fun hc311 => ?_) (fun hc311 => ?_)
    ·skip
     refine zao <| zab <| zam <| zab <| zac (l := [0, 1, 2]) rfl ?_
     obtain ⟨ad312, seg312, a312, rp312, ce312⟩ := zap (q := t72) (m := 1) ld299 rfl (by first|omega|(simp;omega)|assumption|simp) (by first|omega|(simp;omega)|assumption|simp)
     refine p_v (v := .pointer (some ad312)) rfl rfl rfl (zan u23 ty3 r310_70 r310_72 a312 (by first|omega|(simp;omega)|assumption|simp) (by first|omega|(simp;omega)|assumption|simp)) ?_
     obtain ⟨rfl, in312⟩ := rp312
     have lo312 := za1 in312; have hi312 := za2 in312
     refine p_v (v := .int .i64 (at_ (at_ m.follow ((at_ p_52 t20).2)) t72)) rfl rfl rfl (zah (seg := [.int .i64 (at_ (at_ m.follow ((at_ p_52 t20).2)) t72)]) ty3 rfl (by simp) rfl (CF.ghost ce312 (St.le0 S310))) <| p_v (v := .int .i64 (at_ (at_ m.follow ((at_ p_52 t20).2)) t72)) rfl rfl rfl (zae rfl) <| zaa <| zab <| zac (l := [0, 1, 2, 3, 4]) rfl <| p_v (v := .int .i64 (at_ (at_ m.follow ((at_ p_52 t20).1)) t58)) rfl rfl rfl (zad r310_8) <| p_v (v := .int .i64 (at_ (at_ m.follow ((at_ p_52 t20).2)) t72)) rfl rfl rfl (zad rfl) <| p_v (v := .agg (zag ((at_ (at_ m.follow ((at_ p_52 t20).1)) t58, at_ (at_ m.follow ((at_ p_52 t20).2)) t72) : Int × Int)).toArray) rfl rfl rfl (y_build (pv := [(0, .int .i64 (at_ (at_ m.follow ((at_ p_52 t20).1)) t58)), (1, .int .i64 (at_ (at_ m.follow ((at_ p_52 t20).2)) t72))]) rfl (run_build_array u60 ty3 ty60 (cs := (zag ((at_ (at_ m.follow ((at_ p_52 t20).1)) t58, at_ (at_ m.follow ((at_ p_52 t20).2)) t72) : Int × Int))) (by rfl))) ?_
     obtain ⟨b313, w313, r313, g313, T313⟩ := zc0 (P := Try.prog) S310 60 (v := (.agg #[.int .i64 0, .int .i64 0])) (zag ((0, 0) : Int × Int)) rfl
     have S314 := T313
     dsimp only [lAa, lAn, lA0, lAs] at S314
     refine p_v (v := .pointer (some ⟨b313, 0, none⟩)) rfl rfl rfl (zcs ty60 r313) ?_
     obtain ⟨w315, r315, g315, T315⟩ := zb9 (P := Try.prog) (off := 0) (v := .agg (zag ((at_ (at_ m.follow ((at_ p_52 t20).1)) t58, at_ (at_ m.follow ((at_ p_52 t20).2)) t72) : Int × Int)).toArray) (vs := (zag ((at_ (at_ m.follow ((at_ p_52 t20).1)) t58, at_ (at_ m.follow ((at_ p_52 t20).2)) t72) : Int × Int))) S314 ty60 rfl rfl (j := 7) rfl (by first | decide | exact Nat.le_of_ble_eq_true rfl) (zdb _)
     have S316 := T315.fx 7 (box b313 60 (zag ((at_ (at_ m.follow ((at_ p_52 t20).1)) t58, at_ (at_ m.follow ((at_ p_52 t20).2)) t72) : Int × Int))) rfl
     dsimp only [lAa, lAn, lA0, lAs] at S316
     refine p_s rfl rfl (zbt rfl rfl r315) <| zaa <| zab ?_
     have hf317 : (CFs ⟨b8, 6, none⟩ [.map (some b6)]).1 w315 := (CF.box (m := 1) (S316.box_at (j := 2) rfl) rfl)
     have hf318 : (CFs ⟨b313, 0, none⟩ (zag ((at_ (at_ m.follow ((at_ p_52 t20).1)) t58, at_ (at_ m.follow ((at_ p_52 t20).2)) t72) : Int × Int))).1 w315 := (CF.box (m := 2) (S316.box_at (j := 7) rfl) rfl)
     have hf319 : (MapHs (fun x : (Int × Int) => Value.agg (zag x).toArray) (fun x : Int => Value.int .i64 x) b6 b2).1 w315 := (S316.map_at (j := 1) rfl)
     refine daS (hkC 3 hf317 (hkC 4 hf318 (hkC 5 hf319 (hkN (w := w315))))) 7 rfl zdt ?_
     intro wd320 gd320 hd320
     have S321 := S316.keep gd320
     have hf322 := spUp gd320 hf317
     have hf323 := spUp gd320 hf318
     have hf324 := spUp gd320 hf319
     refine qd0 (i := 0) (v := .pointer (some ⟨b8, 0, none⟩)) rfl (by decide +kernel) rfl rfl (zad r310_0) (zaf rfl) <| qd0 (i := 1) (v := .pointer (some ⟨b8, 0, none⟩)) rfl (by decide +kernel) rfl rfl (za7 rfl) (zaf rfl) <| qd0 (i := 2) (v := .pointer (some ⟨b8, 6, none⟩)) rfl (by decide +kernel) rfl rfl (zak fd58_2 ty55 rfl rfl) (zaf rfl) <| qd1 0 (i := 3) (v := .map (some b6)) rfl rfl (by decide +kernel) rfl rfl (fun wq hq => (zah (seg := [.map (some b6)]) ty55 rfl (by simp) rfl hq)) (za0 hf322 (zaf rfl)) <| qd1 1 (i := 4) (v := .agg (zag ((at_ (at_ m.follow ((at_ p_52 t20).1)) t58, at_ (at_ m.follow ((at_ p_52 t20).2)) t72) : Int × Int)).toArray) rfl rfl (by decide +kernel) rfl rfl (fun wq hq => (zah (seg := (zag ((at_ (at_ m.follow ((at_ p_52 t20).1)) t58, at_ (at_ m.follow ((at_ p_52 t20).2)) t72) : Int × Int))) ty60 rfl (by simp) rfl hq)) (zaq rfl (za0 hf323 (zaf rfl))) <| qdn (i := 5) (v := .int .i64 ((zbc ((at_ (at_ m.follow ((at_ p_52 t20).1)) t58, at_ (at_ m.follow ((at_ p_52 t20).2)) t72) : Int × Int) b2).getD 0)) (fun wf => MapH (fun x : (Int × Int) => Value.agg (zag x).toArray) (fun x : Int => Value.int .i64 x) b6 b2 wf) (fun _ ho => ho _ (List.mem_of_getElem? (i := 2) rfl) rfl) rfl (by decide +kernel) rfl rfl (fun wq hq => (x_lookup (a := .map (some b6)) (k := .agg (zag ((at_ (at_ m.follow ((at_ p_52 t20).1)) t58, at_ (at_ m.follow ((at_ p_52 t20).2)) t72) : Int × Int)).toArray) rfl rfl (e_lookup_hf (kvs := b2) key60 hq u55 (zcn ty3) 0 ((at_ (at_ m.follow ((at_ p_52 t20).1)) t58, at_ (at_ m.follow ((at_ p_52 t20).2)) t72) : Int × Int)))) (zaq rfl (zaq rfl (za0 hf324 (zaf rfl)))) <| qd0 (i := 6) (v := .bool (decide (0 < ((zbc ((at_ (at_ m.follow ((at_ p_52 t20).1)) t58, at_ (at_ m.follow ((at_ p_52 t20).2)) t72) : Int × Int) b2).getD 0)))) rfl (by decide +kernel) rfl rfl (x_gtr rfl rfl) (zaf rfl) <| zbw (by decide +kernel) ?_
     intro wd325 gd325
     have S326 := S321.keep gd325
     refine zal (p := 0 < ((zbc ((at_ (at_ m.follow ((at_ p_52 t20).1)) t58, at_ (at_ m.follow ((at_ p_52 t20).2)) t72) : Int × Int) b2).getD 0)) rfl (fun hc327 => ?_) (fun hc327 => ?_)
     ·skip
      refine zac (l := [0, 1, 2, 3, 4, 5, 6, 7, 8]) rfl <| p_v (v := .map (some b235)) rfl rfl rfl (zad r310_3) <| p_v (v := .agg (zag ((at_ (at_ m.follow ((at_ p_52 t20).1)) t58, at_ (at_ m.follow ((at_ p_52 t20).2)) t72) : Int × Int)).toArray) rfl rfl rfl (zah (seg := (zag ((at_ (at_ m.follow ((at_ p_52 t20).1)) t58, at_ (at_ m.follow ((at_ p_52 t20).2)) t72) : Int × Int))) ty60 rfl (by simp) rfl (CF.box (m := 2) (S326.box_at (j := 7) rfl) rfl)) <| p_v (v := .agg (zag (at_ p_52 t20)).toArray) rfl rfl rfl (zah (seg := (zag (at_ p_52 t20))) ty60 rfl (by simp) r310_6 (CF.box (m := 2) (S326.box_at (j := 6) rfl) rfl)) ?_
      obtain ⟨v328, w328, r328, g328, T328⟩ := e_build_segs (kd := zb2) (xs := ([at_ p_52 t20] : List (Int × Int))) (len := 1) (m := 2) [(.agg (zag (at_ p_52 t20)).toArray, (zag (at_ p_52 t20)))] S326 u56 ty60 rfl rfl rfl rfl (segs_cons rfl rfl segs_nil) (cs := (zag (at_ p_52 t20))) (zbu.single (k := zb2) (h := h310) (x := at_ p_52 t20) (cs := (zag (at_ p_52 t20))) ⟨rfl, jf284_0⟩) (by first | rfl | simp only [List.flatMap_cons, List.flatMap_nil, List.append_nil] | simp)
      have S329 := T328
      dsimp only [lAa, lAn, lA0, lAs] at S329
      refine p_v (v := v328) rfl rfl rfl (zaw (pv := [(0, .agg (zag (at_ p_52 t20)).toArray)]) rfl r328) ?_
      obtain ⟨v330, s330, w330, r330, g330, T330⟩ := e_mg_take (P := Try.prog) key60 S329 (j := 4) rfl u73 (zcn ty56) ((at_ (at_ m.follow ((at_ p_52 t20).1)) t58, at_ (at_ m.follow ((at_ p_52 t20).2)) t72) : Int × Int)
      have S331 : St w.heap.size w h310 w330 [box b1 27 [.slice A0_0 m.spots.length c0_0, .slice A0_1 m.first.length c0_1, .slice A0_2 m.follow.length c0_2, .slice A0_3 m.last.length c0_3, .bool m.empty], amap (fun x : (Int × Int) => Value.agg (zag x).toArray) (fun x : Int => Value.int .i64 x) b6 b2, box b8 58 [.slice A0_0 m.spots.length c0_0, .slice A0_1 m.first.length c0_1, .slice A0_2 m.follow.length c0_2, .slice A0_3 m.last.length c0_3, .bool m.empty, v_p_52, .map (some b6)], row 60 zb2 v_p_52 p_52, mgridB (fun x : (Int × Int) => Value.agg (zag x).toArray) 60 zb2 b235 (zcx ((at_ (at_ m.follow ((at_ p_52 t20).1)) t58, at_ (at_ m.follow ((at_ p_52 t20).2)) t72) : Int × Int) [] ahead3) ((at_ (at_ m.follow ((at_ p_52 t20).1)) t58, at_ (at_ m.follow ((at_ p_52 t20).2)) t72) : Int × Int) (s330 : Int), row 60 zb2 j284_v272 todo2, box b244 60 (zag (at_ p_52 t20)), box b313 60 (zag ((at_ (at_ m.follow ((at_ p_52 t20).1)) t58, at_ (at_ m.follow ((at_ p_52 t20).2)) t72) : Int × Int)), row 60 zb2 v328 ([at_ p_52 t20] : List (Int × Int)), row 60 zb2 v330 ((zbc ((at_ (at_ m.follow ((at_ p_52 t20).1)) t58, at_ (at_ m.follow ((at_ p_52 t20).2)) t72) : Int × Int) ahead3).getD [])] := T330
      have lb332 := S331.row_le (j := 9) rfl; simp only [maxLen] at lb332
      refine p_v (v := .tuple #[v330, .int .i64 (s330 : Int)]) rfl rfl rfl (x_mapEntry rfl rfl r330) <| p_v (v := v330) rfl rfl rfl (zcv (vs := [v330, .int .i64 (s330 : Int)]) rfl rfl) ?_
      obtain ⟨A334, c334, ev334, lc334, cm334⟩ := S331.row_val (j := 8) rfl
      obtain ⟨v335, w335, r335, g335, T335⟩ := zdg (kd := zb2) (A := A334) (c := c334) (ys := ([at_ p_52 t20] : List (Int × Int))) (len := ([at_ p_52 t20] : List (Int × Int)).length) 56 S331 u56 ty60 rfl rfl (j := 9) rfl rfl (zdv S331 (j := 8) rfl ev334) (by first|omega|(simp;omega)|assumption|simp) (by first|omega|(simp;omega)|assumption|simp)
      have S336 := T335.fx 9 (row 60 zb2 v335 (((zbc ((at_ (at_ m.follow ((at_ p_52 t20).1)) t58, at_ (at_ m.follow ((at_ p_52 t20).2)) t72) : Int × Int) ahead3).getD []) ++ ([at_ p_52 t20] : List (Int × Int)))) rfl
      dsimp only [lAa, lAn, lA0, lAs] at S336
      refine p_v (v := v335) rfl rfl rfl (zde rfl ev334 r335) <| p_v (v := .int .i64 (s330 : Int)) rfl rfl rfl (zcv (vs := [v330, .int .i64 (s330 : Int)]) rfl rfl) ?_
      obtain ⟨w337, r337, g337, T337⟩ := e_mg_put (P := Try.prog) (M := 73) S336 (j := 4) (i := 9) rfl rfl (by decide)
      rw [put_ent] at T337
      have S338 : St w.heap.size w h310 w337 [box b1 27 [.slice A0_0 m.spots.length c0_0, .slice A0_1 m.first.length c0_1, .slice A0_2 m.follow.length c0_2, .slice A0_3 m.last.length c0_3, .bool m.empty], amap (fun x : (Int × Int) => Value.agg (zag x).toArray) (fun x : Int => Value.int .i64 x) b6 b2, box b8 58 [.slice A0_0 m.spots.length c0_0, .slice A0_1 m.first.length c0_1, .slice A0_2 m.follow.length c0_2, .slice A0_3 m.last.length c0_3, .bool m.empty, v_p_52, .map (some b6)], row 60 zb2 v_p_52 p_52, mgrid (fun x : (Int × Int) => Value.agg (zag x).toArray) 60 zb2 b235 (zcz ((at_ (at_ m.follow ((at_ p_52 t20).1)) t58, at_ (at_ m.follow ((at_ p_52 t20).2)) t72) : Int × Int) (((zbc ((at_ (at_ m.follow ((at_ p_52 t20).1)) t58, at_ (at_ m.follow ((at_ p_52 t20).2)) t72) : Int × Int) ahead3).getD []) ++ ([at_ p_52 t20] : List (Int × Int))) ahead3), row 60 zb2 j284_v272 todo2, box b244 60 (zag (at_ p_52 t20)), box b313 60 (zag ((at_ (at_ m.follow ((at_ p_52 t20).1)) t58, at_ (at_ m.follow ((at_ p_52 t20).2)) t72) : Int × Int)), row 60 zb2 v328 ([at_ p_52 t20] : List (Int × Int)), emp] := T337
      refine p_s rfl rfl (x_entryStore rfl rfl rfl r337) <| zaa <| zaj <| zac (l := [0, 1]) rfl <| p_v (v := .int .i64 (t72 + 1)) rfl rfl rfl (zbv r310_72 rfl (zai (by first|omega|(simp;omega)|assumption|simp) (by first|omega|(simp;omega)|assumption|simp))) <| p_v (v := .int .i64 (t72 + 1)) rfl rfl rfl (zad rfl) <| zaa ?_
      refine ih310 (zcz ((at_ (at_ m.follow ((at_ p_52 t20).1)) t58, at_ (at_ m.follow ((at_ p_52 t20).2)) t72) : Int × Int) (((zbc ((at_ (at_ m.follow ((at_ p_52 t20).1)) t58, at_ (at_ m.follow ((at_ p_52 t20).2)) t72) : Int × Int) ahead3).getD []) ++ ([at_ p_52 t20] : List (Int × Int))) ahead3, t72 + 1) _ _ (by dsimp only; omega) ⟨h310, le310, S338.sub [0, 1, 2, 3, 4, 5, 6] (by decide) rfl _ rfl, r310_0, r310_3, r310_4, r310_6, r310_8, r310_18, r310_19, r310_20, r310_56, r310_57, r310_58, r310_70, r310_71, rfl, (zai (by first|omega|(simp;omega)|assumption|simp) (by first|omega|(simp;omega)|assumption|simp)), (by first | exact ⟨by omega, by omega, ah_put hR_ hin_ hnd_ hI310.2.2 hI240.1 (by omega) hI296.1 (by omega) hI310.1 (by omega) ((hI108.2.2.mem _).1 (by assumption))⟩ | exact ⟨by omega, by omega, ah_skip hI310.2.2 (fun h => absurd ((hI108.2.2.mem _).2 h) (by assumption))⟩)⟩
     refine zao <| zaj <| zac (l := [0, 1]) rfl <| p_v (v := .int .i64 (t72 + 1)) rfl rfl rfl (zbv r310_72 rfl (zai (by first|omega|(simp;omega)|assumption|simp) (by first|omega|(simp;omega)|assumption|simp))) <| p_v (v := .int .i64 (t72 + 1)) rfl rfl rfl (zad rfl) <| zaa ?_
     refine ih310 (ahead3, t72 + 1) _ _ (by dsimp only; omega) ⟨h310, le310, S326.sub [0, 1, 2, 3, 4, 5, 6] (by decide) rfl _ rfl, r310_0, r310_3, r310_4, r310_6, r310_8, r310_18, r310_19, r310_20, r310_56, r310_57, r310_58, r310_70, r310_71, rfl, (zai (by first|omega|(simp;omega)|assumption|simp) (by first|omega|(simp;omega)|assumption|simp)), (by first | exact ⟨by omega, by omega, ah_put hR_ hin_ hnd_ hI310.2.2 hI240.1 (by omega) hI296.1 (by omega) hI310.1 (by omega) ((hI108.2.2.mem _).1 (by assumption))⟩ | exact ⟨by omega, by omega, ah_skip hI310.2.2 (fun h => absurd ((hI108.2.2.mem _).2 h) (by assumption))⟩)⟩
    refine za3 rfl <| zaj <| zac (l := [0, 1]) rfl <| p_v (v := .int .i64 (t58 + 1)) rfl rfl rfl (zbv r310_58 rfl (zai (by first|omega|(simp;omega)|assumption|simp) (by first|omega|(simp;omega)|assumption|simp))) <| p_v (v := .int .i64 (t58 + 1)) rfl rfl rfl (zad rfl) <| zaa ?_
    refine ih296 (ahead3, t58 + 1) _ _ (by dsimp only; omega) ⟨h310, ((le296).trans le310), S310.sub [0, 1, 2, 3, 4, 5, 6] (by decide) rfl _ rfl, r310_0, r310_3, r310_4, r310_6, r310_18, r310_19, r310_20, r310_56, r310_57, rfl, (zai (by first|omega|(simp;omega)|assumption|simp) (by first|omega|(simp;omega)|assumption|simp)), (by exact ⟨by omega, by omega, ah_76 hI310.2.2 hI296.1 (by omega) (by omega)⟩)⟩
   refine za3 rfl <| zaj <| zac (l := [0, 1]) rfl <| p_v (v := .int .i64 (t20 + 1)) rfl rfl rfl (zbv r296_20 rfl (zai (by first|omega|(simp;omega)|assumption|simp) (by first|omega|(simp;omega)|assumption|simp))) <| p_v (v := .int .i64 (t20 + 1)) rfl rfl rfl (zad rfl) <| zaa ?_
   refine ih240 (todo2, ahead2, t20 + 1) _ _ (by dsimp only; omega) ⟨h296, j284_v272, ((((le240).trans lej284)).trans le296), S296.sub [0, 1, 2, 3, 4, 5] (by decide) rfl _ rfl, r296_0, r296_3, r296_4, r296_18, r296_19, rfl, (zai (by first|omega|(simp;omega)|assumption|simp) (by first|omega|(simp;omega)|assumption|simp)), (by exact ⟨by omega, by omega, ah_65 hI296.2.2 hI240.1 (by omega) (by omega), JI101_⟩)⟩
  refine zab ?_
  obtain ⟨ad339, seg339, a339, rp339, ce339⟩ := zap (q := (at_ p_52 t20).1) (m := 1) l0_3 rfl (by first|omega|(simp;omega)|assumption|simp) (by first|omega|(simp;omega)|assumption|simp)
  obtain ⟨rfl, _⟩ := rp339
  rcases Bool.eq_false_or_eq_true (at_ m.last ((at_ p_52 t20).1)) with hc340 | hc340
  ·skip
   obtain ⟨ad341, seg341, a341, rp341, ce341⟩ := zap (q := (at_ p_52 t20).2) (m := 1) l0_3 rfl (by first|omega|(simp;omega)|assumption|simp) (by first|omega|(simp;omega)|assumption|simp)
   obtain ⟨rfl, _⟩ := rp341
   have hf342 : (CFs ⟨b8, 3, none⟩ [.slice A0_3 m.last.length c0_3]).1 w246 := (CF.box (m := 1) (S247.box_at (j := 2) rfl) rfl)
   have hf343 : (CFs ⟨b244, 0, none⟩ [.int .i64 ((at_ p_52 t20).1)]).1 w246 := (CF.box (m := 1) (S247.box_at (j := 6) rfl) rfl)
   have hf344 : (CFs ad339 [.bool (at_ m.last ((at_ p_52 t20).1))]).1 w246 := (CF.ghost ce339 (St.le0 S247))
   have hf345 : (CFs ⟨b8, 3, none⟩ [.slice A0_3 m.last.length c0_3]).1 w246 := (CF.box (m := 1) (S247.box_at (j := 2) rfl) rfl)
   have hf346 : (CFs ⟨b244, 1, none⟩ [.int .i64 ((at_ p_52 t20).2)]).1 w246 := (CF.box (m := 1) (S247.box_at (j := 6) rfl) rfl)
   have hf347 : (CFs ad341 [.bool (at_ m.last ((at_ p_52 t20).2))]).1 w246 := (CF.ghost ce341 (St.le0 S247))
   refine daS (hkC 4 hf342 (hkC 6 hf343 (hkC 8 hf344 (hkC 14 hf345 (hkC 16 hf346 (hkC 18 hf347 (hkN (w := w246)))))))) 20 rfl zdt ?_
   intro wd348 gd348 hd348
   have S349 := S247.keep gd348
   have hf350 := spUp gd348 hf342
   have hf351 := spUp gd348 hf343
   have hf352 := spUp gd348 hf344
   have hf353 := spUp gd348 hf345
   have hf354 := spUp gd348 hf346
   have hf355 := spUp gd348 hf347
   refine qd0 (i := 0) (v := .pointer (some ⟨b8, 0, none⟩)) rfl (by decide +kernel) rfl rfl (zad r240_0) (zaf rfl) <| qd0 (i := 1) (v := .pointer (some ⟨b8, 0, none⟩)) rfl (by decide +kernel) rfl rfl (za7 rfl) (zaf rfl) <| qd0 (i := 2) (v := .pointer (some ⟨b8, 0, none⟩)) rfl (by decide +kernel) rfl rfl (zak fd58_0 ty27 rfl rfl) (zaf rfl) <| qd0 (i := 3) (v := .pointer (some ⟨b8, 3, none⟩)) rfl (by decide +kernel) rfl rfl (zak fd27_3 ty25 rfl rfl) (zaf rfl) <| qd1 0 (i := 4) (v := .slice A0_3 m.last.length c0_3) rfl rfl (by decide +kernel) rfl rfl (fun wq hq => (zah (seg := [.slice A0_3 m.last.length c0_3]) ty25 rfl (by simp) rfl hq)) (za0 hf350 (zaf rfl)) <| qd0 (i := 5) (v := .pointer (some ⟨b244, 0, none⟩)) rfl (by decide +kernel) rfl rfl (za5 (off := 0) (q := (0 : Int)) u60 ty3 rfl rfl (by decide) (by decide)) (zaf rfl) <| qd1 1 (i := 6) (v := .int .i64 ((at_ p_52 t20).1)) rfl rfl (by decide +kernel) rfl rfl (fun wq hq => (zah (seg := [.int .i64 ((at_ p_52 t20).1)]) ty3 rfl (by simp) rfl hq)) (zaq rfl (za0 hf351 (zaf rfl))) <| qd0 (i := 7) (v := .pointer (some ad339)) rfl (by decide +kernel) rfl rfl (zan u25 ty4 rfl rfl a339 (by first|omega|(simp;omega)|assumption|simp) (by first|omega|(simp;omega)|assumption|simp)) (zaf rfl) <| qd1 2 (i := 8) (v := .bool (at_ m.last ((at_ p_52 t20).1))) rfl rfl (by decide +kernel) rfl rfl (fun wq hq => (zah (seg := [.bool (at_ m.last ((at_ p_52 t20).1))]) ty4 rfl (by simp) rfl hq)) (zaq rfl (zaq rfl (za0 hf352 (zaf rfl)))) <| qd0 (i := 9) (v := .bool (at_ m.last ((at_ p_52 t20).1))) rfl (by decide +kernel) rfl rfl (zad rfl) (zaf rfl) <| qd0 (i := 10) (v := .pointer (some ⟨b8, 0, none⟩)) rfl (by decide +kernel) (wo 9 33 rfl rfl (congrArg Value.bool hc340) rfl) rfl (zad r240_0) (zaf rfl) <| qd0 (i := 11) (v := .pointer (some ⟨b8, 0, none⟩)) rfl (by decide +kernel) (wo 9 33 rfl rfl (congrArg Value.bool hc340) rfl) rfl (za7 rfl) (zaf rfl) ?_
   refine qd0 (i := 12) (v := .pointer (some ⟨b8, 0, none⟩)) rfl (by decide +kernel) (wo 9 33 rfl rfl (congrArg Value.bool hc340) rfl) rfl (zak fd58_0 ty27 rfl rfl) (zaf rfl) <| qd0 (i := 13) (v := .pointer (some ⟨b8, 3, none⟩)) rfl (by decide +kernel) (wo 9 33 rfl rfl (congrArg Value.bool hc340) rfl) rfl (zak fd27_3 ty25 rfl rfl) (zaf rfl) <| qd1 3 (i := 14) (v := .slice A0_3 m.last.length c0_3) rfl rfl (by decide +kernel) (wo 9 33 rfl rfl (congrArg Value.bool hc340) rfl) rfl (fun wq hq => (zah (seg := [.slice A0_3 m.last.length c0_3]) ty25 rfl (by simp) rfl hq)) (zaq rfl (zaq rfl (zaq rfl (za0 hf353 (zaf rfl))))) <| qd0 (i := 15) (v := .pointer (some ⟨b244, 1, none⟩)) rfl (by decide +kernel) (wo 9 33 rfl rfl (congrArg Value.bool hc340) rfl) rfl (za5 (off := 0) (q := (1 : Int)) u60 ty3 rfl rfl (by decide) (by decide)) (zaf rfl) <| qd1 4 (i := 16) (v := .int .i64 ((at_ p_52 t20).2)) rfl rfl (by decide +kernel) (wo 9 33 rfl rfl (congrArg Value.bool hc340) rfl) rfl (fun wq hq => (zah (seg := [.int .i64 ((at_ p_52 t20).2)]) ty3 rfl (by simp) rfl hq)) (zaq rfl (zaq rfl (zaq rfl (zaq rfl (za0 hf354 (zaf rfl)))))) <| qd0 (i := 17) (v := .pointer (some ad341)) rfl (by decide +kernel) (wo 9 33 rfl rfl (congrArg Value.bool hc340) rfl) rfl (zan u25 ty4 rfl rfl a341 (by first|omega|(simp;omega)|assumption|simp) (by first|omega|(simp;omega)|assumption|simp)) (zaf rfl) <| qd1 5 (i := 18) (v := .bool (at_ m.last ((at_ p_52 t20).2))) rfl rfl (by decide +kernel) (wo 9 33 rfl rfl (congrArg Value.bool hc340) rfl) rfl (fun wq hq => (zah (seg := [.bool (at_ m.last ((at_ p_52 t20).2))]) ty4 rfl (by simp) rfl hq)) (zaq rfl (zaq rfl (zaq rfl (zaq rfl (zaq rfl (za0 hf355 (zaf rfl))))))) <| qd0 (i := 19) (v := .bool (at_ m.last ((at_ p_52 t20).2))) rfl (by decide +kernel) rfl rfl (zbf (congrArg Value.bool hc340) rfl) (zaf rfl) <| zbw (by decide +kernel) ?_
   intro wd356 gd356
   have S357 := S349.keep gd356
   refine zbs (b := at_ m.last ((at_ p_52 t20).2)) rfl (fun hc358 => ?_) (fun hc358 => ?_)
   ·skip
    refine zac (l := [0, 1, 2, 3, 4]) rfl <| p_v (v := v_todo) rfl rfl rfl (zad r240_4) <| p_v (v := .agg (zag (at_ p_52 t20)).toArray) rfl rfl rfl (zah (seg := (zag (at_ p_52 t20))) ty60 rfl (by simp) rfl (CF.box (m := 2) (S357.box_at (j := 6) rfl) rfl)) ?_
    obtain ⟨v359, w359, r359, g359, T359⟩ := e_build_segs (kd := zb2) (xs := ([at_ p_52 t20] : List (Int × Int))) (len := 1) (m := 2) [(.agg (zag (at_ p_52 t20)).toArray, (zag (at_ p_52 t20)))] S357 u56 ty60 rfl rfl rfl rfl (segs_cons rfl rfl segs_nil) (cs := (zag (at_ p_52 t20))) (zbu.single (k := zb2) (h := h240) (x := at_ p_52 t20) (cs := (zag (at_ p_52 t20))) ⟨rfl, ok243⟩) (by first | rfl | simp only [List.flatMap_cons, List.flatMap_nil, List.append_nil] | simp)
    have S360 := T359
    dsimp only [lAa, lAn, lA0, lAs] at S360
    refine p_v (v := v359) rfl rfl rfl (zaw (pv := [(0, .agg (zag (at_ p_52 t20)).toArray)]) rfl r359) ?_
    obtain ⟨A362, c362, ev362, lc362, cm362⟩ := S360.row_val (j := 7) rfl
    obtain ⟨v363, w363, r363, g363, T363⟩ := zdg (kd := zb2) (A := A362) (c := c362) (ys := ([at_ p_52 t20] : List (Int × Int))) (len := ([at_ p_52 t20] : List (Int × Int)).length) 56 S360 u56 ty60 rfl rfl (j := 5) rfl rfl (zdv S360 (j := 7) rfl ev362) (by first|omega|(simp;omega)|assumption|simp) (by first|omega|(simp;omega)|assumption|simp)
    have S364 := T363.fx 5 (row 60 zb2 v363 (todo ++ ([at_ p_52 t20] : List (Int × Int)))) rfl
    dsimp only [lAa, lAn, lA0, lAs] at S364
    refine p_v (v := v363) rfl rfl rfl (zde rfl ev362 r363) <| p_v (v := v363) rfl rfl rfl (zae rfl) <| zaa ?_
    exact jn284 _ _ ⟨h240, v363, (todo ++ ([at_ p_52 t20] : List (Int × Int))), (Le.refl _), S364.sub [0, 1, 2, 3, 4, 5, 6] (by decide) rfl _ rfl, r240_0, r240_3, rfl, rfl, r240_18, r240_19, r240_20, ok243, (by first | exact ti_yes hI240.2.2.2 hI240.1 (by assumption) (by assumption) | exact ti_no hI240.2.2.2 (.inl (by assumption)) | exact ti_no hI240.2.2.2 (.inr (by assumption)))⟩
   refine zao ?_
   exact jn284 _ _ ⟨h240, v_todo, todo, (Le.refl _), S357.sub [0, 1, 2, 3, 4, 5, 6] (by decide) rfl _ rfl, r240_0, r240_3, r240_4, rfl, r240_18, r240_19, r240_20, ok243, (by first | exact ti_yes hI240.2.2.2 hI240.1 (by assumption) (by assumption) | exact ti_no hI240.2.2.2 (.inl (by assumption)) | exact ti_no hI240.2.2.2 (.inr (by assumption)))⟩
  have hf365 : (CFs ⟨b8, 3, none⟩ [.slice A0_3 m.last.length c0_3]).1 w246 := (CF.box (m := 1) (S247.box_at (j := 2) rfl) rfl)
  have hf366 : (CFs ⟨b244, 0, none⟩ [.int .i64 ((at_ p_52 t20).1)]).1 w246 := (CF.box (m := 1) (S247.box_at (j := 6) rfl) rfl)
  have hf367 : (CFs ad339 [.bool (at_ m.last ((at_ p_52 t20).1))]).1 w246 := (CF.ghost ce339 (St.le0 S247))
  refine daS (hkC 4 hf365 (hkC 6 hf366 (hkC 8 hf367 (hkN (w := w246))))) 20 rfl zdt ?_
  intro wd368 gd368 hd368
  have S369 := S247.keep gd368
  have hf370 := spUp gd368 hf365
  have hf371 := spUp gd368 hf366
  have hf372 := spUp gd368 hf367
  refine qd0 (i := 0) (v := .pointer (some ⟨b8, 0, none⟩)) rfl (by decide +kernel) rfl rfl (zad r240_0) (zaf rfl) <| qd0 (i := 1) (v := .pointer (some ⟨b8, 0, none⟩)) rfl (by decide +kernel) rfl rfl (za7 rfl) (zaf rfl) <| qd0 (i := 2) (v := .pointer (some ⟨b8, 0, none⟩)) rfl (by decide +kernel) rfl rfl (zak fd58_0 ty27 rfl rfl) (zaf rfl) <| qd0 (i := 3) (v := .pointer (some ⟨b8, 3, none⟩)) rfl (by decide +kernel) rfl rfl (zak fd27_3 ty25 rfl rfl) (zaf rfl) <| qd1 0 (i := 4) (v := .slice A0_3 m.last.length c0_3) rfl rfl (by decide +kernel) rfl rfl (fun wq hq => (zah (seg := [.slice A0_3 m.last.length c0_3]) ty25 rfl (by simp) rfl hq)) (za0 hf370 (zaf rfl)) <| qd0 (i := 5) (v := .pointer (some ⟨b244, 0, none⟩)) rfl (by decide +kernel) rfl rfl (za5 (off := 0) (q := (0 : Int)) u60 ty3 rfl rfl (by decide) (by decide)) (zaf rfl) <| qd1 1 (i := 6) (v := .int .i64 ((at_ p_52 t20).1)) rfl rfl (by decide +kernel) rfl rfl (fun wq hq => (zah (seg := [.int .i64 ((at_ p_52 t20).1)]) ty3 rfl (by simp) rfl hq)) (zaq rfl (za0 hf371 (zaf rfl))) <| qd0 (i := 7) (v := .pointer (some ad339)) rfl (by decide +kernel) rfl rfl (zan u25 ty4 rfl rfl a339 (by first|omega|(simp;omega)|assumption|simp) (by first|omega|(simp;omega)|assumption|simp)) (zaf rfl) <| qd1 2 (i := 8) (v := .bool (at_ m.last ((at_ p_52 t20).1))) rfl rfl (by decide +kernel) rfl rfl (fun wq hq => (zah (seg := [.bool (at_ m.last ((at_ p_52 t20).1))]) ty4 rfl (by simp) rfl hq)) (zaq rfl (zaq rfl (za0 hf372 (zaf rfl)))) <| qd0 (i := 9) (v := .bool (at_ m.last ((at_ p_52 t20).1))) rfl (by decide +kernel) rfl rfl (zad rfl) (zaf rfl) <| zce (i := 10) rfl (by decide +kernel) (by decide +kernel) (by decide +kernel) (wo 9 33 rfl rfl (congrArg Value.bool hc340) rfl) rfl (zaf rfl) <| zce (i := 11) rfl (by decide +kernel) (by decide +kernel) (by decide +kernel) (wo 9 33 rfl rfl (congrArg Value.bool hc340) rfl) rfl (zaf rfl) ?_
  refine zce (i := 12) rfl (by decide +kernel) (by decide +kernel) (by decide +kernel) (wo 9 33 rfl rfl (congrArg Value.bool hc340) rfl) rfl (zaf rfl) <| zce (i := 13) rfl (by decide +kernel) (by decide +kernel) (by decide +kernel) (wo 9 33 rfl rfl (congrArg Value.bool hc340) rfl) rfl (zaf rfl) <| zce (i := 14) rfl (by decide +kernel) (by decide +kernel) (by decide +kernel) (wo 9 33 rfl rfl (congrArg Value.bool hc340) rfl) rfl (zaf rfl) <| zce (i := 15) rfl (by decide +kernel) (by decide +kernel) (by decide +kernel) (wo 9 33 rfl rfl (congrArg Value.bool hc340) rfl) rfl (zaf rfl) <| zce (i := 16) rfl (by decide +kernel) (by decide +kernel) (by decide +kernel) (wo 9 33 rfl rfl (congrArg Value.bool hc340) rfl) rfl (zaf rfl) <| zce (i := 17) rfl (by decide +kernel) (by decide +kernel) (by decide +kernel) (wo 9 33 rfl rfl (congrArg Value.bool hc340) rfl) rfl (zaf rfl) <| zce (i := 18) rfl (by decide +kernel) (by decide +kernel) (by decide +kernel) (wo 9 33 rfl rfl (congrArg Value.bool hc340) rfl) rfl (zaf rfl) <| qd0 (i := 19) (v := .bool false) rfl (by decide +kernel) rfl rfl (zbq (congrArg Value.bool hc340) rfl) (zaf rfl) <| zbw (by decide +kernel) ?_
  intro wd373 gd373
  have S374 := S369.keep gd373
  refine zbh (b := false) rfl ?_
  simp only [if_true, if_false, Bool.false_eq_true]
  refine zao ?_
  exact jn284 _ _ ⟨h240, v_todo, todo, (Le.refl _), S374.sub [0, 1, 2, 3, 4, 5, 6] (by decide) rfl _ rfl, r240_0, r240_3, r240_4, rfl, r240_18, r240_19, r240_20, ok243, (by first | exact ti_yes hI240.2.2.2 hI240.1 (by assumption) (by assumption) | exact ti_no hI240.2.2.2 (.inl (by assumption)) | exact ti_no hI240.2.2.2 (.inr (by assumption)))⟩
 refine za3 rfl <| zab <| zac (l := [0, 1]) rfl ?_
 obtain ⟨b375, w375, r375, g375, T375⟩ := e_makeMap (P := Try.prog) S240 55 (fun x : (Int × Int) => Value.agg (zag x).toArray) (fun x : Int => Value.int .i64 x)
 have S376 := T375
 dsimp only [lAa, lAn, lA0, lAs] at S376
 refine p_v (v := .map (some b375)) rfl rfl rfl (x_makeMap r375) <| p_v (v := .map (some b375)) rfl rfl rfl (zae rfl) <| zaa <| zab <| zam <| za8 (S := (List (Int × Int)) × (List ((Int × Int) × Int))) (fun (q_ : (List (Int × Int)) × (List ((Int × Int) × Int))) ρ w' => match q_ with | (todo2, out) => ∃ (h : Ghost) (v_todo2 : Value), Le h240 h ∧ St w.heap.size w h w' [box b1 27 [.slice A0_0 m.spots.length c0_0, .slice A0_1 m.first.length c0_1, .slice A0_2 m.follow.length c0_2, .slice A0_3 m.last.length c0_3, .bool m.empty], amap (fun x : (Int × Int) => Value.agg (zag x).toArray) (fun x : Int => Value.int .i64 x) b6 b2, box b8 58 [.slice A0_0 m.spots.length c0_0, .slice A0_1 m.first.length c0_1, .slice A0_2 m.follow.length c0_2, .slice A0_3 m.last.length c0_3, .bool m.empty, v_p_52, .map (some b6)], row 60 zb2 v_p_52 p_52, mgrid (fun x : (Int × Int) => Value.agg (zag x).toArray) 60 zb2 b235 ahead, row 60 zb2 v_todo2 todo2, amap (fun x : (Int × Int) => Value.agg (zag x).toArray) (fun x : Int => Value.int .i64 x) b375 out] ∧ ρ 3 = .map (some b235) ∧ ρ 4 = v_todo2 ∧ ρ 12 = .map (some b375) ∧ (E8 m p_52 ahead todo2 out)) (fun q_ => match q_ with | (todo2, out) => (((62500 : Int) - out.length) * 62501 + todo2.length).toNat) (todo, ([] : List ((Int × Int) × Int))) ⟨h240, v_todo, Le.refl _, S376.sub [0, 1, 2, 3, 4, 5, 6] (by decide) rfl _ rfl, r240_3, r240_4, rfl, (by exact e8_0 hI240.2.2.2 (by omega) (by omega) (rw_len hR_ hI108.2.2))⟩ ?_
 rintro ⟨todo2, out⟩ ih377 ρ377 w377 ⟨h377, v_todo2, le377, S377, r377_3, r377_4, r377_12, hI377⟩
 have rl377_3 := S377.row_le (j := 3) rfl; simp only [maxLen] at rl377_3
 have rl377_5 := S377.row_le (j := 5) rfl; simp only [maxLen] at rl377_5
 have hol_ := out_len hR_ hin_ hI377; have htl8_ := hI377.len
 refine zab <| zab <| zac (l := [0, 1, 2]) rfl <| p_v (v := v_todo2) rfl rfl rfl (zad r377_4) ?_
 have lb378 := S377.row_le (j := 5) rfl; simp only [maxLen] at lb378
 refine p_v (v := .int .i64 (todo2.length : Int)) rfl rfl rfl (zdo u56 rfl (zdu S377 (j := 5) rfl)) <| p_v (v := .bool (decide (0 < (todo2.length : Int)))) rfl rfl rfl (x_gtr rfl rfl) <| zaa ?_
 refine zal (p := 0 < (todo2.length : Int)) rfl (fun hc379 => ?_) (fun hc379 => ?_)
 ·skip
  refine zao <| zam <| zab <| zac (l := [0, 1, 2, 3, 4, 5, 6, 7]) rfl <| p_v (v := v_todo2) rfl rfl rfl (zad r377_4) <| p_v (v := v_todo2) rfl rfl rfl (zad r377_4) ?_
  have lb380 := S377.row_le (j := 5) rfl; simp only [maxLen] at lb380
  refine p_v (v := .int .i64 (todo2.length : Int)) rfl rfl rfl (zdo u56 rfl (zdu S377 (j := 5) rfl)) <| p_v (v := .int .i64 ((todo2.length : Int) - 1)) rfl rfl rfl (x_sub rfl rfl (zai (by first|omega|(simp;omega)|assumption|simp) (by first|omega|(simp;omega)|assumption|simp))) ?_
  obtain ⟨ad381, a381, at381⟩ := zba (q := (todo2.length : Int) - 1) (m := 2) S377 (j := 5) rfl rfl (by first|omega|(simp;omega)|assumption|simp) (by first|omega|(simp;omega)|assumption|simp)
  refine p_v (v := .pointer (some ad381)) rfl rfl rfl (za9 u56 ty60 rfl rfl a381 (by first|omega|(simp;omega)|assumption|simp) (by first|omega|(simp;omega)|assumption|simp)) ?_
  obtain ⟨seg382, rp382, cf382⟩ := zbo (q := (todo2.length : Int) - 1) S377 (j := 5) rfl rfl at381 (by first|omega|(simp;omega)|assumption|simp) (by first|omega|(simp;omega)|assumption|simp)
  obtain ⟨rfl, ok382⟩ := rp382
  have palok382 := za1 ok382.1; have pahok382 := za2 ok382.1; have pblok382 := za1 ok382.2; have pbhok382 := za2 ok382.2
  refine p_v (v := .agg (zag (at_ todo2 ((todo2.length : Int) - 1))).toArray) rfl rfl rfl (zah (seg := (zag (at_ todo2 ((todo2.length : Int) - 1)))) ty60 rfl (by simp) rfl cf382) ?_
  obtain ⟨b383, w383, r383, g383, T383⟩ := zc0 (P := Try.prog) S377 60 (v := (.agg #[.int .i64 0, .int .i64 0])) (zag ((0, 0) : Int × Int)) rfl
  have S384 := T383
  dsimp only [lAa, lAn, lA0, lAs] at S384
  refine p_v (v := .pointer (some ⟨b383, 0, none⟩)) rfl rfl rfl (zcs ty60 r383) ?_
  obtain ⟨w385, r385, g385, T385⟩ := zb9 (P := Try.prog) (off := 0) (v := .agg (zag (at_ todo2 ((todo2.length : Int) - 1))).toArray) (vs := (zag (at_ todo2 ((todo2.length : Int) - 1)))) S384 ty60 rfl rfl (j := 7) rfl (by first | decide | exact Nat.le_of_ble_eq_true rfl) (zdb _)
  have S386 := T385.fx 7 (box b383 60 (zag (at_ todo2 ((todo2.length : Int) - 1)))) rfl
  dsimp only [lAa, lAn, lA0, lAs] at S386
  refine p_s rfl rfl (zbt rfl rfl r385) <| zaa <| zab <| zac (l := [0, 1, 2, 3, 4, 5]) rfl <| p_v (v := v_todo2) rfl rfl rfl (zad r377_4) <| p_v (v := v_todo2) rfl rfl rfl (zad r377_4) ?_
  have lb387 := S386.row_le (j := 5) rfl; simp only [maxLen] at lb387
  refine p_v (v := .int .i64 (todo2.length : Int)) rfl rfl rfl (zdo u56 rfl (zdu S386 (j := 5) rfl)) <| p_v (v := .int .i64 ((todo2.length : Int) - 1)) rfl rfl rfl (x_sub rfl rfl (zai (by first|omega|(simp;omega)|assumption|simp) (by first|omega|(simp;omega)|assumption|simp))) ?_
  obtain ⟨v388, r388, T388⟩ := e_slice_hi (q := (todo2.length : Int) - 1) (kk := .i64) S386 u56 ty60 (j := 5) rfl (by first|omega|(simp;omega)|assumption|simp) (by first|omega|(simp;omega)|assumption|simp)
  have S389 := T388.fx 5 (row 60 zb2 v388 (todo2.take ((todo2.length : Int) - 1).toNat)) rfl
  dsimp only [lAa, lAn, lA0, lAs] at S389
  refine p_v (v := v388) rfl rfl rfl (x_slice (lv := none) (hv := some (.int .i64 ((todo2.length : Int) - 1))) rfl rfl rfl r388) <| p_v (v := v388) rfl rfl rfl (zae rfl) <| zaa <| zab <| zac (l := [0, 1, 2, 3]) rfl <| p_v (v := .map (some b375)) rfl rfl rfl (zad r377_12) <| p_v (v := .agg (zag (at_ todo2 ((todo2.length : Int) - 1))).toArray) rfl rfl rfl (zah (seg := (zag (at_ todo2 ((todo2.length : Int) - 1)))) ty60 rfl (by simp) rfl (CF.box (m := 2) (S389.box_at (j := 7) rfl) rfl)) <| p_v (v := .int .i64 ((zbc (at_ todo2 ((todo2.length : Int) - 1)) out).getD 0)) rfl rfl rfl (x_lookup (a := .map (some b375)) (k := .agg (zag (at_ todo2 ((todo2.length : Int) - 1))).toArray) rfl rfl (e_lookup_hf (kvs := out) key60 (S389.map_at (j := 6) rfl) u55 (zcn ty3) 0 (at_ todo2 ((todo2.length : Int) - 1)))) <| p_v (v := .bool (decide (((zbc (at_ todo2 ((todo2.length : Int) - 1)) out).getD 0) = 0))) rfl rfl rfl (x_eql rfl rfl) <| zaa ?_
  refine zal (p := ((zbc (at_ todo2 ((todo2.length : Int) - 1)) out).getD 0) = 0) rfl (fun hc390 => ?_) (fun hc390 => ?_)
  ·skip
   have he8_ := e8_new hR_ (fun x hx => ⟨hI108.2.2.come x hx, hin_ x hx⟩) (fun x hx => come_both (hI108.2.2.come x hx)) hI240.2.2.1 (by omega) hI377 (by omega) hc390
   have hrl8_ := ah_len5 hR_ hin_ hI240.2.2.1 (by omega) (at_ todo2 ((todo2.length : Int) - 1))
   refine zab <| zac (l := [0, 1, 2]) rfl <| p_v (v := .map (some b375)) rfl rfl rfl (zad r377_12) <| p_v (v := .agg (zag (at_ todo2 ((todo2.length : Int) - 1))).toArray) rfl rfl rfl (zah (seg := (zag (at_ todo2 ((todo2.length : Int) - 1)))) ty60 rfl (by simp) rfl (CF.box (m := 2) (S389.box_at (j := 7) rfl) rfl)) ?_
   obtain ⟨w391, r391, g391, T391⟩ := e_mapUpdate key60 S389 (j := 6) rfl u55 (at_ todo2 ((todo2.length : Int) - 1)) 1
   have S392 := T391.fx 6 (amap (fun x : (Int × Int) => Value.agg (zag x).toArray) (fun x : Int => Value.int .i64 x) b375 (zcz (at_ todo2 ((todo2.length : Int) - 1)) 1 out)) rfl
   dsimp only [lAa, lAn, lA0, lAs] at S392
   refine p_s rfl rfl (x_mapUpdate rfl rfl rfl r391) <| zaa <| zac (l := [0, 1, 2, 3, 4, 5]) rfl <| p_v (v := v388) rfl rfl rfl (zad rfl) <| p_v (v := .map (some b235)) rfl rfl rfl (zad r377_3) <| p_v (v := .agg (zag (at_ todo2 ((todo2.length : Int) - 1))).toArray) rfl rfl rfl (zah (seg := (zag (at_ todo2 ((todo2.length : Int) - 1)))) ty60 rfl (by simp) rfl (CF.box (m := 2) (S392.box_at (j := 7) rfl) rfl)) ?_
   obtain ⟨A393, c393, r393, bd393, ld393⟩ := e_mg_read (P := Try.prog) key60 S392 (j := 4) rfl u73 (zcn ty56) (at_ todo2 ((todo2.length : Int) - 1))
   have ba393 := bd393.1; have bb393 := bd393.2; simp only [maxLen] at bb393
   refine p_v (v := .slice A393 ((zbc (at_ todo2 ((todo2.length : Int) - 1)) ahead).getD []).length c393) rfl rfl rfl (x_lookup rfl rfl r393) ?_
   obtain ⟨v395, w395, r395, g395, T395⟩ := zdg (kd := zb2) (A := A393) (c := c393) (ys := ((zbc (at_ todo2 ((todo2.length : Int) - 1)) ahead).getD [])) (len := ((zbc (at_ todo2 ((todo2.length : Int) - 1)) ahead).getD []).length) 56 S392 u56 ty60 rfl rfl (j := 5) rfl rfl (news_flat ld393 (fun _ _ hr => hr)) (by first|omega|(simp;omega)|assumption|simp) (by first|omega|(simp;omega)|assumption|simp)
   have S396 := T395.fx 5 (row 60 zb2 v395 ((todo2.take ((todo2.length : Int) - 1).toNat) ++ ((zbc (at_ todo2 ((todo2.length : Int) - 1)) ahead).getD []))) rfl
   dsimp only [lAa, lAn, lA0, lAs] at S396
   refine p_v (v := v395) rfl rfl rfl (zde rfl rfl r395) <| p_v (v := v395) rfl rfl rfl (zae rfl) <| zaa <| zaj ?_
   refine ih377 ((todo2.take ((todo2.length : Int) - 1).toNat) ++ ((zbc (at_ todo2 ((todo2.length : Int) - 1)) ahead).getD []), zcz (at_ todo2 ((todo2.length : Int) - 1)) 1 out) _ _ (by dsimp only; first | (simp only [List.length_append, List.length_take, he8_.2]; omega) | (simp only [List.length_take]; omega)) ⟨h377, v395, le377, S396.sub [0, 1, 2, 3, 4, 5, 6] (by decide) rfl _ rfl, r377_3, rfl, r377_12, (by first | exact he8_.1 | exact e8_old hI377 (by omega) (by assumption))⟩
  refine zao <| zaj ?_
  refine ih377 (todo2.take ((todo2.length : Int) - 1).toNat, out) _ _ (by dsimp only; first | (simp only [List.length_append, List.length_take, he8_.2]; omega) | (simp only [List.length_take]; omega)) ⟨h377, v388, le377, S389.sub [0, 1, 2, 3, 4, 5, 6] (by decide) rfl _ rfl, r377_3, rfl, r377_12, (by first | exact he8_.1 | exact e8_old hI377 (by omega) (by assumption))⟩
 refine za3 rfl <| zab <| zac (l := [0, 1]) rfl <| p_v (v := .map (some b375)) rfl rfl rfl (zad r377_12) <| p_v (v := .map (some b375)) rfl rfl rfl (zae rfl) <| zaa <| zav Try.func31 (res1 rfl (zax (v := .map (some b375)) rfl)) ?_
 refine ⟨_, rfl, ?_⟩
 obtain ⟨r397, w397, rr397, g397, T397⟩ := e_range (P := Try.prog) S377 (j := 6) rfl u55
 have S398 := T397.fx 6 (mit (fun x : (Int × Int) => Value.agg (zag x).toArray) (fun x : Int => Value.int .i64 x) b375 r397 out out) rfl
 dsimp only [lAa, lAn, lA0, lAs] at S398
 refine p_v (v := .pointer (some ⟨r397, 0, none⟩)) rfl rfl rfl (x_range rfl rr397) <| zaa <| zam <| za8 (S := (List ((Int × Int) × Int))) (fun (q_ : (List ((Int × Int) × Int))) ρ w' => match q_ with | left => ∃ (h : Ghost), Le h377 h ∧ St w.heap.size w h w' [box b1 27 [.slice A0_0 m.spots.length c0_0, .slice A0_1 m.first.length c0_1, .slice A0_2 m.follow.length c0_2, .slice A0_3 m.last.length c0_3, .bool m.empty], mit (fun x : (Int × Int) => Value.agg (zag x).toArray) (fun x : Int => Value.int .i64 x) b375 r397 out left] ∧ ρ 1 = .pointer (some ⟨b1, 0, none⟩) ∧ ρ 16 = .pointer (some ⟨r397, 0, none⟩) ∧ ((∀ p ∈ left, p ∈ out) ∧ ∀ p ∈ out, p ∈ left ∨ (at_ m.spots p.1.1).tag = (at_ m.spots p.1.2).tag)) (fun q_ => match q_ with | left => left.length) (out) ⟨h377, Le.refl _, S398.sub [0, 6] (by decide) rfl _ rfl, rfl, rfl, (by exact ⟨fun _ h => h, fun _ h => .inl h⟩)⟩ ?_
 rintro left ih399 ρ399 w399 ⟨h399, le399, S399, r399_1, r399_16, hI399⟩
 refine zab <| zac (l := [0, 1]) rfl ?_
 rcases e_next (P := Try.prog) (ty := 0) S399 (j := 1) rfl with ⟨hx400, rx400⟩ | ⟨la400, p400, lb400, w400, hx400, rx400, g400, T400⟩
 ·skip
  have T400 := e_over S399 (j := 1) rfl
  have S401 := T400.fx 1 (amap (fun x : (Int × Int) => Value.agg (zag x).toArray) (fun x : Int => Value.int .i64 x) b375 out) rfl
  dsimp only [lAa, lAn, lA0, lAs] at S401
  refine p_v (v := .tuple #[.bool false]) rfl rfl rfl (x_next r399_16 rx400) <| p_v (v := .bool false) rfl rfl rfl (zcv (vs := [.bool false]) rfl rfl) <| zaa <| zab <| zbh (b := false) rfl ?_
  simp only [if_true, if_false, Bool.false_eq_true]
  refine za3 rfl <| zab <| zac (l := [0]) rfl <| p_v (v := .bool true) rfl rfl rfl (zae rfl) <| zaa <| zav Try.func17 (res1 rfl (zax (v := .bool true) rfl)) ?_
  have q0 : (zcd m : Bool) = true := by
   first | exact single_0 (by assumption) | exact single_no (hI108.2.2.come _ (hI377.outIn _ hpo_).1) (hI377.outIn _ hpo_).2.1 (by assumption) | exact single_fin (by assumption) hI108.2.2 (by omega) hI240.2.2.1 (by omega) (by omega) hI377 (by assumption) hx400 hI399.2
  refine ⟨_, rfl, h399, ?_, ?_⟩
  · exact S401.sub [] (by decide) rfl _ rfl
  · first | rfl | (simp only [q0]; rfl) | (simp only [q0])
 have S402 := T400.fx 1 (mitc (fun x : (Int × Int) => Value.agg (zag x).toArray) (fun x : Int => Value.int .i64 x) b375 r397 out (la400 ++ lb400) p400) rfl
 dsimp only [lAa, lAn, lA0, lAs] at S402
 refine p_v (v := .tuple #[.bool true, .agg (zag p400.1).toArray, .int .i64 p400.2]) rfl rfl rfl (x_next r399_16 rx400) ?_
 have hpo_ := hI399.1 p400 (by rw [hx400]; simp)
 have hpi_ : (0 ≤ p400.1.1 ∧ p400.1.1 < (m.spots.length : Int)) ∧ 0 ≤ p400.1.2 ∧ p400.1.2 < (m.spots.length : Int) := hin_ _ (hI377.outIn _ hpo_).1
 refine p_v (v := .bool true) rfl rfl rfl (zcv (vs := [.bool true, .agg (zag p400.1).toArray, .int .i64 p400.2]) rfl rfl) <| zaa <| zab <| zbh (b := true) rfl ?_
 simp only [if_true, if_false, Bool.false_eq_true]
 refine zao <| zam <| zab <| zac (l := [0, 1, 2, 3]) rfl ?_
 obtain ⟨r403, T403⟩ := e_entry (P := Try.prog) S402 (j := 1) rfl
 have S404 := T403.fx 1 (mit (fun x : (Int × Int) => Value.agg (zag x).toArray) (fun x : Int => Value.int .i64 x) b375 r397 out (la400 ++ lb400)) rfl
 dsimp only [lAa, lAn, lA0, lAs] at S404
 refine p_v (v := .tuple #[.agg (zag p400.1).toArray, .int .i64 p400.2]) rfl rfl rfl (x_entry r399_16 r403) <| p_v (v := .agg (zag p400.1).toArray) rfl rfl rfl (zcv (vs := [.agg (zag p400.1).toArray, .int .i64 p400.2]) rfl rfl) ?_
 obtain ⟨b405, w405, r405, g405, T405⟩ := zc0 (P := Try.prog) S404 60 (v := (.agg #[.int .i64 0, .int .i64 0])) (zag ((0, 0) : Int × Int)) rfl
 have S406 := T405
 dsimp only [lAa, lAn, lA0, lAs] at S406
 refine p_v (v := .pointer (some ⟨b405, 0, none⟩)) rfl rfl rfl (zcs ty60 r405) ?_
 obtain ⟨w407, r407, g407, T407⟩ := zb9 (P := Try.prog) (off := 0) (v := .agg (zag p400.1).toArray) (vs := (zag p400.1)) S406 ty60 rfl rfl (j := 2) rfl (by first | decide | exact Nat.le_of_ble_eq_true rfl) (zdb _)
 have S408 := T407.fx 2 (box b405 60 (zag p400.1)) rfl
 dsimp only [lAa, lAn, lA0, lAs] at S408
 refine p_s rfl rfl (zbt rfl rfl r407) <| zaa <| zab ?_
 obtain ⟨ad409, seg409, a409, rp409, ce409⟩ := zap (q := p400.1.1) (m := 5) l0_0 rfl (by first|omega|(simp;omega)|assumption|simp) (by first|omega|(simp;omega)|assumption|simp)
 obtain ⟨rfl, ok409⟩ := rp409
 have slook409 := u8_lo ok409; have shiok409 := u8_hi ok409
 obtain ⟨ad411, seg411, a411, rp411, ce411⟩ := zap (q := p400.1.2) (m := 5) l0_0 rfl (by first|omega|(simp;omega)|assumption|simp) (by first|omega|(simp;omega)|assumption|simp)
 obtain ⟨rfl, ok411⟩ := rp411
 have slook411 := u8_lo ok411; have shiok411 := u8_hi ok411
 have hf413 : (CFs ⟨b1, 0, none⟩ [.slice A0_0 m.spots.length c0_0]).1 w407 := (CF.box (m := 1) (S408.box_at (j := 0) rfl) rfl)
 have hf414 : (CFs ⟨b405, 0, none⟩ [.int .i64 p400.1.1]).1 w407 := (CF.box (m := 1) (S408.box_at (j := 2) rfl) rfl)
 have hf415 : (CFs (ad409.add 4) [.int .u8 ((at_ m.spots p400.1.1).tag)]).1 w407 := (CF.ghost (sub_seg (o := 4) (m := 1) (ds := [.int .u8 ((at_ m.spots p400.1.1).tag)]) ce409 rfl) (St.le0 S408))
 have hf416 : (CFs ⟨b1, 0, none⟩ [.slice A0_0 m.spots.length c0_0]).1 w407 := (CF.box (m := 1) (S408.box_at (j := 0) rfl) rfl)
 have hf417 : (CFs ⟨b405, 1, none⟩ [.int .i64 p400.1.2]).1 w407 := (CF.box (m := 1) (S408.box_at (j := 2) rfl) rfl)
 have hf418 : (CFs (ad411.add 4) [.int .u8 ((at_ m.spots p400.1.2).tag)]).1 w407 := (CF.ghost (sub_seg (o := 4) (m := 1) (ds := [.int .u8 ((at_ m.spots p400.1.2).tag)]) ce411 rfl) (St.le0 S408))
 refine daS (hkC 1 hf413 (hkC 3 hf414 (hkC 6 hf415 (hkC 8 hf416 (hkC 10 hf417 (hkC 13 hf418 (hkN (w := w407)))))))) 15 rfl zdt ?_
 intro wd419 gd419 hd419
 have S420 := S408.keep gd419
 have hf421 := spUp gd419 hf413
 have hf422 := spUp gd419 hf414
 have hf423 := spUp gd419 hf415
 have hf424 := spUp gd419 hf416
 have hf425 := spUp gd419 hf417
 have hf426 := spUp gd419 hf418
 refine qd0 (i := 0) (v := .pointer (some ⟨b1, 0, none⟩)) rfl (by decide +kernel) rfl rfl (zak zda ty22 rfl r399_1) (zaf rfl) <| qd1 0 (i := 1) (v := .slice A0_0 m.spots.length c0_0) rfl rfl (by decide +kernel) rfl rfl (fun wq hq => (zah (seg := [.slice A0_0 m.spots.length c0_0]) ty22 rfl (by simp) rfl hq)) (za0 hf421 (zaf rfl)) <| qd0 (i := 2) (v := .pointer (some ⟨b405, 0, none⟩)) rfl (by decide +kernel) rfl rfl (za5 (off := 0) (q := (0 : Int)) u60 ty3 rfl rfl (by decide) (by decide)) (zaf rfl) <| qd1 1 (i := 3) (v := .int .i64 p400.1.1) rfl rfl (by decide +kernel) rfl rfl (fun wq hq => (zah (seg := [.int .i64 p400.1.1]) ty3 rfl (by simp) rfl hq)) (zaq rfl (za0 hf422 (zaf rfl))) <| qd0 (i := 4) (v := .pointer (some ad409)) rfl (by decide +kernel) rfl rfl (zan u22 ty43 rfl rfl a409 (by first|omega|(simp;omega)|assumption|simp) (by first|omega|(simp;omega)|assumption|simp)) (zaf rfl) <| qd0 (i := 5) (v := .pointer (some (ad409.add 4))) rfl (by decide +kernel) rfl rfl (zcu fd43_1 ty5 rfl rfl) (zaf rfl) <| qd1 2 (i := 6) (v := .int .u8 ((at_ m.spots p400.1.1).tag)) rfl rfl (by decide +kernel) rfl rfl (fun wq hq => (zah (seg := [.int .u8 ((at_ m.spots p400.1.1).tag)]) ty5 rfl (by simp) rfl hq)) (zaq rfl (zaq rfl (za0 hf423 (zaf rfl)))) <| qd0 (i := 7) (v := .pointer (some ⟨b1, 0, none⟩)) rfl (by decide +kernel) rfl rfl (zak zda ty22 rfl r399_1) (zaf rfl) <| qd1 3 (i := 8) (v := .slice A0_0 m.spots.length c0_0) rfl rfl (by decide +kernel) rfl rfl (fun wq hq => (zah (seg := [.slice A0_0 m.spots.length c0_0]) ty22 rfl (by simp) rfl hq)) (zaq rfl (zaq rfl (zaq rfl (za0 hf424 (zaf rfl))))) <| qd0 (i := 9) (v := .pointer (some ⟨b405, 1, none⟩)) rfl (by decide +kernel) rfl rfl (za5 (off := 0) (q := (1 : Int)) u60 ty3 rfl rfl (by decide) (by decide)) (zaf rfl) <| qd1 4 (i := 10) (v := .int .i64 p400.1.2) rfl rfl (by decide +kernel) rfl rfl (fun wq hq => (zah (seg := [.int .i64 p400.1.2]) ty3 rfl (by simp) rfl hq)) (zaq rfl (zaq rfl (zaq rfl (zaq rfl (za0 hf425 (zaf rfl)))))) <| qd0 (i := 11) (v := .pointer (some ad411)) rfl (by decide +kernel) rfl rfl (zan u22 ty43 rfl rfl a411 (by first|omega|(simp;omega)|assumption|simp) (by first|omega|(simp;omega)|assumption|simp)) (zaf rfl) ?_
 refine qd0 (i := 12) (v := .pointer (some (ad411.add 4))) rfl (by decide +kernel) rfl rfl (zcu fd43_1 ty5 rfl rfl) (zaf rfl) <| qd1 5 (i := 13) (v := .int .u8 ((at_ m.spots p400.1.2).tag)) rfl rfl (by decide +kernel) rfl rfl (fun wq hq => (zah (seg := [.int .u8 ((at_ m.spots p400.1.2).tag)]) ty5 rfl (by simp) rfl hq)) (zaq rfl (zaq rfl (zaq rfl (zaq rfl (zaq rfl (za0 hf426 (zaf rfl))))))) <| qd0 (i := 14) (v := .bool (decide (((at_ m.spots p400.1.1).tag) ≠ ((at_ m.spots p400.1.2).tag)))) rfl (by decide +kernel) rfl rfl (x_neq rfl rfl) (zaf rfl) <| zbw (by decide +kernel) ?_
 intro wd427 gd427
 have S428 := S420.keep gd427
 refine zal (p := ((at_ m.spots p400.1.1).tag) ≠ ((at_ m.spots p400.1.2).tag)) rfl (fun hc429 => ?_) (fun hc429 => ?_)
 ·skip
  refine zab <| zac (l := [0]) rfl <| p_v (v := .bool false) rfl rfl rfl (zae rfl) <| zaa <| zav Try.func17 (res1 rfl (zax (v := .bool false) rfl)) ?_
  have q0 : (zcd m : Bool) = false := by
   first | exact single_0 (by assumption) | exact single_no (hI108.2.2.come _ (hI377.outIn _ hpo_).1) (hI377.outIn _ hpo_).2.1 (by assumption) | exact single_fin (by assumption) hI108.2.2 (by omega) hI240.2.2.1 (by omega) (by omega) hI377 (by assumption) hx400 hI399.2
  refine ⟨_, rfl, h399, ?_, ?_⟩
  · exact S428.sub [] (by decide) rfl _ rfl
  · first | rfl | (simp only [q0]; rfl) | (simp only [q0])
 refine zao <| zaj ?_
 refine ih399 (la400 ++ lb400) _ _ (by dsimp only; rw [hx400]; simp) ⟨h399, le399, S428.sub [0, 1] (by decide) rfl _ rfl, r399_1, r399_16, (by exact left_step hx400 hI399 (Decidable.not_not.1 (by assumption)))⟩
end Go.Proofs.Ytpdanfggijmnmaa
namespace Gx
open Go Go.RowKit
set_option linter.unusedSimpArgs false
set_option linter.unusedVariables false
set_option maxRecDepth 100000
def twoM (c : Int) : Mach := ⟨[⟨zb6 [c], 0⟩, ⟨zb6 [97], 1⟩, ⟨zb6 [98], 0⟩], [0, 1], [[2], [2], []], [false, false, true], false⟩
theorem two_no : zcd (twoM 97) = false :=
  single_no (x := (0, 1)) (.first (by decide) (by decide) (by unfold bothP; decide +kernel)) (.next (y := (2, 2)) ⟨by decide, by decide⟩ (by unfold bothP; decide +kernel) (.last (by decide) (by decide))) (by decide +kernel)
theorem two_same {x : Pr} (h : Come (twoM 99) x) : x.1 = x.2 := by
  have n01 : ¬ bothP (twoM 99) (0, 1) := by unfold bothP; decide +kernel
  have n10 : ¬ bothP (twoM 99) (1, 0) := by unfold bothP; decide +kernel
  induction h with
  | @first y h1 h2 hb =>
    obtain ⟨a, b⟩ := y
    have h1' : a = 0 ∨ a = 1 := by simpa [twoM] using h1
    have h2' : b = 0 ∨ b = 1 := by simpa [twoM] using h2
    rcases h1' with rfl | rfl <;> rcases h2' with rfl | rfl
    · rfl
    · exact absurd hb n01
    · exact absurd hb n10
    · rfl
  | @next x y hc hs hb ih =>
    obtain ⟨a, b⟩ := y
    obtain ⟨p, q⟩ := x
    simp only at ih
    subst ih
    have hR : Right (twoM 99) := right_iff.1 (by decide +kernel)
    have hin := come_in hR hc
    have hp : p = 0 ∨ p = 1 ∨ p = 2 := by
      have h1 := hin.1.1
      have h2 : p < 3 := hin.1.2
      simp only at h1
      omega
    have hs1 : a ∈ at_ (twoM 99).follow p := hs.1
    have hs2 : b ∈ at_ (twoM 99).follow p := hs.2
    rcases hp with rfl | rfl | rfl
    · have e1 : a = 2 := by simpa [twoM, at_] using hs1
      have e2 : b = 2 := by simpa [twoM, at_] using hs2
      rw [e1, e2]
    · have e1 : a = 2 := by simpa [twoM, at_] using hs1
      have e2 : b = 2 := by simpa [twoM, at_] using hs2
      rw [e1, e2]
    · simp [twoM, at_] at hs1
theorem two_yes : zcd (twoM 99) = true := single_yes (by decide +kernel) fun x hc _ => by rw [two_same hc]
theorem two_run : runPM (twoM 99) ⟨#[97, 98]⟩ = ⟨true, ⟨#[97]⟩, ⟨#[]⟩⟩ := by decide +kernel
end Gx
namespace Go.Proofs.Ytpdanfggijmnmaa
open Go Go.RowKit Gx
set_option maxHeartbeats 3000000
set_option linter.unusedVariables false
set_option linter.unusedSimpArgs false
set_option maxRecDepth 8000
attribute [local irreducible] listOf zd0 first someIn has zb6 wbits Lib.ctz zc4 zbj rowOk tab markP intoP intoTo zcm zb7 zcr runTo endsIn endTo runM posTo mayP zb3 zb1 mayTo atP lastTo docAt anyTo allTo lfp trues zcw zcq gIn zc1 endL zc5 gRowTo zay markL marksO zat okMk pickL zdi runPM
theorem two_calls (w : World) (c : Int) (i0 : inK .u8 c) :
    Calls Try.prog 19 #[.int .u8 c] w fun e w' => ∃ v, e = .returned v ∧ ∃ (hn : Ghost) (r0 : Value) (r1 : Value) (r2 : Value) (r3 : Value), St w.heap.size w hn w' [row 43 kSpot r0 ((twoM c).spots), row 3 (Kd.int .i64) r1 ((twoM c).first), row 23 (Kd.int .i64).slice r2 ((twoM c).follow), row 4 Kd.bool r3 ((twoM c).last)] ∧ v = .agg #[r0, r1, r2, r3, .bool ((twoM c).empty)] := by
 refine zas Try.func19 rfl Try.ntmps19 rfl ?_
 have S0 := St.init w
 have lo0 := u8_lo i0; have hi0 := u8_hi i0
 refine zab <| zac (l := [0]) rfl ?_
 obtain ⟨b1, w1, r1, g1, T1⟩ := zc0 (P := Try.prog) S0 27 (v := (.agg #[.slice none 0 0, .slice none 0 0, .slice none 0 0, .slice none 0 0, .bool false])) [.slice none 0 0, .slice none 0 0, .slice none 0 0, .slice none 0 0, .bool false] rfl
 have S2 := T1
 dsimp only [lAa, lAn, lA0, lAs] at S2
 refine p_v (v := .pointer (some ⟨b1, 0, none⟩)) rfl rfl rfl (zcs ty27 r1) <| zaa <| zab <| zac (l := [0, 1, 2, 3, 4, 5, 6, 7, 8, 9, 10, 11, 12, 13, 14, 15, 16, 17, 18]) rfl <| p_v (v := .int .u8 c) rfl rfl rfl (zad rfl) ?_
 obtain ⟨v3, w3, r3, g3, T3⟩ := zbb (kd := (Kd.int .u8)) (xs := ([c] : List Int)) (len := 1) [.int .u8 c] S2 u30 ty5 rfl rfl rfl rfl rfl (zbm rfl zcb) [.int .u8 c] (zbu.single (k := (Kd.int .u8)) (h := (fun _ => none)) (x := c) (cs := [.int .u8 c]) ⟨rfl, (in_u8 (by first|omega|(simp;omega)|assumption|simp) (by first|omega|(simp;omega)|assumption|simp))⟩) rfl
 have S4 := T3
 dsimp only [lAa, lAn, lA0, lAs] at S4
 refine p_v (v := v3) rfl rfl rfl (zaw (pv := [(0, .int .u8 c)]) rfl r3) ?_
 obtain ⟨A5, c5, ev5, lc5, cm5⟩ := S4.row_val (j := 1) rfl
 refine p_c rfl rfl rfl (zbd (args := [.slice A5 ([c] : List Int).length c5]) ca36 rfl (zci ev5 rfl)) (of_calls w3 ([c] : List Int) A5 c5 (And.intro lc5 cm5) (zb8 S4 (j := 1) rfl ev5)) ?_
 rintro _ w6 ⟨h6, T6, rfl⟩
 have S7 := S4.keep (Chg.of_below T6.below)
 refine p_v (v := .agg (za4 (⟨zb6 ([c] : List Int), 0⟩ : Spot)).toArray) rfl rfl rfl (y_build (pv := [(0, .agg (zau (zb6 ([c] : List Int))).toArray)]) rfl (zb4 pl43 ty43 rfl (cs := (za4 (⟨zb6 ([c] : List Int), 0⟩ : Spot))) rfl)) ?_
 obtain ⟨v8, w8, r8, g8, T8⟩ := zbb (kd := (Kd.int .u8)) (xs := ([97] : List Int)) (len := 1) [.int .u8 97] S7 u30 ty5 rfl rfl rfl rfl rfl (zbm rfl zcb) [.int .u8 97] (zbu.single (k := (Kd.int .u8)) (h := (fun _ => none)) (x := 97) (cs := [.int .u8 97]) ⟨rfl, (in_u8 (by first|omega|(simp;omega)|assumption|simp) (by first|omega|(simp;omega)|assumption|simp))⟩) rfl
 have S9 := T8
 dsimp only [lAa, lAn, lA0, lAs] at S9
 refine p_v (v := v8) rfl rfl rfl (zaw (pv := [(0, .int .u8 97)]) rfl r8) ?_
 obtain ⟨A10, c10, ev10, lc10, cm10⟩ := S9.row_val (j := 2) rfl
 refine p_c rfl rfl rfl (zbd (args := [.slice A10 ([97] : List Int).length c10]) ca36 rfl (zci ev10 rfl)) (of_calls w8 ([97] : List Int) A10 c10 (And.intro lc10 cm10) (zb8 S9 (j := 2) rfl ev10)) ?_
 rintro _ w11 ⟨h11, T11, rfl⟩
 have S12 := S9.keep (Chg.of_below T11.below)
 refine p_v (v := .agg (za4 (⟨zb6 ([97] : List Int), 1⟩ : Spot)).toArray) rfl rfl rfl (y_build (pv := [(0, .agg (zau (zb6 ([97] : List Int))).toArray), (1, .int .u8 1)]) rfl (zb4 pl43 ty43 rfl (cs := (za4 (⟨zb6 ([97] : List Int), 1⟩ : Spot))) rfl)) ?_
 obtain ⟨v13, w13, r13, g13, T13⟩ := zbb (kd := (Kd.int .u8)) (xs := ([98] : List Int)) (len := 1) [.int .u8 98] S12 u30 ty5 rfl rfl rfl rfl rfl (zbm rfl zcb) [.int .u8 98] (zbu.single (k := (Kd.int .u8)) (h := (fun _ => none)) (x := 98) (cs := [.int .u8 98]) ⟨rfl, (in_u8 (by first|omega|(simp;omega)|assumption|simp) (by first|omega|(simp;omega)|assumption|simp))⟩) rfl
 have S14 := T13
 dsimp only [lAa, lAn, lA0, lAs] at S14
 refine p_v (v := v13) rfl rfl rfl (zaw (pv := [(0, .int .u8 98)]) rfl r13) ?_
 obtain ⟨A15, c15, ev15, lc15, cm15⟩ := S14.row_val (j := 3) rfl
 refine p_c rfl rfl rfl (zbd (args := [.slice A15 ([98] : List Int).length c15]) ca36 rfl (zci ev15 rfl)) (of_calls w13 ([98] : List Int) A15 c15 (And.intro lc15 cm15) (zb8 S14 (j := 3) rfl ev15)) ?_
 rintro _ w16 ⟨h16, T16, rfl⟩
 have S17 := S14.keep (Chg.of_below T16.below)
 refine p_v (v := .agg (za4 (⟨zb6 ([98] : List Int), 0⟩ : Spot)).toArray) rfl rfl rfl (y_build (pv := [(0, .agg (zau (zb6 ([98] : List Int))).toArray)]) rfl (zb4 pl43 ty43 rfl (cs := (za4 (⟨zb6 ([98] : List Int), 0⟩ : Spot))) rfl)) ?_
 obtain ⟨v18, w18, r18, g18, T18⟩ := e_build_segs (kd := kSpot) (xs := ([(⟨zb6 ([c] : List Int), 0⟩ : Spot), (⟨zb6 ([97] : List Int), 1⟩ : Spot), (⟨zb6 ([98] : List Int), 0⟩ : Spot)] : List Spot)) (len := 3) (m := 5) [(.agg (za4 (⟨zb6 ([c] : List Int), 0⟩ : Spot)).toArray, (za4 (⟨zb6 ([c] : List Int), 0⟩ : Spot))), (.agg (za4 (⟨zb6 ([97] : List Int), 1⟩ : Spot)).toArray, (za4 (⟨zb6 ([97] : List Int), 1⟩ : Spot))), (.agg (za4 (⟨zb6 ([98] : List Int), 0⟩ : Spot)).toArray, (za4 (⟨zb6 ([98] : List Int), 0⟩ : Spot)))] S17 u22 ty43 rfl rfl rfl rfl (segs_cons rfl rfl (segs_cons rfl rfl (segs_cons rfl rfl segs_nil))) (cs := ((za4 (⟨zb6 ([c] : List Int), 0⟩ : Spot)) ++ ((za4 (⟨zb6 ([97] : List Int), 1⟩ : Spot)) ++ ((za4 (⟨zb6 ([98] : List Int), 0⟩ : Spot)))))) (zbu.cons (k := kSpot) (h := (fun _ => none)) (x := (⟨zb6 ([c] : List Int), 0⟩ : Spot)) (cs := (za4 (⟨zb6 ([c] : List Int), 0⟩ : Spot))) ⟨rfl, (by first | assumption | (show inK .u8 _; constructor <;> decide) | (show inK .u8 _; dsimp only; constructor <;> decide) | (constructor <;> simp [IntKind.min, IntKind.max] <;> omega))⟩ (zbu.cons (k := kSpot) (h := (fun _ => none)) (x := (⟨zb6 ([97] : List Int), 1⟩ : Spot)) (cs := (za4 (⟨zb6 ([97] : List Int), 1⟩ : Spot))) ⟨rfl, (by first | assumption | (show inK .u8 _; constructor <;> decide) | (show inK .u8 _; dsimp only; constructor <;> decide) | (constructor <;> simp [IntKind.min, IntKind.max] <;> omega))⟩ (zbu.single (k := kSpot) (h := (fun _ => none)) (x := (⟨zb6 ([98] : List Int), 0⟩ : Spot)) (cs := (za4 (⟨zb6 ([98] : List Int), 0⟩ : Spot))) ⟨rfl, (by first | assumption | (show inK .u8 _; constructor <;> decide) | (show inK .u8 _; dsimp only; constructor <;> decide) | (constructor <;> simp [IntKind.min, IntKind.max] <;> omega))⟩))) (by first | rfl | simp only [List.flatMap_cons, List.flatMap_nil, List.append_nil] | simp)
 have S19 := T18
 dsimp only [lAa, lAn, lA0, lAs] at S19
 refine p_v (v := v18) rfl rfl rfl (zaw (pv := [(0, .agg (za4 (⟨zb6 ([c] : List Int), 0⟩ : Spot)).toArray), (1, .agg (za4 (⟨zb6 ([97] : List Int), 1⟩ : Spot)).toArray), (2, .agg (za4 (⟨zb6 ([98] : List Int), 0⟩ : Spot)).toArray)]) rfl r18) ?_
 obtain ⟨v20, w20, r20, g20, T20⟩ := zbb (kd := (Kd.int .i64)) (xs := ([0, 1] : List Int)) (len := 2) [.int .i64 0, .int .i64 1] S19 u23 ty3 rfl rfl rfl rfl rfl (zbm rfl (zbm rfl zcb)) ([.int .i64 0] ++ ([.int .i64 1])) (zbu.cons (k := (Kd.int .i64)) (h := (fun _ => none)) (x := 0) (cs := [.int .i64 0]) ⟨rfl, (zai (by first|omega|(simp;omega)|assumption|simp) (by first|omega|(simp;omega)|assumption|simp))⟩ (zbu.single (k := (Kd.int .i64)) (h := (fun _ => none)) (x := 1) (cs := [.int .i64 1]) ⟨rfl, (zai (by first|omega|(simp;omega)|assumption|simp) (by first|omega|(simp;omega)|assumption|simp))⟩)) rfl
 have S21 := T20
 dsimp only [lAa, lAn, lA0, lAs] at S21
 refine p_v (v := v20) rfl rfl rfl (zaw (pv := [(0, .int .i64 0), (1, .int .i64 1)]) rfl r20) ?_
 obtain ⟨v22, w22, r22, g22, T22⟩ := zbb (kd := (Kd.int .i64)) (xs := ([2] : List Int)) (len := 1) [.int .i64 2] S21 u23 ty3 rfl rfl rfl rfl rfl (zbm rfl zcb) [.int .i64 2] (zbu.single (k := (Kd.int .i64)) (h := (fun _ => none)) (x := 2) (cs := [.int .i64 2]) ⟨rfl, (zai (by first|omega|(simp;omega)|assumption|simp) (by first|omega|(simp;omega)|assumption|simp))⟩) rfl
 have S23 := T22
 dsimp only [lAa, lAn, lA0, lAs] at S23
 refine p_v (v := v22) rfl rfl rfl (zaw (pv := [(0, .int .i64 2)]) rfl r22) ?_
 obtain ⟨v24, w24, r24, g24, T24⟩ := zbb (kd := (Kd.int .i64)) (xs := ([2] : List Int)) (len := 1) [.int .i64 2] S23 u23 ty3 rfl rfl rfl rfl rfl (zbm rfl zcb) [.int .i64 2] (zbu.single (k := (Kd.int .i64)) (h := (fun _ => none)) (x := 2) (cs := [.int .i64 2]) ⟨rfl, (zai (by first|omega|(simp;omega)|assumption|simp) (by first|omega|(simp;omega)|assumption|simp))⟩) rfl
 have S25 := T24
 dsimp only [lAa, lAn, lA0, lAs] at S25
 refine p_v (v := v24) rfl rfl rfl (zaw (pv := [(0, .int .i64 2)]) rfl r24) ?_
 obtain ⟨v26, w26, r26, g26, T26⟩ := zbb (kd := (Kd.int .i64)) (xs := ([] : List Int)) (len := 0) [] S25 u23 ty3 rfl rfl rfl rfl rfl zcb [] (zbu.nil _ _) rfl
 have S27 := T26
 dsimp only [lAa, lAn, lA0, lAs] at S27
 refine p_v (v := v26) rfl rfl rfl (zaw (pv := []) rfl r26) ?_
 obtain ⟨h29, le29, T29, rp29⟩ := S27.freeze (i := 6) rfl
 have S30 := T29.fx 6 (emp) rfl
 dsimp only [lAa, lAn, lA0, lAs] at S30
 obtain ⟨A29, c29, e29, lc29, cm29, ld29⟩ := rp29
 injection e29 with e29 _; subst e29
 have cn29 := cm29; simp only [maxLen] at cn29
 obtain ⟨h31, le31, T31, rp31⟩ := S30.freeze (i := 7) rfl
 have S32 := T31.fx 7 (emp) rfl
 dsimp only [lAa, lAn, lA0, lAs] at S32
 obtain ⟨A31, c31, e31, lc31, cm31, ld31⟩ := rp31
 injection e31 with e31 _; subst e31
 have cn31 := cm31; simp only [maxLen] at cn31
 obtain ⟨h33, le33, T33, rp33⟩ := S32.freeze (i := 8) rfl
 have S34 := T33.fx 8 (emp) rfl
 dsimp only [lAa, lAn, lA0, lAs] at S34
 obtain ⟨A33, c33, e33, lc33, cm33, ld33⟩ := rp33
 injection e33 with e33 _; subst e33
 have cn33 := cm33; simp only [maxLen] at cn33
 obtain ⟨v28, w28, r28, g28, T28⟩ := zbb (kd := (Kd.int .i64).slice) (xs := ([([2] : List Int), ([2] : List Int), ([] : List Int)] : List (List Int))) (len := 3) [.slice A29 ([2] : List Int).length c29, .slice A31 ([2] : List Int).length c31, .slice A33 ([] : List Int).length c33] S34 u24 ty23 rfl rfl rfl rfl rfl (zbm rfl (zbm rfl (zbm rfl zcb))) ([.slice A29 ([2] : List Int).length c29] ++ ([.slice A31 ([2] : List Int).length c31] ++ ([.slice A33 ([] : List Int).length c33]))) (zbu.cons (k := (Kd.int .i64).slice) (h := h33) (x := ([2] : List Int)) (cs := [.slice A29 ([2] : List Int).length c29]) ⟨_, _, rfl, (And.intro lc29 cm29).1, (And.intro lc29 cm29).2, ld29.mono (le31.trans le33)⟩ (zbu.cons (k := (Kd.int .i64).slice) (h := h33) (x := ([2] : List Int)) (cs := [.slice A31 ([2] : List Int).length c31]) ⟨_, _, rfl, (And.intro lc31 cm31).1, (And.intro lc31 cm31).2, ld31.mono le33⟩ (zbu.single (k := (Kd.int .i64).slice) (h := h33) (x := ([] : List Int)) (cs := [.slice A33 ([] : List Int).length c33]) ⟨_, _, rfl, (And.intro lc33 cm33).1, (And.intro lc33 cm33).2, ld33.mono (Le.refl _)⟩))) rfl
 have S35 := T28
 dsimp only [lAa, lAn, lA0, lAs] at S35
 refine p_v (v := v28) rfl rfl rfl (zaw (pv := [(0, .slice A29 ([2] : List Int).length c29), (1, .slice A31 ([2] : List Int).length c31), (2, .slice A33 ([] : List Int).length c33)]) rfl r28) ?_
 obtain ⟨v36, w36, r36, g36, T36⟩ := zbb (kd := Kd.bool) (xs := ([false, false, true] : List Bool)) (len := 3) [.bool false, .bool false, .bool true] S35 u25 ty4 rfl rfl rfl rfl rfl (zbm rfl (zbm rfl (zbm rfl zcb))) ([.bool false] ++ ([.bool false] ++ ([.bool true]))) (zbu.cons (k := Kd.bool) (h := h33) (x := false) (cs := [.bool false]) ⟨rfl, trivial⟩ (zbu.cons (k := Kd.bool) (h := h33) (x := false) (cs := [.bool false]) ⟨rfl, trivial⟩ (zbu.single (k := Kd.bool) (h := h33) (x := true) (cs := [.bool true]) ⟨rfl, trivial⟩))) rfl
 have S37 := T36
 dsimp only [lAa, lAn, lA0, lAs] at S37
 refine p_v (v := v36) rfl rfl rfl (zaw (pv := [(0, .bool false), (1, .bool false), (2, .bool true)]) rfl r36) <| p_v (v := .agg #[v18, v20, v28, v36, .bool false]) rfl rfl rfl (y_build (pv := [(0, v18), (1, v20), (2, v28), (3, v36)]) rfl (zb4 pl27 ty27 rfl (cs := [v18, v20, v28, v36, .bool false]) (fill_any (vc := [v18]) rfl (row_cells S37 (j := 4) rfl) rfl rfl (fill_any (vc := [v20]) rfl (row_cells S37 (j := 5) rfl) rfl rfl (fill_any (vc := [v28]) rfl (row_cells S37 (j := 9) rfl) rfl rfl (fill_any (vc := [v36]) rfl (row_cells S37 (j := 10) rfl) rfl rfl (fill_end rfl))))))) ?_
 have oc39 := row_one S37 (j := 4) rfl
 have oc40 := row_one S37 (j := 5) rfl
 have oc41 := row_one S37 (j := 9) rfl
 have oc42 := row_one S37 (j := 10) rfl
 obtain ⟨w38, r38, g38, T38⟩ := zb9 (P := Try.prog) (off := 0) (v := .agg #[v18, v20, v28, v36, .bool false]) (vs := [v18, v20, v28, v36, .bool false]) S37 ty27 rfl rfl (j := 0) rfl (by first | decide | exact Nat.le_of_ble_eq_true rfl) (zdf oc39 (zdf oc40 (zdf oc41 (zdf oc42 (zdf rfl one_nil)))))
 have S43 := T38.fx 0 (box b1 27 [v18, v20, v28, v36, .bool false]) rfl
 dsimp only [lAa, lAn, lA0, lAs] at S43
 refine p_s rfl rfl (zbt rfl rfl r38) <| zaa <| zav Try.func19 (res1 rfl (res_cell S43 ty27 rfl (j := 0) rfl rfl (by simp) rfl)) ?_
 have q0 : ((twoM c).spots : List Spot) = ([(⟨zb6 ([c] : List Int), 0⟩ : Spot), (⟨zb6 ([97] : List Int), 1⟩ : Spot), (⟨zb6 ([98] : List Int), 0⟩ : Spot)] : List Spot) := by
  rfl
 have q1 : ((twoM c).first : List Int) = ([0, 1] : List Int) := by
  rfl
 have q2 : ((twoM c).follow : List (List Int)) = ([([2] : List Int), ([2] : List Int), ([] : List Int)] : List (List Int)) := by
  rfl
 have q3 : ((twoM c).last : List Bool) = ([false, false, true] : List Bool) := by
  rfl
 have q4 : ((twoM c).empty : Bool) = false := by
  rfl
 refine ⟨_, rfl, h33, v18, v20, v28, v36, ?_, ?_⟩
 · rw [q0]; rw [q1]; rw [q2]; rw [q3]; exact S43.sub [4, 5, 9, 10] (by decide) rfl _ rfl
 · first | rfl | (simp only [q0, q1, q2, q3, q4]; rfl) | (simp only [q0, q1, q2, q3, q4])
theorem zdh (w : World) :
    Calls Try.prog 10 #[] w fun e w' => ∃ v, e = .returned v ∧ ∃ (hn : Ghost), St w.heap.size w hn w' [] ∧ v = .bool true := by
 refine zas Try.func10 rfl Try.ntmps10 rfl ?_
 have S0 := St.init w
 refine zab <| zac (l := [0]) rfl <| p_v (v := .bool false) rfl rfl rfl (zae rfl) <| zaa <| zab <| zac (l := [0, 1, 2, 3]) rfl <| p_c rfl rfl rfl (zbd (args := [.int .u8 99]) ca19 rfl rfl) (two_calls w 99 (in_u8 (by first|omega|(simp;omega)|assumption|simp) (by first|omega|(simp;omega)|assumption|simp))) ?_
 rintro _ w1 ⟨h1, v1_0, v1_1, v1_2, v1_3, T1, rfl⟩
 obtain ⟨k1, lk1, ll1, U1⟩ := zco S0 T1
 have S2 := U1
 dsimp only [lAa, lAn, lA0, lAs] at S2
 obtain ⟨h3, le3, T3, rp3⟩ := S2.freeze (i := 0) rfl
 have S4 := T3.fx 0 (emp) rfl
 dsimp only [lAa, lAn, lA0, lAs] at S4
 obtain ⟨A3, c3, e3, lc3, cm3, ld3⟩ := rp3
 injection e3 with e3 _; subst e3
 have cn3 := cm3; simp only [maxLen] at cn3
 obtain ⟨h5, le5, T5, rp5⟩ := S4.freeze (i := 1) rfl
 have S6 := T5.fx 1 (emp) rfl
 dsimp only [lAa, lAn, lA0, lAs] at S6
 obtain ⟨A5, c5, e5, lc5, cm5, ld5⟩ := rp5
 injection e5 with e5 _; subst e5
 have cn5 := cm5; simp only [maxLen] at cn5
 obtain ⟨h7, le7, T7, rp7⟩ := S6.freeze (i := 2) rfl
 have S8 := T7.fx 2 (emp) rfl
 dsimp only [lAa, lAn, lA0, lAs] at S8
 obtain ⟨A7, c7, e7, lc7, cm7, ld7⟩ := rp7
 injection e7 with e7 _; subst e7
 have cn7 := cm7; simp only [maxLen] at cn7
 obtain ⟨h9, le9, T9, rp9⟩ := S8.freeze (i := 3) rfl
 have S10 := T9.fx 3 (emp) rfl
 dsimp only [lAa, lAn, lA0, lAs] at S10
 obtain ⟨A9, c9, e9, lc9, cm9, ld9⟩ := rp9
 injection e9 with e9 _; subst e9
 have cn9 := cm9; simp only [maxLen] at cn9
 refine p_c rfl rfl rfl (zbd (args := [.agg #[.slice A3 ((twoM 99).spots).length c3, .slice A5 ((twoM 99).first).length c5, .slice A7 ((twoM 99).follow).length c7, .slice A9 ((twoM 99).last).length c9, .bool ((twoM 99).empty)], .string (⟨#[97, 98]⟩ : ByteArray)]) ca14 rfl rfl) (runF_calls w1 (twoM 99) A3 c3 (And.intro lc3 cm3) (ld3.mono (((le5.trans le7).trans le9).trans S10.ghost)) A5 c5 (And.intro lc5 cm5) (ld5.mono ((le7.trans le9).trans S10.ghost)) A7 c7 (And.intro lc7 cm7) (ld7.mono (le9.trans S10.ghost)) A9 c9 (And.intro lc9 cm9) (ld9.mono ((Le.refl _).trans S10.ghost)) (⟨#[97, 98]⟩ : ByteArray) (by decide) (by first | assumption | omega | decide)) ?_
 rintro _ w11 ⟨h11, T11, rfl, ok11_0⟩
 have S12 := S10.keep (Chg.of_below T11.below)
 obtain ⟨b13, w13, r13, g13, T13⟩ := zc0 (P := Try.prog) S12 35 (v := (.agg #[.bool false, .string ⟨#[]⟩, .string ⟨#[]⟩])) (zcy (⟨false, (⟨#[]⟩ : ByteArray), (⟨#[]⟩ : ByteArray)⟩ : ParM)) rfl
 have S14 := T13
 dsimp only [lAa, lAn, lA0, lAs] at S14
 refine p_v (v := .pointer (some ⟨b13, 0, none⟩)) rfl rfl rfl (zcs ty35 r13) ?_
 obtain ⟨w15, r15, g15, T15⟩ := zb9 (P := Try.prog) (off := 0) (v := .agg (zcy (runPM (twoM 99) (⟨#[97, 98]⟩ : ByteArray))).toArray) (vs := (zcy (runPM (twoM 99) (⟨#[97, 98]⟩ : ByteArray)))) S14 ty35 rfl rfl (j := 4) rfl (by first | decide | exact Nat.le_of_ble_eq_true rfl) (encPar_one _)
 have S16 := T15.fx 4 (box b13 35 (zcy (runPM (twoM 99) (⟨#[97, 98]⟩ : ByteArray)))) rfl
 dsimp only [lAa, lAn, lA0, lAs] at S16
 refine p_s rfl rfl (zbt rfl rfl r15) <| zaa <| zab <| zac (l := [0, 1, 2, 3, 4, 5, 6, 7, 8, 9, 10, 11, 12]) rfl <| p_c rfl rfl rfl (zbd (args := [.int .u8 97]) ca19 rfl rfl) (two_calls w15 97 (in_u8 (by first|omega|(simp;omega)|assumption|simp) (by first|omega|(simp;omega)|assumption|simp))) ?_
 rintro _ w17 ⟨h17, v17_0, v17_1, v17_2, v17_3, T17, rfl⟩
 obtain ⟨k17, lk17, ll17, U17⟩ := zco S16 T17
 have S18 := U17
 dsimp only [lAa, lAn, lA0, lAs] at S18
 obtain ⟨h19, le19, T19, rp19⟩ := S18.freeze (i := 5) rfl
 have lf19_0 := ((((((lk1.trans le3).trans le5).trans le7).trans le9).trans lk17).trans le19)
 have S20 := T19.fx 5 (emp) rfl
 dsimp only [lAa, lAn, lA0, lAs] at S20
 obtain ⟨A19, c19, e19, lc19, cm19, ld19⟩ := rp19
 injection e19 with e19 _; subst e19
 have cn19 := cm19; simp only [maxLen] at cn19
 obtain ⟨h21, le21, T21, rp21⟩ := S20.freeze (i := 6) rfl
 have lf21_1 := ((((((le3.trans le5).trans le7).trans le9).trans lk17).trans le19).trans le21)
 have S22 := T21.fx 6 (emp) rfl
 dsimp only [lAa, lAn, lA0, lAs] at S22
 obtain ⟨A21, c21, e21, lc21, cm21, ld21⟩ := rp21
 injection e21 with e21 _; subst e21
 have cn21 := cm21; simp only [maxLen] at cn21
 obtain ⟨h23, le23, T23, rp23⟩ := S22.freeze (i := 7) rfl
 have lf23_2 := ((((((le5.trans le7).trans le9).trans lk17).trans le19).trans le21).trans le23)
 have S24 := T23.fx 7 (emp) rfl
 dsimp only [lAa, lAn, lA0, lAs] at S24
 obtain ⟨A23, c23, e23, lc23, cm23, ld23⟩ := rp23
 injection e23 with e23 _; subst e23
 have cn23 := cm23; simp only [maxLen] at cn23
 obtain ⟨h25, le25, T25, rp25⟩ := S24.freeze (i := 8) rfl
 have lf25_3 := ((((((le7.trans le9).trans lk17).trans le19).trans le21).trans le23).trans le25)
 have S26 := T25.fx 8 (emp) rfl
 dsimp only [lAa, lAn, lA0, lAs] at S26
 obtain ⟨A25, c25, e25, lc25, cm25, ld25⟩ := rp25
 injection e25 with e25 _; subst e25
 have cn25 := cm25; simp only [maxLen] at cn25
 refine p_c rfl rfl rfl (zbd (args := [.agg #[.slice A19 ((twoM 97).spots).length c19, .slice A21 ((twoM 97).first).length c21, .slice A23 ((twoM 97).follow).length c23, .slice A25 ((twoM 97).last).length c25, .bool ((twoM 97).empty)]]) ca17 rfl rfl) (single_calls w17 (twoM 97) A19 c19 (And.intro lc19 cm19) (ld19.mono (((le21.trans le23).trans le25).trans S26.ghost)) A21 c21 (And.intro lc21 cm21) (ld21.mono ((le23.trans le25).trans S26.ghost)) A23 c23 (And.intro lc23 cm23) (ld23.mono (le25.trans S26.ghost)) A25 c25 (And.intro lc25 cm25) (ld25.mono ((Le.refl _).trans S26.ghost))) ?_
 rintro _ w27 ⟨h27, T27, rfl⟩
 have S28 := S26.keep (Chg.of_below T27.below)
 refine p_v (v := .bool (!(zcd (twoM 97)))) rfl rfl rfl (x_not rfl) <| p_v (v := .bool (!(zcd (twoM 97)))) rfl rfl rfl (zad rfl) ?_
 have hc29 : (zcd (twoM 97)) = false := by
  exact two_no
 refine p_c rfl (wo 3 7 rfl rfl (congrArg (fun z => Value.bool (!z)) hc29) rfl) rfl (zbd (args := [.int .u8 99]) ca19 rfl rfl) (two_calls w27 99 (in_u8 (by first|omega|(simp;omega)|assumption|simp) (by first|omega|(simp;omega)|assumption|simp))) ?_
 rintro _ w30 ⟨h30, v30_0, v30_1, v30_2, v30_3, T30, rfl⟩
 obtain ⟨k30, lk30, ll30, U30⟩ := zco S28 T30
 have lc30_4 := ((((((le9.trans lk17).trans le19).trans le21).trans le23).trans le25).trans lk30)
 have S31 := U30
 dsimp only [lAa, lAn, lA0, lAs] at S31
 obtain ⟨h32, le32, T32, rp32⟩ := S31.freeze (i := 9) rfl
 have lf32_0 := (((((lf19_0.trans le21).trans le23).trans le25).trans lk30).trans le32)
 have lf32_5 := ((((((lk17.trans le19).trans le21).trans le23).trans le25).trans lk30).trans le32)
 have S33 := T32.fx 9 (emp) rfl
 dsimp only [lAa, lAn, lA0, lAs] at S33
 obtain ⟨A32, c32, e32, lc32, cm32, ld32⟩ := rp32
 injection e32 with e32 _; subst e32
 have cn32 := cm32; simp only [maxLen] at cn32
 obtain ⟨h34, le34, T34, rp34⟩ := S33.freeze (i := 10) rfl
 have lf34_1 := (((((lf21_1.trans le23).trans le25).trans lk30).trans le32).trans le34)
 have lf34_6 := ((((((le19.trans le21).trans le23).trans le25).trans lk30).trans le32).trans le34)
 have S35 := T34.fx 10 (emp) rfl
 dsimp only [lAa, lAn, lA0, lAs] at S35
 obtain ⟨A34, c34, e34, lc34, cm34, ld34⟩ := rp34
 injection e34 with e34 _; subst e34
 have cn34 := cm34; simp only [maxLen] at cn34
 obtain ⟨h36, le36, T36, rp36⟩ := S35.freeze (i := 11) rfl
 have lf36_2 := (((((lf23_2.trans le25).trans lk30).trans le32).trans le34).trans le36)
 have lf36_7 := ((((((le21.trans le23).trans le25).trans lk30).trans le32).trans le34).trans le36)
 have S37 := T36.fx 11 (emp) rfl
 dsimp only [lAa, lAn, lA0, lAs] at S37
 obtain ⟨A36, c36, e36, lc36, cm36, ld36⟩ := rp36
 injection e36 with e36 _; subst e36
 have cn36 := cm36; simp only [maxLen] at cn36
 obtain ⟨h38, le38, T38, rp38⟩ := S37.freeze (i := 12) rfl
 have lf38_3 := (((((lf25_3.trans lk30).trans le32).trans le34).trans le36).trans le38)
 have lf38_8 := ((((((le23.trans le25).trans lk30).trans le32).trans le34).trans le36).trans le38)
 have S39 := T38.fx 12 (emp) rfl
 dsimp only [lAa, lAn, lA0, lAs] at S39
 obtain ⟨A38, c38, e38, lc38, cm38, ld38⟩ := rp38
 injection e38 with e38 _; subst e38
 have cn38 := cm38; simp only [maxLen] at cn38
 refine p_c rfl (wo 3 7 rfl rfl (congrArg (fun z => Value.bool (!z)) hc29) rfl) rfl (zbd (args := [.agg #[.slice A32 ((twoM 99).spots).length c32, .slice A34 ((twoM 99).first).length c34, .slice A36 ((twoM 99).follow).length c36, .slice A38 ((twoM 99).last).length c38, .bool ((twoM 99).empty)]]) ca17 rfl rfl) (single_calls w30 (twoM 99) A32 c32 (And.intro lc32 cm32) (ld32.mono (((le34.trans le36).trans le38).trans S39.ghost)) A34 c34 (And.intro lc34 cm34) (ld34.mono ((le36.trans le38).trans S39.ghost)) A36 c36 (And.intro lc36 cm36) (ld36.mono (le38.trans S39.ghost)) A38 c38 (And.intro lc38 cm38) (ld38.mono ((Le.refl _).trans S39.ghost))) ?_
 rintro _ w40 ⟨h40, T40, rfl⟩
 have S41 := S39.keep (Chg.of_below T40.below)
 refine p_v (v := .bool (zcd (twoM 99))) rfl rfl rfl (zbf (congrArg (fun z => Value.bool (!z)) hc29) rfl) <| p_v (v := .bool (zcd (twoM 99))) rfl rfl rfl (zad rfl) ?_
 have hc42 : (zcd (twoM 99)) = true := by
  exact two_yes
 refine p_v (v := .agg (zcy (runPM (twoM 99) (⟨#[97, 98]⟩ : ByteArray))).toArray) rfl (wo 7 11 rfl rfl (congrArg Value.bool hc42) rfl) rfl (zah (seg := (zcy (runPM (twoM 99) (⟨#[97, 98]⟩ : ByteArray)))) ty35 rfl (by simp) rfl (CF.box (m := 3) (S41.box_at (j := 4) rfl) rfl)) <| p_v (v := .agg (zcy (⟨true, (⟨#[97]⟩ : ByteArray), (⟨#[]⟩ : ByteArray)⟩ : ParM)).toArray) rfl (wo 7 11 rfl rfl (congrArg Value.bool hc42) rfl) rfl (y_build (pv := [(0, .bool true), (1, .string (⟨#[97]⟩ : ByteArray))]) rfl (zb4 pl35 ty35 rfl (cs := (zcy (⟨true, (⟨#[97]⟩ : ByteArray), (⟨#[]⟩ : ByteArray)⟩ : ParM))) rfl)) ?_
 refine p_v (v := .bool (decide ((runPM (twoM 99) (⟨#[97, 98]⟩ : ByteArray)) = (⟨true, (⟨#[97]⟩ : ByteArray), (⟨#[]⟩ : ByteArray)⟩ : ParM)))) rfl (wo 7 11 rfl rfl (congrArg Value.bool hc42) rfl) rfl (x_eql_agg eqk35 ok11_0 (by first | assumption | exact okPar_zero | exact ⟨by assumption, by assumption⟩ | exact ⟨by decide, by decide⟩ | (refine And.intro ?_ ?_ <;> dsimp only <;> first | assumption | exact (by assumption : okPar _).1 | exact (by assumption : okPar _).2)) q35 rfl rfl) ?_
 refine p_v (v := .bool (decide ((runPM (twoM 99) (⟨#[97, 98]⟩ : ByteArray)) = (⟨true, (⟨#[97]⟩ : ByteArray), (⟨#[]⟩ : ByteArray)⟩ : ParM)))) rfl rfl rfl (zbf (congrArg Value.bool hc42) rfl) <| p_v (v := .bool (decide ((runPM (twoM 99) (⟨#[97, 98]⟩ : ByteArray)) = (⟨true, (⟨#[97]⟩ : ByteArray), (⟨#[]⟩ : ByteArray)⟩ : ParM)))) rfl rfl rfl (zae rfl) <| zaa ?_
 have hc43 : ((runPM (twoM 99) (⟨#[97, 98]⟩ : ByteArray)) = (⟨true, (⟨#[97]⟩ : ByteArray), (⟨#[]⟩ : ByteArray)⟩ : ParM)) := by
  exact two_run
 refine zav Try.func10 (res1 rfl (zax (v := .bool true) (bT hc43))) ?_
 have q0 : (true : Bool) = true := rfl
 refine ⟨_, rfl, h38, ?_, ?_⟩
 · exact S41.sub [] (by decide) rfl _ rfl
 · rfl
end Go.Proofs.Ytpdanfggijmnmaa
namespace Gx
open Go Go.RowKit
set_option linter.unusedSimpArgs false
set_option linter.unusedVariables false
set_option linter.unusedSectionVars false
def subB (w : ByteArray) (i j : Int) : ByteArray := w.extract i.toNat j.toNat
theorem sub_data (w : ByteArray) (i j : Int) : (subB w i j).data.toList = (w.data.toList.take j.toNat).drop i.toNat := by
  unfold subB
  rw [ByteArray.data_extract, Array.toList_extract, List.extract_eq_take_drop]
  rw [List.drop_take]
theorem sub_size (w : ByteArray) {i j : Int} (h0 : 0 ≤ i) (h1 : i ≤ j) (h2 : j ≤ (w.size : Int)) : ((subB w i j).size : Int) = j - i := by
  unfold subB; rw [ByteArray.size_extract]; omega
theorem bytesL_sub (w : ByteArray) (i j : Int) : zay (subB w i j) = ((zay w).take j.toNat).drop i.toNat := by
  unfold zay; rw [sub_data, List.map_drop, List.map_take]
theorem bytesL_from (w : ByteArray) (i : Int) : zay (subB w i w.size) = (zay w).drop i.toNat := by
  rw [bytesL_sub, List.take_of_length_le (by rw [zdy]; omega)]
section
variable {P : Program} {w : World}
theorem r_sub_from {t : TypeId} {s : ByteArray} {k : IntKind} {i : Int} (h : P.underlying t = some .string) (h0 : 0 ≤ i) (h1 : i ≤ (s.size : Int)) : (Instr.sliceAt t (.string s) (some (.int k i)) none none).run P w = .ok (.string (subB s i s.size)) w := by
  rw [run_sliceAt_string (h := h), run_slice_string_from_if (h := h), if_pos ⟨h0, h1⟩]; rfl
end
theorem step_any_n {m : Mach} (hR : Right m) {S : List Int} (hS : ∀ x ∈ S, 0 ≤ x ∧ x < (m.spots.length : Int)) (c : Int) (q : Int → Bool) : (zb1 m S false c).any q = S.any fun n => (at_ m.follow n).any fun k => has (at_ m.spots k).set c && q k := by
  rw [Bool.eq_iff_iff, List.any_eq_true, List.any_eq_true]
  constructor
  · rintro ⟨x, hx, hq⟩
    obtain ⟨h0, h1, h2⟩ := mem_posTo.1 hx
    unfold zb3 mayP at h2
    rw [Int.toNat_of_nonneg h0] at h2
    simp only [Bool.false_and, Bool.false_or, Bool.and_eq_true, List.any_eq_true, decide_eq_true_eq] at h2
    obtain ⟨⟨n, hn, hk⟩, hh⟩ := h2
    exact ⟨n, hn, List.any_eq_true.2 ⟨x, hk, by rw [hh, hq]; rfl⟩⟩
  · rintro ⟨n, hn, h⟩
    obtain ⟨k, hk, h⟩ := List.any_eq_true.1 h
    rw [Bool.and_eq_true] at h
    have hr := hR.rows (hS n hn).1 (hS n hn).2 k hk
    refine ⟨k, mem_posTo.2 ⟨hr.1, hr.2, ?_⟩, h.2⟩
    unfold zb3 mayP
    rw [Int.toNat_of_nonneg hr.1]
    simp only [Bool.false_and, Bool.false_or, Bool.and_eq_true, List.any_eq_true, decide_eq_true_eq]
    exact ⟨⟨n, hn, hk⟩, h.1⟩
theorem step_any_0 {m : Mach} (hR : Right m) (c : Int) (q : Int → Bool) : (zb1 m [] true c).any q = m.first.any fun k => has (at_ m.spots k).set c && q k := by
  rw [Bool.eq_iff_iff, List.any_eq_true, List.any_eq_true]
  constructor
  · rintro ⟨x, hx, hq⟩
    obtain ⟨h0, h1, h2⟩ := mem_posTo.1 hx
    unfold zb3 mayP at h2
    rw [Int.toNat_of_nonneg h0] at h2
    simp at h2
    exact ⟨x, h2.1, by rw [h2.2, hq]; rfl⟩
  · rintro ⟨k, hk, h⟩
    rw [Bool.and_eq_true] at h
    have hr := hR.firsts k hk
    refine ⟨k, mem_posTo.2 ⟨hr.1, hr.2, ?_⟩, h.2⟩
    unfold zb3 mayP
    rw [Int.toNat_of_nonneg hr.1]
    simp [hk, h.1]
theorem stepP_in {m : Mach} {S : List Int} {b : Bool} {c : Int} : ∀ x ∈ zb1 m S b c, 0 ≤ x ∧ x < (m.spots.length : Int) := fun x hx => by have := mem_posTo.1 hx; omega
end Gx
namespace Gx
open Go Go.RowKit
set_option linter.unusedSimpArgs false
set_option linter.unusedVariables false
set_option linter.unusedSectionVars false
structure EndI (m : Mach) (w : ByteArray) (n : Int) (at' : List Int) (i : Int) : Prop where
  all : endL m (zay w) n = at'.any (endL m ((zay w).drop i.toNat))
  inn : ∀ x ∈ at', 0 ≤ x ∧ x < (m.spots.length : Int)
theorem endI_0 {m : Mach} {w : ByteArray} {n : Int} (h0 : 0 ≤ n) (h1 : n < (m.spots.length : Int)) : EndI m w n [n] 0 := ⟨by simp, fun x hx => by simp at hx; omega⟩
theorem endI_step {m : Mach} (hR : Right m) {w : ByteArray} {n : Int} {at' : List Int} {i : Int} (E : EndI m w n at' i) (h0 : 0 ≤ i) (h1 : i < (w.size : Int)) : EndI m w n (zb1 m at' false (byt w i)) (i + 1) where
  all := by rw [E.all, zcc w h0 h1, step_any_n hR E.inn]; rfl
  inn := stepP_in
theorem endI_end {m : Mach} {w : ByteArray} {n : Int} {at' : List Int} {i : Int} (E : EndI m w n at' i) (h : (w.size : Int) ≤ i) : endL m (zay w) n = at'.any fun k => at_ m.last k := by rw [E.all, bytes_end w h]; rfl
theorem docAt_any {m : Mach} (hR : Right m) {w : ByteArray} (hw : 0 < w.size) : ∀ i : Nat, 1 ≤ i → i ≤ w.size → (docAt m w ((i : Nat) : Int)).any (endL m ((zay w).drop i)) = m.first.any (zc1 m (zay w))
  | 0, h, _ => by omega
  | 1, _, _ => by
    have e := docAt_step hR w (i := 0) (by omega)
    have h0 := zcc w (i := 0) (by omega) (by omega)
    rw [show ((1 : Nat) : Int) = 0 + 1 from rfl, ← e, ← docAt_0, decide_eq_true rfl, step_any_0 hR]
    rw [show zay w = byt w 0 :: (zay w).drop 1 from h0]; rfl
  | i + 2, _, h => by
    have ih := docAt_any hR hw (i + 1) (by omega) (by omega)
    have e := docAt_step hR w (i := ((i + 1 : Nat) : Int)) (by omega)
    have h0 := zcc w (i := ((i + 1 : Nat) : Int)) (by omega) (by omega)
    rw [← ih, show ((i + 2 : Nat) : Int) = ((i + 1 : Nat) : Int) + 1 by omega, ← e, decide_eq_false (by omega), step_any_n hR docAt_in]
    rw [show (zay w).drop (i + 1) = byt w ((i + 1 : Nat) : Int) :: (zay w).drop (i + 2) from h0]; rfl
theorem run_first {m : Mach} (hR : Right m) {w : ByteArray} (hw : 0 < (w.size : Int)) : runM m w = m.first.any (zc1 m (zay w)) := by
  rw [doc_some m w (right_iff.2 hR) hw rfl rfl, ← docAt_any hR (by omega) w.size (by omega) (Nat.le_refl _), List.drop_of_length_le (by rw [zdy]; exact Nat.le_refl _)]; rfl
theorem good_end {m : Mach} {c : Int} {cs : List Int} {n : Int} (h : zc1 m (c :: cs) n = true) (hc : cs ≠ []) : (at_ m.follow n).any (zc1 m cs) = true := by
  have h2 : (_ && endL m cs n) = true := h
  rw [Bool.and_eq_true] at h2
  rw [← h2.2, endL_good m hc]
theorem markL_some (m : Mach) : ∀ (l next : List Int), l ≠ [] → (markL m l next).isSome = next.any (zc1 m l)
  | [], _, h => absurd rfl h
  | c :: cs, next, _ => by
    unfold markL
    cases hf : next.find? (zc1 m (c :: cs)) with
    | none => show false = _; symm; exact List.any_eq_false.2 (List.find?_eq_none.1 hf)
    | some n =>
      have hg := List.find?_some hf
      rw [List.any_eq_true.2 ⟨n, List.mem_of_find?_eq_some hf, hg⟩]
      show (Option.map _ _).isSome = true
      rw [Option.isSome_map]
      by_cases hc : cs = []
      · subst hc; rfl
      · rw [markL_some m cs _ hc]; exact good_end hg hc
theorem okMk_eq (m : Mach) (w : ByteArray) : okMk m w = runM m w := by
  unfold okMk
  split
  · rename_i h
    have hn : zay w ≠ [] := fun e => by have := zdy w; rw [e] at this; simp at this; omega
    unfold marksO
    rw [markL_some m _ _ hn, run_first (right_iff.1 h.1) (by omega)]
  · rfl
theorem marks_no {m : Mach} {w : ByteArray} (h : runM m w = false) : zat m w = [] ∧ okMk m w = false := by
  have h2 := okMk_eq m w
  rw [h] at h2
  refine ⟨?_, h2⟩
  unfold zat
  split
  · rename_i hc
    unfold okMk at h2
    rw [if_pos hc] at h2
    rw [Option.isSome_eq_false_iff, Option.isNone_iff_eq_none] at h2; rw [h2]; rfl
  · rfl
theorem mrk_find {m : Mach} (hR : Right m) {w : ByteArray} {out next : List Int} {i b : Int} (M : MarkI m w out next i) (h0 : 0 ≤ i) (h1 : i < (w.size : Int)) (hf : next.find? (zc1 m ((zay w).drop i.toNat)) = some b) : MarkI m w (out ++ [(at_ m.spots b).tag]) (at_ m.follow b) (i + 1) where
  all := by
    rw [M.all]
    rw [zcc w h0 h1] at hf ⊢
    show ((match next.find? _ with | none => none | some n => _ : Option (List Int))).map _ = _
    rw [hf]
    show ((markL m _ _).map _).map _ = _
    cases markL m ((zay w).drop (i + 1).toNat) (at_ m.follow b) <;> simp
  inn := hR.rows (M.inn _ (List.mem_of_find?_eq_some hf)).1 (M.inn _ (List.mem_of_find?_eq_some hf)).2
  len := by rw [List.length_append]; have := M.len; simp; omega
theorem right_of_run {m : Mach} {w : ByteArray} (h : runM m w = true) : Right m := by
  unfold runM at h; rw [Bool.and_eq_true] at h; exact right_iff.1 h.1
section
variable {b : Bool} {ms : List Int} {w : ByteArray} {i : Int} (h0 : 0 ≤ i) (h1 : i < (ms.length : Int)) (h2 : i < (w.size : Int))
include h0 h1 h2
end
def smallF (m : Mach) : Bool := !(decide (20 < (m.spots.length : Int) ∨ 20 < (m.follow.length : Int) ∨ 20 < (m.last.length : Int) ∨ 20 < (m.first.length : Int)) || m.follow.any fun l => decide (20 < (l.length : Int)))
theorem smallF_1 {m : Mach} (h : 20 < (m.spots.length : Int) ∨ 20 < (m.follow.length : Int) ∨ 20 < (m.last.length : Int) ∨ 20 < (m.first.length : Int)) : smallF m = false := by unfold smallF; rw [decide_eq_true h]; rfl
theorem smallF_5 {m : Mach} {i : Int} (h0 : 0 ≤ i) (h1 : i < (m.follow.length : Int)) (h : 20 < ((at_ m.follow i).length : Int)) : smallF m = false := by
  unfold smallF
  rw [any_found (p := fun l : List Int => decide (20 < (l.length : Int))) h0 h1 (decide_eq_true h)]; simp
theorem smallF_no {m : Mach} (h1 : ¬ 20 < (m.spots.length : Int)) (h2 : ¬ 20 < (m.follow.length : Int)) (h3 : ¬ 20 < (m.last.length : Int)) (h4 : ¬ 20 < (m.first.length : Int)) (h5 : (m.follow.any fun l => decide (20 < (l.length : Int))) = false) : smallF m = true := by
  unfold smallF; rw [decide_eq_false (by omega), h5]; rfl
end Gx
namespace Gx
open Go Go.RowKit
set_option linter.unusedSimpArgs false
set_option linter.unusedVariables false
set_option linter.unusedSectionVars false
def gs (G : List (List Bool)) (a b : Int) (v : Bool) : List (List Bool) := G.set a.toNat ((at_ G a).set b.toNat v)
section
variable {n : Int} {G : List (List Bool)} {a b : Int} {v : Bool}
end
theorem mem_listOf {s : BSet} {c : Int} : c ∈ listOf s ↔ 0 ≤ c ∧ c < 256 ∧ has s c = true := by
  unfold listOf ints elems elemsTo has
  simp only [List.mem_map, List.mem_filter, List.mem_range]
  constructor
  · rintro ⟨j, ⟨hj, hb⟩, rfl⟩
    exact ⟨by omega, by omega, by rw [Int.toNat_natCast]; exact hb⟩
  · rintro ⟨h0, h1, h⟩
    exact ⟨c.toNat, ⟨by omega, h⟩, by omega⟩
theorem meet_count {a b : BSet} : (¬ zd0 (a &&& b) = 0) ↔ ∃ c : Int, 0 ≤ c ∧ c < 256 ∧ has a c = true ∧ has b c = true := by
  have h1 := some_count (a &&& b)
  have h2 := (count_le (a &&& b)).1
  constructor
  · intro h
    have h3 : 0 < ((listOf (a &&& b)).length : Int) := by rw [list_len]; omega
    have h4 := zbp (l := listOf (a &&& b)) (Int.le_refl 0) h3
    obtain ⟨h5, h6, h7⟩ := mem_listOf.1 h4
    rw [has_and, Bool.and_eq_true] at h7
    exact ⟨_, h5, h6, h7⟩
  · rintro ⟨c, h5, h6, h7, h8⟩ h
    have h9 : c ∈ listOf (a &&& b) := mem_listOf.2 ⟨h5, h6, by rw [has_and, h7, h8]; rfl⟩
    have := List.length_pos_of_mem h9
    have := list_len (a &&& b)
    omega
end Gx
namespace Go.Proofs.Ytpdanfggijmnmaa
open Go Go.RowKit Gx
set_option maxHeartbeats 3000000
set_option linter.unusedVariables false
set_option linter.unusedSimpArgs false
set_option maxRecDepth 8000
attribute [local irreducible] listOf zd0 first someIn has zb6 wbits Lib.ctz zc4 zbj rowOk tab markP intoP intoTo zcm zb7 zcr runTo endsIn endTo runM posTo mayP zb3 zb1 mayTo atP lastTo docAt anyTo allTo lfp trues zcw zcq gIn zc1 endL zc5 gRowTo zay markL marksO zat okMk pickL zdi runPM subB
theorem small14_calls (w : World) (m : Mach) (A0_0 : Option Addr) (c0_0 : Nat) (b0_0 : m.spots.length ≤ c0_0 ∧ c0_0 ≤ maxLen) (l0_0 : zbe kSpot (hp w) A0_0 m.spots) (A0_1 : Option Addr) (c0_1 : Nat) (b0_1 : m.first.length ≤ c0_1 ∧ c0_1 ≤ maxLen) (l0_1 : zbe (Kd.int .i64) (hp w) A0_1 m.first) (A0_2 : Option Addr) (c0_2 : Nat) (b0_2 : m.follow.length ≤ c0_2 ∧ c0_2 ≤ maxLen) (l0_2 : zbe (Kd.int .i64).slice (hp w) A0_2 m.follow) (A0_3 : Option Addr) (c0_3 : Nat) (b0_3 : m.last.length ≤ c0_3 ∧ c0_3 ≤ maxLen) (l0_3 : zbe Kd.bool (hp w) A0_3 m.last) :
    Calls Try.prog 16 #[.agg #[.slice A0_0 m.spots.length c0_0, .slice A0_1 m.first.length c0_1, .slice A0_2 m.follow.length c0_2, .slice A0_3 m.last.length c0_3, .bool m.empty]] w fun e w' => ∃ v, e = .returned v ∧ ∃ (hn : Ghost), St w.heap.size w hn w' [] ∧ v = .bool (smallF m) := by
 refine zas Try.func16 rfl Try.ntmps16 rfl ?_
 have S0 := St.init w
 have bb0_0 := b0_0.1; have bc0_0 := b0_0.2; simp only [maxLen] at bc0_0
 have bb0_1 := b0_1.1; have bc0_1 := b0_1.2; simp only [maxLen] at bc0_1
 have bb0_2 := b0_2.1; have bc0_2 := b0_2.2; simp only [maxLen] at bc0_2
 have bb0_3 := b0_3.1; have bc0_3 := b0_3.2; simp only [maxLen] at bc0_3
 refine zab <| zac (l := [0, 1]) rfl ?_
 obtain ⟨b1, w1, r1, g1, T1⟩ := zc0 (P := Try.prog) S0 27 (v := .agg #[.slice A0_0 m.spots.length c0_0, .slice A0_1 m.first.length c0_1, .slice A0_2 m.follow.length c0_2, .slice A0_3 m.last.length c0_3, .bool m.empty]) [.slice A0_0 m.spots.length c0_0, .slice A0_1 m.first.length c0_1, .slice A0_2 m.follow.length c0_2, .slice A0_3 m.last.length c0_3, .bool m.empty] rfl
 have S2 := T1
 dsimp only [lAa, lAn, lA0, lAs] at S2
 refine p_v (v := .pointer (some ⟨b1, 0, none⟩)) rfl rfl rfl (x_box rfl r1) <| p_v (v := .bool false) rfl rfl rfl (zae rfl) <| zaa <| zab <| zab <| zac (l := [0, 1, 2, 3, 4, 5, 6, 7, 8, 9, 10, 11, 12, 13, 14, 15, 16, 17, 18, 19, 20, 21]) rfl <| p_v (v := .pointer (some ⟨b1, 0, none⟩)) rfl rfl rfl (zak zda ty22 rfl rfl) <| p_v (v := .slice A0_0 m.spots.length c0_0) rfl rfl rfl (zah (seg := [.slice A0_0 m.spots.length c0_0]) ty22 rfl (by simp) rfl (CF.box (m := 1) (S2.box_at (j := 0) rfl) rfl)) <| p_v (v := .int .i64 (m.spots.length : Int)) rfl rfl rfl (zar u22 rfl) <| p_v (v := .bool (decide (20 < (m.spots.length : Int)))) rfl rfl rfl (x_gtr rfl rfl) <| p_v (v := .bool (decide (20 < (m.spots.length : Int)))) rfl rfl rfl (zad rfl) ?_
 by_cases hc3 : 20 < (m.spots.length : Int)
 ·skip
  refine zaz rfl (wo 4 8 rfl rfl (bT hc3) rfl) rfl <| zaz rfl (wo 4 8 rfl rfl (bT hc3) rfl) rfl <| zaz rfl (wo 4 8 rfl rfl (bT hc3) rfl) rfl <| zaz rfl (wo 4 8 rfl rfl (bT hc3) rfl) rfl <| p_v (v := .bool true) rfl rfl rfl (zbf (bT hc3) rfl) <| p_v (v := .bool true) rfl rfl rfl (zad rfl) <| zaz rfl rfl rfl <| zaz rfl rfl rfl <| zaz rfl rfl rfl <| zaz rfl rfl rfl <| p_v (v := .bool true) rfl rfl rfl (zbf rfl rfl) <| p_v (v := .bool true) rfl rfl rfl (zad rfl) ?_
  refine zaz rfl rfl rfl <| zaz rfl rfl rfl <| zaz rfl rfl rfl <| zaz rfl rfl rfl <| p_v (v := .bool true) rfl rfl rfl (zbf rfl rfl) <| zaa <| zbh (b := true) rfl ?_
  simp only [if_true, if_false, Bool.false_eq_true]
  refine zab <| zac (l := [0]) rfl <| p_v (v := .bool false) rfl rfl rfl (zae rfl) <| zaa <| zav Try.func16 (res1 rfl (zax (v := .bool false) rfl)) ?_
  have q0 : (smallF m : Bool) = false := by
   first | exact smallF_1 (by omega) | exact smallF_5 hI_.1 (by omega) (by assumption) | exact smallF_no (by omega) (by omega) (by omega) (by omega) (zbx (by omega) hI_.2.2)
  refine ⟨_, rfl, (fun _ => none), ?_, ?_⟩
  · exact S2.sub [] (by decide) rfl _ rfl
  · first | rfl | (simp only [q0]; rfl) | (simp only [q0])
 refine p_v (v := .pointer (some ⟨b1, 2, none⟩)) rfl (wo 4 8 rfl rfl (bF hc3) rfl) rfl (zak fd27_2 ty24 rfl rfl) <| p_v (v := .slice A0_2 m.follow.length c0_2) rfl (wo 4 8 rfl rfl (bF hc3) rfl) rfl (zah (seg := [.slice A0_2 m.follow.length c0_2]) ty24 rfl (by simp) rfl (CF.box (m := 1) (S2.box_at (j := 0) rfl) rfl)) <| p_v (v := .int .i64 (m.follow.length : Int)) rfl (wo 4 8 rfl rfl (bF hc3) rfl) rfl (zar u24 rfl) <| p_v (v := .bool (decide (20 < (m.follow.length : Int)))) rfl (wo 4 8 rfl rfl (bF hc3) rfl) rfl (x_gtr rfl rfl) <| p_v (v := .bool (decide (20 < (m.follow.length : Int)))) rfl rfl rfl (zbq (bF hc3) rfl) <| p_v (v := .bool (decide (20 < (m.follow.length : Int)))) rfl rfl rfl (zad rfl) ?_
 by_cases hc4 : 20 < (m.follow.length : Int)
 ·skip
  refine zaz rfl (wo 10 14 rfl rfl (bT hc4) rfl) rfl <| zaz rfl (wo 10 14 rfl rfl (bT hc4) rfl) rfl <| zaz rfl (wo 10 14 rfl rfl (bT hc4) rfl) rfl <| zaz rfl (wo 10 14 rfl rfl (bT hc4) rfl) rfl <| p_v (v := .bool true) rfl rfl rfl (zbf (bT hc4) rfl) <| p_v (v := .bool true) rfl rfl rfl (zad rfl) <| zaz rfl rfl rfl <| zaz rfl rfl rfl <| zaz rfl rfl rfl <| zaz rfl rfl rfl <| p_v (v := .bool true) rfl rfl rfl (zbf rfl rfl) <| zaa ?_
  refine zbh (b := true) rfl ?_
  simp only [if_true, if_false, Bool.false_eq_true]
  refine zab <| zac (l := [0]) rfl <| p_v (v := .bool false) rfl rfl rfl (zae rfl) <| zaa <| zav Try.func16 (res1 rfl (zax (v := .bool false) rfl)) ?_
  have q0 : (smallF m : Bool) = false := by
   first | exact smallF_1 (by omega) | exact smallF_5 hI_.1 (by omega) (by assumption) | exact smallF_no (by omega) (by omega) (by omega) (by omega) (zbx (by omega) hI_.2.2)
  refine ⟨_, rfl, (fun _ => none), ?_, ?_⟩
  · exact S2.sub [] (by decide) rfl _ rfl
  · first | rfl | (simp only [q0]; rfl) | (simp only [q0])
 refine p_v (v := .pointer (some ⟨b1, 3, none⟩)) rfl (wo 10 14 rfl rfl (bF hc4) rfl) rfl (zak fd27_3 ty25 rfl rfl) <| p_v (v := .slice A0_3 m.last.length c0_3) rfl (wo 10 14 rfl rfl (bF hc4) rfl) rfl (zah (seg := [.slice A0_3 m.last.length c0_3]) ty25 rfl (by simp) rfl (CF.box (m := 1) (S2.box_at (j := 0) rfl) rfl)) <| p_v (v := .int .i64 (m.last.length : Int)) rfl (wo 10 14 rfl rfl (bF hc4) rfl) rfl (zar u25 rfl) <| p_v (v := .bool (decide (20 < (m.last.length : Int)))) rfl (wo 10 14 rfl rfl (bF hc4) rfl) rfl (x_gtr rfl rfl) <| p_v (v := .bool (decide (20 < (m.last.length : Int)))) rfl rfl rfl (zbq (bF hc4) rfl) <| p_v (v := .bool (decide (20 < (m.last.length : Int)))) rfl rfl rfl (zad rfl) ?_
 by_cases hc5 : 20 < (m.last.length : Int)
 ·skip
  refine zaz rfl (wo 16 20 rfl rfl (bT hc5) rfl) rfl <| zaz rfl (wo 16 20 rfl rfl (bT hc5) rfl) rfl <| zaz rfl (wo 16 20 rfl rfl (bT hc5) rfl) rfl <| zaz rfl (wo 16 20 rfl rfl (bT hc5) rfl) rfl <| p_v (v := .bool true) rfl rfl rfl (zbf (bT hc5) rfl) <| zaa <| zbh (b := true) rfl ?_
  simp only [if_true, if_false, Bool.false_eq_true]
  refine zab <| zac (l := [0]) rfl <| p_v (v := .bool false) rfl rfl rfl (zae rfl) <| zaa <| zav Try.func16 (res1 rfl (zax (v := .bool false) rfl)) ?_
  have q0 : (smallF m : Bool) = false := by
   first | exact smallF_1 (by omega) | exact smallF_5 hI_.1 (by omega) (by assumption) | exact smallF_no (by omega) (by omega) (by omega) (by omega) (zbx (by omega) hI_.2.2)
  refine ⟨_, rfl, (fun _ => none), ?_, ?_⟩
  · exact S2.sub [] (by decide) rfl _ rfl
  · first | rfl | (simp only [q0]; rfl) | (simp only [q0])
 refine p_v (v := .pointer (some ⟨b1, 1, none⟩)) rfl (wo 16 20 rfl rfl (bF hc5) rfl) rfl (zak fd27_1 ty23 rfl rfl) <| p_v (v := .slice A0_1 m.first.length c0_1) rfl (wo 16 20 rfl rfl (bF hc5) rfl) rfl (zah (seg := [.slice A0_1 m.first.length c0_1]) ty23 rfl (by simp) rfl (CF.box (m := 1) (S2.box_at (j := 0) rfl) rfl)) <| p_v (v := .int .i64 (m.first.length : Int)) rfl (wo 16 20 rfl rfl (bF hc5) rfl) rfl (zar u23 rfl) <| p_v (v := .bool (decide (20 < (m.first.length : Int)))) rfl (wo 16 20 rfl rfl (bF hc5) rfl) rfl (x_gtr rfl rfl) <| p_v (v := .bool (decide (20 < (m.first.length : Int)))) rfl rfl rfl (zbq (bF hc5) rfl) <| zaa ?_
 refine zal (p := 20 < (m.first.length : Int)) rfl (fun hc6 => ?_) (fun hc6 => ?_)
 ·skip
  refine zab <| zac (l := [0]) rfl <| p_v (v := .bool false) rfl rfl rfl (zae rfl) <| zaa <| zav Try.func16 (res1 rfl (zax (v := .bool false) rfl)) ?_
  have q0 : (smallF m : Bool) = false := by
   first | exact smallF_1 (by omega) | exact smallF_5 hI_.1 (by omega) (by assumption) | exact smallF_no (by omega) (by omega) (by omega) (by omega) (zbx (by omega) hI_.2.2)
  refine ⟨_, rfl, (fun _ => none), ?_, ?_⟩
  · exact S2.sub [] (by decide) rfl _ rfl
  · first | rfl | (simp only [q0]; rfl) | (simp only [q0])
 refine zao <| zab <| zab <| zac (l := [0]) rfl <| p_v (v := .int .i64 0) rfl rfl rfl (zae rfl) <| zaa <| zam <| za8 (S := Int) (fun (q_ : Int) ρ w' => match q_ with | i => ∃ (h : Ghost), Le (fun _ => none) h ∧ St w.heap.size w h w' [box b1 27 [.slice A0_0 m.spots.length c0_0, .slice A0_1 m.first.length c0_1, .slice A0_2 m.follow.length c0_2, .slice A0_3 m.last.length c0_3, .bool m.empty]] ∧ ρ 1 = .pointer (some ⟨b1, 0, none⟩) ∧ ρ 3 = .int .i64 i ∧ inK .i64 i ∧ (0 ≤ i ∧ i ≤ (m.follow.length : Int) ∧ (m.follow.take i.toNat).any (fun l => decide (20 < (l.length : Int))) = false)) (fun q_ => match q_ with | i => (m.follow.length - i).toNat) (0) ⟨(fun _ => none), Le.refl _, S2.sub [0] (by decide) rfl _ rfl, rfl, rfl, (zai (by first|omega|(simp;omega)|assumption|simp) (by first|omega|(simp;omega)|assumption|simp)), (by exact ⟨by omega, by omega, rfl⟩)⟩ ?_
 rintro i ih7 ρ7 w7 ⟨h7, le7, S7, r7_1, r7_3, f7_0, hI7⟩
 have lf7_0 := za1 f7_0; have hf7_0 := za2 f7_0
 refine zab <| zab <| zac (l := [0, 1, 2, 3, 4]) rfl <| p_v (v := .int .i64 i) rfl rfl rfl (zad r7_3) <| p_v (v := .pointer (some ⟨b1, 2, none⟩)) rfl rfl rfl (zak fd27_2 ty24 rfl r7_1) <| p_v (v := .slice A0_2 m.follow.length c0_2) rfl rfl rfl (zah (seg := [.slice A0_2 m.follow.length c0_2]) ty24 rfl (by simp) rfl (CF.box (m := 1) (S7.box_at (j := 0) rfl) rfl)) <| p_v (v := .int .i64 (m.follow.length : Int)) rfl rfl rfl (zar u24 rfl) <| p_v (v := .bool (decide (i < (m.follow.length : Int)))) rfl rfl rfl (zc2 rfl rfl) <| zaa ?_
 refine zal (p := i < (m.follow.length : Int)) rfl (fun hc8 => ?_) (fun hc8 => ?_)
 ·skip
  refine zao <| zab <| zam <| zab <| zac (l := [0, 1, 2, 3, 4, 5, 6]) rfl <| p_v (v := .pointer (some ⟨b1, 2, none⟩)) rfl rfl rfl (zak fd27_2 ty24 rfl r7_1) <| p_v (v := .slice A0_2 m.follow.length c0_2) rfl rfl rfl (zah (seg := [.slice A0_2 m.follow.length c0_2]) ty24 rfl (by simp) rfl (CF.box (m := 1) (S7.box_at (j := 0) rfl) rfl)) <| p_v (v := .int .i64 i) rfl rfl rfl (zad r7_3) ?_
  obtain ⟨ad9, seg9, a9, rp9, ce9⟩ := zap (q := i) (m := 1) l0_2 rfl (by first|omega|(simp;omega)|assumption|simp) (by first|omega|(simp;omega)|assumption|simp)
  refine p_v (v := .pointer (some ad9)) rfl rfl rfl (zan u24 ty23 rfl rfl a9 (by first|omega|(simp;omega)|assumption|simp) (by first|omega|(simp;omega)|assumption|simp)) ?_
  obtain ⟨A9, c9, rfl, lc9, cm9, ld9⟩ := rp9
  have cn9 := cm9; simp only [maxLen] at cn9
  refine p_v (v := .slice A9 (at_ m.follow i).length c9) rfl rfl rfl (zah (seg := [.slice A9 (at_ m.follow i).length c9]) ty23 rfl (by simp) rfl (CF.ghost ce9 (St.le0 S7))) <| p_v (v := .int .i64 ((at_ m.follow i).length : Int)) rfl rfl rfl (zar u23 rfl) <| p_v (v := .bool (decide (20 < ((at_ m.follow i).length : Int)))) rfl rfl rfl (x_gtr rfl rfl) <| zaa ?_
  refine zal (p := 20 < ((at_ m.follow i).length : Int)) rfl (fun hc10 => ?_) (fun hc10 => ?_)
  ·skip
   refine zab <| zac (l := [0]) rfl <| p_v (v := .bool false) rfl rfl rfl (zae rfl) <| zaa <| zav Try.func16 (res1 rfl (zax (v := .bool false) rfl)) ?_
   have q0 : (smallF m : Bool) = false := by
    first | exact smallF_1 (by omega) | exact smallF_5 hI7.1 (by omega) (by assumption) | exact smallF_no (by omega) (by omega) (by omega) (by omega) (zbx (by omega) hI7.2.2)
   refine ⟨_, rfl, h7, ?_, ?_⟩
   · exact S7.sub [] (by decide) rfl _ rfl
   · first | rfl | (simp only [q0]; rfl) | (simp only [q0])
  refine zao <| zaj <| zac (l := [0, 1, 2]) rfl <| p_v (v := .int .i64 i) rfl rfl rfl (zad r7_3) <| p_v (v := .int .i64 (i + 1)) rfl rfl rfl (zbv rfl rfl (zai (by first|omega|(simp;omega)|assumption|simp) (by first|omega|(simp;omega)|assumption|simp))) <| p_v (v := .int .i64 (i + 1)) rfl rfl rfl (zae rfl) <| zaa ?_
  refine ih7 (i + 1) _ _ (by dsimp only; omega) ⟨h7, le7, S7.sub [0] (by decide) rfl _ rfl, r7_1, rfl, (zai (by first|omega|(simp;omega)|assumption|simp) (by first|omega|(simp;omega)|assumption|simp)), (by exact ⟨by omega, by omega, any_take_step hI7.1 (by omega) hI7.2.2 (decide_eq_false (by omega))⟩)⟩
 refine za3 rfl <| zab <| zac (l := [0]) rfl <| p_v (v := .bool true) rfl rfl rfl (zae rfl) <| zaa <| zav Try.func16 (res1 rfl (zax (v := .bool true) rfl)) ?_
 have q0 : (smallF m : Bool) = true := by
  first | exact smallF_1 (by omega) | exact smallF_5 hI7.1 (by omega) (by assumption) | exact smallF_no (by omega) (by omega) (by omega) (by omega) (zbx (by omega) hI7.2.2)
 refine ⟨_, rfl, h7, ?_, ?_⟩
 · exact S7.sub [] (by decide) rfl _ rfl
 · first | rfl | (simp only [q0]; rfl) | (simp only [q0])
end Go.Proofs.Ytpdanfggijmnmaa
namespace Gx
open Go Go.RowKit
set_option linter.unusedSimpArgs false
set_option linter.unusedVariables false
set_option linter.unusedSectionVars false
theorem both_of {m : Mach} {a b c : Int} (c0 : 0 ≤ c) (c1 : c < 256) (ha : has (at_ m.spots a).set c = true) (hb : has (at_ m.spots b).set c = true) : bothP m (a, b) := meet_count.2 ⟨c, c0, c1, ha, hb⟩
theorem goes_both {m : Mach} : ∀ (l : List Int) {a b : Int}, (∀ c ∈ l, 0 ≤ c ∧ c < 256) → endL m l a = true → endL m l b = true → GoesP m (a, b)
  | [], a, b, _, ha, hb => .last ha hb
  | c :: cs, a, b, hc, ha, hb => by
    obtain ⟨x, hx, h1⟩ := List.any_eq_true.1 ha
    obtain ⟨y, hy, h2⟩ := List.any_eq_true.1 hb
    rw [Bool.and_eq_true] at h1 h2
    have h := hc c (by simp)
    exact .next (y := (x, y)) ⟨hx, hy⟩ (both_of h.1 h.2 h1.1 h2.1) (goes_both cs (fun c' h' => hc c' (by simp [h'])) h1.2 h2.2)
open Classical in
theorem single_tag {m : Mach} (h : zcd m = true) {x : Pr} (hc : Come m x) (hg : GoesP m x) : (at_ m.spots x.1).tag = (at_ m.spots x.2).tag := by
  unfold zcd at h
  rw [Bool.and_eq_true] at h
  exact of_decide_eq_true h.2 x hc hg
structure AllI (m : Mach) (w : ByteArray) (at' : List Int) (i : Int) : Prop where
  nx : ∃ out next, MarkI m w out next i ∧ (i < (w.size : Int) → next.any (zc1 m ((zay w).drop i.toNat)) = true) ∧ ∀ c g, 0 ≤ c → c < 256 → g ∈ zb1 m at' (decide (i = 0)) c → ∀ d, d ∈ next → has (at_ m.spots d).set c = true → Come m (g, d)
  go : i < (w.size : Int) → (zb1 m at' (decide (i = 0)) (byt w i)).any (endL m ((zay w).drop (i + 1).toNat)) = true
  inn : ∀ x ∈ at', 0 ≤ x ∧ x < (m.spots.length : Int)
theorem stepP_has {m : Mach} {S : List Int} {f : Bool} {c g : Int} (h : g ∈ zb1 m S f c) : has (at_ m.spots g).set c = true ∧ mayP m S f g = true := by
  obtain ⟨h0, h1, h2⟩ := mem_posTo.1 h
  unfold zb3 at h2
  rw [Int.toNat_of_nonneg h0, Bool.and_eq_true] at h2
  exact ⟨h2.2, h2.1⟩
theorem all_0 {m : Mach} (hR : Right m) {w : ByteArray} (hr : runM m w = true) : AllI m w [] 0 where
  nx := ⟨[], m.first, mrk_0 hR w, fun h => (by rw [run_first hR h] at hr; exact hr), fun c g c0 c1 hg d hd hdc => by
    have h := stepP_has hg
    have hm : g ∈ m.first := by have := h.2; unfold mayP at this; simpa using this
    exact .first hm hd (both_of c0 c1 h.1 hdc)⟩
  go := fun h => by
    rw [run_first hR h, show zay w = byt w 0 :: (zay w).drop 1 from zcc w (i := 0) (by omega) h] at hr
    rw [decide_eq_true rfl, step_any_0 hR]
    exact hr
  inn := fun x hx => absurd hx (by simp)
theorem all_step {m : Mach} (hR : Right m) {w : ByteArray} {at' : List Int} {i g : Int} (A : AllI m w at' i) (h0 : 0 ≤ i) (h1 : i < (w.size : Int)) (hg : g ∈ zb1 m at' (decide (i = 0)) (byt w i)) (he : endL m ((zay w).drop (i + 1).toNat) g = true) :
    AllI m w [g] (i + 1) ∧ (zcd m = true → ∀ r, marksO m w = some r → (at_ m.spots g).tag = at_ r i) := by
  obtain ⟨out, next, M, ha, hc⟩ := A.nx
  have hb := byt_range w i
  have hgr := stepP_in _ hg
  cases hf : next.find? (zc1 m ((zay w).drop i.toNat)) with
  | none =>
    obtain ⟨x, hx, h2⟩ := List.any_eq_true.1 (ha h1)
    have h3 := List.find?_eq_none.1 hf x hx
    exact absurd h2 h3
  | some d =>
    have hd := List.mem_of_find?_eq_some hf
    have hgd := List.find?_some hf
    have hdr := M.inn _ hd
    have M' := mrk_find hR M h0 h1 hf
    rw [zcc w h0 h1] at hgd
    have hgd2 : (has (at_ m.spots d).set (byt w i) && endL m ((zay w).drop (i + 1).toNat) d) = true := hgd
    rw [Bool.and_eq_true] at hgd2
    have hcm := hc (byt w i) g hb.1 (by omega) hg d hd hgd2.1
    refine ⟨⟨⟨_, _, M', fun h => good_end hgd (bytes_more w (by omega) h), fun c g' c0 c1 hg' d' hd' hdc => ?_⟩, fun h => ?_, fun x hx => ?_⟩, fun hs r hr => ?_⟩
    · have h := stepP_has hg'
      have hm : g' ∈ at_ m.follow g := by
        have := h.2; unfold mayP at this
        rw [decide_eq_false (by omega)] at this
        simpa using this
      exact .next hcm ⟨hm, hd'⟩ (both_of c0 c1 h.1 hdc)
    · rw [decide_eq_false (by omega), step_any_n hR (fun x hx => by simp at hx; omega)]
      rw [zcc w (by omega) h] at he
      have he2 : ((at_ m.follow g).any fun k => has (at_ m.spots k).set (byt w (i + 1)) && endL m ((zay w).drop (i + 1 + 1).toNat) k) = true := he
      simpa using he2
    · simp at hx; omega
    · have hG : GoesP m (g, d) := goes_both _ (fun c hc' => by have := bytesL_range w c (List.mem_of_mem_drop hc'); omega) he hgd2.2
      have ht := single_tag hs hcm hG
      rw [M'.all] at hr
      cases hm : markL m ((zay w).drop (i + 1).toNat) (at_ m.follow d) with
      | none => rw [hm] at hr; cases hr
      | some o =>
        rw [hm] at hr
        injection hr with hr
        subst hr
        have hl := M.len
        have e : at_ ((out ++ [(at_ m.spots d).tag]) ++ o) i = (at_ m.spots d).tag := by
          unfold at_
          rw [List.append_assoc, List.getD_eq_getElem?_getD, List.getElem?_append_right (by omega), show i.toNat - out.length = 0 by omega]; rfl
        exact ht.trans e.symm
def goodTo (q : Int → Bool) (l : List Int) (k : Int) : List Int := (l.take k.toNat).filter q
theorem goodTo_0 (q : Int → Bool) (l : List Int) : ([] : List Int) = goodTo q l 0 := rfl
section
variable {q : Int → Bool} {l : List Int} {k : Int}
theorem goodTo_yes (h0 : 0 ≤ k) (h1 : k < (l.length : Int)) (h : q (at_ l k) = true) : goodTo q l k ++ [at_ l k] = goodTo q l (k + 1) := by
  unfold goodTo; rw [zdq _ h0 h1, List.filter_append]; simp [h]
theorem goodTo_no (h0 : 0 ≤ k) (h1 : k < (l.length : Int)) (h : q (at_ l k) = false) : goodTo q l k = goodTo q l (k + 1) := by
  unfold goodTo; rw [zdq _ h0 h1, List.filter_append]; simp [h]
theorem goodTo_len (h0 : 0 ≤ k) : ((goodTo q l k).length : Int) ≤ k := by
  unfold goodTo
  have := List.length_filter_le q (l.take k.toNat)
  rw [List.length_take] at this; omega
theorem goodTo_some (h1 : (l.length : Int) ≤ k) (h : l.any q = true) : 0 < ((goodTo q l k).length : Int) := by
  obtain ⟨x, hx, hq⟩ := List.any_eq_true.1 h
  unfold goodTo
  rw [List.take_of_length_le (by omega)]
  have := List.length_pos_of_mem (List.mem_filter.2 ⟨hx, hq⟩)
  omega
theorem goodTo_at {n : Int} (h0 : 0 ≤ n) (h1 : n < ((goodTo q l k).length : Int)) : at_ (goodTo q l k) n ∈ l ∧ q (at_ (goodTo q l k) n) = true := by
  have h := zbp h0 h1
  have h2 := List.mem_filter.1 h
  exact ⟨List.mem_of_mem_take h2.1, h2.2⟩
end
theorem goodAt {q : Int → Bool} {l good : List Int} {k n : Int} (e : good = goodTo q l k) (h0 : 0 ≤ n) (h1 : n < (good.length : Int)) : at_ good n ∈ l ∧ q (at_ good n) = true := by
  subst e; exact goodTo_at h0 h1
theorem stepP_len (m : Mach) (S : List Int) (b : Bool) (c : Int) : ((zb1 m S b c).length : Int) ≤ m.spots.length := posTo_len _ (by omega)
theorem ok_marks {m : Mach} {w : ByteArray} (h : okMk m w = true) : ((zat m w).length : Int) = w.size ∧ (0 < (w.size : Int) → marksO m w = some (zat m w)) := by
  by_cases hw : 0 < w.size
  · have hr := h
    rw [okMk_eq] at hr
    have hR := right_iff.2 (right_of_run hr)
    unfold okMk at h
    rw [if_pos ⟨hR, hw⟩] at h
    obtain ⟨o, ho⟩ := Option.isSome_iff_exists.1 h
    have hm := (zc9 hR (by omega) ho).1
    have hl := markL_len m _ _ o ho
    rw [zdy] at hl
    rw [hm]
    exact ⟨by omega, fun _ => ho⟩
  · refine ⟨?_, fun h => by omega⟩
    unfold zat; rw [if_neg (by omega)]; simp; omega
theorem no_marks {m : Mach} {w : ByteArray} (h : okMk m w = false) : ((zat m w).length : Int) = 0 := by
  rw [okMk_eq] at h; rw [(marks_no h).1]; rfl
end Gx
