/- My own library for walks through the translated code, and the walks of the functions that the law FstAll comes to, part 5; no conditions but those that each contract tells. -/
import Derived.ProofKit
import Derived.OpenShut
import Derived.ShutString
import Derived.ChangeOld
import Derived.Below
import Derived.DataElems
import Derived.Test.YtpdanfggijmnmaaRows
import Derived.Stop.Joined
import Derived.MakeChecks
import Derived.Test.YtpdanfggijmnmaaLFstAll3
namespace Go.Proofs.Ytpdanfggijmnmaa
open Go Go.RowKit Gx
set_option maxHeartbeats 3000000
set_option linter.unusedVariables false
set_option linter.unusedSimpArgs false
set_option maxRecDepth 8000
attribute [local irreducible] listOf zd0 first someIn has zb6 wbits Lib.ctz zc4 zbj rowOk tab markP intoP intoTo zcm zb7 zcr runTo endsIn endTo runM posTo mayP zb3 zb1 mayTo atP lastTo docAt anyTo allTo lfp trues zcw zcq gIn zc1 endL zc5 gRowTo zay markL marksO zat okMk pickL zdi runPM subB zcd smallF
theorem goes14_calls (w : World) (m : Mach) (A0_0 : Option Addr) (c0_0 : Nat) (b0_0 : m.spots.length ≤ c0_0 ∧ c0_0 ≤ maxLen) (l0_0 : zbe kSpot (hp w) A0_0 m.spots) (A0_1 : Option Addr) (c0_1 : Nat) (b0_1 : m.first.length ≤ c0_1 ∧ c0_1 ≤ maxLen) (l0_1 : zbe (Kd.int .i64) (hp w) A0_1 m.first) (A0_2 : Option Addr) (c0_2 : Nat) (b0_2 : m.follow.length ≤ c0_2 ∧ c0_2 ≤ maxLen) (l0_2 : zbe (Kd.int .i64).slice (hp w) A0_2 m.follow) (A0_3 : Option Addr) (c0_3 : Nat) (b0_3 : m.last.length ≤ c0_3 ∧ c0_3 ≤ maxLen) (l0_3 : zbe Kd.bool (hp w) A0_3 m.last) (n : Int) (i1 : inK .i64 n) (xw : ByteArray) (s2 : xw.size ≤ maxLen) (pre0 : Right m ∧ 0 ≤ n ∧ n < (m.spots.length : Int)) :
    Calls Try.prog 22 #[.agg #[.slice A0_0 m.spots.length c0_0, .slice A0_1 m.first.length c0_1, .slice A0_2 m.follow.length c0_2, .slice A0_3 m.last.length c0_3, .bool m.empty], .int .i64 n, .string xw] w fun e w' => ∃ v, e = .returned v ∧ ∃ (hn : Ghost), St w.heap.size w hn w' [] ∧ v = .bool (endL m (zay xw) n) := by
 refine zas Try.func22 rfl Try.ntmps22 rfl ?_
 have S0 := St.init w
 have bb0_0 := b0_0.1; have bc0_0 := b0_0.2; simp only [maxLen] at bc0_0
 have bb0_1 := b0_1.1; have bc0_1 := b0_1.2; simp only [maxLen] at bc0_1
 have bb0_2 := b0_2.1; have bc0_2 := b0_2.2; simp only [maxLen] at bc0_2
 have bb0_3 := b0_3.1; have bc0_3 := b0_3.2; simp only [maxLen] at bc0_3
 have lo1 := za1 i1; have hi1 := za2 i1
 have sz2 := s2; simp only [maxLen] at sz2
 have hR_ := pre0.1; have hsm_ := hR_.small; have hfo_ := hR_.follow; have hla_ := hR_.last; have hn_ := pre0.2
 refine zab <| zac (l := [0, 1]) rfl ?_
 obtain ⟨b1, w1, r1, g1, T1⟩ := zc0 (P := Try.prog) S0 27 (v := .agg #[.slice A0_0 m.spots.length c0_0, .slice A0_1 m.first.length c0_1, .slice A0_2 m.follow.length c0_2, .slice A0_3 m.last.length c0_3, .bool m.empty]) [.slice A0_0 m.spots.length c0_0, .slice A0_1 m.first.length c0_1, .slice A0_2 m.follow.length c0_2, .slice A0_3 m.last.length c0_3, .bool m.empty] rfl
 have S2 := T1
 dsimp only [lAa, lAn, lA0, lAs] at S2
 refine p_v (v := .pointer (some ⟨b1, 0, none⟩)) rfl rfl rfl (x_box rfl r1) <| p_v (v := .bool false) rfl rfl rfl (zae rfl) <| zaa <| zab <| zac (l := [0, 1, 2]) rfl <| p_v (v := .int .i64 n) rfl rfl rfl (zad rfl) ?_
 obtain ⟨v3, w3, r3, g3, T3⟩ := zbb (kd := (Kd.int .i64)) (xs := ([n] : List Int)) (len := 1) [.int .i64 n] S2 u23 ty3 rfl rfl rfl rfl rfl (zbm rfl zcb) [.int .i64 n] (zbu.single (k := (Kd.int .i64)) (h := (fun _ => none)) (x := n) (cs := [.int .i64 n]) ⟨rfl, (zai (by first|omega|(simp;omega)|assumption|simp) (by first|omega|(simp;omega)|assumption|simp))⟩) rfl
 have S4 := T3
 dsimp only [lAa, lAn, lA0, lAs] at S4
 refine p_v (v := v3) rfl rfl rfl (zaw (pv := [(0, .int .i64 n)]) rfl r3) <| p_v (v := v3) rfl rfl rfl (zae rfl) <| zaa <| zab <| zab <| zac (l := [0]) rfl <| p_v (v := .int .i64 0) rfl rfl rfl (zae rfl) <| zaa <| zam <| za8 (S := (List Int) × Int) (fun (q_ : (List Int) × Int) ρ w' => match q_ with | (xat, i) => ∃ (h : Ghost) (v_xat : Value), Le (fun _ => none) h ∧ St w.heap.size w h w' [box b1 27 [.slice A0_0 m.spots.length c0_0, .slice A0_1 m.first.length c0_1, .slice A0_2 m.follow.length c0_2, .slice A0_3 m.last.length c0_3, .bool m.empty], row 3 (Kd.int .i64) v_xat xat] ∧ ρ 2 = .string xw ∧ ρ 3 = .pointer (some ⟨b1, 0, none⟩) ∧ ρ 7 = v_xat ∧ ρ 8 = .int .i64 i ∧ inK .i64 i ∧ (0 ≤ i ∧ i ≤ (xw.size : Int) ∧ EndI m xw n xat i)) (fun q_ => match q_ with | (xat, i) => (xw.size - i).toNat) (([n] : List Int), 0) ⟨(fun _ => none), v3, Le.refl _, S4.sub [0, 1] (by decide) rfl _ rfl, rfl, rfl, rfl, rfl, (zai (by first|omega|(simp;omega)|assumption|simp) (by first|omega|(simp;omega)|assumption|simp)), (by exact ⟨by omega, by omega, endI_0 hn_.1 hn_.2⟩)⟩ ?_
 rintro ⟨xat, i⟩ ih5 ρ5 w5 ⟨h5, v_xat, le5, S5, r5_2, r5_3, r5_7, r5_8, f5_0, hI5⟩
 have lf5_0 := za1 f5_0; have hf5_0 := za2 f5_0
 have rl5_1 := S5.row_le (j := 1) rfl; simp only [maxLen] at rl5_1
 have hin_ := hI5.2.2.inn
 refine zab <| zab <| zac (l := [0, 1, 2, 3]) rfl <| p_v (v := .int .i64 i) rfl rfl rfl (zad r5_8) <| p_v (v := .string xw) rfl rfl rfl (zad r5_2) <| p_v (v := .int .i64 (xw.size : Int)) rfl rfl rfl (zcg u9 rfl) <| p_v (v := .bool (decide (i < (xw.size : Int)))) rfl rfl rfl (zc2 rfl rfl) <| zaa ?_
 refine zal (p := i < (xw.size : Int)) rfl (fun hc6 => ?_) (fun hc6 => ?_)
 ·skip
  refine zao <| zab <| zam ?_
  have by7 := byt_range xw i
  have hf8 : (CFs ⟨b1, 0, none⟩ [.slice A0_0 m.spots.length c0_0, .slice A0_1 m.first.length c0_1, .slice A0_2 m.follow.length c0_2, .slice A0_3 m.last.length c0_3, .bool m.empty]).1 w5 := (CF.box (m := 5) (S5.box_at (j := 0) rfl) rfl)
  refine daS (hkC 0 hf8 (hkN (w := w5))) 7 rfl zdt ?_
  intro wd9 gd9 hd9
  have S10 := S5.keep gd9
  have hf11 := spUp gd9 hf8
  refine qd1 0 (i := 0) (v := .agg #[.slice A0_0 m.spots.length c0_0, .slice A0_1 m.first.length c0_1, .slice A0_2 m.follow.length c0_2, .slice A0_3 m.last.length c0_3, .bool m.empty]) rfl rfl (by decide +kernel) rfl rfl (fun wq hq => (zah (seg := [.slice A0_0 m.spots.length c0_0, .slice A0_1 m.first.length c0_1, .slice A0_2 m.follow.length c0_2, .slice A0_3 m.last.length c0_3, .bool m.empty]) ty27 rfl (by simp) r5_3 hq)) (za0 hf11 (of_nil _ _)) <| qd0 (i := 1) (v := v_xat) rfl (by decide +kernel) rfl rfl (zad r5_7) (zaf rfl) <| qd0 (i := 2) (v := .string xw) rfl (by decide +kernel) rfl rfl (zad r5_2) (zaf rfl) <| qd0 (i := 3) (v := .int .i64 i) rfl (by decide +kernel) rfl rfl (zad r5_8) (zaf rfl) <| qd0 (i := 4) (v := .int .u8 (byt xw i)) rfl (by decide +kernel) rfl rfl (zdx u9 rfl rfl (by first|omega|(simp;omega)|assumption|simp) (by first|omega|(simp;omega)|assumption|simp)) (zaf rfl) <| zc7 (i := 5) (by decide +kernel) ?_
  intro wd12 gd12
  have S13 := S10.keep gd12
  have hf14 := spUp gd12 hf11
  obtain ⟨A15, c15, ev15, lc15, cm15⟩ := S13.row_val (j := 1) rfl
  refine d_c rfl rfl rfl (zbd (args := [.agg #[.slice A0_0 m.spots.length c0_0, .slice A0_1 m.first.length c0_1, .slice A0_2 m.follow.length c0_2, .slice A0_3 m.last.length c0_3, .bool m.empty], .slice A15 xat.length c15, .bool false, .int .u8 (byt xw i)]) ca21 rfl (zci rfl (zci ev15 (zci rfl (zci rfl rfl))))) (step_calls wd12 m A0_0 c0_0 b0_0 (l0_0.mono (St.le0 S13)) A0_1 c0_1 b0_1 (l0_1.mono (St.le0 S13)) A0_2 c0_2 b0_2 (l0_2.mono (St.le0 S13)) A0_3 c0_3 b0_3 (l0_3.mono (St.le0 S13)) xat A15 c15 (And.intro lc15 cm15) (zb8 S13 (j := 1) rfl ev15) false (byt xw i) (in_u8 (by first|omega|(simp;omega)|assumption|simp) (by first|omega|(simp;omega)|assumption|simp)) (by first | assumption | exact ⟨by assumption, by assumption⟩)) ?_
  rintro v16_0 w16 ⟨h16, _, T16, rfl⟩
  obtain ⟨k16, lk16, ll16, U16⟩ := zco S13 T16
  have S17 := U16
  dsimp only [lAa, lAn, lA0, lAs] at S17
  have hf18 := spUp (Chg.of_below T16.below) hf14
  refine ⟨.inl (Chg.of_below T16.below), ?_⟩
  refine qd0 (i := 6) (v := v16_0) rfl (by decide +kernel) rfl rfl (zae rfl) (zaf rfl) <| zbw (by decide +kernel) ?_
  intro wd19 gd19
  have S20 := S17.keep gd19
  refine zaj <| zac (l := [0, 1, 2]) rfl <| p_v (v := .int .i64 i) rfl rfl rfl (zad r5_8) <| p_v (v := .int .i64 (i + 1)) rfl rfl rfl (zbv rfl rfl (zai (by first|omega|(simp;omega)|assumption|simp) (by first|omega|(simp;omega)|assumption|simp))) <| p_v (v := .int .i64 (i + 1)) rfl rfl rfl (zae rfl) <| zaa ?_
  refine ih5 (zb1 m xat false (byt xw i), i + 1) _ _ (by dsimp only; omega) ⟨k16, v16_0, (le5.trans lk16), S20.sub [0, 2] (by decide) rfl _ rfl, r5_2, r5_3, rfl, rfl, (zai (by first|omega|(simp;omega)|assumption|simp) (by first|omega|(simp;omega)|assumption|simp)), (by exact ⟨by omega, by omega, endI_step hR_ hI5.2.2 hI5.1 (by omega)⟩)⟩
 refine za3 rfl <| zab <| zab <| zac (l := [0]) rfl <| p_v (v := .int .i64 0) rfl rfl rfl (zae rfl) <| zaa <| zam <| za8 (S := Int) (fun (q_ : Int) ρ w' => match q_ with | i2 => ∃ (h : Ghost), Le h5 h ∧ St w.heap.size w h w' [box b1 27 [.slice A0_0 m.spots.length c0_0, .slice A0_1 m.first.length c0_1, .slice A0_2 m.follow.length c0_2, .slice A0_3 m.last.length c0_3, .bool m.empty], row 3 (Kd.int .i64) v_xat xat] ∧ ρ 3 = .pointer (some ⟨b1, 0, none⟩) ∧ ρ 7 = v_xat ∧ ρ 9 = .int .i64 i2 ∧ inK .i64 i2 ∧ (0 ≤ i2 ∧ i2 ≤ (xat.length : Int) ∧ lastTo m xat i2 = false)) (fun q_ => match q_ with | i2 => (xat.length - i2).toNat) (0) ⟨h5, Le.refl _, S5.sub [0, 1] (by decide) rfl _ rfl, r5_3, r5_7, rfl, (zai (by first|omega|(simp;omega)|assumption|simp) (by first|omega|(simp;omega)|assumption|simp)), (by exact ⟨by omega, by omega, last_0 _ _⟩)⟩ ?_
 rintro i2 ih21 ρ21 w21 ⟨h21, le21, S21, r21_3, r21_7, r21_9, f21_0, hI21⟩
 have lf21_0 := za1 f21_0; have hf21_0 := za2 f21_0
 have rl21_1 := S21.row_le (j := 1) rfl; simp only [maxLen] at rl21_1
 have hx_ : i2 < (xat.length : Int) → 0 ≤ at_ xat i2 ∧ at_ xat i2 < (m.spots.length : Int) := fun h => hin_ _ (zbp hI21.1 h)
 refine zab <| zab <| zac (l := [0, 1, 2, 3]) rfl <| p_v (v := .int .i64 i2) rfl rfl rfl (zad r21_9) <| p_v (v := v_xat) rfl rfl rfl (zad r21_7) ?_
 have lb22 := S21.row_le (j := 1) rfl; simp only [maxLen] at lb22
 refine p_v (v := .int .i64 (xat.length : Int)) rfl rfl rfl (zdo u23 rfl (zdu S21 (j := 1) rfl)) <| p_v (v := .bool (decide (i2 < (xat.length : Int)))) rfl rfl rfl (zc2 rfl rfl) <| zaa ?_
 refine zal (p := i2 < (xat.length : Int)) rfl (fun hc23 => ?_) (fun hc23 => ?_)
 ·skip
  refine zao <| zab <| zam <| zab ?_
  obtain ⟨ad24, a24, at24⟩ := zba (q := i2) (m := 1) S21 (j := 1) rfl rfl (by first|omega|(simp;omega)|assumption|simp) (by first|omega|(simp;omega)|assumption|simp)
  obtain ⟨seg25, rp25, cf25⟩ := zbo (q := i2) S21 (j := 1) rfl rfl at24 (by first|omega|(simp;omega)|assumption|simp) (by first|omega|(simp;omega)|assumption|simp)
  obtain ⟨rfl, in25⟩ := rp25
  have lo25 := za1 in25; have hi25 := za2 in25
  obtain ⟨ad26, seg26, a26, rp26, ce26⟩ := zap (q := at_ xat i2) (m := 1) l0_3 rfl (by first|omega|(simp;omega)|assumption|simp) (by first|omega|(simp;omega)|assumption|simp)
  obtain ⟨rfl, _⟩ := rp26
  have hf27 : (CFs ⟨b1, 3, none⟩ [.slice A0_3 m.last.length c0_3]).1 w21 := (CF.box (m := 1) (S21.box_at (j := 0) rfl) rfl)
  have hf28 : (CFs ad24 [.int .i64 (at_ xat i2)]).1 w21 := cf25
  have hf29 : (CFs ad26 [.bool (at_ m.last (at_ xat i2))]).1 w21 := (CF.ghost ce26 (St.le0 S21))
  refine daS (hkC 1 hf27 (hkC 5 hf28 (hkC 7 hf29 (hkN (w := w21))))) 8 rfl zdt ?_
  intro wd30 gd30 hd30
  have S31 := S21.keep gd30
  have hf32 := spUp gd30 hf27
  have hf33 := spUp gd30 hf28
  have hf34 := spUp gd30 hf29
  refine qd0 (i := 0) (v := .pointer (some ⟨b1, 3, none⟩)) rfl (by decide +kernel) rfl rfl (zak fd27_3 ty25 rfl r21_3) (zaf rfl) <| qd1 0 (i := 1) (v := .slice A0_3 m.last.length c0_3) rfl rfl (by decide +kernel) rfl rfl (fun wq hq => (zah (seg := [.slice A0_3 m.last.length c0_3]) ty25 rfl (by simp) rfl hq)) (za0 hf32 (zaf rfl)) <| qd0 (i := 2) (v := v_xat) rfl (by decide +kernel) rfl rfl (zad r21_7) (zaf rfl) <| qd0 (i := 3) (v := .int .i64 i2) rfl (by decide +kernel) rfl rfl (zad r21_9) (zaf rfl) <| qd0 (i := 4) (v := .pointer (some ad24)) rfl (by decide +kernel) rfl rfl (za9 u23 ty3 rfl rfl a24 (by first|omega|(simp;omega)|assumption|simp) (by first|omega|(simp;omega)|assumption|simp)) (zaf rfl) <| qd1 1 (i := 5) (v := .int .i64 (at_ xat i2)) rfl rfl (by decide +kernel) rfl rfl (fun wq hq => (zah (seg := [.int .i64 (at_ xat i2)]) ty3 rfl (by simp) rfl hq)) (zaq rfl (za0 hf33 (zaf rfl))) <| qd0 (i := 6) (v := .pointer (some ad26)) rfl (by decide +kernel) rfl rfl (zan u25 ty4 rfl rfl a26 (by first|omega|(simp;omega)|assumption|simp) (by first|omega|(simp;omega)|assumption|simp)) (zaf rfl) <| qd1 2 (i := 7) (v := .bool (at_ m.last (at_ xat i2))) rfl rfl (by decide +kernel) rfl rfl (fun wq hq => (zah (seg := [.bool (at_ m.last (at_ xat i2))]) ty4 rfl (by simp) rfl hq)) (zaq rfl (zaq rfl (za0 hf34 (zaf rfl)))) <| zbw (by decide +kernel) ?_
  intro wd35 gd35
  have S36 := S31.keep gd35
  refine zbs (b := at_ m.last (at_ xat i2)) rfl (fun hc37 => ?_) (fun hc37 => ?_)
  ·skip
   refine zab <| zac (l := [0]) rfl <| p_v (v := .bool true) rfl rfl rfl (zae rfl) <| zaa <| zav Try.func22 (res1 rfl (zax (v := .bool true) rfl)) ?_
   have q0 : (endL m (zay xw) n : Bool) = true := by
    rw [endI_end hI5.2.2 (by omega)]; first | exact last_yes m xat hI21.1 (by omega) (by assumption) | exact last_end m xat (by omega) hI21.2.2
   refine ⟨_, rfl, h21, ?_, ?_⟩
   · exact S36.sub [] (by decide) rfl _ rfl
   · first | rfl | (simp only [q0]; rfl) | (simp only [q0])
  refine zao <| zaj <| zac (l := [0, 1, 2]) rfl <| p_v (v := .int .i64 i2) rfl rfl rfl (zad r21_9) <| p_v (v := .int .i64 (i2 + 1)) rfl rfl rfl (zbv rfl rfl (zai (by first|omega|(simp;omega)|assumption|simp) (by first|omega|(simp;omega)|assumption|simp))) <| p_v (v := .int .i64 (i2 + 1)) rfl rfl rfl (zae rfl) <| zaa ?_
  refine ih21 (i2 + 1) _ _ (by dsimp only; omega) ⟨h21, le21, S36.sub [0, 1] (by decide) rfl _ rfl, r21_3, r21_7, rfl, (zai (by first|omega|(simp;omega)|assumption|simp) (by first|omega|(simp;omega)|assumption|simp)), (by exact ⟨by omega, by omega, last_step m xat hI21.1 (by omega) hI21.2.2 (by assumption)⟩)⟩
 refine za3 rfl <| zab <| zac (l := [0]) rfl <| p_v (v := .bool false) rfl rfl rfl (zae rfl) <| zaa <| zav Try.func22 (res1 rfl (zax (v := .bool false) rfl)) ?_
 have q0 : (endL m (zay xw) n : Bool) = false := by
  rw [endI_end hI5.2.2 (by omega)]; first | exact last_yes m xat hI21.1 (by omega) (by assumption) | exact last_end m xat (by omega) hI21.2.2
 refine ⟨_, rfl, h21, ?_, ?_⟩
 · exact S21.sub [] (by decide) rfl _ rfl
 · first | rfl | (simp only [q0]; rfl) | (simp only [q0])
theorem fstAll_calls (w : World) (m : Mach) (A0_0 : Option Addr) (c0_0 : Nat) (b0_0 : m.spots.length ≤ c0_0 ∧ c0_0 ≤ maxLen) (l0_0 : zbe kSpot (hp w) A0_0 m.spots) (A0_1 : Option Addr) (c0_1 : Nat) (b0_1 : m.first.length ≤ c0_1 ∧ c0_1 ≤ maxLen) (l0_1 : zbe (Kd.int .i64) (hp w) A0_1 m.first) (A0_2 : Option Addr) (c0_2 : Nat) (b0_2 : m.follow.length ≤ c0_2 ∧ c0_2 ≤ maxLen) (l0_2 : zbe (Kd.int .i64).slice (hp w) A0_2 m.follow) (A0_3 : Option Addr) (c0_3 : Nat) (b0_3 : m.last.length ≤ c0_3 ∧ c0_3 ≤ maxLen) (l0_3 : zbe Kd.bool (hp w) A0_3 m.last) (xw : ByteArray) (s1 : xw.size ≤ maxLen) (choices : List Int) (A2 : Option Addr) (c2 : Nat) (b2 : choices.length ≤ c2 ∧ c2 ≤ maxLen) (l2 : zbe (Kd.int .u8) (hp w) A2 choices) :
    Calls Try.prog 6 #[.agg #[.slice A0_0 m.spots.length c0_0, .slice A0_1 m.first.length c0_1, .slice A0_2 m.follow.length c0_2, .slice A0_3 m.last.length c0_3, .bool m.empty], .string xw, .slice A2 choices.length c2] w fun e w' => ∃ v, e = .returned v ∧ ∃ (hn : Ghost), St w.heap.size w hn w' [] ∧ v = .bool true := by
 refine zas Try.func6 rfl Try.ntmps6 rfl ?_
 have S0 := St.init w
 have bb0_0 := b0_0.1; have bc0_0 := b0_0.2; simp only [maxLen] at bc0_0
 have bb0_1 := b0_1.1; have bc0_1 := b0_1.2; simp only [maxLen] at bc0_1
 have bb0_2 := b0_2.1; have bc0_2 := b0_2.2; simp only [maxLen] at bc0_2
 have bb0_3 := b0_3.1; have bc0_3 := b0_3.2; simp only [maxLen] at bc0_3
 have sz1 := s1; simp only [maxLen] at sz1
 have bb2 := b2.1; have bc2 := b2.2; simp only [maxLen] at bc2
 refine zab <| zac (l := [0, 1]) rfl ?_
 obtain ⟨b1, w1, r1, g1, T1⟩ := zc0 (P := Try.prog) S0 27 (v := .agg #[.slice A0_0 m.spots.length c0_0, .slice A0_1 m.first.length c0_1, .slice A0_2 m.follow.length c0_2, .slice A0_3 m.last.length c0_3, .bool m.empty]) [.slice A0_0 m.spots.length c0_0, .slice A0_1 m.first.length c0_1, .slice A0_2 m.follow.length c0_2, .slice A0_3 m.last.length c0_3, .bool m.empty] rfl
 have S2 := T1
 dsimp only [lAa, lAn, lA0, lAs] at S2
 refine p_v (v := .pointer (some ⟨b1, 0, none⟩)) rfl rfl rfl (x_box rfl r1) <| p_v (v := .bool false) rfl rfl rfl (zae rfl) <| zaa <| zab <| zab <| zac (l := [0, 1, 2, 3, 4, 5, 6, 7]) rfl <| p_v (v := .agg #[.slice A0_0 m.spots.length c0_0, .slice A0_1 m.first.length c0_1, .slice A0_2 m.follow.length c0_2, .slice A0_3 m.last.length c0_3, .bool m.empty]) rfl rfl rfl (zah (seg := [.slice A0_0 m.spots.length c0_0, .slice A0_1 m.first.length c0_1, .slice A0_2 m.follow.length c0_2, .slice A0_3 m.last.length c0_3, .bool m.empty]) ty27 rfl (by simp) rfl (CF.box (m := 5) (S2.box_at (j := 0) rfl) rfl)) <| p_c rfl rfl rfl (zbd (args := [.agg #[.slice A0_0 m.spots.length c0_0, .slice A0_1 m.first.length c0_1, .slice A0_2 m.follow.length c0_2, .slice A0_3 m.last.length c0_3, .bool m.empty]]) ca16 rfl rfl) (small14_calls w1 m A0_0 c0_0 b0_0 (l0_0.mono (St.le0 S2)) A0_1 c0_1 b0_1 (l0_1.mono (St.le0 S2)) A0_2 c0_2 b0_2 (l0_2.mono (St.le0 S2)) A0_3 c0_3 b0_3 (l0_3.mono (St.le0 S2))) ?_
 rintro _ w3 ⟨h3, T3, rfl⟩
 have S4 := S2.keep (Chg.of_below T3.below)
 refine p_v (v := .bool (!(smallF m))) rfl rfl rfl (x_not rfl) <| p_v (v := .bool (!(smallF m))) rfl rfl rfl (zad rfl) ?_
 rcases Bool.eq_false_or_eq_true (smallF m) with hc5 | hc5
 ·skip
  refine p_v (v := .string xw) rfl (wo 3 18 rfl rfl (congrArg (fun z => Value.bool (!z)) hc5) rfl) rfl (zad rfl) <| p_v (v := .int .i64 (xw.size : Int)) rfl (wo 3 18 rfl rfl (congrArg (fun z => Value.bool (!z)) hc5) rfl) rfl (zcg u9 rfl) <| p_v (v := .bool (decide (40 < (xw.size : Int)))) rfl (wo 3 18 rfl rfl (congrArg (fun z => Value.bool (!z)) hc5) rfl) rfl (x_gtr rfl rfl) <| p_v (v := .bool (decide (40 < (xw.size : Int)))) rfl rfl rfl (zbq (congrArg (fun z => Value.bool (!z)) hc5) rfl) <| zaa ?_
  refine zal (p := 40 < (xw.size : Int)) rfl (fun hc6 => ?_) (fun hc6 => ?_)
  ·skip
   refine zab <| zac (l := [0, 1]) rfl <| p_c rfl rfl rfl (zbd (args := []) ca10 rfl rfl) (zdh w3 ) ?_
   rintro _ w7 ⟨h7, T7, rfl⟩
   have S8 := S4.keep (Chg.of_below T7.below)
   refine p_v (v := .bool true) rfl rfl rfl (zae rfl) <| zaa <| zav Try.func6 (res1 rfl (zax (v := .bool true) rfl)) ?_
   have q0 : (true : Bool) = true := rfl
   refine ⟨_, rfl, (fun _ => none), ?_, ?_⟩
   · exact S8.sub [] (by decide) rfl _ rfl
   · rfl
  refine zao <| zab <| zab <| zac (l := [0, 1, 2]) rfl <| p_v (v := .agg #[.slice A0_0 m.spots.length c0_0, .slice A0_1 m.first.length c0_1, .slice A0_2 m.follow.length c0_2, .slice A0_3 m.last.length c0_3, .bool m.empty]) rfl rfl rfl (zah (seg := [.slice A0_0 m.spots.length c0_0, .slice A0_1 m.first.length c0_1, .slice A0_2 m.follow.length c0_2, .slice A0_3 m.last.length c0_3, .bool m.empty]) ty27 rfl (by simp) rfl (CF.box (m := 5) (S4.box_at (j := 0) rfl) rfl)) <| p_c rfl rfl rfl (zbd (args := [.agg #[.slice A0_0 m.spots.length c0_0, .slice A0_1 m.first.length c0_1, .slice A0_2 m.follow.length c0_2, .slice A0_3 m.last.length c0_3, .bool m.empty]]) ca17 rfl rfl) (single_calls w3 m A0_0 c0_0 b0_0 (l0_0.mono (St.le0 S4)) A0_1 c0_1 b0_1 (l0_1.mono (St.le0 S4)) A0_2 c0_2 b0_2 (l0_2.mono (St.le0 S4)) A0_3 c0_3 b0_3 (l0_3.mono (St.le0 S4))) ?_
  rintro _ w10 ⟨h10, T10, rfl⟩
  have S11 := S4.keep (Chg.of_below T10.below)
  refine p_v (v := .bool (!(zcd m))) rfl rfl rfl (x_not rfl) <| zaa ?_
  refine zby (b := zcd m) rfl (fun hc12 => ?_) (fun hc12 => ?_)
  ·skip
   refine zab <| zac (l := [0, 1]) rfl <| p_c rfl rfl rfl (zbd (args := []) ca10 rfl rfl) (zdh w10 ) ?_
   rintro _ w13 ⟨h13, T13, rfl⟩
   have S14 := S11.keep (Chg.of_below T13.below)
   refine p_v (v := .bool true) rfl rfl rfl (zae rfl) <| zaa <| zav Try.func6 (res1 rfl (zax (v := .bool true) rfl)) ?_
   have q0 : (true : Bool) = true := rfl
   refine ⟨_, rfl, (fun _ => none), ?_, ?_⟩
   · exact S14.sub [] (by decide) rfl _ rfl
   · rfl
  refine zao <| zab <| zac (l := [0, 1, 2, 3, 4, 5, 6, 7]) rfl <| p_v (v := .agg #[.slice A0_0 m.spots.length c0_0, .slice A0_1 m.first.length c0_1, .slice A0_2 m.follow.length c0_2, .slice A0_3 m.last.length c0_3, .bool m.empty]) rfl rfl rfl (zah (seg := [.slice A0_0 m.spots.length c0_0, .slice A0_1 m.first.length c0_1, .slice A0_2 m.follow.length c0_2, .slice A0_3 m.last.length c0_3, .bool m.empty]) ty27 rfl (by simp) rfl (CF.box (m := 5) (S11.box_at (j := 0) rfl) rfl)) <| p_v (v := .string xw) rfl rfl rfl (zad rfl) <| p_c rfl rfl rfl (zbd (args := [.agg #[.slice A0_0 m.spots.length c0_0, .slice A0_1 m.first.length c0_1, .slice A0_2 m.follow.length c0_2, .slice A0_3 m.last.length c0_3, .bool m.empty], .string xw]) ca11 rfl rfl) (marks_calls w10 m A0_0 c0_0 b0_0 (l0_0.mono (St.le0 S11)) A0_1 c0_1 b0_1 (l0_1.mono (St.le0 S11)) A0_2 c0_2 b0_2 (l0_2.mono (St.le0 S11)) A0_3 c0_3 b0_3 (l0_3.mono (St.le0 S11)) xw s1 (by first | assumption | omega | decide)) ?_
  rintro _ w16 ⟨h16, v16_0, T16, rfl⟩
  obtain ⟨k16, lk16, ll16, U16⟩ := zco S11 T16
  have S17 := U16
  dsimp only [lAa, lAn, lA0, lAs] at S17
  obtain ⟨h18, le18, T18, rp18⟩ := S17.freeze (i := 1) rfl
  have S19 := T18.fx 1 (emp) rfl
  dsimp only [lAa, lAn, lA0, lAs] at S19
  obtain ⟨A18, c18, e18, lc18, cm18, ld18⟩ := rp18
  injection e18 with e18 _; subst e18
  have cn18 := cm18; simp only [maxLen] at cn18
  refine p_v (v := .tuple #[.slice A18 (zat m xw).length c18, .bool (okMk m xw)]) rfl rfl rfl (zad rfl) <| p_v (v := .slice A18 (zat m xw).length c18) rfl rfl rfl (zcv (vs := [.slice A18 (zat m xw).length c18, .bool (okMk m xw)]) rfl rfl) <| p_v (v := .bool (okMk m xw)) rfl rfl rfl (zcv (vs := [.slice A18 (zat m xw).length c18, .bool (okMk m xw)]) rfl rfl) <| p_v (v := .slice A18 (zat m xw).length c18) rfl rfl rfl (zae rfl) <| p_v (v := .bool (okMk m xw)) rfl rfl rfl (zae rfl) <| zaa <| zab <| zab <| zac (l := [0, 1, 2, 3, 4, 5, 6, 7, 8, 9, 10, 11, 12, 13, 14, 15, 16, 17, 18, 19, 20, 21, 22, 23]) rfl <| p_v (v := .bool (okMk m xw)) rfl rfl rfl (zad rfl) <| p_v (v := .agg #[.slice A0_0 m.spots.length c0_0, .slice A0_1 m.first.length c0_1, .slice A0_2 m.follow.length c0_2, .slice A0_3 m.last.length c0_3, .bool m.empty]) rfl rfl rfl (zah (seg := [.slice A0_0 m.spots.length c0_0, .slice A0_1 m.first.length c0_1, .slice A0_2 m.follow.length c0_2, .slice A0_3 m.last.length c0_3, .bool m.empty]) ty27 rfl (by simp) rfl (CF.box (m := 5) (S19.box_at (j := 0) rfl) rfl)) <| p_v (v := .string xw) rfl rfl rfl (zad rfl) ?_
  refine p_c rfl rfl rfl (zbd (args := [.agg #[.slice A0_0 m.spots.length c0_0, .slice A0_1 m.first.length c0_1, .slice A0_2 m.follow.length c0_2, .slice A0_3 m.last.length c0_3, .bool m.empty], .string xw]) ca20 rfl rfl) (runN_calls w16 m A0_0 c0_0 b0_0 (l0_0.mono (St.le0 S19)) A0_1 c0_1 b0_1 (l0_1.mono (St.le0 S19)) A0_2 c0_2 b0_2 (l0_2.mono (St.le0 S19)) A0_3 c0_3 b0_3 (l0_3.mono (St.le0 S19)) xw s1) ?_
  rintro _ w20 ⟨h20, T20, rfl⟩
  have S21 := S19.keep (Chg.of_below T20.below)
  refine p_v (v := .bool (decide ((okMk m xw) ≠ (runM m xw)))) rfl rfl rfl (x_neq_bool u4 rfl rfl) <| p_v (v := .bool (decide ((okMk m xw) ≠ (runM m xw)))) rfl rfl rfl (zad rfl) ?_
  have hc22 : ¬ ((okMk m xw) ≠ (runM m xw)) := by
   exact fun h => h (okMk_eq m xw)
  refine p_v (v := .bool (okMk m xw)) rfl (wo 5 39 rfl rfl (bF hc22) rfl) rfl (zad rfl) <| p_v (v := .bool (okMk m xw)) rfl (wo 5 39 rfl rfl (bF hc22) rfl) rfl (zad rfl) ?_
  rcases Bool.eq_false_or_eq_true (okMk m xw) with hc23 | hc23
  ·skip
   have hok_ := hc23
   have hr_ := (okMk_eq m xw).symm.trans hok_
   have hR_ := right_of_run hr_
   have hsm_ := hR_.small; have hfo_ := hR_.follow; have hla_ := hR_.last
   have hml_ := (ok_marks hok_).1
   refine p_v (v := .slice A18 (zat m xw).length c18) rfl (wo 7 41 rfl rfl (congrArg Value.bool hc23) rfl) rfl (zad rfl) <| p_v (v := .int .i64 ((zat m xw).length : Int)) rfl (wo 7 41 rfl rfl (congrArg Value.bool hc23) rfl) rfl (zar u30 rfl) <| p_v (v := .string xw) rfl (wo 7 41 rfl rfl (congrArg Value.bool hc23) rfl) rfl (zad rfl) <| p_v (v := .int .i64 (xw.size : Int)) rfl (wo 7 41 rfl rfl (congrArg Value.bool hc23) rfl) rfl (zcg u9 rfl) <| p_v (v := .bool (decide (((zat m xw).length : Int) ≠ (xw.size : Int)))) rfl (wo 7 41 rfl rfl (congrArg Value.bool hc23) rfl) rfl (x_neq rfl rfl) <| p_v (v := .bool (decide (((zat m xw).length : Int) ≠ (xw.size : Int)))) rfl (wo 5 39 rfl rfl (bF hc22) rfl) rfl (zbf (congrArg Value.bool hc23) rfl) <| p_v (v := .bool (decide (((zat m xw).length : Int) ≠ (xw.size : Int)))) rfl rfl rfl (zbq (bF hc22) rfl) <| p_v (v := .bool (decide (((zat m xw).length : Int) ≠ (xw.size : Int)))) rfl rfl rfl (zad rfl) ?_
   have hc24 : ¬ (((zat m xw).length : Int) ≠ (xw.size : Int)) := by
    exact fun h => h hml_
   refine p_v (v := .bool true) rfl (wo 15 49 rfl rfl (bF hc24) rfl) rfl (zad (congrArg Value.bool hc23)) <| p_v (v := .bool false) rfl (wo 15 49 rfl rfl (bF hc24) rfl) rfl (x_not (b := true) rfl) <| p_v (v := .bool false) rfl (wo 15 49 rfl rfl (bF hc24) rfl) rfl (zad rfl) <| zaz rfl rfl rfl <| zaz rfl rfl rfl <| zaz rfl rfl rfl <| p_v (v := .bool false) rfl (wo 15 49 rfl rfl (bF hc24) rfl) rfl (zbq rfl rfl) <| p_v (v := .bool false) rfl rfl rfl (zbq (bF hc24) rfl) <| zaa <| zbh (b := false) rfl ?_
   simp only [if_true, if_false, Bool.false_eq_true]
   refine zao <| zab <| zac (l := [0]) rfl <| p_v (v := .slice none 0 0) rfl rfl rfl (zae rfl) <| zaa <| zab <| zab <| zac (l := [0]) rfl <| p_v (v := .int .i64 0) rfl rfl rfl (zae rfl) <| zaa <| zam ?_
   have T25 := S21.row_nil 3 (Kd.int .i64)
   obtain ⟨vn25, ev25, T25⟩ : ∃ v, v = (.slice none 0 0 : Value) ∧ St w.heap.size w h18 w20 ([box b1 27 [.slice A0_0 m.spots.length c0_0, .slice A0_1 m.first.length c0_1, .slice A0_2 m.follow.length c0_2, .slice A0_3 m.last.length c0_3, .bool m.empty], emp] ++ [row 3 (Kd.int .i64) v []]) := ⟨_, rfl, T25⟩
   have S26 := T25
   dsimp only [lAa, lAn, lA0, lAs] at S26
   refine za8 (S := (List Int) × Int) (fun (q_ : (List Int) × Int) ρ w' => match q_ with | (xat, i) => ∃ (h : Ghost) (v_xat : Value), Le h18 h ∧ St w.heap.size w h w' [box b1 27 [.slice A0_0 m.spots.length c0_0, .slice A0_1 m.first.length c0_1, .slice A0_2 m.follow.length c0_2, .slice A0_3 m.last.length c0_3, .bool m.empty], row 3 (Kd.int .i64) v_xat xat] ∧ ρ 1 = .string xw ∧ ρ 2 = .slice A2 choices.length c2 ∧ ρ 3 = .pointer (some ⟨b1, 0, none⟩) ∧ ρ 7 = .slice A18 (zat m xw).length c18 ∧ ρ 8 = .bool true ∧ ρ 9 = v_xat ∧ ρ 10 = .int .i64 i ∧ inK .i64 i ∧ (0 ≤ i ∧ (okMk m xw = true → AllI m xw xat i))) (fun q_ => match q_ with | (xat, i) => (xw.size - i).toNat) (([] : List Int), 0) ⟨h18, vn25, Le.refl _, S26.sub [0, 2] (by decide) rfl _ rfl, rfl, rfl, rfl, rfl, (congrArg Value.bool hc23), (ev25.symm), rfl, (zai (by first|omega|(simp;omega)|assumption|simp) (by first|omega|(simp;omega)|assumption|simp)), (by first | exact ⟨by omega, fun h => all_0 (right_of_run ((okMk_eq m xw).symm.trans h)) ((okMk_eq m xw).symm.trans h)⟩ | exact ⟨by omega, fun h => absurd ((by assumption : okMk m xw = false).symm.trans h) Bool.false_ne_true⟩)⟩ ?_
   rintro ⟨xat, i⟩ ih27 ρ27 w27 ⟨h27, v_xat, le27, S27, r27_1, r27_2, r27_3, r27_7, r27_8, r27_9, r27_10, f27_0, hI27⟩
   have lf27_0 := za1 f27_0; have hf27_0 := za2 f27_0
   have rl27_1 := S27.row_le (j := 1) rfl; simp only [maxLen] at rl27_1
   have hin_ := fun (h : okMk m xw = true) => (hI27.2 h).inn
   refine zab <| zab <| zac (l := [0, 1, 2, 3, 4, 5, 6]) rfl <| p_v (v := .int .i64 i) rfl rfl rfl (zad r27_10) <| p_v (v := .string xw) rfl rfl rfl (zad r27_1) <| p_v (v := .int .i64 (xw.size : Int)) rfl rfl rfl (zcg u9 rfl) <| p_v (v := .bool (decide (i < (xw.size : Int)))) rfl rfl rfl (zc2 rfl rfl) <| p_v (v := .bool (decide (i < (xw.size : Int)))) rfl rfl rfl (zad rfl) ?_
   by_cases hc28 : i < (xw.size : Int)
   ·skip
    first | (have hin2_ := hin_ (by assumption); have hA_ := hI27.2 (by assumption)) | skip
    refine p_v (v := .bool true) rfl (wo 4 62 rfl rfl (bT hc28) rfl) rfl (zad r27_8) <| p_v (v := .bool true) rfl rfl rfl (zbf (bT hc28) rfl) <| zaa <| zbh (b := true) rfl ?_
    simp only [if_true, if_false, Bool.false_eq_true]
    refine zao <| zab <| zam <| zab ?_
    have by29 := byt_range xw i
    have hf30 : (CFs ⟨b1, 0, none⟩ [.slice A0_0 m.spots.length c0_0, .slice A0_1 m.first.length c0_1, .slice A0_2 m.follow.length c0_2, .slice A0_3 m.last.length c0_3, .bool m.empty]).1 w27 := (CF.box (m := 5) (S27.box_at (j := 0) rfl) rfl)
    refine daS (hkC 0 hf30 (hkN (w := w27))) 9 rfl zdt ?_
    intro wd31 gd31 hd31
    have S32 := S27.keep gd31
    have hf33 := spUp gd31 hf30
    refine qd1 0 (i := 0) (v := .agg #[.slice A0_0 m.spots.length c0_0, .slice A0_1 m.first.length c0_1, .slice A0_2 m.follow.length c0_2, .slice A0_3 m.last.length c0_3, .bool m.empty]) rfl rfl (by decide +kernel) rfl rfl (fun wq hq => (zah (seg := [.slice A0_0 m.spots.length c0_0, .slice A0_1 m.first.length c0_1, .slice A0_2 m.follow.length c0_2, .slice A0_3 m.last.length c0_3, .bool m.empty]) ty27 rfl (by simp) r27_3 hq)) (za0 hf33 (of_nil _ _)) <| qd0 (i := 1) (v := v_xat) rfl (by decide +kernel) rfl rfl (zad r27_9) (zaf rfl) <| qd0 (i := 2) (v := .int .i64 i) rfl (by decide +kernel) rfl rfl (zad r27_10) (zaf rfl) <| qd0 (i := 3) (v := .bool (decide (i = 0))) rfl (by decide +kernel) rfl rfl (x_eql rfl rfl) (zaf rfl) <| qd0 (i := 4) (v := .string xw) rfl (by decide +kernel) rfl rfl (zad r27_1) (zaf rfl) <| qd0 (i := 5) (v := .int .i64 i) rfl (by decide +kernel) rfl rfl (zad r27_10) (zaf rfl) <| qd0 (i := 6) (v := .int .u8 (byt xw i)) rfl (by decide +kernel) rfl rfl (zdx u9 rfl rfl (by first|omega|(simp;omega)|assumption|simp) (by first|omega|(simp;omega)|assumption|simp)) (zaf rfl) <| zc7 (i := 7) (by decide +kernel) ?_
    intro wd34 gd34
    have S35 := S32.keep gd34
    have hf36 := spUp gd34 hf33
    obtain ⟨A37, c37, ev37, lc37, cm37⟩ := S35.row_val (j := 1) rfl
    refine d_c rfl rfl rfl (zbd (args := [.agg #[.slice A0_0 m.spots.length c0_0, .slice A0_1 m.first.length c0_1, .slice A0_2 m.follow.length c0_2, .slice A0_3 m.last.length c0_3, .bool m.empty], .slice A37 xat.length c37, .bool (decide (i = 0)), .int .u8 (byt xw i)]) ca21 rfl (zci rfl (zci ev37 (zci rfl (zci rfl rfl))))) (step_calls wd34 m A0_0 c0_0 b0_0 (l0_0.mono (St.le0 S35)) A0_1 c0_1 b0_1 (l0_1.mono (St.le0 S35)) A0_2 c0_2 b0_2 (l0_2.mono (St.le0 S35)) A0_3 c0_3 b0_3 (l0_3.mono (St.le0 S35)) xat A37 c37 (And.intro lc37 cm37) (zb8 S35 (j := 1) rfl ev37) (decide (i = 0)) (byt xw i) (in_u8 (by first|omega|(simp;omega)|assumption|simp) (by first|omega|(simp;omega)|assumption|simp)) (by first | assumption | exact ⟨by assumption, by assumption⟩)) ?_
    rintro v38_0 w38 ⟨h38, _, T38, rfl⟩
    obtain ⟨k38, lk38, ll38, U38⟩ := zco S35 T38
    have S39 := U38
    dsimp only [lAa, lAn, lA0, lAs] at S39
    have hf40 := spUp (Chg.of_below T38.below) hf36
    refine ⟨.inl (Chg.of_below T38.below), ?_⟩
    refine qd0 (i := 8) (v := v38_0) rfl (by decide +kernel) rfl rfl (zae rfl) (zaf rfl) <| zbw (by decide +kernel) ?_
    intro wd41 gd41
    have S42 := S39.keep gd41
    refine zab <| zac (l := [0]) rfl <| p_v (v := .slice none 0 0) rfl rfl rfl (zae rfl) <| zaa <| zab <| zab <| zac (l := [0]) rfl <| p_v (v := .int .i64 0) rfl rfl rfl (zae rfl) <| zaa <| zam ?_
    have T43 := S42.row_nil 3 (Kd.int .i64)
    obtain ⟨vn43, ev43, T43⟩ : ∃ v, v = (.slice none 0 0 : Value) ∧ St w.heap.size w k38 wd41 ([box b1 27 [.slice A0_0 m.spots.length c0_0, .slice A0_1 m.first.length c0_1, .slice A0_2 m.follow.length c0_2, .slice A0_3 m.last.length c0_3, .bool m.empty], row 3 (Kd.int .i64) v_xat xat, row 3 (Kd.int .i64) v38_0 (zb1 m xat (decide (i = 0)) (byt xw i))] ++ [row 3 (Kd.int .i64) v []]) := ⟨_, rfl, T43⟩
    have S44 := T43
    dsimp only [lAa, lAn, lA0, lAs] at S44
    refine za8 (S := (List Int) × Int) (fun (q_ : (List Int) × Int) ρ w' => match q_ with | (good, k) => ∃ (h : Ghost) (v_good : Value), Le k38 h ∧ St w.heap.size w h w' [box b1 27 [.slice A0_0 m.spots.length c0_0, .slice A0_1 m.first.length c0_1, .slice A0_2 m.follow.length c0_2, .slice A0_3 m.last.length c0_3, .bool m.empty], row 3 (Kd.int .i64) v38_0 (zb1 m xat (decide (i = 0)) (byt xw i)), row 3 (Kd.int .i64) v_good good] ∧ ρ 1 = .string xw ∧ ρ 2 = .slice A2 choices.length c2 ∧ ρ 3 = .pointer (some ⟨b1, 0, none⟩) ∧ ρ 7 = .slice A18 (zat m xw).length c18 ∧ ρ 8 = .bool true ∧ ρ 10 = .int .i64 i ∧ ρ 11 = v38_0 ∧ ρ 12 = v_good ∧ ρ 13 = .int .i64 k ∧ inK .i64 k ∧ (0 ≤ k ∧ k ≤ ((zb1 m xat (decide (i = 0)) (byt xw i)).length : Int) ∧ good = goodTo (endL m ((zay xw).drop (i + 1).toNat)) (zb1 m xat (decide (i = 0)) (byt xw i)) k)) (fun q_ => match q_ with | (good, k) => ((zb1 m xat (decide (i = 0)) (byt xw i)).length - k).toNat) (([] : List Int), 0) ⟨k38, vn43, Le.refl _, S44.sub [0, 2, 3] (by decide) rfl _ rfl, r27_1, r27_2, r27_3, r27_7, r27_8, r27_10, rfl, (ev43.symm), rfl, (zai (by first|omega|(simp;omega)|assumption|simp) (by first|omega|(simp;omega)|assumption|simp)), (by exact ⟨by omega, by omega, goodTo_0 _ _⟩)⟩ ?_
    rintro ⟨good, k⟩ ih45 ρ45 w45 ⟨h45, v_good, le45, S45, r45_1, r45_2, r45_3, r45_7, r45_8, r45_10, r45_11, r45_12, r45_13, f45_0, hI45⟩
    have lf45_0 := za1 f45_0; have hf45_0 := za2 f45_0
    have rl45_1 := S45.row_le (j := 1) rfl; simp only [maxLen] at rl45_1
    have rl45_2 := S45.row_le (j := 2) rfl; simp only [maxLen] at rl45_2
    have hgl_ := goodTo_len (q := (endL m ((zay xw).drop (i + 1).toNat))) (l := (zb1 m xat (decide (i = 0)) (byt xw i))) hI45.1
    have hgl2_ : (good.length : Int) ≤ k := by rw [hI45.2.2]; exact hgl_
    have hsl_ := stepP_len m xat (decide (i = 0)) (byt xw i)
    have hm0_ := fun (h : 0 < (good.length : Int)) => Int.emod_nonneg (at_ choices i) (show (good.length : Int) ≠ 0 by omega)
    have hm1_ := fun (h : 0 < (good.length : Int)) => Int.emod_lt_of_pos (at_ choices i) h
    have hgA_ : 0 < (good.length : Int) → 0 ≤ at_ good (0 : Int) ∧ at_ good (0 : Int) < (m.spots.length : Int) := fun h => stepP_in _ (goodAt hI45.2.2 (by omega) h).1
    have hgB_ : 0 < (good.length : Int) → 0 ≤ at_ good ((at_ choices i) % (good.length : Int)) ∧ at_ good ((at_ choices i) % (good.length : Int)) < (m.spots.length : Int) := fun h => stepP_in _ (goodAt hI45.2.2 (hm0_ h) (hm1_ h)).1
    have hx_ : k < ((zb1 m xat (decide (i = 0)) (byt xw i)).length : Int) → 0 ≤ at_ (zb1 m xat (decide (i = 0)) (byt xw i)) k ∧ at_ (zb1 m xat (decide (i = 0)) (byt xw i)) k < (m.spots.length : Int) := fun h => stepP_in _ (zbp hI45.1 h)
    refine zab <| zab <| zac (l := [0, 1, 2, 3]) rfl <| p_v (v := .int .i64 k) rfl rfl rfl (zad r45_13) <| p_v (v := v38_0) rfl rfl rfl (zad r45_11) ?_
    have lb46 := S45.row_le (j := 1) rfl; simp only [maxLen] at lb46
    refine p_v (v := .int .i64 ((zb1 m xat (decide (i = 0)) (byt xw i)).length : Int)) rfl rfl rfl (zdo u23 rfl (zdu S45 (j := 1) rfl)) <| p_v (v := .bool (decide (k < ((zb1 m xat (decide (i = 0)) (byt xw i)).length : Int)))) rfl rfl rfl (zc2 rfl rfl) <| zaa ?_
    refine zal (p := k < ((zb1 m xat (decide (i = 0)) (byt xw i)).length : Int)) rfl (fun hc47 => ?_) (fun hc47 => ?_)
    ·skip
     refine zao <| zab <| zam <| zab ?_
     obtain ⟨ad48, a48, at48⟩ := zba (q := k) (m := 1) S45 (j := 1) rfl rfl (by first|omega|(simp;omega)|assumption|simp) (by first|omega|(simp;omega)|assumption|simp)
     obtain ⟨seg49, rp49, cf49⟩ := zbo (q := k) S45 (j := 1) rfl rfl at48 (by first|omega|(simp;omega)|assumption|simp) (by first|omega|(simp;omega)|assumption|simp)
     obtain ⟨rfl, in49⟩ := rp49
     have lo49 := za1 in49; have hi49 := za2 in49
     have sx50 : ((subB xw (i + 1) xw.size).size : Int) = (xw.size : Int) - (i + 1) := sub_size xw (by first|omega|(simp;omega)|assumption|simp) (by first|omega|(simp;omega)|assumption|simp) (by omega)
     have sh50 : (subB xw (i + 1) xw.size).size ≤ maxLen := by have := sx50; unfold maxLen; omega
     have hf52 : (CFs ⟨b1, 0, none⟩ [.slice A0_0 m.spots.length c0_0, .slice A0_1 m.first.length c0_1, .slice A0_2 m.follow.length c0_2, .slice A0_3 m.last.length c0_3, .bool m.empty]).1 w45 := (CF.box (m := 5) (S45.box_at (j := 0) rfl) rfl)
     have hf53 : (CFs ad48 [.int .i64 (at_ (zb1 m xat (decide (i = 0)) (byt xw i)) k)]).1 w45 := cf49
     have hf54 : (LeadsS kSpot A0_0 m.spots).1 w45 := (l0_0.mono (St.le0 S45))
     have hf55 : (LeadsS (Kd.int .i64) A0_1 m.first).1 w45 := (l0_1.mono (St.le0 S45))
     have hf56 : (LeadsS (Kd.int .i64).slice A0_2 m.follow).1 w45 := (l0_2.mono (St.le0 S45))
     have hf57 : (LeadsS Kd.bool A0_3 m.last).1 w45 := (l0_3.mono (St.le0 S45))
     refine daS (hkC 0 hf52 (hkC 4 hf53 (hkC 9 hf54 (hkC 9 hf55 (hkC 9 hf56 (hkC 9 hf57 (hkN (w := w45)))))))) 10 rfl zdt ?_
     intro wd58 gd58 hd58
     have S59 := S45.keep gd58
     have hf60 := spUp gd58 hf52
     have hf61 := spUp gd58 hf53
     have hf62 := spUp gd58 hf54
     have hf63 := spUp gd58 hf55
     have hf64 := spUp gd58 hf56
     have hf65 := spUp gd58 hf57
     refine qd1 0 (i := 0) (v := .agg #[.slice A0_0 m.spots.length c0_0, .slice A0_1 m.first.length c0_1, .slice A0_2 m.follow.length c0_2, .slice A0_3 m.last.length c0_3, .bool m.empty]) rfl rfl (by decide +kernel) rfl rfl (fun wq hq => (zah (seg := [.slice A0_0 m.spots.length c0_0, .slice A0_1 m.first.length c0_1, .slice A0_2 m.follow.length c0_2, .slice A0_3 m.last.length c0_3, .bool m.empty]) ty27 rfl (by simp) r45_3 hq)) (za0 hf60 (zaf rfl)) <| qd0 (i := 1) (v := v38_0) rfl (by decide +kernel) rfl rfl (zad r45_11) (zaf rfl) <| qd0 (i := 2) (v := .int .i64 k) rfl (by decide +kernel) rfl rfl (zad r45_13) (zaf rfl) <| qd0 (i := 3) (v := .pointer (some ad48)) rfl (by decide +kernel) rfl rfl (za9 u23 ty3 rfl rfl a48 (by first|omega|(simp;omega)|assumption|simp) (by first|omega|(simp;omega)|assumption|simp)) (zaf rfl) <| qd1 1 (i := 4) (v := .int .i64 (at_ (zb1 m xat (decide (i = 0)) (byt xw i)) k)) rfl rfl (by decide +kernel) rfl rfl (fun wq hq => (zah (seg := [.int .i64 (at_ (zb1 m xat (decide (i = 0)) (byt xw i)) k)]) ty3 rfl (by simp) rfl hq)) (zaq rfl (za0 hf61 (zaf rfl))) <| qd0 (i := 5) (v := .string xw) rfl (by decide +kernel) rfl rfl (zad r45_1) (zaf rfl) <| qd0 (i := 6) (v := .int .i64 i) rfl (by decide +kernel) rfl rfl (zad r45_10) (zaf rfl) <| qd0 (i := 7) (v := .int .i64 (i + 1)) rfl (by decide +kernel) rfl rfl (zbv rfl rfl (zai (by first|omega|(simp;omega)|assumption|simp) (by first|omega|(simp;omega)|assumption|simp))) (zaf rfl) <| qd0 (i := 8) (v := .string (subB xw (i + 1) xw.size)) rfl (by decide +kernel) rfl rfl (x_slice (lv := some (.int .i64 (i + 1))) (hv := none) rfl rfl rfl (r_sub_from u9 (by first|omega|(simp;omega)|assumption|simp) (by first|omega|(simp;omega)|assumption|simp))) (zaf rfl) <| d_m (i := 9) (v := .bool (endL m (zay (subB xw (i + 1) xw.size)) (at_ (zb1 m xat (decide (i = 0)) (byt xw i)) k))) (fun wf => zbe kSpot (hp wf) A0_0 m.spots ∧ zbe (Kd.int .i64) (hp wf) A0_1 m.first ∧ zbe (Kd.int .i64).slice (hp wf) A0_2 m.follow ∧ zbe Kd.bool (hp wf) A0_3 m.last) (fun _ ho => ⟨ho _ (List.mem_of_getElem? (i := 2) rfl) rfl, ho _ (List.mem_of_getElem? (i := 3) rfl) rfl, ho _ (List.mem_of_getElem? (i := 4) rfl) rfl, ho _ (List.mem_of_getElem? (i := 5) rfl) rfl⟩) rfl (by decide +kernel) (by decide +kernel) (by decide +kernel) rfl rfl (fun wq => (zbd (args := [.agg #[.slice A0_0 m.spots.length c0_0, .slice A0_1 m.first.length c0_1, .slice A0_2 m.follow.length c0_2, .slice A0_3 m.last.length c0_3, .bool m.empty], .int .i64 (at_ (zb1 m xat (decide (i = 0)) (byt xw i)) k), .string (subB xw (i + 1) xw.size)]) ca22 rfl rfl)) (fun wq hq => (goes14_calls wq m A0_0 c0_0 b0_0 hq.1 A0_1 c0_1 b0_1 hq.2.1 A0_2 c0_2 b0_2 hq.2.2.1 A0_3 c0_3 b0_3 hq.2.2.2 (at_ (zb1 m xat (decide (i = 0)) (byt xw i)) k) (zai (by first|omega|(simp;omega)|assumption|simp) (by first|omega|(simp;omega)|assumption|simp)) (subB xw (i + 1) xw.size) sh50 (by first | assumption | exact ⟨by assumption, by omega, by omega⟩)).mono fun e w2 he => by obtain ⟨_, rfl, _, T, rfl⟩ := he; exact ⟨rfl, Chg.of_below T.below⟩) (zaq rfl (zaq rfl (za0 hf62 (za0 hf63 (za0 hf64 (za0 hf65 (zaf rfl))))))) <| zbw (by decide +kernel) ?_
     intro wd66 gd66
     have S67 := S59.keep gd66
     refine zbs (b := endL m (zay (subB xw (i + 1) xw.size)) (at_ (zb1 m xat (decide (i = 0)) (byt xw i)) k)) rfl (fun hc68 => ?_) (fun hc68 => ?_)
     ·skip
      refine zac (l := [0, 1, 2, 3, 4, 5, 6, 7]) rfl <| p_v (v := v_good) rfl rfl rfl (zad r45_12) <| p_v (v := v38_0) rfl rfl rfl (zad r45_11) <| p_v (v := .int .i64 k) rfl rfl rfl (zad r45_13) ?_
      obtain ⟨ad69, a69, at69⟩ := zba (q := k) (m := 1) S67 (j := 1) rfl rfl (by first|omega|(simp;omega)|assumption|simp) (by first|omega|(simp;omega)|assumption|simp)
      refine p_v (v := .pointer (some ad69)) rfl rfl rfl (za9 u23 ty3 rfl rfl a69 (by first|omega|(simp;omega)|assumption|simp) (by first|omega|(simp;omega)|assumption|simp)) ?_
      obtain ⟨seg70, rp70, cf70⟩ := zbo (q := k) S67 (j := 1) rfl rfl at69 (by first|omega|(simp;omega)|assumption|simp) (by first|omega|(simp;omega)|assumption|simp)
      obtain ⟨rfl, in70⟩ := rp70
      have lo70 := za1 in70; have hi70 := za2 in70
      refine p_v (v := .int .i64 (at_ (zb1 m xat (decide (i = 0)) (byt xw i)) k)) rfl rfl rfl (zah (seg := [.int .i64 (at_ (zb1 m xat (decide (i = 0)) (byt xw i)) k)]) ty3 rfl (by simp) rfl cf70) ?_
      obtain ⟨v71, w71, r71, g71, T71⟩ := zbb (kd := (Kd.int .i64)) (xs := ([at_ (zb1 m xat (decide (i = 0)) (byt xw i)) k] : List Int)) (len := 1) [.int .i64 (at_ (zb1 m xat (decide (i = 0)) (byt xw i)) k)] S67 u23 ty3 rfl rfl rfl rfl rfl (zbm rfl zcb) [.int .i64 (at_ (zb1 m xat (decide (i = 0)) (byt xw i)) k)] (zbu.single (k := (Kd.int .i64)) (h := h45) (x := at_ (zb1 m xat (decide (i = 0)) (byt xw i)) k) (cs := [.int .i64 (at_ (zb1 m xat (decide (i = 0)) (byt xw i)) k)]) ⟨rfl, (zai (by first|omega|(simp;omega)|assumption|simp) (by first|omega|(simp;omega)|assumption|simp))⟩) rfl
      have S72 := T71
      dsimp only [lAa, lAn, lA0, lAs] at S72
      refine p_v (v := v71) rfl rfl rfl (zaw (pv := [(0, .int .i64 (at_ (zb1 m xat (decide (i = 0)) (byt xw i)) k))]) rfl r71) ?_
      obtain ⟨A74, c74, ev74, lc74, cm74⟩ := S72.row_val (j := 3) rfl
      obtain ⟨v75, w75, r75, g75, T75⟩ := zdg (kd := (Kd.int .i64)) (A := A74) (c := c74) (ys := ([at_ (zb1 m xat (decide (i = 0)) (byt xw i)) k] : List Int)) (len := ([at_ (zb1 m xat (decide (i = 0)) (byt xw i)) k] : List Int).length) 23 S72 u23 ty3 rfl rfl (j := 2) rfl rfl (zdv S72 (j := 3) rfl ev74) (by first|omega|(simp;omega)|assumption|simp) (by first|omega|(simp;omega)|assumption|simp)
      have S76 := T75.fx 2 (row 3 (Kd.int .i64) v75 (good ++ ([at_ (zb1 m xat (decide (i = 0)) (byt xw i)) k] : List Int))) rfl
      dsimp only [lAa, lAn, lA0, lAs] at S76
      refine p_v (v := v75) rfl rfl rfl (zde rfl ev74 r75) <| p_v (v := v75) rfl rfl rfl (zae rfl) <| zaa <| zaj <| zac (l := [0, 1, 2]) rfl <| p_v (v := .int .i64 k) rfl rfl rfl (zad r45_13) <| p_v (v := .int .i64 (k + 1)) rfl rfl rfl (zbv rfl rfl (zai (by first|omega|(simp;omega)|assumption|simp) (by first|omega|(simp;omega)|assumption|simp))) <| p_v (v := .int .i64 (k + 1)) rfl rfl rfl (zae rfl) <| zaa ?_
      refine ih45 (good ++ ([at_ (zb1 m xat (decide (i = 0)) (byt xw i)) k] : List Int), k + 1) _ _ (by dsimp only; omega) ⟨h45, v75, le45, S76.sub [0, 1, 2] (by decide) rfl _ rfl, r45_1, r45_2, r45_3, r45_7, r45_8, r45_10, r45_11, rfl, rfl, (zai (by first|omega|(simp;omega)|assumption|simp) (by first|omega|(simp;omega)|assumption|simp)), (by exact ⟨by omega, by omega, by rw [hI45.2.2]; first | exact goodTo_yes hI45.1 (by omega) (by first | (rw [← bytesL_from]; assumption) | assumption) | exact goodTo_no hI45.1 (by omega) (by first | (rw [← bytesL_from]; assumption) | assumption)⟩)⟩
     refine zao <| zaj <| zac (l := [0, 1, 2]) rfl <| p_v (v := .int .i64 k) rfl rfl rfl (zad r45_13) <| p_v (v := .int .i64 (k + 1)) rfl rfl rfl (zbv rfl rfl (zai (by first|omega|(simp;omega)|assumption|simp) (by first|omega|(simp;omega)|assumption|simp))) <| p_v (v := .int .i64 (k + 1)) rfl rfl rfl (zae rfl) <| zaa ?_
     refine ih45 (good, k + 1) _ _ (by dsimp only; omega) ⟨h45, v_good, le45, S67.sub [0, 1, 2] (by decide) rfl _ rfl, r45_1, r45_2, r45_3, r45_7, r45_8, r45_10, r45_11, r45_12, rfl, (zai (by first|omega|(simp;omega)|assumption|simp) (by first|omega|(simp;omega)|assumption|simp)), (by exact ⟨by omega, by omega, by rw [hI45.2.2]; first | exact goodTo_yes hI45.1 (by omega) (by first | (rw [← bytesL_from]; assumption) | assumption) | exact goodTo_no hI45.1 (by omega) (by first | (rw [← bytesL_from]; assumption) | assumption)⟩)⟩
    refine za3 rfl <| zab <| zab <| zac (l := [0, 1, 2]) rfl <| p_v (v := v_good) rfl rfl rfl (zad r45_12) ?_
    have lb77 := S45.row_le (j := 2) rfl; simp only [maxLen] at lb77
    refine p_v (v := .int .i64 (good.length : Int)) rfl rfl rfl (zdo u23 rfl (zdu S45 (j := 2) rfl)) <| p_v (v := .bool (decide ((good.length : Int) = 0))) rfl rfl rfl (x_eql rfl rfl) <| zaa ?_
    have hc78 : ¬ ((good.length : Int) = 0) := by
     have hg0_ := goodTo_some (q := (endL m ((zay xw).drop (i + 1).toNat))) (l := (zb1 m xat (decide (i = 0)) (byt xw i))) (k := k) (by omega) (hA_.go (by omega)); rw [← hI45.2.2] at hg0_; omega
    refine zbh (b := false) (bF hc78) ?_
    simp only [if_true, if_false, Bool.false_eq_true]
    refine zao <| zab <| zac (l := [0]) rfl <| p_v (v := .int .i64 0) rfl rfl rfl (zae rfl) <| zaa <| zab <| zab <| zac (l := [0, 1, 2, 3]) rfl <| p_v (v := .int .i64 i) rfl rfl rfl (zad r45_10) <| p_v (v := .slice A2 choices.length c2) rfl rfl rfl (zad r45_2) <| p_v (v := .int .i64 (choices.length : Int)) rfl rfl rfl (zar u30 rfl) <| p_v (v := .bool (decide (i < (choices.length : Int)))) rfl rfl rfl (zc2 rfl rfl) ?_
    refine zaa ?_
    refine zal (p := i < (choices.length : Int)) rfl (fun hc79 => ?_) (fun hc79 => ?_)
    ·skip
     refine zac (l := [0, 1, 2, 3, 4, 5, 6, 7, 8]) rfl <| p_v (v := .slice A2 choices.length c2) rfl rfl rfl (zad r45_2) <| p_v (v := .int .i64 i) rfl rfl rfl (zad r45_10) ?_
     obtain ⟨ad80, seg80, a80, rp80, ce80⟩ := zap (q := i) (m := 1) l2 rfl (by first|omega|(simp;omega)|assumption|simp) (by first|omega|(simp;omega)|assumption|simp)
     refine p_v (v := .pointer (some ad80)) rfl rfl rfl (zan u30 ty5 rfl rfl a80 (by first|omega|(simp;omega)|assumption|simp) (by first|omega|(simp;omega)|assumption|simp)) ?_
     obtain ⟨rfl, in80⟩ := rp80
     have lo80 := u8_lo in80; have hi80 := u8_hi in80
     refine p_v (v := .int .u8 (at_ choices i)) rfl rfl rfl (zah (seg := [.int .u8 (at_ choices i)]) ty5 rfl (by simp) rfl (CF.ghost ce80 (St.le0 S45))) <| p_v (v := .int .i64 (at_ choices i)) rfl rfl rfl (x_conv u5 u3 rfl (zai (by first|omega|(simp;omega)|assumption|simp) (by first|omega|(simp;omega)|assumption|simp))) <| p_v (v := v_good) rfl rfl rfl (zad r45_12) ?_
     have lb81 := S45.row_le (j := 2) rfl; simp only [maxLen] at lb81
     refine p_v (v := .int .i64 (good.length : Int)) rfl rfl rfl (zdo u23 rfl (zdu S45 (j := 2) rfl)) <| p_v (v := .int .i64 ((at_ choices i) % (good.length : Int))) rfl rfl rfl (x_rem rfl rfl (by first|omega|(simp;omega)|assumption|simp) (by first|omega|(simp;omega)|assumption|simp)) <| p_v (v := .int .i64 ((at_ choices i) % (good.length : Int))) rfl rfl rfl (zae rfl) <| zaa <| zab <| zac (l := [0, 1, 2, 3, 4, 5]) rfl <| p_v (v := v_good) rfl rfl rfl (zad r45_12) <| p_v (v := .int .i64 ((at_ choices i) % (good.length : Int))) rfl rfl rfl (zad rfl) ?_
     obtain ⟨ad82, a82, at82⟩ := zba (q := (at_ choices i) % (good.length : Int)) (m := 1) S45 (j := 2) rfl rfl (by first|omega|(simp;omega)|assumption|simp) (by first|omega|(simp;omega)|assumption|simp)
     refine p_v (v := .pointer (some ad82)) rfl rfl rfl (za9 u23 ty3 rfl rfl a82 (by first|omega|(simp;omega)|assumption|simp) (by first|omega|(simp;omega)|assumption|simp)) ?_
     obtain ⟨seg83, rp83, cf83⟩ := zbo (q := (at_ choices i) % (good.length : Int)) S45 (j := 2) rfl rfl at82 (by first|omega|(simp;omega)|assumption|simp) (by first|omega|(simp;omega)|assumption|simp)
     obtain ⟨rfl, in83⟩ := rp83
     have lo83 := za1 in83; have hi83 := za2 in83
     refine p_v (v := .int .i64 (at_ good ((at_ choices i) % (good.length : Int)))) rfl rfl rfl (zah (seg := [.int .i64 (at_ good ((at_ choices i) % (good.length : Int)))]) ty3 rfl (by simp) rfl cf83) ?_
     obtain ⟨v84, w84, r84, g84, T84⟩ := zbb (kd := (Kd.int .i64)) (xs := ([at_ good ((at_ choices i) % (good.length : Int))] : List Int)) (len := 1) [.int .i64 (at_ good ((at_ choices i) % (good.length : Int)))] S45 u23 ty3 rfl rfl rfl rfl rfl (zbm rfl zcb) [.int .i64 (at_ good ((at_ choices i) % (good.length : Int)))] (zbu.single (k := (Kd.int .i64)) (h := h45) (x := at_ good ((at_ choices i) % (good.length : Int))) (cs := [.int .i64 (at_ good ((at_ choices i) % (good.length : Int)))]) ⟨rfl, (zai (by first|omega|(simp;omega)|assumption|simp) (by first|omega|(simp;omega)|assumption|simp))⟩) rfl
     have S85 := T84
     dsimp only [lAa, lAn, lA0, lAs] at S85
     refine p_v (v := v84) rfl rfl rfl (zaw (pv := [(0, .int .i64 (at_ good ((at_ choices i) % (good.length : Int))))]) rfl r84) <| p_v (v := v84) rfl rfl rfl (zae rfl) <| zaa <| zab ?_
     obtain ⟨ad86, a86, at86⟩ := zba (q := (at_ choices i) % (good.length : Int)) (m := 1) S85 (j := 2) rfl rfl (by first|omega|(simp;omega)|assumption|simp) (by first|omega|(simp;omega)|assumption|simp)
     obtain ⟨seg87, rp87, cf87⟩ := zbo (q := (at_ choices i) % (good.length : Int)) S85 (j := 2) rfl rfl at86 (by first|omega|(simp;omega)|assumption|simp) (by first|omega|(simp;omega)|assumption|simp)
     obtain ⟨rfl, in87⟩ := rp87
     have lo87 := za1 in87; have hi87 := za2 in87
     obtain ⟨ad88, seg88, a88, rp88, ce88⟩ := zap (q := at_ good ((at_ choices i) % (good.length : Int))) (m := 5) l0_0 rfl (by first|omega|(simp;omega)|assumption|simp) (by first|omega|(simp;omega)|assumption|simp)
     obtain ⟨rfl, ok88⟩ := rp88
     have slook88 := u8_lo ok88; have shiok88 := u8_hi ok88
     obtain ⟨ad90, seg90, a90, rp90, ce90⟩ := zap (q := i) (m := 1) ld18 rfl (by first|omega|(simp;omega)|assumption|simp) (by first|omega|(simp;omega)|assumption|simp)
     obtain ⟨rfl, in90⟩ := rp90
     have lo90 := u8_lo in90; have hi90 := u8_hi in90
     have hf91 : (CFs ⟨b1, 0, none⟩ [.slice A0_0 m.spots.length c0_0]).1 w84 := (CF.box (m := 1) (S85.box_at (j := 0) rfl) rfl)
     have hf92 : (CFs ad86 [.int .i64 (at_ good ((at_ choices i) % (good.length : Int)))]).1 w84 := cf87
     have hf93 : (CFs (ad88.add 4) [.int .u8 ((at_ m.spots (at_ good ((at_ choices i) % (good.length : Int)))).tag)]).1 w84 := (CF.ghost (sub_seg (o := 4) (m := 1) (ds := [.int .u8 ((at_ m.spots (at_ good ((at_ choices i) % (good.length : Int)))).tag)]) ce88 rfl) (St.le0 S85))
     have hf94 : (CFs ad90 [.int .u8 (at_ (zat m xw) i)]).1 w84 := (CF.ghost ce90 ((((le27.trans lk38)).trans le45).trans S85.ghost))
     refine daS (hkC 1 hf91 (hkC 5 hf92 (hkC 8 hf93 (hkC 12 hf94 (hkN (w := w84)))))) 14 rfl zdt ?_
     intro wd95 gd95 hd95
     have S96 := S85.keep gd95
     have hf97 := spUp gd95 hf91
     have hf98 := spUp gd95 hf92
     have hf99 := spUp gd95 hf93
     have hf100 := spUp gd95 hf94
     refine qd0 (i := 0) (v := .pointer (some ⟨b1, 0, none⟩)) rfl (by decide +kernel) rfl rfl (zak zda ty22 rfl r45_3) (zaf rfl) <| qd1 0 (i := 1) (v := .slice A0_0 m.spots.length c0_0) rfl rfl (by decide +kernel) rfl rfl (fun wq hq => (zah (seg := [.slice A0_0 m.spots.length c0_0]) ty22 rfl (by simp) rfl hq)) (za0 hf97 (zaf rfl)) <| qd0 (i := 2) (v := v_good) rfl (by decide +kernel) rfl rfl (zad r45_12) (zaf rfl) <| qd0 (i := 3) (v := .int .i64 ((at_ choices i) % (good.length : Int))) rfl (by decide +kernel) rfl rfl (zad rfl) (zaf rfl) <| qd0 (i := 4) (v := .pointer (some ad86)) rfl (by decide +kernel) rfl rfl (za9 u23 ty3 rfl rfl a86 (by first|omega|(simp;omega)|assumption|simp) (by first|omega|(simp;omega)|assumption|simp)) (zaf rfl) <| qd1 1 (i := 5) (v := .int .i64 (at_ good ((at_ choices i) % (good.length : Int)))) rfl rfl (by decide +kernel) rfl rfl (fun wq hq => (zah (seg := [.int .i64 (at_ good ((at_ choices i) % (good.length : Int)))]) ty3 rfl (by simp) rfl hq)) (zaq rfl (za0 hf98 (zaf rfl))) <| qd0 (i := 6) (v := .pointer (some ad88)) rfl (by decide +kernel) rfl rfl (zan u22 ty43 rfl rfl a88 (by first|omega|(simp;omega)|assumption|simp) (by first|omega|(simp;omega)|assumption|simp)) (zaf rfl) <| qd0 (i := 7) (v := .pointer (some (ad88.add 4))) rfl (by decide +kernel) rfl rfl (zcu fd43_1 ty5 rfl rfl) (zaf rfl) <| qd1 2 (i := 8) (v := .int .u8 ((at_ m.spots (at_ good ((at_ choices i) % (good.length : Int)))).tag)) rfl rfl (by decide +kernel) rfl rfl (fun wq hq => (zah (seg := [.int .u8 ((at_ m.spots (at_ good ((at_ choices i) % (good.length : Int)))).tag)]) ty5 rfl (by simp) rfl hq)) (zaq rfl (zaq rfl (za0 hf99 (zaf rfl)))) <| qd0 (i := 9) (v := .slice A18 (zat m xw).length c18) rfl (by decide +kernel) rfl rfl (zad r45_7) (zaf rfl) <| qd0 (i := 10) (v := .int .i64 i) rfl (by decide +kernel) rfl rfl (zad r45_10) (zaf rfl) <| qd0 (i := 11) (v := .pointer (some ad90)) rfl (by decide +kernel) rfl rfl (zan u30 ty5 rfl rfl a90 (by first|omega|(simp;omega)|assumption|simp) (by first|omega|(simp;omega)|assumption|simp)) (zaf rfl) ?_
     refine qd1 3 (i := 12) (v := .int .u8 (at_ (zat m xw) i)) rfl rfl (by decide +kernel) rfl rfl (fun wq hq => (zah (seg := [.int .u8 (at_ (zat m xw) i)]) ty5 rfl (by simp) rfl hq)) (zaq rfl (zaq rfl (zaq rfl (za0 hf100 (zaf rfl))))) <| qd0 (i := 13) (v := .bool (decide (((at_ m.spots (at_ good ((at_ choices i) % (good.length : Int)))).tag) ≠ (at_ (zat m xw) i)))) rfl (by decide +kernel) rfl rfl (x_neq rfl rfl) (zaf rfl) <| zbw (by decide +kernel) ?_
     intro wd101 gd101
     have S102 := S96.keep gd101
     have hc103 : ¬ (((at_ m.spots (at_ good ((at_ choices i) % (good.length : Int)))).tag) ≠ (at_ (zat m xw) i)) := by
      exact fun h => h ((all_step hR_ hA_ hI27.1 (by omega) (goodAt hI45.2.2 (by first | omega | exact Int.emod_nonneg _ (by omega)) (by first | omega | exact Int.emod_lt_of_pos _ (by omega))).1 (goodAt hI45.2.2 (by first | omega | exact Int.emod_nonneg _ (by omega)) (by first | omega | exact Int.emod_lt_of_pos _ (by omega))).2).2 (by assumption) _ ((ok_marks hok_).2 (by omega)))
     refine zbh (b := false) (bF hc103) ?_
     simp only [if_true, if_false, Bool.false_eq_true]
     refine zao <| zaj <| zac (l := [0, 1, 2]) rfl <| p_v (v := .int .i64 i) rfl rfl rfl (zad r45_10) <| p_v (v := .int .i64 (i + 1)) rfl rfl rfl (zbv rfl rfl (zai (by first|omega|(simp;omega)|assumption|simp) (by first|omega|(simp;omega)|assumption|simp))) <| p_v (v := .int .i64 (i + 1)) rfl rfl rfl (zae rfl) <| zaa ?_
     refine ih27 (([at_ good ((at_ choices i) % (good.length : Int))] : List Int), i + 1) _ _ (by dsimp only; omega) ⟨h45, v84, (((le27.trans lk38)).trans le45), S102.sub [0, 3] (by decide) rfl _ rfl, r45_1, r45_2, r45_3, r45_7, r45_8, rfl, rfl, (zai (by first|omega|(simp;omega)|assumption|simp) (by first|omega|(simp;omega)|assumption|simp)), (by exact ⟨by omega, fun _ => (all_step hR_ hA_ hI27.1 (by omega) (goodAt hI45.2.2 (by first | omega | exact Int.emod_nonneg _ (by omega)) (by first | omega | exact Int.emod_lt_of_pos _ (by omega))).1 (goodAt hI45.2.2 (by first | omega | exact Int.emod_nonneg _ (by omega)) (by first | omega | exact Int.emod_lt_of_pos _ (by omega))).2).1⟩)⟩
    refine zao <| zab <| zac (l := [0, 1, 2, 3, 4, 5]) rfl <| p_v (v := v_good) rfl rfl rfl (zad r45_12) <| p_v (v := .int .i64 0) rfl rfl rfl (zad rfl) ?_
    obtain ⟨ad104, a104, at104⟩ := zba (q := (0 : Int)) (m := 1) S45 (j := 2) rfl rfl (by first|omega|(simp;omega)|assumption|simp) (by first|omega|(simp;omega)|assumption|simp)
    refine p_v (v := .pointer (some ad104)) rfl rfl rfl (za9 u23 ty3 rfl rfl a104 (by first|omega|(simp;omega)|assumption|simp) (by first|omega|(simp;omega)|assumption|simp)) ?_
    obtain ⟨seg105, rp105, cf105⟩ := zbo (q := (0 : Int)) S45 (j := 2) rfl rfl at104 (by first|omega|(simp;omega)|assumption|simp) (by first|omega|(simp;omega)|assumption|simp)
    obtain ⟨rfl, in105⟩ := rp105
    have lo105 := za1 in105; have hi105 := za2 in105
    refine p_v (v := .int .i64 (at_ good (0 : Int))) rfl rfl rfl (zah (seg := [.int .i64 (at_ good (0 : Int))]) ty3 rfl (by simp) rfl cf105) ?_
    obtain ⟨v106, w106, r106, g106, T106⟩ := zbb (kd := (Kd.int .i64)) (xs := ([at_ good (0 : Int)] : List Int)) (len := 1) [.int .i64 (at_ good (0 : Int))] S45 u23 ty3 rfl rfl rfl rfl rfl (zbm rfl zcb) [.int .i64 (at_ good (0 : Int))] (zbu.single (k := (Kd.int .i64)) (h := h45) (x := at_ good (0 : Int)) (cs := [.int .i64 (at_ good (0 : Int))]) ⟨rfl, (zai (by first|omega|(simp;omega)|assumption|simp) (by first|omega|(simp;omega)|assumption|simp))⟩) rfl
    have S107 := T106
    dsimp only [lAa, lAn, lA0, lAs] at S107
    refine p_v (v := v106) rfl rfl rfl (zaw (pv := [(0, .int .i64 (at_ good (0 : Int)))]) rfl r106) <| p_v (v := v106) rfl rfl rfl (zae rfl) <| zaa <| zab ?_
    obtain ⟨ad108, a108, at108⟩ := zba (q := (0 : Int)) (m := 1) S107 (j := 2) rfl rfl (by first|omega|(simp;omega)|assumption|simp) (by first|omega|(simp;omega)|assumption|simp)
    obtain ⟨seg109, rp109, cf109⟩ := zbo (q := (0 : Int)) S107 (j := 2) rfl rfl at108 (by first|omega|(simp;omega)|assumption|simp) (by first|omega|(simp;omega)|assumption|simp)
    obtain ⟨rfl, in109⟩ := rp109
    have lo109 := za1 in109; have hi109 := za2 in109
    obtain ⟨ad110, seg110, a110, rp110, ce110⟩ := zap (q := at_ good (0 : Int)) (m := 5) l0_0 rfl (by first|omega|(simp;omega)|assumption|simp) (by first|omega|(simp;omega)|assumption|simp)
    obtain ⟨rfl, ok110⟩ := rp110
    have slook110 := u8_lo ok110; have shiok110 := u8_hi ok110
    obtain ⟨ad112, seg112, a112, rp112, ce112⟩ := zap (q := i) (m := 1) ld18 rfl (by first|omega|(simp;omega)|assumption|simp) (by first|omega|(simp;omega)|assumption|simp)
    obtain ⟨rfl, in112⟩ := rp112
    have lo112 := u8_lo in112; have hi112 := u8_hi in112
    have hf113 : (CFs ⟨b1, 0, none⟩ [.slice A0_0 m.spots.length c0_0]).1 w106 := (CF.box (m := 1) (S107.box_at (j := 0) rfl) rfl)
    have hf114 : (CFs ad108 [.int .i64 (at_ good (0 : Int))]).1 w106 := cf109
    have hf115 : (CFs (ad110.add 4) [.int .u8 ((at_ m.spots (at_ good (0 : Int))).tag)]).1 w106 := (CF.ghost (sub_seg (o := 4) (m := 1) (ds := [.int .u8 ((at_ m.spots (at_ good (0 : Int))).tag)]) ce110 rfl) (St.le0 S107))
    have hf116 : (CFs ad112 [.int .u8 (at_ (zat m xw) i)]).1 w106 := (CF.ghost ce112 ((((le27.trans lk38)).trans le45).trans S107.ghost))
    refine daS (hkC 1 hf113 (hkC 5 hf114 (hkC 8 hf115 (hkC 12 hf116 (hkN (w := w106)))))) 14 rfl zdt ?_
    intro wd117 gd117 hd117
    have S118 := S107.keep gd117
    have hf119 := spUp gd117 hf113
    have hf120 := spUp gd117 hf114
    have hf121 := spUp gd117 hf115
    have hf122 := spUp gd117 hf116
    refine qd0 (i := 0) (v := .pointer (some ⟨b1, 0, none⟩)) rfl (by decide +kernel) rfl rfl (zak zda ty22 rfl r45_3) (zaf rfl) <| qd1 0 (i := 1) (v := .slice A0_0 m.spots.length c0_0) rfl rfl (by decide +kernel) rfl rfl (fun wq hq => (zah (seg := [.slice A0_0 m.spots.length c0_0]) ty22 rfl (by simp) rfl hq)) (za0 hf119 (zaf rfl)) <| qd0 (i := 2) (v := v_good) rfl (by decide +kernel) rfl rfl (zad r45_12) (zaf rfl) <| qd0 (i := 3) (v := .int .i64 0) rfl (by decide +kernel) rfl rfl (zad rfl) (zaf rfl) <| qd0 (i := 4) (v := .pointer (some ad108)) rfl (by decide +kernel) rfl rfl (za9 u23 ty3 rfl rfl a108 (by first|omega|(simp;omega)|assumption|simp) (by first|omega|(simp;omega)|assumption|simp)) (zaf rfl) <| qd1 1 (i := 5) (v := .int .i64 (at_ good (0 : Int))) rfl rfl (by decide +kernel) rfl rfl (fun wq hq => (zah (seg := [.int .i64 (at_ good (0 : Int))]) ty3 rfl (by simp) rfl hq)) (zaq rfl (za0 hf120 (zaf rfl))) <| qd0 (i := 6) (v := .pointer (some ad110)) rfl (by decide +kernel) rfl rfl (zan u22 ty43 rfl rfl a110 (by first|omega|(simp;omega)|assumption|simp) (by first|omega|(simp;omega)|assumption|simp)) (zaf rfl) <| qd0 (i := 7) (v := .pointer (some (ad110.add 4))) rfl (by decide +kernel) rfl rfl (zcu fd43_1 ty5 rfl rfl) (zaf rfl) <| qd1 2 (i := 8) (v := .int .u8 ((at_ m.spots (at_ good (0 : Int))).tag)) rfl rfl (by decide +kernel) rfl rfl (fun wq hq => (zah (seg := [.int .u8 ((at_ m.spots (at_ good (0 : Int))).tag)]) ty5 rfl (by simp) rfl hq)) (zaq rfl (zaq rfl (za0 hf121 (zaf rfl)))) <| qd0 (i := 9) (v := .slice A18 (zat m xw).length c18) rfl (by decide +kernel) rfl rfl (zad r45_7) (zaf rfl) <| qd0 (i := 10) (v := .int .i64 i) rfl (by decide +kernel) rfl rfl (zad r45_10) (zaf rfl) <| qd0 (i := 11) (v := .pointer (some ad112)) rfl (by decide +kernel) rfl rfl (zan u30 ty5 rfl rfl a112 (by first|omega|(simp;omega)|assumption|simp) (by first|omega|(simp;omega)|assumption|simp)) (zaf rfl) ?_
    refine qd1 3 (i := 12) (v := .int .u8 (at_ (zat m xw) i)) rfl rfl (by decide +kernel) rfl rfl (fun wq hq => (zah (seg := [.int .u8 (at_ (zat m xw) i)]) ty5 rfl (by simp) rfl hq)) (zaq rfl (zaq rfl (zaq rfl (za0 hf122 (zaf rfl))))) <| qd0 (i := 13) (v := .bool (decide (((at_ m.spots (at_ good (0 : Int))).tag) ≠ (at_ (zat m xw) i)))) rfl (by decide +kernel) rfl rfl (x_neq rfl rfl) (zaf rfl) <| zbw (by decide +kernel) ?_
    intro wd123 gd123
    have S124 := S118.keep gd123
    have hc125 : ¬ (((at_ m.spots (at_ good (0 : Int))).tag) ≠ (at_ (zat m xw) i)) := by
     exact fun h => h ((all_step hR_ hA_ hI27.1 (by omega) (goodAt hI45.2.2 (by first | omega | exact Int.emod_nonneg _ (by omega)) (by first | omega | exact Int.emod_lt_of_pos _ (by omega))).1 (goodAt hI45.2.2 (by first | omega | exact Int.emod_nonneg _ (by omega)) (by first | omega | exact Int.emod_lt_of_pos _ (by omega))).2).2 (by assumption) _ ((ok_marks hok_).2 (by omega)))
    refine zbh (b := false) (bF hc125) ?_
    simp only [if_true, if_false, Bool.false_eq_true]
    refine zao <| zaj <| zac (l := [0, 1, 2]) rfl <| p_v (v := .int .i64 i) rfl rfl rfl (zad r45_10) <| p_v (v := .int .i64 (i + 1)) rfl rfl rfl (zbv rfl rfl (zai (by first|omega|(simp;omega)|assumption|simp) (by first|omega|(simp;omega)|assumption|simp))) <| p_v (v := .int .i64 (i + 1)) rfl rfl rfl (zae rfl) <| zaa ?_
    refine ih27 (([at_ good (0 : Int)] : List Int), i + 1) _ _ (by dsimp only; omega) ⟨h45, v106, (((le27.trans lk38)).trans le45), S124.sub [0, 3] (by decide) rfl _ rfl, r45_1, r45_2, r45_3, r45_7, r45_8, rfl, rfl, (zai (by first|omega|(simp;omega)|assumption|simp) (by first|omega|(simp;omega)|assumption|simp)), (by exact ⟨by omega, fun _ => (all_step hR_ hA_ hI27.1 (by omega) (goodAt hI45.2.2 (by first | omega | exact Int.emod_nonneg _ (by omega)) (by first | omega | exact Int.emod_lt_of_pos _ (by omega))).1 (goodAt hI45.2.2 (by first | omega | exact Int.emod_nonneg _ (by omega)) (by first | omega | exact Int.emod_lt_of_pos _ (by omega))).2).1⟩)⟩
   refine zaz rfl (wo 4 62 rfl rfl (bF hc28) rfl) rfl <| p_v (v := .bool false) rfl rfl rfl (zbq (bF hc28) rfl) <| zaa <| zbh (b := false) rfl ?_
   simp only [if_true, if_false, Bool.false_eq_true]
   refine za3 rfl <| zab <| zac (l := [0, 1]) rfl <| p_c rfl rfl rfl (zbd (args := []) ca10 rfl rfl) (zdh w27 ) ?_
   rintro _ w126 ⟨h126, T126, rfl⟩
   have S127 := S27.keep (Chg.of_below T126.below)
   refine p_v (v := .bool true) rfl rfl rfl (zae rfl) <| zaa <| zav Try.func6 (res1 rfl (zax (v := .bool true) rfl)) ?_
   have q0 : (true : Bool) = true := rfl
   refine ⟨_, rfl, h27, ?_, ?_⟩
   · exact S127.sub [] (by decide) rfl _ rfl
   · rfl
  obtain ⟨xat, hxat_⟩ : ∃ l : List Int, l = [] := ⟨_, rfl⟩
  refine zaz rfl (wo 7 41 rfl rfl (congrArg Value.bool hc23) rfl) rfl <| zaz rfl (wo 7 41 rfl rfl (congrArg Value.bool hc23) rfl) rfl <| zaz rfl (wo 7 41 rfl rfl (congrArg Value.bool hc23) rfl) rfl <| zaz rfl (wo 7 41 rfl rfl (congrArg Value.bool hc23) rfl) rfl <| zaz rfl (wo 7 41 rfl rfl (congrArg Value.bool hc23) rfl) rfl <| p_v (v := .bool false) rfl (wo 5 39 rfl rfl (bF hc22) rfl) rfl (zbq (congrArg Value.bool hc23) rfl) <| p_v (v := .bool false) rfl rfl rfl (zbq (bF hc22) rfl) <| p_v (v := .bool false) rfl rfl rfl (zad rfl) <| p_v (v := .bool false) rfl rfl rfl (zad (congrArg Value.bool hc23)) <| p_v (v := .bool true) rfl rfl rfl (x_not (b := false) rfl) <| p_v (v := .bool true) rfl rfl rfl (zad rfl) <| p_v (v := .slice A18 (zat m xw).length c18) rfl rfl rfl (zad rfl) ?_
  refine p_v (v := .int .i64 ((zat m xw).length : Int)) rfl rfl rfl (zar u30 rfl) <| p_v (v := .bool (decide (((zat m xw).length : Int) ≠ 0))) rfl rfl rfl (x_neq rfl rfl) <| p_v (v := .bool (decide (((zat m xw).length : Int) ≠ 0))) rfl rfl rfl (zbf rfl rfl) <| p_v (v := .bool (decide (((zat m xw).length : Int) ≠ 0))) rfl rfl rfl (zbq rfl rfl) <| zaa ?_
  have hc129 : ¬ (((zat m xw).length : Int) ≠ 0) := by
   exact fun h => h (no_marks (by assumption))
  refine zbh (b := false) (bF hc129) ?_
  simp only [if_true, if_false, Bool.false_eq_true]
  refine zao <| zab <| zac (l := [0]) rfl <| p_v (v := .slice none 0 0) rfl rfl rfl (zae rfl) <| zaa <| zab <| zab <| zac (l := [0]) rfl <| p_v (v := .int .i64 0) rfl rfl rfl (zae rfl) <| zaa <| zam <| za8 (S := Int) (fun (q_ : Int) ρ w' => match q_ with | i => ∃ (h : Ghost), Le h18 h ∧ St w.heap.size w h w' [box b1 27 [.slice A0_0 m.spots.length c0_0, .slice A0_1 m.first.length c0_1, .slice A0_2 m.follow.length c0_2, .slice A0_3 m.last.length c0_3, .bool m.empty]] ∧ ρ 1 = .string xw ∧ ρ 2 = .slice A2 choices.length c2 ∧ ρ 3 = .pointer (some ⟨b1, 0, none⟩) ∧ ρ 7 = .slice A18 (zat m xw).length c18 ∧ ρ 8 = .bool false ∧ ρ 9 = .slice none 0 0 ∧ ρ 10 = .int .i64 i ∧ inK .i64 i ∧ (0 ≤ i ∧ (okMk m xw = true → AllI m xw xat i))) (fun q_ => match q_ with | i => (xw.size - i).toNat) (0) ⟨h18, Le.refl _, S21.sub [0] (by decide) rfl _ rfl, rfl, rfl, rfl, rfl, (congrArg Value.bool hc23), rfl, rfl, (zai (by first|omega|(simp;omega)|assumption|simp) (by first|omega|(simp;omega)|assumption|simp)), (by first | exact ⟨by omega, fun h => all_0 (right_of_run ((okMk_eq m xw).symm.trans h)) ((okMk_eq m xw).symm.trans h)⟩ | exact ⟨by omega, fun h => absurd ((by assumption : okMk m xw = false).symm.trans h) Bool.false_ne_true⟩)⟩ ?_
  rintro i ih130 ρ130 w130 ⟨h130, le130, S130, r130_1, r130_2, r130_3, r130_7, r130_8, r130_9, r130_10, f130_0, hI130⟩
  have lf130_0 := za1 f130_0; have hf130_0 := za2 f130_0
  have hin_ := fun (h : okMk m xw = true) => (hI130.2 h).inn
  refine zab <| zab <| zac (l := [0, 1, 2, 3, 4, 5, 6]) rfl <| p_v (v := .int .i64 i) rfl rfl rfl (zad r130_10) <| p_v (v := .string xw) rfl rfl rfl (zad r130_1) <| p_v (v := .int .i64 (xw.size : Int)) rfl rfl rfl (zcg u9 rfl) <| p_v (v := .bool (decide (i < (xw.size : Int)))) rfl rfl rfl (zc2 rfl rfl) <| p_v (v := .bool (decide (i < (xw.size : Int)))) rfl rfl rfl (zad rfl) ?_
  by_cases hc131 : i < (xw.size : Int)
  ·skip
   first | (have hin2_ := hin_ (by assumption); have hA_ := hI130.2 (by assumption)) | skip
   refine p_v (v := .bool false) rfl (wo 4 62 rfl rfl (bT hc131) rfl) rfl (zad r130_8) <| p_v (v := .bool false) rfl rfl rfl (zbf (bT hc131) rfl) <| zaa <| zbh (b := false) rfl ?_
   simp only [if_true, if_false, Bool.false_eq_true]
   refine za3 rfl <| zab <| zac (l := [0, 1]) rfl <| p_c rfl rfl rfl (zbd (args := []) ca10 rfl rfl) (zdh w130 ) ?_
   rintro _ w132 ⟨h132, T132, rfl⟩
   have S133 := S130.keep (Chg.of_below T132.below)
   refine p_v (v := .bool true) rfl rfl rfl (zae rfl) <| zaa <| zav Try.func6 (res1 rfl (zax (v := .bool true) rfl)) ?_
   have q0 : (true : Bool) = true := rfl
   refine ⟨_, rfl, h130, ?_, ?_⟩
   · exact S133.sub [] (by decide) rfl _ rfl
   · rfl
  refine zaz rfl (wo 4 62 rfl rfl (bF hc131) rfl) rfl <| p_v (v := .bool false) rfl rfl rfl (zbq (bF hc131) rfl) <| zaa <| zbh (b := false) rfl ?_
  simp only [if_true, if_false, Bool.false_eq_true]
  refine za3 rfl <| zab <| zac (l := [0, 1]) rfl <| p_c rfl rfl rfl (zbd (args := []) ca10 rfl rfl) (zdh w130 ) ?_
  rintro _ w135 ⟨h135, T135, rfl⟩
  have S136 := S130.keep (Chg.of_below T135.below)
  refine p_v (v := .bool true) rfl rfl rfl (zae rfl) <| zaa <| zav Try.func6 (res1 rfl (zax (v := .bool true) rfl)) ?_
  have q0 : (true : Bool) = true := rfl
  refine ⟨_, rfl, h130, ?_, ?_⟩
  · exact S136.sub [] (by decide) rfl _ rfl
  · rfl
 refine zaz rfl (wo 3 18 rfl rfl (congrArg (fun z => Value.bool (!z)) hc5) rfl) rfl <| zaz rfl (wo 3 18 rfl rfl (congrArg (fun z => Value.bool (!z)) hc5) rfl) rfl <| zaz rfl (wo 3 18 rfl rfl (congrArg (fun z => Value.bool (!z)) hc5) rfl) rfl <| p_v (v := .bool true) rfl rfl rfl (zbf (congrArg (fun z => Value.bool (!z)) hc5) rfl) <| zaa <| zbh (b := true) rfl ?_
 simp only [if_true, if_false, Bool.false_eq_true]
 refine zab <| zac (l := [0, 1]) rfl <| p_c rfl rfl rfl (zbd (args := []) ca10 rfl rfl) (zdh w3 ) ?_
 rintro _ w138 ⟨h138, T138, rfl⟩
 have S139 := S4.keep (Chg.of_below T138.below)
 refine p_v (v := .bool true) rfl rfl rfl (zae rfl) <| zaa <| zav Try.func6 (res1 rfl (zax (v := .bool true) rfl)) ?_
 have q0 : (true : Bool) = true := rfl
 refine ⟨_, rfl, (fun _ => none), ?_, ?_⟩
 · exact S139.sub [] (by decide) rfl _ rfl
 · rfl
end Go.Proofs.Ytpdanfggijmnmaa
namespace Gx
open Go Go.RowKit
set_option linter.unusedSimpArgs false
set_option linter.unusedSectionVars false
set_option linter.unusedVariables false
def zct {α : Type} (P : Program) (k : Kd α) (t : TypeId) : Prop :=
  ∀ {H : Type} {enc : TypeId × Value → H} {w : World} {spare : Nat → Bool} {held : Bool} {fuel : Nat} {cs : List Value} {x : DataW H × List MemPlace}, DataW.trod enc P w 0 spare held fuel t cs = some x → ∃ m, k.rep (hp w) m cs
section
variable {P : Program} {t e : TypeId}
theorem inK_wf {k : IntKind} {n : Int} (h : (Lit.int k n).wf = true) : inK k n := by
  simp only [Lit.wf, Bool.and_eq_true, decide_eq_true_eq] at h
  exact h
theorem zct.int {k : IntKind} (ht : P.underlying t = some (.int k)) : zct P (Kd.int k) t := fun h => by
  obtain ⟨n, rfl, _, hw⟩ := DataW.trod_int ht h
  exact ⟨n, rfl, inK_wf hw⟩
theorem zct.bool (ht : P.underlying t = some .bool) : zct P Kd.bool t := fun h => by
  obtain ⟨b, rfl, _⟩ := DataW.trod_bool ht h
  exact ⟨b, rfl, trivial⟩
theorem zct.string (ht : P.underlying t = some .string) : zct P Kd.string t := fun h => by
  obtain ⟨s, rfl, _, hs⟩ := DataW.trod_string ht h
  exact ⟨s, rfl, hs⟩
theorem exists_list {α : Type} {Q : Nat → α → Prop} : ∀ (n : Nat), (∀ i, i < n → ∃ m, Q i m) → ∃ l : List α, l.length = n ∧ ∀ i m, l[i]? = some m → Q i m
  | 0, _ => ⟨[], rfl, fun i m h => by simp at h⟩
  | n + 1, h => by
    obtain ⟨l, hl, hq⟩ := exists_list n fun i hi => h i (by omega)
    obtain ⟨m, hm⟩ := h n (by omega)
    refine ⟨l ++ [m], by simp [hl], fun i y hy => ?_⟩
    rw [List.getElem?_append] at hy
    split at hy
    · exact hq i y hy
    · rename_i hi
      have e : i - l.length = 0 := by
        rcases Nat.eq_zero_or_pos (i - l.length) with h0 | h0
        · exact h0
        · rw [List.getElem?_eq_none (by simp; omega)] at hy; cases hy
      rw [e] at hy
      simp at hy
      subst hy
      have : i = n := by omega
      rw [this]; exact hm
theorem zct.ints {k : IntKind} {n : Nat} (hn : 0 < n) (ht : P.underlying t = some (.array n e)) (he : P.underlying e = some (.int k)) (hc : P.cellsOf e = 1) (hct : P.cellsOf t = n) : zct P (kInts k n hn) t := fun {H enc w spare held fuel cs x} h => by
  obtain ⟨xs, m, _, _, hl, hx, hel⟩ := DataW.trod_array ht h
  rw [hct] at hl
  have h1 : ∀ i, i < n → ∃ z : Int, cs[i]? = some (.int k z) ∧ inK k z := fun i hi => by
    have h2 := hel i hi
    rw [hc, Nat.mul_one, List.getElem?_eq_getElem (by omega)] at h2
    obtain ⟨z, hz, _, hw⟩ := DataW.trod_int he h2
    refine ⟨z, ?_, inK_wf hw⟩
    have h3 := congrArg (fun l : List Value => l[0]?) hz
    simpa [List.getElem?_take, List.getElem?_drop] using h3
  obtain ⟨l, hll, hq⟩ := exists_list n h1
  refine ⟨l, ?_, hll, fun z hz => ?_⟩
  · apply List.ext_getElem?
    intro i
    rw [zbn, List.getElem?_map]
    by_cases hi : i < n
    · have h4 := hq i (l[i]'(by omega)) (List.getElem?_eq_getElem _)
      rw [h4.1, List.getElem?_eq_getElem (by omega)]; rfl
    · rw [List.getElem?_eq_none (by omega), List.getElem?_eq_none (by omega)]; rfl
  · obtain ⟨i, hi⟩ := List.mem_iff_getElem?.1 hz
    exact (hq i z hi).2
theorem zct.set (ht : P.underlying t = some (.array 4 e)) (he : P.underlying e = some (.int .u64)) (hc : P.cellsOf e = 1) (hct : P.cellsOf t = 4) : zct P kSet t := fun h => by
  obtain ⟨l, hl, hok⟩ := zct.ints (n := 4) (by omega) ht he hc hct h
  exact ⟨zcl l, by rw [hl, encSet_of hok], trivial⟩
theorem zct.slice {α : Type} {k : Kd α} (ht : P.underlying t = some (.slice e)) (hc : P.cellsOf e = k.sz) (ho : zct P k e) : zct P k.slice t := fun {H enc w spare held fuel cs x} h => by
  rcases DataW.trod_slice ht h with ⟨rfl, _⟩ | ⟨a, len, cap, elems, rest, n, _, rfl, _, _, hl, hm, hlen, hel, _, _⟩
  · exact ⟨[], none, 0, rfl, Nat.le_refl _, by simp [maxLen], fun hne => (hne rfl).elim⟩
  · rw [hc] at hel
    have h1 : ∀ i, i < len → ∃ m, ∃ seg, k.rep (hp w) m seg ∧ ∀ j v, seg[j]? = some v → gcell (hp w) (a.add (i * k.sz + j)) = some v := fun i hi => by
      have h2 := hel i hi
      rw [List.getElem?_eq_getElem (by omega)] at h2
      obtain ⟨seg, hseg, hd⟩ := Option.bind_eq_some_iff.1 h2
      obtain ⟨m, hr⟩ := ho hd
      refine ⟨m, seg, hr, fun j v hj => ?_⟩
      obtain ⟨_, hlen2, hcell⟩ := World.cells?_some hseg
      have hjl : j < k.sz := by
        have := (List.getElem?_eq_some_iff.1 hj).1
        rw [k.len hr] at this; exact this
      have h5 := hcell j hjl
      rw [hj] at h5
      rw [Addr.add_add] at h5
      show gcell (hp w) _ = _
      unfold gcell hp
      unfold World.cell? at h5
      exact h5
    obtain ⟨l, hll, hq⟩ := exists_list len h1
    refine ⟨l, some a, cap, by rw [hll], by omega, hm, fun _ => ⟨a, rfl, hq⟩⟩
end
end Gx
namespace Gx
open Go Go.RowKit
set_option linter.unusedSimpArgs false
set_option linter.unusedSectionVars false
set_option linter.unusedVariables false
section
variable {P : Program} {t : TypeId}
theorem trod_field {H : Type} {enc : TypeId × Value → H} {w : World} {spare : Nat → Bool} {held : Bool} {fuel : Nat} {cs : List Value} {x : DataW H × List MemPlace} {α : Type} {k : Kd α} {q o ft : Nat} (hf : zbr P t q = some (o, ft)) (hc : P.cellsOf ft = k.sz) (ho : zct P k ft) (h : DataW.trod enc P w 0 spare held fuel t cs = some x) : ∃ m, k.rep (hp w) m ((cs.drop o).take k.sz) := by
  obtain ⟨fs, fd, hu, hq, rfl, rfl⟩ := fieldInfo_parts hf
  obtain ⟨xs, n, _, _, _, hl, hp⟩ := DataW.trod_struct hu h
  have h1 := hp q fd hq
  have hlt : q < fs.size := (Array.getElem?_eq_some_iff.1 hq).1
  rw [hc, List.getElem?_eq_getElem (by omega)] at h1
  exact ho h1
theorem trod_len {H : Type} {enc : TypeId × Value → H} {w : World} {spare : Nat → Bool} {held : Bool} {fuel : Nat} {cs : List Value} {x : DataW H × List MemPlace} {q o ft : Nat} (hf : zbr P t q = some (o, ft)) (h : DataW.trod enc P w 0 spare held fuel t cs = some x) : cs.length = P.cellsOf t := by
  obtain ⟨fs, fd, hu, hq, rfl, rfl⟩ := fieldInfo_parts hf
  obtain ⟨xs, n, _, _, hl, _, _⟩ := DataW.trod_struct hu h
  exact hl
theorem zct.spot {a b : TypeId} (h0 : zbr P t 0 = some (0, a)) (h1 : zbr P t 1 = some (4, b)) (hc : P.cellsOf t = 5) (ha : P.cellsOf a = 4) (hb : P.cellsOf b = 1) (oa : zct P kSet a) (ob : zct P (Kd.int .u8) b) : zct P kSpot t := fun {H enc w spare held fuel cs x} h => by
  obtain ⟨s, e0, _⟩ := trod_field h0 ha oa h
  obtain ⟨n, e1, hn⟩ := trod_field h1 hb ob h
  have hl := trod_len h0 h
  rw [hc] at hl
  refine ⟨⟨s, n⟩, ?_, hn⟩
  have e2 : cs = (cs.drop 0).take 4 ++ (cs.drop 4).take 1 := by
    rw [List.drop_zero, List.take_of_length_le (l := cs.drop 4) (by simp; omega), List.take_append_drop]
  rw [e2]
  show (cs.drop 0).take kSet.sz ++ (cs.drop 4).take (Kd.int .u8).sz = _
  rw [e0, e1]; rfl
def kMach : Kd Mach where
  sz := 5
  pos := by omega
  rep := fun h m cs => ∃ A0 c0 A1 c1 A2 c2 A3 c3, cs = [.slice A0 m.spots.length c0, .slice A1 m.first.length c1, .slice A2 m.follow.length c2, .slice A3 m.last.length c3, .bool m.empty] ∧
    ((m.spots.length ≤ c0 ∧ c0 ≤ maxLen) ∧ zbe kSpot h A0 m.spots) ∧ ((m.first.length ≤ c1 ∧ c1 ≤ maxLen) ∧ zbe (Kd.int .i64) h A1 m.first) ∧ ((m.follow.length ≤ c2 ∧ c2 ≤ maxLen) ∧ zbe (Kd.int .i64).slice h A2 m.follow) ∧ ((m.last.length ≤ c3 ∧ c3 ≤ maxLen) ∧ zbe Kd.bool h A3 m.last)
  mono := fun hl ⟨A0, c0, A1, c1, A2, c2, A3, c3, e, h0, h1, h2, h3⟩ => ⟨A0, c0, A1, c1, A2, c2, A3, c3, e, ⟨h0.1, h0.2.mono hl⟩, ⟨h1.1, h1.2.mono hl⟩, ⟨h2.1, h2.2.mono hl⟩, ⟨h3.1, h3.2.mono hl⟩⟩
  len := fun ⟨_, _, _, _, _, _, _, _, e, _⟩ => by rw [e]; rfl
  one := fun ⟨_, _, _, _, _, _, _, _, e, _⟩ u hu => by rw [e] at hu; exact zdf rfl (zdf rfl (zdf rfl (zdf rfl (zdf rfl one_nil)))) u hu
theorem list5 {cs : List Value} (h : cs.length = 5) {a b c d e : Value} (h0 : (cs.drop 0).take 1 = [a]) (h1 : (cs.drop 1).take 1 = [b]) (h2 : (cs.drop 2).take 1 = [c]) (h3 : (cs.drop 3).take 1 = [d]) (h4 : (cs.drop 4).take 1 = [e]) : cs = [a, b, c, d, e] := by
  match cs, h with
  | [x0, x1, x2, x3, x4], _ => simp at h0 h1 h2 h3 h4; simp [h0, h1, h2, h3, h4]
theorem zct.mach {t0 t1 t2 t3 t4 : TypeId} (h0 : zbr P t 0 = some (0, t0)) (h1 : zbr P t 1 = some (1, t1)) (h2 : zbr P t 2 = some (2, t2)) (h3 : zbr P t 3 = some (3, t3)) (h4 : zbr P t 4 = some (4, t4)) (hc : P.cellsOf t = 5) (c0 : P.cellsOf t0 = 1) (c1 : P.cellsOf t1 = 1) (c2 : P.cellsOf t2 = 1) (c3 : P.cellsOf t3 = 1) (c4 : P.cellsOf t4 = 1)
    (o0 : zct P kSpot.slice t0) (o1 : zct P (Kd.int .i64).slice t1) (o2 : zct P (Kd.int .i64).slice.slice t2) (o3 : zct P Kd.bool.slice t3) (o4 : zct P Kd.bool t4) : zct P kMach t := fun h => by
  obtain ⟨m0, A0, d0, e0, b0, b0', l0⟩ := trod_field h0 c0 o0 h
  obtain ⟨m1, A1, d1, e1, b1, b1', l1⟩ := trod_field h1 c1 o1 h
  obtain ⟨m2, A2, d2, e2, b2, b2', l2⟩ := trod_field h2 c2 o2 h
  obtain ⟨m3, A3, d3, e3, b3, b3', l3⟩ := trod_field h3 c3 o3 h
  obtain ⟨m4, e4, _⟩ := trod_field h4 c4 o4 h
  have hl := trod_len h0 h
  rw [hc] at hl
  exact ⟨⟨m0, m1, m2, m3, m4⟩, A0, d0, A1, d1, A2, d2, A3, d3, list5 hl e0 e1 e2 e3 e4, ⟨⟨b0, b0'⟩, l0⟩, ⟨⟨b1, b1'⟩, l1⟩, ⟨⟨b2, b2'⟩, l2⟩, ⟨b3, b3'⟩, l3⟩
end
end Gx
namespace Go.Proofs.Ytpdanfggijmnmaa
open Go Go.ChangeShapes Go.WideShapes Go.ChangeAt Go.RowKit Gx
set_option linter.unusedVariables false
theorem own : ownKnob Try.prog.godebug = none := by kernel_rfl
theorem laidOut : laidOutB Try.prog = true := by kernel_rfl
end Go.Proofs.Ytpdanfggijmnmaa
