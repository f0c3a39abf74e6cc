/- My own library for walks through the translated code, and the walks of the functions that the law WrapLeft comes to, part 3; no conditions but those that each contract tells. -/
import Derived.ProofKit
import Derived.OpenShut
import Derived.ShutString
import Derived.ChangeOld
import Derived.Below
import Derived.DataElems
import Derived.Test.YtgpkkkekmimoeaaRows
import Derived.Stop.Joined
import Derived.MakeChecks
import Derived.Test.YtgpkkkekmimoeaaLWrapLeft1
namespace Go.Proofs.Ytgpkkkekmimoeaa
open Go Go.RowKit Gx
set_option maxHeartbeats 3000000
set_option linter.unusedVariables false
set_option linter.unusedSimpArgs false
set_option maxRecDepth 8000
attribute [local irreducible] first has setOf Lib.ctz cutL cutR stayL leftW fromW toW staysW bytTo
theorem in_calls (w : World) (s : BSet) (c : Int) (i1 : inK .u8 c) :
    Calls Try.prog 80 #[.agg (zab s).toArray, .int .u8 c] w fun e w' => ∃ v, e = .returned v ∧ ∃ (hn : Ghost), St w.heap.size w hn w' [] ∧ v = .bool (has s c) := by
 refine za8 Try.func80 rfl Try.ntmps80 rfl ?_
 have S0 := St.init w
 have lo1 := u8_lo i1; have hi1 := u8_hi i1
 refine zad <| zag (l := [0, 1]) rfl ?_
 obtain ⟨b1, w1, r1, g1, T1⟩ := e_box (P := Try.prog) S0 37 (v := .agg (zab s).toArray) (zab s) rfl
 have S2 := T1
 dsimp only [lAa, lAn, lA0, lAs] at S2
 refine p_v (v := .pointer (some ⟨b1, 0, none⟩)) rfl rfl rfl (x_box rfl r1) <| p_v (v := .bool false) rfl rfl rfl (zah rfl) <| zaa <| zad <| zag (l := [0, 1, 2, 3, 4]) rfl <| p_v (v := .int .u8 c) rfl rfl rfl (zac rfl) <| p_v (v := .int .u8 (c / 64)) rfl rfl rfl (x_quo rfl rfl (by first|omega|(simp;omega)|assumption) (by first|omega|(simp;omega)|assumption) (in_u8 (by first|omega|(simp;omega)|assumption) (by first|omega|(simp;omega)|assumption))) <| p_v (v := .pointer (some ⟨b1, 0 + (c / 64).toNat * 1, none⟩)) rfl rfl rfl (x_indexAddr_arr u37 ty35 rfl rfl (by first|omega|(simp;omega)|assumption) (by first|omega|(simp;omega)|assumption)) ?_
 have S3 : St w.heap.size w (fun _ => none) w1 [box b1 37 (encInts .u64 (words s))] := S2
 have in4 := okInts_at (okWords s) (i := c / 64) (by first|omega|(simp;omega)|assumption) (by first|omega|(simp;omega)|assumption)
 have lo4 := u64_lo in4; have hi4 := u64_hi in4
 refine p_v (v := .int .u64 (at_ (words s) (c / 64))) rfl rfl rfl (za0 (seg := [.int .u64 (at_ (words s) (c / 64))]) ty35 rfl (by simp) rfl (CF.box (m := 1) (S3.box_at (j := 0) rfl) (cs := (encInts .u64 (words s))) (encInts_at (okWords s) (by first|omega|(simp;omega)|assumption) (by first|omega|(simp;omega)|assumption)))) <| p_v (v := .int .u64 (at_ (words s) (c / 64))) rfl rfl rfl (zah rfl) <| zaa <| zad <| zad <| zag (l := [0]) rfl <| p_v (v := .int .u8 0) rfl rfl rfl (zah rfl) <| zaa <| zai <| zaz (S := Int × Int) (fun (q_ : Int × Int) ρ w' => match q_ with | (n, i) => ∃ (h : Ghost), Le (fun _ => none) h ∧ St w.heap.size w h w' [] ∧ ρ 1 = .int .u8 c ∧ ρ 5 = .int .u64 n ∧ ρ 6 = .int .u8 i ∧ inK .u64 n ∧ inK .u8 i ∧ (0 ≤ i ∧ i ≤ c % 64 ∧ n = at_ (words s) (c / 64) / 2 ^ i.toNat)) (fun q_ => match q_ with | (n, i) => (64 - i).toNat) (at_ (words s) (c / 64), 0) ⟨(fun _ => none), Le.refl _, S3.sub [] (by decide) rfl _ rfl, rfl, rfl, rfl, (in_u64 (by first|omega|(simp;omega)|assumption) (by first|omega|(simp;omega)|assumption)), (in_u8 (by first|omega|(simp;omega)|assumption) (by first|omega|(simp;omega)|assumption)), (by exact ⟨by omega, by omega, by simp⟩)⟩ ?_
 rintro ⟨n, i⟩ ih5 ρ5 w5 ⟨h5, le5, S5, r5_1, r5_5, r5_6, f5_0, f5_1, hI5⟩
 have lf5_0 := u64_lo f5_0; have hf5_0 := u64_hi f5_0
 have lf5_1 := u8_lo f5_1; have hf5_1 := u8_hi f5_1
 refine zad <| zad <| zag (l := [0, 1, 2, 3]) rfl <| p_v (v := .int .u8 i) rfl rfl rfl (zac r5_6) <| p_v (v := .int .u8 c) rfl rfl rfl (zac r5_1) <| p_v (v := .int .u8 (c % 64)) rfl rfl rfl (x_rem rfl rfl (by first|omega|(simp;omega)|assumption) (by first|omega|(simp;omega)|assumption)) <| p_v (v := .bool (decide (i < (c % 64)))) rfl rfl rfl (x_lss rfl rfl) <| zaa ?_
 refine zar (p := i < (c % 64)) rfl (fun hc6 => ?_) (fun hc6 => ?_)
 ·skip
  refine zas <| zad <| zai <| zag (l := [0, 1, 2]) rfl <| p_v (v := .int .u64 n) rfl rfl rfl (zac r5_5) <| p_v (v := .int .u64 (n / 2)) rfl rfl rfl (x_quo rfl rfl (by first|omega|(simp;omega)|assumption) (by first|omega|(simp;omega)|assumption) (in_u64 (by first|omega|(simp;omega)|assumption) (by first|omega|(simp;omega)|assumption))) <| p_v (v := .int .u64 (n / 2)) rfl rfl rfl (zah rfl) <| zaa <| zak <| zag (l := [0, 1, 2]) rfl <| p_v (v := .int .u8 i) rfl rfl rfl (zac r5_6) <| p_v (v := .int .u8 (i + 1)) rfl rfl rfl (x_add rfl rfl (in_u8 (by first|omega|(simp;omega)|assumption) (by first|omega|(simp;omega)|assumption))) ?_
  refine p_v (v := .int .u8 (i + 1)) rfl rfl rfl (zah rfl) <| zaa ?_
  refine ih5 (n / 2, i + 1) _ _ (by dsimp only; omega) ⟨h5, le5, S5.sub [] (by decide) rfl _ rfl, r5_1, rfl, rfl, (in_u64 (by first|omega|(simp;omega)|assumption) (by first|omega|(simp;omega)|assumption)), (in_u8 (by first|omega|(simp;omega)|assumption) (by first|omega|(simp;omega)|assumption)), (by exact ⟨by omega, by omega, by rw [hI5.2.2]; exact half_step _ _ hI5.1⟩)⟩
 refine zat rfl <| zad <| zag (l := [0, 1, 2, 3]) rfl <| p_v (v := .int .u64 n) rfl rfl rfl (zac r5_5) <| p_v (v := .int .u64 (n % 2)) rfl rfl rfl (x_rem rfl rfl (by first|omega|(simp;omega)|assumption) (by first|omega|(simp;omega)|assumption)) <| p_v (v := .bool (decide ((n % 2) = 1))) rfl rfl rfl (x_eql rfl rfl) <| p_v (v := .bool (decide ((n % 2) = 1))) rfl rfl rfl (zah rfl) <| zaa <| run_ret Try.func80 (res1 rfl (zbc (v := .bool (decide ((n % 2) = 1))) rfl)) ?_
 have q0 : (has s c : Bool) = decide ((n % 2) = 1) := by
  rw [hI5.2.2]; exact (bit_half s (by omega) (by omega) (by omega)).symm
 refine ⟨_, rfl, h5, ?_, ?_⟩
 · exact S5.sub [] (by decide) rfl _ rfl
 · first | rfl | (simp only [q0]; rfl) | (simp only [q0])
theorem left_calls (w : World) (xw : ByteArray) (s0 : xw.size ≤ maxLen) (xl : BSet) (xr : BSet) (xd : BSet) (pre0 : xw.size ≤ 1000000) :
    Calls Try.prog 21 #[.string xw, .agg (zab xl).toArray, .agg (zab xr).toArray, .agg (zab xd).toArray] w fun e w' => ∃ v, e = .returned v ∧ ∃ (hn : Ghost), St w.heap.size w hn w' [] ∧ v = .string (leftW xw xl xr xd) ∧ (leftW xw xl xr xd).size ≤ maxLen := by
 refine za8 Try.func21 rfl Try.ntmps21 rfl ?_
 have S0 := St.init w
 have sz0 := s0; simp only [maxLen] at sz0
 refine zad <| zag (l := [0, 1, 2, 3]) rfl ?_
 obtain ⟨b1, w1, r1, g1, T1⟩ := e_box (P := Try.prog) S0 37 (v := .agg (zab xl).toArray) (zab xl) rfl
 have S2 := T1
 dsimp only [lAa, lAn, lA0, lAs] at S2
 refine p_v (v := .pointer (some ⟨b1, 0, none⟩)) rfl rfl rfl (x_box rfl r1) ?_
 obtain ⟨b3, w3, r3, g3, T3⟩ := e_box (P := Try.prog) S2 37 (v := .agg (zab xr).toArray) (zab xr) rfl
 have S4 := T3
 dsimp only [lAa, lAn, lA0, lAs] at S4
 refine p_v (v := .pointer (some ⟨b3, 0, none⟩)) rfl rfl rfl (x_box rfl r3) ?_
 obtain ⟨b5, w5, r5, g5, T5⟩ := e_box (P := Try.prog) S4 37 (v := .agg (zab xd).toArray) (zab xd) rfl
 have S6 := T5
 dsimp only [lAa, lAn, lA0, lAs] at S6
 refine p_v (v := .pointer (some ⟨b5, 0, none⟩)) rfl rfl rfl (x_box rfl r5) <| p_v (v := .string (⟨#[]⟩ : ByteArray)) rfl rfl rfl (zah rfl) <| zaa <| zad <| zai <| zaz (S := ByteArray) (fun (q_ : ByteArray) ρ w' => match q_ with | xw2 => ∃ (h : Ghost), Le (fun _ => none) h ∧ St w.heap.size w h w' [box b1 37 (zab xl), box b3 37 (zab xr), box b5 37 (zab xd)] ∧ ρ 0 = .string xw2 ∧ ρ 5 = .pointer (some ⟨b1, 0, none⟩) ∧ ρ 6 = .pointer (some ⟨b3, 0, none⟩) ∧ ρ 7 = .pointer (some ⟨b5, 0, none⟩) ∧ xw2.size ≤ maxLen ∧ (xw2.size ≤ xw.size ∧ cutL xl (zaf xw) = cutL xl (zaf xw2))) (fun q_ => match q_ with | xw2 => xw2.size) (xw) ⟨(fun _ => none), Le.refl _, S6.sub [0, 1, 2] (by decide) rfl _ rfl, rfl, rfl, rfl, rfl, s0, (by exact ⟨by omega, rfl⟩)⟩ ?_
 rintro xw2 ih7 ρ7 w7 ⟨h7, le7, S7, r7_0, r7_5, r7_6, r7_7, f7_0, hI7⟩
 have bl7_0 := f7_0; simp only [maxLen] at bl7_0
 refine zad <| zad ?_
 by_cases hc8 : xw2 ≠ (⟨#[]⟩ : ByteArray)
 ·skip
  have hz_ := size_some hc8
  have by9 := zaq xw2 0
  have hf11 : (CFs ⟨b1, 0, none⟩ (zab xl)).1 w7 := (CF.box (m := 4) (S7.box_at (j := 0) rfl) rfl)
  refine daS (hkC 3 hf11 (hkN (w := w7))) 8 rfl mixed ?_
  intro wd12 gd12 hd12
  have S13 := S7.keep gd12
  have hf14 := spUp gd12 hf11
  refine qd0 (i := 0) (v := .string xw2) rfl (by decide +kernel) rfl rfl (zac r7_0) (zae rfl) <| qd0 (i := 1) (v := .bool (decide (xw2 ≠ (⟨#[]⟩ : ByteArray)))) rfl (by decide +kernel) rfl rfl (zbe rfl rfl) (zae rfl) <| qd0 (i := 2) (v := .bool (decide (xw2 ≠ (⟨#[]⟩ : ByteArray)))) rfl (by decide +kernel) rfl rfl (zac rfl) (zae rfl) <| qd1 0 (i := 3) (v := .agg (zab xl).toArray) rfl rfl (by decide +kernel) (wo 2 13 rfl rfl (bT hc8) rfl) rfl (fun wq hq => (za0 (seg := (zab xl)) ty37 rfl (by simp) r7_5 hq)) (of_eq hf14 (of_nil _ _)) <| qd0 (i := 4) (v := .string xw2) rfl (by decide +kernel) (wo 2 13 rfl rfl (bT hc8) rfl) rfl (zac r7_0) (zae rfl) <| qd0 (i := 5) (v := .int .u8 (byt xw2 0)) rfl (by decide +kernel) (wo 2 13 rfl rfl (bT hc8) rfl) rfl (zao u9 rfl rfl (by first|omega|(simp;omega)|assumption) (by first|omega|(simp;omega)|assumption)) (zae rfl) <| d_m (i := 6) (v := .bool (has xl (byt xw2 0))) (fun _ => True) (fun _ ho => trivial) rfl (by decide +kernel) (by decide +kernel) (by decide +kernel) (wo 2 13 rfl rfl (bT hc8) rfl) rfl (fun wq => (zbd (args := [.agg (zab xl).toArray, .int .u8 (byt xw2 0)]) ca55 rfl rfl)) (fun wq hq => (has_calls wq xl (byt xw2 0) (in_u8 (by first|omega|(simp;omega)|assumption) (by first|omega|(simp;omega)|assumption))).mono fun e w2 he => by obtain ⟨_, rfl, _, T, rfl⟩ := he; exact ⟨rfl, Chg.of_below T.below⟩) (zae rfl) <| qd0 (i := 7) (v := .bool (has xl (byt xw2 0))) rfl (by decide +kernel) rfl rfl (x_pick_t (bT hc8) rfl) (zae rfl) <| zay (by decide +kernel) ?_
  intro wd15 gd15
  have S16 := S13.keep gd15
  refine zav (b := has xl (byt xw2 0)) rfl (fun hc17 => ?_) (fun hc17 => ?_)
  ·skip
   refine zas <| zai <| zag (l := [0, 1, 2]) rfl <| p_v (v := .string xw2) rfl rfl rfl (zac r7_0) ?_
   have sx18 : ((subB xw2 (1 : Int) xw2.size).size : Int) = (xw2.size : Int) - (1 : Int) := sub_size xw2 (by first|omega|(simp;omega)|assumption) (by first|omega|(simp;omega)|assumption) (by omega)
   have sh18 : (subB xw2 (1 : Int) xw2.size).size ≤ maxLen := by have := sx18; unfold maxLen; omega
   refine p_v (v := .string (subB xw2 (1 : Int) xw2.size)) rfl rfl rfl (x_slice (lv := some (.int .i64 (1 : Int))) (hv := none) rfl rfl rfl (r_sub_from u9 (by first|omega|(simp;omega)|assumption) (by first|omega|(simp;omega)|assumption))) <| p_v (v := .string (subB xw2 (1 : Int) xw2.size)) rfl rfl rfl (zah rfl) <| zaa <| zak ?_
   refine ih7 (subB xw2 (1 : Int) xw2.size) _ _ (by dsimp only; omega) ⟨h7, le7, S16.sub [0, 1, 2] (by decide) rfl _ rfl, rfl, r7_5, r7_6, r7_7, sh18, (by exact ⟨by omega, leftW_1 hI7.2 (by omega) (by assumption)⟩)⟩
  refine zat rfl <| zad <| zai <| zaz (S := ByteArray) (fun (q_ : ByteArray) ρ w' => match q_ with | xw3 => ∃ (h : Ghost), Le h7 h ∧ St w.heap.size w h w' [box b3 37 (zab xr), box b5 37 (zab xd)] ∧ ρ 0 = .string xw3 ∧ ρ 6 = .pointer (some ⟨b3, 0, none⟩) ∧ ρ 7 = .pointer (some ⟨b5, 0, none⟩) ∧ xw3.size ≤ maxLen ∧ (xw3.size ≤ xw2.size ∧ cutR xr (zaf xw2) = cutR xr (zaf xw3))) (fun q_ => match q_ with | xw3 => xw3.size) (xw2) ⟨h7, Le.refl _, S16.sub [1, 2] (by decide) rfl _ rfl, r7_0, r7_6, r7_7, f7_0, (by exact ⟨by omega, rfl⟩)⟩ ?_
  rintro xw3 ih19 ρ19 w19 ⟨h19, le19, S19, r19_0, r19_6, r19_7, f19_0, hI19⟩
  have bl19_0 := f19_0; simp only [maxLen] at bl19_0
  refine zad <| zad ?_
  by_cases hc20 : xw3 ≠ (⟨#[]⟩ : ByteArray)
  ·skip
   have hz_ := size_some hc20
   have by21 := zaq xw3 ((xw3.size : Int) - 1)
   have hf23 : (CFs ⟨b3, 0, none⟩ (zab xr)).1 w19 := (CF.box (m := 4) (S19.box_at (j := 0) rfl) rfl)
   refine daS (hkC 3 hf23 (hkN (w := w19))) 11 rfl mixed ?_
   intro wd24 gd24 hd24
   have S25 := S19.keep gd24
   have hf26 := spUp gd24 hf23
   refine qd0 (i := 0) (v := .string xw3) rfl (by decide +kernel) rfl rfl (zac r19_0) (zae rfl) <| qd0 (i := 1) (v := .bool (decide (xw3 ≠ (⟨#[]⟩ : ByteArray)))) rfl (by decide +kernel) rfl rfl (zbe rfl rfl) (zae rfl) <| qd0 (i := 2) (v := .bool (decide (xw3 ≠ (⟨#[]⟩ : ByteArray)))) rfl (by decide +kernel) rfl rfl (zac rfl) (zae rfl) <| qd1 0 (i := 3) (v := .agg (zab xr).toArray) rfl rfl (by decide +kernel) (wo 2 23 rfl rfl (bT hc20) rfl) rfl (fun wq hq => (za0 (seg := (zab xr)) ty37 rfl (by simp) r19_6 hq)) (of_eq hf26 (of_nil _ _)) <| qd0 (i := 4) (v := .string xw3) rfl (by decide +kernel) (wo 2 23 rfl rfl (bT hc20) rfl) rfl (zac r19_0) (zae rfl) <| qd0 (i := 5) (v := .string xw3) rfl (by decide +kernel) (wo 2 23 rfl rfl (bT hc20) rfl) rfl (zac r19_0) (zae rfl) <| qd0 (i := 6) (v := .int .i64 (xw3.size : Int)) rfl (by decide +kernel) (wo 2 23 rfl rfl (bT hc20) rfl) rfl (zap u9 rfl) (zae rfl) <| qd0 (i := 7) (v := .int .i64 ((xw3.size : Int) - 1)) rfl (by decide +kernel) (wo 2 23 rfl rfl (bT hc20) rfl) rfl (x_sub rfl rfl (zan (by first|omega|(simp;omega)|assumption) (by first|omega|(simp;omega)|assumption))) (zae rfl) <| qd0 (i := 8) (v := .int .u8 (byt xw3 ((xw3.size : Int) - 1))) rfl (by decide +kernel) (wo 2 23 rfl rfl (bT hc20) rfl) rfl (zao u9 rfl rfl (by first|omega|(simp;omega)|assumption) (by first|omega|(simp;omega)|assumption)) (zae rfl) <| d_m (i := 9) (v := .bool (has xr (byt xw3 ((xw3.size : Int) - 1)))) (fun _ => True) (fun _ ho => trivial) rfl (by decide +kernel) (by decide +kernel) (by decide +kernel) (wo 2 23 rfl rfl (bT hc20) rfl) rfl (fun wq => (zbd (args := [.agg (zab xr).toArray, .int .u8 (byt xw3 ((xw3.size : Int) - 1))]) ca55 rfl rfl)) (fun wq hq => (has_calls wq xr (byt xw3 ((xw3.size : Int) - 1)) (in_u8 (by first|omega|(simp;omega)|assumption) (by first|omega|(simp;omega)|assumption))).mono fun e w2 he => by obtain ⟨_, rfl, _, T, rfl⟩ := he; exact ⟨rfl, Chg.of_below T.below⟩) (zae rfl) <| qd0 (i := 10) (v := .bool (has xr (byt xw3 ((xw3.size : Int) - 1)))) rfl (by decide +kernel) rfl rfl (x_pick_t (bT hc20) rfl) (zae rfl) <| zay (by decide +kernel) ?_
   intro wd27 gd27
   have S28 := S25.keep gd27
   refine zav (b := has xr (byt xw3 ((xw3.size : Int) - 1))) rfl (fun hc29 => ?_) (fun hc29 => ?_)
   ·skip
    refine zas <| zai <| zag (l := [0, 1, 2, 3, 4, 5]) rfl <| p_v (v := .string xw3) rfl rfl rfl (zac r19_0) <| p_v (v := .string xw3) rfl rfl rfl (zac r19_0) <| p_v (v := .int .i64 (xw3.size : Int)) rfl rfl rfl (zap u9 rfl) <| p_v (v := .int .i64 ((xw3.size : Int) - 1)) rfl rfl rfl (x_sub rfl rfl (zan (by first|omega|(simp;omega)|assumption) (by first|omega|(simp;omega)|assumption))) ?_
    have sx30 : ((subB xw3 0 ((xw3.size : Int) - 1)).size : Int) = ((xw3.size : Int) - 1) := (sub_size xw3 (by omega) (by first|omega|(simp;omega)|assumption) (by first|omega|(simp;omega)|assumption)).trans (by omega)
    have sh30 : (subB xw3 0 ((xw3.size : Int) - 1)).size ≤ maxLen := by have := sx30; unfold maxLen; omega
    refine p_v (v := .string (subB xw3 0 ((xw3.size : Int) - 1))) rfl rfl rfl (x_slice (lv := none) (hv := some (.int .i64 ((xw3.size : Int) - 1))) rfl rfl rfl (r_sub_to u9 (by first|omega|(simp;omega)|assumption) (by first|omega|(simp;omega)|assumption))) <| p_v (v := .string (subB xw3 0 ((xw3.size : Int) - 1))) rfl rfl rfl (zah rfl) <| zaa <| zak ?_
    refine ih19 (subB xw3 0 ((xw3.size : Int) - 1)) _ _ (by dsimp only; omega) ⟨h19, le19, S28.sub [0, 1] (by decide) rfl _ rfl, rfl, r19_6, r19_7, sh30, (by exact ⟨by omega, leftW_2 hI19.2 (by omega) (by assumption)⟩)⟩
   refine zat rfl <| zad <| zag (l := [0]) rfl <| p_v (v := .slice none 0 0) rfl rfl rfl (zah rfl) <| zaa <| zad <| zad <| zag (l := [0, 1, 2]) rfl <| p_v (v := .string xw3) rfl rfl rfl (zac r19_0) <| p_v (v := .int .i64 (xw3.size : Int)) rfl rfl rfl (zap u9 rfl) <| p_v (v := .int .i64 0) rfl rfl rfl (zac rfl) <| zaa ?_
   refine zai ?_
   have T31 := S28.row_nil 5 (Kd.int .u8)
   obtain ⟨vn31, ev31, T31⟩ : ∃ v, v = (.slice none 0 0 : Value) ∧ St w.heap.size w h19 wd27 ([box b3 37 (zab xr), box b5 37 (zab xd)] ++ [row 5 (Kd.int .u8) v []]) := ⟨_, rfl, T31⟩
   have S32 := T31
   dsimp only [lAa, lAn, lA0, lAs] at S32
   refine zaz (S := (List Int) × Int) (fun (q_ : (List Int) × Int) ρ w' => match q_ with | (b, t39) => ∃ (h : Ghost) (v_b : Value), Le h19 h ∧ St w.heap.size w h w' [box b5 37 (zab xd), row 5 (Kd.int .u8) v_b b] ∧ ρ 0 = .string xw3 ∧ ρ 7 = .pointer (some ⟨b5, 0, none⟩) ∧ ρ 9 = v_b ∧ ρ 38 = .int .i64 (xw3.size : Int) ∧ ρ 39 = .int .i64 t39 ∧ inK .i64 t39 ∧ (0 ≤ t39 ∧ t39 ≤ (xw3.size : Int) ∧ b = stayL xd ((zaf xw3).take t39.toNat))) (fun q_ => match q_ with | (b, t39) => (xw3.size - t39).toNat) (([] : List Int), 0) ⟨h19, vn31, Le.refl _, S32.sub [1, 2] (by decide) rfl _ rfl, r19_0, r19_7, (ev31.symm), rfl, rfl, (zan (by first|omega|(simp;omega)|assumption) (by first|omega|(simp;omega)|assumption)), (by exact ⟨by omega, by omega, stayL_0 _ _⟩)⟩ ?_
   rintro ⟨b, t39⟩ ih33 ρ33 w33 ⟨h33, v_b, le33, S33, r33_0, r33_7, r33_9, r33_38, r33_39, f33_0, hI33⟩
   have lf33_0 := i64_lo f33_0; have hf33_0 := i64_hi f33_0
   have rl33_1 := S33.row_le (j := 1) rfl; simp only [maxLen] at rl33_1
   have hb_ : (b.length : Int) ≤ t39 := by rw [hI33.2.2]; have h1_ := stayL_len (D := xd) (l := (zaf xw3).take t39.toNat); rw [List.length_take] at h1_; omega
   refine zad <| zag (l := [0]) rfl <| p_v (v := .bool (decide (t39 < (xw3.size : Int)))) rfl rfl rfl (x_lss r33_39 r33_38) <| zaa <| zad ?_
   refine zar (p := t39 < (xw3.size : Int)) rfl (fun hc34 => ?_) (fun hc34 => ?_)
   ·skip
    refine zas <| zad <| zai <| zad <| zag (l := [0, 1]) rfl <| p_v (v := .int .i64 t39) rfl rfl rfl (zac r33_39) <| p_v (v := .int .i64 t39) rfl rfl rfl (zah rfl) <| zaa <| zad ?_
    have by35 := zaq xw3 t39
    have hf37 : (CFs ⟨b5, 0, none⟩ (zab xd)).1 w33 := (CF.box (m := 4) (S33.box_at (j := 0) rfl) rfl)
    refine daS (hkC 0 hf37 (hkN (w := w33))) 6 rfl mixed ?_
    intro wd38 gd38 hd38
    have S39 := S33.keep gd38
    have hf40 := spUp gd38 hf37
    refine qd1 0 (i := 0) (v := .agg (zab xd).toArray) rfl rfl (by decide +kernel) rfl rfl (fun wq hq => (za0 (seg := (zab xd)) ty37 rfl (by simp) r33_7 hq)) (of_eq hf40 (of_nil _ _)) <| qd0 (i := 1) (v := .string xw3) rfl (by decide +kernel) rfl rfl (zac r33_0) (zae rfl) <| qd0 (i := 2) (v := .int .i64 t39) rfl (by decide +kernel) rfl rfl (zac rfl) (zae rfl) <| qd0 (i := 3) (v := .int .u8 (byt xw3 t39)) rfl (by decide +kernel) rfl rfl (zao u9 rfl rfl (by first|omega|(simp;omega)|assumption) (by first|omega|(simp;omega)|assumption)) (zae rfl) <| d_m (i := 4) (v := .bool (has xd (byt xw3 t39))) (fun _ => True) (fun _ ho => trivial) rfl (by decide +kernel) (by decide +kernel) (by decide +kernel) rfl rfl (fun wq => (zbd (args := [.agg (zab xd).toArray, .int .u8 (byt xw3 t39)]) ca55 rfl rfl)) (fun wq hq => (has_calls wq xd (byt xw3 t39) (in_u8 (by first|omega|(simp;omega)|assumption) (by first|omega|(simp;omega)|assumption))).mono fun e w2 he => by obtain ⟨_, rfl, _, T, rfl⟩ := he; exact ⟨rfl, Chg.of_below T.below⟩) (zae rfl) <| qd0 (i := 5) (v := .bool (!(has xd (byt xw3 t39)))) rfl (by decide +kernel) rfl rfl (x_not rfl) (zae rfl) <| zay (by decide +kernel) ?_
    intro wd41 gd41
    have S42 := S39.keep gd41
    refine run_cond_nsplit (b := has xd (byt xw3 t39)) rfl (fun hc43 => ?_) (fun hc43 => ?_)
    ·skip
     refine zag (l := [0, 1, 2, 3, 4, 5, 6]) rfl <| p_v (v := v_b) rfl rfl rfl (zac r33_9) <| p_v (v := .string xw3) rfl rfl rfl (zac r33_0) <| p_v (v := .int .i64 t39) rfl rfl rfl (zac rfl) ?_
     have by44 := zaq xw3 t39
     refine p_v (v := .int .u8 (byt xw3 t39)) rfl rfl rfl (zao u9 rfl rfl (by first|omega|(simp;omega)|assumption) (by first|omega|(simp;omega)|assumption)) ?_
     obtain ⟨v45, w45, r45, g45, T45⟩ := e_build_ones (kd := (Kd.int .u8)) (xs := ([(byt xw3 t39)] : List Int)) (len := 1) [.int .u8 (byt xw3 t39)] S42 u45 ty5 rfl rfl rfl rfl rfl (ones_cons rfl ones_nil) [.int .u8 (byt xw3 t39)] (za9.single (k := (Kd.int .u8)) (h := h33) (x := (byt xw3 t39)) (cs := [.int .u8 (byt xw3 t39)]) ⟨rfl, (in_u8 (by first|omega|(simp;omega)|assumption) (by first|omega|(simp;omega)|assumption))⟩) rfl
     have S46 := T45
     dsimp only [lAa, lAn, lA0, lAs] at S46
     refine p_v (v := v45) rfl rfl rfl (y_build_slice (pv := [(0, .int .u8 (byt xw3 t39))]) rfl r45) ?_
     obtain ⟨A48, c48, ev48, lc48, cm48⟩ := S46.row_val (j := 2) rfl
     obtain ⟨v49, w49, r49, g49, T49⟩ := e_append (kd := (Kd.int .u8)) (A := A48) (c := c48) (ys := ([(byt xw3 t39)] : List Int)) (len := ([(byt xw3 t39)] : List Int).length) 45 S46 u45 ty5 rfl rfl (j := 1) rfl rfl (news_own S46 (j := 2) rfl ev48) (by first|omega|(simp;omega)|assumption) (by first|omega|(simp;omega)|assumption)
     have S50 := T49.fx 1 (row 5 (Kd.int .u8) v49 (b ++ ([(byt xw3 t39)] : List Int))) rfl
     dsimp only [lAa, lAn, lA0, lAs] at S50
     refine p_v (v := v49) rfl rfl rfl (x_append rfl ev48 r49) <| p_v (v := v49) rfl rfl rfl (zah rfl) <| zaa <| zak <| zag (l := [0, 1]) rfl <| p_v (v := .int .i64 (t39 + 1)) rfl rfl rfl (x_add r33_39 rfl (zan (by first|omega|(simp;omega)|assumption) (by first|omega|(simp;omega)|assumption))) <| p_v (v := .int .i64 (t39 + 1)) rfl rfl rfl (zac rfl) <| zaa ?_
     refine ih33 (b ++ ([(byt xw3 t39)] : List Int), t39 + 1) _ _ (by dsimp only; omega) ⟨h33, v49, le33, S50.sub [0, 1] (by decide) rfl _ rfl, r33_0, r33_7, rfl, r33_38, rfl, (zan (by first|omega|(simp;omega)|assumption) (by first|omega|(simp;omega)|assumption)), (by first | exact ⟨by omega, by omega, stayL_no hI33.2.2 hI33.1 (by omega) (by assumption)⟩ | exact ⟨by omega, by omega, stayL_yes hI33.2.2 hI33.1 (by omega) (by assumption)⟩)⟩
    refine zas <| zak <| zag (l := [0, 1]) rfl <| p_v (v := .int .i64 (t39 + 1)) rfl rfl rfl (x_add r33_39 rfl (zan (by first|omega|(simp;omega)|assumption) (by first|omega|(simp;omega)|assumption))) <| p_v (v := .int .i64 (t39 + 1)) rfl rfl rfl (zac rfl) <| zaa ?_
    refine ih33 (b, t39 + 1) _ _ (by dsimp only; omega) ⟨h33, v_b, le33, S42.sub [0, 1] (by decide) rfl _ rfl, r33_0, r33_7, r33_9, r33_38, rfl, (zan (by first|omega|(simp;omega)|assumption) (by first|omega|(simp;omega)|assumption)), (by first | exact ⟨by omega, by omega, stayL_no hI33.2.2 hI33.1 (by omega) (by assumption)⟩ | exact ⟨by omega, by omega, stayL_yes hI33.2.2 hI33.1 (by omega) (by assumption)⟩)⟩
   refine zat rfl <| zad <| zag (l := [0, 1, 2]) rfl <| p_v (v := v_b) rfl rfl rfl (zac r33_9) ?_
   obtain ⟨A51, c51, ev51, lc51, cm51⟩ := S33.row_val (j := 1) rfl
   have sz52 := str_small (xs := b) (Nat.le_trans (And.intro lc51 cm51).1 (And.intro lc51 cm51).2); have bdsz52 := sz52; simp only [maxLen] at bdsz52
   refine p_v (v := .string (strOfNums b)) rfl rfl rfl (x_bytes_string u45 u5 u9 ev51 (row_leads_eq S33 (j := 1) rfl ev51)) <| p_v (v := .string (strOfNums b)) rfl rfl rfl (zah rfl) <| zaa <| run_ret Try.func21 (res1 rfl (zbc (v := .string (strOfNums b)) rfl)) ?_
   have q0 : (leftW xw xl xr xd : ByteArray) = (strOfNums b) := by
    exact leftW_end (leftW_1n hI7.2 (by first | (left; omega) | (right; exact ⟨by omega, by assumption⟩))) (leftW_2n hI19.2 (by first | (left; omega) | (right; exact ⟨by omega, by assumption⟩))) hI33.2.2 (by omega)
   refine ⟨_, rfl, h33, ?_, ?_, ?_⟩
   · exact S33.sub [] (by decide) rfl _ rfl
   · first | rfl | (simp only [q0]; rfl) | (simp only [q0])
   · rw [q0]; first | assumption | exact sz52
  have hz_ := size_empty (Decidable.not_not.1 hc20)
  refine daS (hkN (w := w19)) 11 rfl mixed ?_
  intro wd53 gd53 hd53
  have S54 := S19.keep gd53
  refine qd0 (i := 0) (v := .string xw3) rfl (by decide +kernel) rfl rfl (zac r19_0) (zae rfl) <| qd0 (i := 1) (v := .bool (decide (xw3 ≠ (⟨#[]⟩ : ByteArray)))) rfl (by decide +kernel) rfl rfl (zbe rfl rfl) (zae rfl) <| qd0 (i := 2) (v := .bool (decide (xw3 ≠ (⟨#[]⟩ : ByteArray)))) rfl (by decide +kernel) rfl rfl (zac rfl) (zae rfl) <| za7 (i := 3) rfl (by decide +kernel) (by decide +kernel) (by decide +kernel) (wo 2 23 rfl rfl (bF hc20) rfl) rfl (zae rfl) <| za7 (i := 4) rfl (by decide +kernel) (by decide +kernel) (by decide +kernel) (wo 2 23 rfl rfl (bF hc20) rfl) rfl (zae rfl) <| za7 (i := 5) rfl (by decide +kernel) (by decide +kernel) (by decide +kernel) (wo 2 23 rfl rfl (bF hc20) rfl) rfl (zae rfl) <| za7 (i := 6) rfl (by decide +kernel) (by decide +kernel) (by decide +kernel) (wo 2 23 rfl rfl (bF hc20) rfl) rfl (zae rfl) <| za7 (i := 7) rfl (by decide +kernel) (by decide +kernel) (by decide +kernel) (wo 2 23 rfl rfl (bF hc20) rfl) rfl (zae rfl) <| za7 (i := 8) rfl (by decide +kernel) (by decide +kernel) (by decide +kernel) (wo 2 23 rfl rfl (bF hc20) rfl) rfl (zae rfl) <| za7 (i := 9) rfl (by decide +kernel) (by decide +kernel) (by decide +kernel) (wo 2 23 rfl rfl (bF hc20) rfl) rfl (zae rfl) <| qd0 (i := 10) (v := .bool false) rfl (by decide +kernel) rfl rfl (x_pick_f (bF hc20) rfl) (zae rfl) <| zay (by decide +kernel) ?_
  intro wd55 gd55
  have S56 := S54.keep gd55
  refine run_cond (b := false) rfl ?_
  simp only [if_true, if_false, Bool.false_eq_true]
  refine zat rfl <| zad <| zag (l := [0]) rfl <| p_v (v := .slice none 0 0) rfl rfl rfl (zah rfl) <| zaa <| zad <| zad <| zag (l := [0, 1, 2]) rfl <| p_v (v := .string xw3) rfl rfl rfl (zac r19_0) <| p_v (v := .int .i64 (xw3.size : Int)) rfl rfl rfl (zap u9 rfl) <| p_v (v := .int .i64 0) rfl rfl rfl (zac rfl) <| zaa ?_
  refine zai ?_
  have T57 := S56.row_nil 5 (Kd.int .u8)
  obtain ⟨vn57, ev57, T57⟩ : ∃ v, v = (.slice none 0 0 : Value) ∧ St w.heap.size w h19 wd55 ([box b3 37 (zab xr), box b5 37 (zab xd)] ++ [row 5 (Kd.int .u8) v []]) := ⟨_, rfl, T57⟩
  have S58 := T57
  dsimp only [lAa, lAn, lA0, lAs] at S58
  refine zaz (S := (List Int) × Int) (fun (q_ : (List Int) × Int) ρ w' => match q_ with | (b, t39) => ∃ (h : Ghost) (v_b : Value), Le h19 h ∧ St w.heap.size w h w' [box b5 37 (zab xd), row 5 (Kd.int .u8) v_b b] ∧ ρ 0 = .string xw3 ∧ ρ 7 = .pointer (some ⟨b5, 0, none⟩) ∧ ρ 9 = v_b ∧ ρ 38 = .int .i64 (xw3.size : Int) ∧ ρ 39 = .int .i64 t39 ∧ inK .i64 t39 ∧ (0 ≤ t39 ∧ t39 ≤ (xw3.size : Int) ∧ b = stayL xd ((zaf xw3).take t39.toNat))) (fun q_ => match q_ with | (b, t39) => (xw3.size - t39).toNat) (([] : List Int), 0) ⟨h19, vn57, Le.refl _, S58.sub [1, 2] (by decide) rfl _ rfl, r19_0, r19_7, (ev57.symm), rfl, rfl, (zan (by first|omega|(simp;omega)|assumption) (by first|omega|(simp;omega)|assumption)), (by exact ⟨by omega, by omega, stayL_0 _ _⟩)⟩ ?_
  rintro ⟨b, t39⟩ ih59 ρ59 w59 ⟨h59, v_b, le59, S59, r59_0, r59_7, r59_9, r59_38, r59_39, f59_0, hI59⟩
  have lf59_0 := i64_lo f59_0; have hf59_0 := i64_hi f59_0
  have rl59_1 := S59.row_le (j := 1) rfl; simp only [maxLen] at rl59_1
  have hb_ : (b.length : Int) ≤ t39 := by rw [hI59.2.2]; have h1_ := stayL_len (D := xd) (l := (zaf xw3).take t39.toNat); rw [List.length_take] at h1_; omega
  refine zad <| zag (l := [0]) rfl <| p_v (v := .bool (decide (t39 < (xw3.size : Int)))) rfl rfl rfl (x_lss r59_39 r59_38) <| zaa <| zad ?_
  refine zar (p := t39 < (xw3.size : Int)) rfl (fun hc60 => ?_) (fun hc60 => ?_)
  ·skip
   refine zas <| zad <| zai <| zad <| zag (l := [0, 1]) rfl <| p_v (v := .int .i64 t39) rfl rfl rfl (zac r59_39) <| p_v (v := .int .i64 t39) rfl rfl rfl (zah rfl) <| zaa <| zad ?_
   have by61 := zaq xw3 t39
   have hf63 : (CFs ⟨b5, 0, none⟩ (zab xd)).1 w59 := (CF.box (m := 4) (S59.box_at (j := 0) rfl) rfl)
   refine daS (hkC 0 hf63 (hkN (w := w59))) 6 rfl mixed ?_
   intro wd64 gd64 hd64
   have S65 := S59.keep gd64
   have hf66 := spUp gd64 hf63
   refine qd1 0 (i := 0) (v := .agg (zab xd).toArray) rfl rfl (by decide +kernel) rfl rfl (fun wq hq => (za0 (seg := (zab xd)) ty37 rfl (by simp) r59_7 hq)) (of_eq hf66 (of_nil _ _)) <| qd0 (i := 1) (v := .string xw3) rfl (by decide +kernel) rfl rfl (zac r59_0) (zae rfl) <| qd0 (i := 2) (v := .int .i64 t39) rfl (by decide +kernel) rfl rfl (zac rfl) (zae rfl) <| qd0 (i := 3) (v := .int .u8 (byt xw3 t39)) rfl (by decide +kernel) rfl rfl (zao u9 rfl rfl (by first|omega|(simp;omega)|assumption) (by first|omega|(simp;omega)|assumption)) (zae rfl) <| d_m (i := 4) (v := .bool (has xd (byt xw3 t39))) (fun _ => True) (fun _ ho => trivial) rfl (by decide +kernel) (by decide +kernel) (by decide +kernel) rfl rfl (fun wq => (zbd (args := [.agg (zab xd).toArray, .int .u8 (byt xw3 t39)]) ca55 rfl rfl)) (fun wq hq => (has_calls wq xd (byt xw3 t39) (in_u8 (by first|omega|(simp;omega)|assumption) (by first|omega|(simp;omega)|assumption))).mono fun e w2 he => by obtain ⟨_, rfl, _, T, rfl⟩ := he; exact ⟨rfl, Chg.of_below T.below⟩) (zae rfl) <| qd0 (i := 5) (v := .bool (!(has xd (byt xw3 t39)))) rfl (by decide +kernel) rfl rfl (x_not rfl) (zae rfl) <| zay (by decide +kernel) ?_
   intro wd67 gd67
   have S68 := S65.keep gd67
   refine run_cond_nsplit (b := has xd (byt xw3 t39)) rfl (fun hc69 => ?_) (fun hc69 => ?_)
   ·skip
    refine zag (l := [0, 1, 2, 3, 4, 5, 6]) rfl <| p_v (v := v_b) rfl rfl rfl (zac r59_9) <| p_v (v := .string xw3) rfl rfl rfl (zac r59_0) <| p_v (v := .int .i64 t39) rfl rfl rfl (zac rfl) ?_
    have by70 := zaq xw3 t39
    refine p_v (v := .int .u8 (byt xw3 t39)) rfl rfl rfl (zao u9 rfl rfl (by first|omega|(simp;omega)|assumption) (by first|omega|(simp;omega)|assumption)) ?_
    obtain ⟨v71, w71, r71, g71, T71⟩ := e_build_ones (kd := (Kd.int .u8)) (xs := ([(byt xw3 t39)] : List Int)) (len := 1) [.int .u8 (byt xw3 t39)] S68 u45 ty5 rfl rfl rfl rfl rfl (ones_cons rfl ones_nil) [.int .u8 (byt xw3 t39)] (za9.single (k := (Kd.int .u8)) (h := h59) (x := (byt xw3 t39)) (cs := [.int .u8 (byt xw3 t39)]) ⟨rfl, (in_u8 (by first|omega|(simp;omega)|assumption) (by first|omega|(simp;omega)|assumption))⟩) rfl
    have S72 := T71
    dsimp only [lAa, lAn, lA0, lAs] at S72
    refine p_v (v := v71) rfl rfl rfl (y_build_slice (pv := [(0, .int .u8 (byt xw3 t39))]) rfl r71) ?_
    obtain ⟨A74, c74, ev74, lc74, cm74⟩ := S72.row_val (j := 2) rfl
    obtain ⟨v75, w75, r75, g75, T75⟩ := e_append (kd := (Kd.int .u8)) (A := A74) (c := c74) (ys := ([(byt xw3 t39)] : List Int)) (len := ([(byt xw3 t39)] : List Int).length) 45 S72 u45 ty5 rfl rfl (j := 1) rfl rfl (news_own S72 (j := 2) rfl ev74) (by first|omega|(simp;omega)|assumption) (by first|omega|(simp;omega)|assumption)
    have S76 := T75.fx 1 (row 5 (Kd.int .u8) v75 (b ++ ([(byt xw3 t39)] : List Int))) rfl
    dsimp only [lAa, lAn, lA0, lAs] at S76
    refine p_v (v := v75) rfl rfl rfl (x_append rfl ev74 r75) <| p_v (v := v75) rfl rfl rfl (zah rfl) <| zaa <| zak <| zag (l := [0, 1]) rfl <| p_v (v := .int .i64 (t39 + 1)) rfl rfl rfl (x_add r59_39 rfl (zan (by first|omega|(simp;omega)|assumption) (by first|omega|(simp;omega)|assumption))) <| p_v (v := .int .i64 (t39 + 1)) rfl rfl rfl (zac rfl) <| zaa ?_
    refine ih59 (b ++ ([(byt xw3 t39)] : List Int), t39 + 1) _ _ (by dsimp only; omega) ⟨h59, v75, le59, S76.sub [0, 1] (by decide) rfl _ rfl, r59_0, r59_7, rfl, r59_38, rfl, (zan (by first|omega|(simp;omega)|assumption) (by first|omega|(simp;omega)|assumption)), (by first | exact ⟨by omega, by omega, stayL_no hI59.2.2 hI59.1 (by omega) (by assumption)⟩ | exact ⟨by omega, by omega, stayL_yes hI59.2.2 hI59.1 (by omega) (by assumption)⟩)⟩
   refine zas <| zak <| zag (l := [0, 1]) rfl <| p_v (v := .int .i64 (t39 + 1)) rfl rfl rfl (x_add r59_39 rfl (zan (by first|omega|(simp;omega)|assumption) (by first|omega|(simp;omega)|assumption))) <| p_v (v := .int .i64 (t39 + 1)) rfl rfl rfl (zac rfl) <| zaa ?_
   refine ih59 (b, t39 + 1) _ _ (by dsimp only; omega) ⟨h59, v_b, le59, S68.sub [0, 1] (by decide) rfl _ rfl, r59_0, r59_7, r59_9, r59_38, rfl, (zan (by first|omega|(simp;omega)|assumption) (by first|omega|(simp;omega)|assumption)), (by first | exact ⟨by omega, by omega, stayL_no hI59.2.2 hI59.1 (by omega) (by assumption)⟩ | exact ⟨by omega, by omega, stayL_yes hI59.2.2 hI59.1 (by omega) (by assumption)⟩)⟩
  refine zat rfl <| zad <| zag (l := [0, 1, 2]) rfl <| p_v (v := v_b) rfl rfl rfl (zac r59_9) ?_
  obtain ⟨A77, c77, ev77, lc77, cm77⟩ := S59.row_val (j := 1) rfl
  have sz78 := str_small (xs := b) (Nat.le_trans (And.intro lc77 cm77).1 (And.intro lc77 cm77).2); have bdsz78 := sz78; simp only [maxLen] at bdsz78
  refine p_v (v := .string (strOfNums b)) rfl rfl rfl (x_bytes_string u45 u5 u9 ev77 (row_leads_eq S59 (j := 1) rfl ev77)) <| p_v (v := .string (strOfNums b)) rfl rfl rfl (zah rfl) <| zaa <| run_ret Try.func21 (res1 rfl (zbc (v := .string (strOfNums b)) rfl)) ?_
  have q0 : (leftW xw xl xr xd : ByteArray) = (strOfNums b) := by
   exact leftW_end (leftW_1n hI7.2 (by first | (left; omega) | (right; exact ⟨by omega, by assumption⟩))) (leftW_2n hI19.2 (by first | (left; omega) | (right; exact ⟨by omega, by assumption⟩))) hI59.2.2 (by omega)
  refine ⟨_, rfl, h59, ?_, ?_, ?_⟩
  · exact S59.sub [] (by decide) rfl _ rfl
  · first | rfl | (simp only [q0]; rfl) | (simp only [q0])
  · rw [q0]; first | assumption | exact sz78
 have hz_ := size_empty (Decidable.not_not.1 hc8)
 refine daS (hkN (w := w7)) 8 rfl mixed ?_
 intro wd79 gd79 hd79
 have S80 := S7.keep gd79
 refine qd0 (i := 0) (v := .string xw2) rfl (by decide +kernel) rfl rfl (zac r7_0) (zae rfl) <| qd0 (i := 1) (v := .bool (decide (xw2 ≠ (⟨#[]⟩ : ByteArray)))) rfl (by decide +kernel) rfl rfl (zbe rfl rfl) (zae rfl) <| qd0 (i := 2) (v := .bool (decide (xw2 ≠ (⟨#[]⟩ : ByteArray)))) rfl (by decide +kernel) rfl rfl (zac rfl) (zae rfl) <| za7 (i := 3) rfl (by decide +kernel) (by decide +kernel) (by decide +kernel) (wo 2 13 rfl rfl (bF hc8) rfl) rfl (zae rfl) <| za7 (i := 4) rfl (by decide +kernel) (by decide +kernel) (by decide +kernel) (wo 2 13 rfl rfl (bF hc8) rfl) rfl (zae rfl) <| za7 (i := 5) rfl (by decide +kernel) (by decide +kernel) (by decide +kernel) (wo 2 13 rfl rfl (bF hc8) rfl) rfl (zae rfl) <| za7 (i := 6) rfl (by decide +kernel) (by decide +kernel) (by decide +kernel) (wo 2 13 rfl rfl (bF hc8) rfl) rfl (zae rfl) <| qd0 (i := 7) (v := .bool false) rfl (by decide +kernel) rfl rfl (x_pick_f (bF hc8) rfl) (zae rfl) <| zay (by decide +kernel) ?_
 intro wd81 gd81
 have S82 := S80.keep gd81
 refine run_cond (b := false) rfl ?_
 simp only [if_true, if_false, Bool.false_eq_true]
 refine zat rfl <| zad <| zai <| zaz (S := ByteArray) (fun (q_ : ByteArray) ρ w' => match q_ with | xw3 => ∃ (h : Ghost), Le h7 h ∧ St w.heap.size w h w' [box b3 37 (zab xr), box b5 37 (zab xd)] ∧ ρ 0 = .string xw3 ∧ ρ 6 = .pointer (some ⟨b3, 0, none⟩) ∧ ρ 7 = .pointer (some ⟨b5, 0, none⟩) ∧ xw3.size ≤ maxLen ∧ (xw3.size ≤ xw2.size ∧ cutR xr (zaf xw2) = cutR xr (zaf xw3))) (fun q_ => match q_ with | xw3 => xw3.size) (xw2) ⟨h7, Le.refl _, S82.sub [1, 2] (by decide) rfl _ rfl, r7_0, r7_6, r7_7, f7_0, (by exact ⟨by omega, rfl⟩)⟩ ?_
 rintro xw3 ih83 ρ83 w83 ⟨h83, le83, S83, r83_0, r83_6, r83_7, f83_0, hI83⟩
 have bl83_0 := f83_0; simp only [maxLen] at bl83_0
 refine zad <| zad ?_
 by_cases hc84 : xw3 ≠ (⟨#[]⟩ : ByteArray)
 ·skip
  have hz_ := size_some hc84
  have by85 := zaq xw3 ((xw3.size : Int) - 1)
  have hf87 : (CFs ⟨b3, 0, none⟩ (zab xr)).1 w83 := (CF.box (m := 4) (S83.box_at (j := 0) rfl) rfl)
  refine daS (hkC 3 hf87 (hkN (w := w83))) 11 rfl mixed ?_
  intro wd88 gd88 hd88
  have S89 := S83.keep gd88
  have hf90 := spUp gd88 hf87
  refine qd0 (i := 0) (v := .string xw3) rfl (by decide +kernel) rfl rfl (zac r83_0) (zae rfl) <| qd0 (i := 1) (v := .bool (decide (xw3 ≠ (⟨#[]⟩ : ByteArray)))) rfl (by decide +kernel) rfl rfl (zbe rfl rfl) (zae rfl) <| qd0 (i := 2) (v := .bool (decide (xw3 ≠ (⟨#[]⟩ : ByteArray)))) rfl (by decide +kernel) rfl rfl (zac rfl) (zae rfl) <| qd1 0 (i := 3) (v := .agg (zab xr).toArray) rfl rfl (by decide +kernel) (wo 2 23 rfl rfl (bT hc84) rfl) rfl (fun wq hq => (za0 (seg := (zab xr)) ty37 rfl (by simp) r83_6 hq)) (of_eq hf90 (of_nil _ _)) <| qd0 (i := 4) (v := .string xw3) rfl (by decide +kernel) (wo 2 23 rfl rfl (bT hc84) rfl) rfl (zac r83_0) (zae rfl) <| qd0 (i := 5) (v := .string xw3) rfl (by decide +kernel) (wo 2 23 rfl rfl (bT hc84) rfl) rfl (zac r83_0) (zae rfl) <| qd0 (i := 6) (v := .int .i64 (xw3.size : Int)) rfl (by decide +kernel) (wo 2 23 rfl rfl (bT hc84) rfl) rfl (zap u9 rfl) (zae rfl) <| qd0 (i := 7) (v := .int .i64 ((xw3.size : Int) - 1)) rfl (by decide +kernel) (wo 2 23 rfl rfl (bT hc84) rfl) rfl (x_sub rfl rfl (zan (by first|omega|(simp;omega)|assumption) (by first|omega|(simp;omega)|assumption))) (zae rfl) <| qd0 (i := 8) (v := .int .u8 (byt xw3 ((xw3.size : Int) - 1))) rfl (by decide +kernel) (wo 2 23 rfl rfl (bT hc84) rfl) rfl (zao u9 rfl rfl (by first|omega|(simp;omega)|assumption) (by first|omega|(simp;omega)|assumption)) (zae rfl) <| d_m (i := 9) (v := .bool (has xr (byt xw3 ((xw3.size : Int) - 1)))) (fun _ => True) (fun _ ho => trivial) rfl (by decide +kernel) (by decide +kernel) (by decide +kernel) (wo 2 23 rfl rfl (bT hc84) rfl) rfl (fun wq => (zbd (args := [.agg (zab xr).toArray, .int .u8 (byt xw3 ((xw3.size : Int) - 1))]) ca55 rfl rfl)) (fun wq hq => (has_calls wq xr (byt xw3 ((xw3.size : Int) - 1)) (in_u8 (by first|omega|(simp;omega)|assumption) (by first|omega|(simp;omega)|assumption))).mono fun e w2 he => by obtain ⟨_, rfl, _, T, rfl⟩ := he; exact ⟨rfl, Chg.of_below T.below⟩) (zae rfl) <| qd0 (i := 10) (v := .bool (has xr (byt xw3 ((xw3.size : Int) - 1)))) rfl (by decide +kernel) rfl rfl (x_pick_t (bT hc84) rfl) (zae rfl) <| zay (by decide +kernel) ?_
  intro wd91 gd91
  have S92 := S89.keep gd91
  refine zav (b := has xr (byt xw3 ((xw3.size : Int) - 1))) rfl (fun hc93 => ?_) (fun hc93 => ?_)
  ·skip
   refine zas <| zai <| zag (l := [0, 1, 2, 3, 4, 5]) rfl <| p_v (v := .string xw3) rfl rfl rfl (zac r83_0) <| p_v (v := .string xw3) rfl rfl rfl (zac r83_0) <| p_v (v := .int .i64 (xw3.size : Int)) rfl rfl rfl (zap u9 rfl) <| p_v (v := .int .i64 ((xw3.size : Int) - 1)) rfl rfl rfl (x_sub rfl rfl (zan (by first|omega|(simp;omega)|assumption) (by first|omega|(simp;omega)|assumption))) ?_
   have sx94 : ((subB xw3 0 ((xw3.size : Int) - 1)).size : Int) = ((xw3.size : Int) - 1) := (sub_size xw3 (by omega) (by first|omega|(simp;omega)|assumption) (by first|omega|(simp;omega)|assumption)).trans (by omega)
   have sh94 : (subB xw3 0 ((xw3.size : Int) - 1)).size ≤ maxLen := by have := sx94; unfold maxLen; omega
   refine p_v (v := .string (subB xw3 0 ((xw3.size : Int) - 1))) rfl rfl rfl (x_slice (lv := none) (hv := some (.int .i64 ((xw3.size : Int) - 1))) rfl rfl rfl (r_sub_to u9 (by first|omega|(simp;omega)|assumption) (by first|omega|(simp;omega)|assumption))) <| p_v (v := .string (subB xw3 0 ((xw3.size : Int) - 1))) rfl rfl rfl (zah rfl) <| zaa <| zak ?_
   refine ih83 (subB xw3 0 ((xw3.size : Int) - 1)) _ _ (by dsimp only; omega) ⟨h83, le83, S92.sub [0, 1] (by decide) rfl _ rfl, rfl, r83_6, r83_7, sh94, (by exact ⟨by omega, leftW_2 hI83.2 (by omega) (by assumption)⟩)⟩
  refine zat rfl <| zad <| zag (l := [0]) rfl <| p_v (v := .slice none 0 0) rfl rfl rfl (zah rfl) <| zaa <| zad <| zad <| zag (l := [0, 1, 2]) rfl <| p_v (v := .string xw3) rfl rfl rfl (zac r83_0) <| p_v (v := .int .i64 (xw3.size : Int)) rfl rfl rfl (zap u9 rfl) <| p_v (v := .int .i64 0) rfl rfl rfl (zac rfl) <| zaa ?_
  refine zai ?_
  have T95 := S92.row_nil 5 (Kd.int .u8)
  obtain ⟨vn95, ev95, T95⟩ : ∃ v, v = (.slice none 0 0 : Value) ∧ St w.heap.size w h83 wd91 ([box b3 37 (zab xr), box b5 37 (zab xd)] ++ [row 5 (Kd.int .u8) v []]) := ⟨_, rfl, T95⟩
  have S96 := T95
  dsimp only [lAa, lAn, lA0, lAs] at S96
  refine zaz (S := (List Int) × Int) (fun (q_ : (List Int) × Int) ρ w' => match q_ with | (b, t39) => ∃ (h : Ghost) (v_b : Value), Le h83 h ∧ St w.heap.size w h w' [box b5 37 (zab xd), row 5 (Kd.int .u8) v_b b] ∧ ρ 0 = .string xw3 ∧ ρ 7 = .pointer (some ⟨b5, 0, none⟩) ∧ ρ 9 = v_b ∧ ρ 38 = .int .i64 (xw3.size : Int) ∧ ρ 39 = .int .i64 t39 ∧ inK .i64 t39 ∧ (0 ≤ t39 ∧ t39 ≤ (xw3.size : Int) ∧ b = stayL xd ((zaf xw3).take t39.toNat))) (fun q_ => match q_ with | (b, t39) => (xw3.size - t39).toNat) (([] : List Int), 0) ⟨h83, vn95, Le.refl _, S96.sub [1, 2] (by decide) rfl _ rfl, r83_0, r83_7, (ev95.symm), rfl, rfl, (zan (by first|omega|(simp;omega)|assumption) (by first|omega|(simp;omega)|assumption)), (by exact ⟨by omega, by omega, stayL_0 _ _⟩)⟩ ?_
  rintro ⟨b, t39⟩ ih97 ρ97 w97 ⟨h97, v_b, le97, S97, r97_0, r97_7, r97_9, r97_38, r97_39, f97_0, hI97⟩
  have lf97_0 := i64_lo f97_0; have hf97_0 := i64_hi f97_0
  have rl97_1 := S97.row_le (j := 1) rfl; simp only [maxLen] at rl97_1
  have hb_ : (b.length : Int) ≤ t39 := by rw [hI97.2.2]; have h1_ := stayL_len (D := xd) (l := (zaf xw3).take t39.toNat); rw [List.length_take] at h1_; omega
  refine zad <| zag (l := [0]) rfl <| p_v (v := .bool (decide (t39 < (xw3.size : Int)))) rfl rfl rfl (x_lss r97_39 r97_38) <| zaa <| zad ?_
  refine zar (p := t39 < (xw3.size : Int)) rfl (fun hc98 => ?_) (fun hc98 => ?_)
  ·skip
   refine zas <| zad <| zai <| zad <| zag (l := [0, 1]) rfl <| p_v (v := .int .i64 t39) rfl rfl rfl (zac r97_39) <| p_v (v := .int .i64 t39) rfl rfl rfl (zah rfl) <| zaa <| zad ?_
   have by99 := zaq xw3 t39
   have hf101 : (CFs ⟨b5, 0, none⟩ (zab xd)).1 w97 := (CF.box (m := 4) (S97.box_at (j := 0) rfl) rfl)
   refine daS (hkC 0 hf101 (hkN (w := w97))) 6 rfl mixed ?_
   intro wd102 gd102 hd102
   have S103 := S97.keep gd102
   have hf104 := spUp gd102 hf101
   refine qd1 0 (i := 0) (v := .agg (zab xd).toArray) rfl rfl (by decide +kernel) rfl rfl (fun wq hq => (za0 (seg := (zab xd)) ty37 rfl (by simp) r97_7 hq)) (of_eq hf104 (of_nil _ _)) <| qd0 (i := 1) (v := .string xw3) rfl (by decide +kernel) rfl rfl (zac r97_0) (zae rfl) <| qd0 (i := 2) (v := .int .i64 t39) rfl (by decide +kernel) rfl rfl (zac rfl) (zae rfl) <| qd0 (i := 3) (v := .int .u8 (byt xw3 t39)) rfl (by decide +kernel) rfl rfl (zao u9 rfl rfl (by first|omega|(simp;omega)|assumption) (by first|omega|(simp;omega)|assumption)) (zae rfl) <| d_m (i := 4) (v := .bool (has xd (byt xw3 t39))) (fun _ => True) (fun _ ho => trivial) rfl (by decide +kernel) (by decide +kernel) (by decide +kernel) rfl rfl (fun wq => (zbd (args := [.agg (zab xd).toArray, .int .u8 (byt xw3 t39)]) ca55 rfl rfl)) (fun wq hq => (has_calls wq xd (byt xw3 t39) (in_u8 (by first|omega|(simp;omega)|assumption) (by first|omega|(simp;omega)|assumption))).mono fun e w2 he => by obtain ⟨_, rfl, _, T, rfl⟩ := he; exact ⟨rfl, Chg.of_below T.below⟩) (zae rfl) <| qd0 (i := 5) (v := .bool (!(has xd (byt xw3 t39)))) rfl (by decide +kernel) rfl rfl (x_not rfl) (zae rfl) <| zay (by decide +kernel) ?_
   intro wd105 gd105
   have S106 := S103.keep gd105
   refine run_cond_nsplit (b := has xd (byt xw3 t39)) rfl (fun hc107 => ?_) (fun hc107 => ?_)
   ·skip
    refine zag (l := [0, 1, 2, 3, 4, 5, 6]) rfl <| p_v (v := v_b) rfl rfl rfl (zac r97_9) <| p_v (v := .string xw3) rfl rfl rfl (zac r97_0) <| p_v (v := .int .i64 t39) rfl rfl rfl (zac rfl) ?_
    have by108 := zaq xw3 t39
    refine p_v (v := .int .u8 (byt xw3 t39)) rfl rfl rfl (zao u9 rfl rfl (by first|omega|(simp;omega)|assumption) (by first|omega|(simp;omega)|assumption)) ?_
    obtain ⟨v109, w109, r109, g109, T109⟩ := e_build_ones (kd := (Kd.int .u8)) (xs := ([(byt xw3 t39)] : List Int)) (len := 1) [.int .u8 (byt xw3 t39)] S106 u45 ty5 rfl rfl rfl rfl rfl (ones_cons rfl ones_nil) [.int .u8 (byt xw3 t39)] (za9.single (k := (Kd.int .u8)) (h := h97) (x := (byt xw3 t39)) (cs := [.int .u8 (byt xw3 t39)]) ⟨rfl, (in_u8 (by first|omega|(simp;omega)|assumption) (by first|omega|(simp;omega)|assumption))⟩) rfl
    have S110 := T109
    dsimp only [lAa, lAn, lA0, lAs] at S110
    refine p_v (v := v109) rfl rfl rfl (y_build_slice (pv := [(0, .int .u8 (byt xw3 t39))]) rfl r109) ?_
    obtain ⟨A112, c112, ev112, lc112, cm112⟩ := S110.row_val (j := 2) rfl
    obtain ⟨v113, w113, r113, g113, T113⟩ := e_append (kd := (Kd.int .u8)) (A := A112) (c := c112) (ys := ([(byt xw3 t39)] : List Int)) (len := ([(byt xw3 t39)] : List Int).length) 45 S110 u45 ty5 rfl rfl (j := 1) rfl rfl (news_own S110 (j := 2) rfl ev112) (by first|omega|(simp;omega)|assumption) (by first|omega|(simp;omega)|assumption)
    have S114 := T113.fx 1 (row 5 (Kd.int .u8) v113 (b ++ ([(byt xw3 t39)] : List Int))) rfl
    dsimp only [lAa, lAn, lA0, lAs] at S114
    refine p_v (v := v113) rfl rfl rfl (x_append rfl ev112 r113) <| p_v (v := v113) rfl rfl rfl (zah rfl) <| zaa <| zak <| zag (l := [0, 1]) rfl <| p_v (v := .int .i64 (t39 + 1)) rfl rfl rfl (x_add r97_39 rfl (zan (by first|omega|(simp;omega)|assumption) (by first|omega|(simp;omega)|assumption))) <| p_v (v := .int .i64 (t39 + 1)) rfl rfl rfl (zac rfl) <| zaa ?_
    refine ih97 (b ++ ([(byt xw3 t39)] : List Int), t39 + 1) _ _ (by dsimp only; omega) ⟨h97, v113, le97, S114.sub [0, 1] (by decide) rfl _ rfl, r97_0, r97_7, rfl, r97_38, rfl, (zan (by first|omega|(simp;omega)|assumption) (by first|omega|(simp;omega)|assumption)), (by first | exact ⟨by omega, by omega, stayL_no hI97.2.2 hI97.1 (by omega) (by assumption)⟩ | exact ⟨by omega, by omega, stayL_yes hI97.2.2 hI97.1 (by omega) (by assumption)⟩)⟩
   refine zas <| zak <| zag (l := [0, 1]) rfl <| p_v (v := .int .i64 (t39 + 1)) rfl rfl rfl (x_add r97_39 rfl (zan (by first|omega|(simp;omega)|assumption) (by first|omega|(simp;omega)|assumption))) <| p_v (v := .int .i64 (t39 + 1)) rfl rfl rfl (zac rfl) <| zaa ?_
   refine ih97 (b, t39 + 1) _ _ (by dsimp only; omega) ⟨h97, v_b, le97, S106.sub [0, 1] (by decide) rfl _ rfl, r97_0, r97_7, r97_9, r97_38, rfl, (zan (by first|omega|(simp;omega)|assumption) (by first|omega|(simp;omega)|assumption)), (by first | exact ⟨by omega, by omega, stayL_no hI97.2.2 hI97.1 (by omega) (by assumption)⟩ | exact ⟨by omega, by omega, stayL_yes hI97.2.2 hI97.1 (by omega) (by assumption)⟩)⟩
  refine zat rfl <| zad <| zag (l := [0, 1, 2]) rfl <| p_v (v := v_b) rfl rfl rfl (zac r97_9) ?_
  obtain ⟨A115, c115, ev115, lc115, cm115⟩ := S97.row_val (j := 1) rfl
  have sz116 := str_small (xs := b) (Nat.le_trans (And.intro lc115 cm115).1 (And.intro lc115 cm115).2); have bdsz116 := sz116; simp only [maxLen] at bdsz116
  refine p_v (v := .string (strOfNums b)) rfl rfl rfl (x_bytes_string u45 u5 u9 ev115 (row_leads_eq S97 (j := 1) rfl ev115)) <| p_v (v := .string (strOfNums b)) rfl rfl rfl (zah rfl) <| zaa <| run_ret Try.func21 (res1 rfl (zbc (v := .string (strOfNums b)) rfl)) ?_
  have q0 : (leftW xw xl xr xd : ByteArray) = (strOfNums b) := by
   exact leftW_end (leftW_1n hI7.2 (by first | (left; omega) | (right; exact ⟨by omega, by assumption⟩))) (leftW_2n hI83.2 (by first | (left; omega) | (right; exact ⟨by omega, by assumption⟩))) hI97.2.2 (by omega)
  refine ⟨_, rfl, h97, ?_, ?_, ?_⟩
  · exact S97.sub [] (by decide) rfl _ rfl
  · first | rfl | (simp only [q0]; rfl) | (simp only [q0])
  · rw [q0]; first | assumption | exact sz116
 have hz_ := size_empty (Decidable.not_not.1 hc84)
 refine daS (hkN (w := w83)) 11 rfl mixed ?_
 intro wd117 gd117 hd117
 have S118 := S83.keep gd117
 refine qd0 (i := 0) (v := .string xw3) rfl (by decide +kernel) rfl rfl (zac r83_0) (zae rfl) <| qd0 (i := 1) (v := .bool (decide (xw3 ≠ (⟨#[]⟩ : ByteArray)))) rfl (by decide +kernel) rfl rfl (zbe rfl rfl) (zae rfl) <| qd0 (i := 2) (v := .bool (decide (xw3 ≠ (⟨#[]⟩ : ByteArray)))) rfl (by decide +kernel) rfl rfl (zac rfl) (zae rfl) <| za7 (i := 3) rfl (by decide +kernel) (by decide +kernel) (by decide +kernel) (wo 2 23 rfl rfl (bF hc84) rfl) rfl (zae rfl) <| za7 (i := 4) rfl (by decide +kernel) (by decide +kernel) (by decide +kernel) (wo 2 23 rfl rfl (bF hc84) rfl) rfl (zae rfl) <| za7 (i := 5) rfl (by decide +kernel) (by decide +kernel) (by decide +kernel) (wo 2 23 rfl rfl (bF hc84) rfl) rfl (zae rfl) <| za7 (i := 6) rfl (by decide +kernel) (by decide +kernel) (by decide +kernel) (wo 2 23 rfl rfl (bF hc84) rfl) rfl (zae rfl) <| za7 (i := 7) rfl (by decide +kernel) (by decide +kernel) (by decide +kernel) (wo 2 23 rfl rfl (bF hc84) rfl) rfl (zae rfl) <| za7 (i := 8) rfl (by decide +kernel) (by decide +kernel) (by decide +kernel) (wo 2 23 rfl rfl (bF hc84) rfl) rfl (zae rfl) <| za7 (i := 9) rfl (by decide +kernel) (by decide +kernel) (by decide +kernel) (wo 2 23 rfl rfl (bF hc84) rfl) rfl (zae rfl) <| qd0 (i := 10) (v := .bool false) rfl (by decide +kernel) rfl rfl (x_pick_f (bF hc84) rfl) (zae rfl) <| zay (by decide +kernel) ?_
 intro wd119 gd119
 have S120 := S118.keep gd119
 refine run_cond (b := false) rfl ?_
 simp only [if_true, if_false, Bool.false_eq_true]
 refine zat rfl <| zad <| zag (l := [0]) rfl <| p_v (v := .slice none 0 0) rfl rfl rfl (zah rfl) <| zaa <| zad <| zad <| zag (l := [0, 1, 2]) rfl <| p_v (v := .string xw3) rfl rfl rfl (zac r83_0) <| p_v (v := .int .i64 (xw3.size : Int)) rfl rfl rfl (zap u9 rfl) <| p_v (v := .int .i64 0) rfl rfl rfl (zac rfl) <| zaa ?_
 refine zai ?_
 have T121 := S120.row_nil 5 (Kd.int .u8)
 obtain ⟨vn121, ev121, T121⟩ : ∃ v, v = (.slice none 0 0 : Value) ∧ St w.heap.size w h83 wd119 ([box b3 37 (zab xr), box b5 37 (zab xd)] ++ [row 5 (Kd.int .u8) v []]) := ⟨_, rfl, T121⟩
 have S122 := T121
 dsimp only [lAa, lAn, lA0, lAs] at S122
 refine zaz (S := (List Int) × Int) (fun (q_ : (List Int) × Int) ρ w' => match q_ with | (b, t39) => ∃ (h : Ghost) (v_b : Value), Le h83 h ∧ St w.heap.size w h w' [box b5 37 (zab xd), row 5 (Kd.int .u8) v_b b] ∧ ρ 0 = .string xw3 ∧ ρ 7 = .pointer (some ⟨b5, 0, none⟩) ∧ ρ 9 = v_b ∧ ρ 38 = .int .i64 (xw3.size : Int) ∧ ρ 39 = .int .i64 t39 ∧ inK .i64 t39 ∧ (0 ≤ t39 ∧ t39 ≤ (xw3.size : Int) ∧ b = stayL xd ((zaf xw3).take t39.toNat))) (fun q_ => match q_ with | (b, t39) => (xw3.size - t39).toNat) (([] : List Int), 0) ⟨h83, vn121, Le.refl _, S122.sub [1, 2] (by decide) rfl _ rfl, r83_0, r83_7, (ev121.symm), rfl, rfl, (zan (by first|omega|(simp;omega)|assumption) (by first|omega|(simp;omega)|assumption)), (by exact ⟨by omega, by omega, stayL_0 _ _⟩)⟩ ?_
 rintro ⟨b, t39⟩ ih123 ρ123 w123 ⟨h123, v_b, le123, S123, r123_0, r123_7, r123_9, r123_38, r123_39, f123_0, hI123⟩
 have lf123_0 := i64_lo f123_0; have hf123_0 := i64_hi f123_0
 have rl123_1 := S123.row_le (j := 1) rfl; simp only [maxLen] at rl123_1
 have hb_ : (b.length : Int) ≤ t39 := by rw [hI123.2.2]; have h1_ := stayL_len (D := xd) (l := (zaf xw3).take t39.toNat); rw [List.length_take] at h1_; omega
 refine zad <| zag (l := [0]) rfl <| p_v (v := .bool (decide (t39 < (xw3.size : Int)))) rfl rfl rfl (x_lss r123_39 r123_38) <| zaa <| zad ?_
 refine zar (p := t39 < (xw3.size : Int)) rfl (fun hc124 => ?_) (fun hc124 => ?_)
 ·skip
  refine zas <| zad <| zai <| zad <| zag (l := [0, 1]) rfl <| p_v (v := .int .i64 t39) rfl rfl rfl (zac r123_39) <| p_v (v := .int .i64 t39) rfl rfl rfl (zah rfl) <| zaa <| zad ?_
  have by125 := zaq xw3 t39
  have hf127 : (CFs ⟨b5, 0, none⟩ (zab xd)).1 w123 := (CF.box (m := 4) (S123.box_at (j := 0) rfl) rfl)
  refine daS (hkC 0 hf127 (hkN (w := w123))) 6 rfl mixed ?_
  intro wd128 gd128 hd128
  have S129 := S123.keep gd128
  have hf130 := spUp gd128 hf127
  refine qd1 0 (i := 0) (v := .agg (zab xd).toArray) rfl rfl (by decide +kernel) rfl rfl (fun wq hq => (za0 (seg := (zab xd)) ty37 rfl (by simp) r123_7 hq)) (of_eq hf130 (of_nil _ _)) <| qd0 (i := 1) (v := .string xw3) rfl (by decide +kernel) rfl rfl (zac r123_0) (zae rfl) <| qd0 (i := 2) (v := .int .i64 t39) rfl (by decide +kernel) rfl rfl (zac rfl) (zae rfl) <| qd0 (i := 3) (v := .int .u8 (byt xw3 t39)) rfl (by decide +kernel) rfl rfl (zao u9 rfl rfl (by first|omega|(simp;omega)|assumption) (by first|omega|(simp;omega)|assumption)) (zae rfl) <| d_m (i := 4) (v := .bool (has xd (byt xw3 t39))) (fun _ => True) (fun _ ho => trivial) rfl (by decide +kernel) (by decide +kernel) (by decide +kernel) rfl rfl (fun wq => (zbd (args := [.agg (zab xd).toArray, .int .u8 (byt xw3 t39)]) ca55 rfl rfl)) (fun wq hq => (has_calls wq xd (byt xw3 t39) (in_u8 (by first|omega|(simp;omega)|assumption) (by first|omega|(simp;omega)|assumption))).mono fun e w2 he => by obtain ⟨_, rfl, _, T, rfl⟩ := he; exact ⟨rfl, Chg.of_below T.below⟩) (zae rfl) <| qd0 (i := 5) (v := .bool (!(has xd (byt xw3 t39)))) rfl (by decide +kernel) rfl rfl (x_not rfl) (zae rfl) <| zay (by decide +kernel) ?_
  intro wd131 gd131
  have S132 := S129.keep gd131
  refine run_cond_nsplit (b := has xd (byt xw3 t39)) rfl (fun hc133 => ?_) (fun hc133 => ?_)
  ·skip
   refine zag (l := [0, 1, 2, 3, 4, 5, 6]) rfl <| p_v (v := v_b) rfl rfl rfl (zac r123_9) <| p_v (v := .string xw3) rfl rfl rfl (zac r123_0) <| p_v (v := .int .i64 t39) rfl rfl rfl (zac rfl) ?_
   have by134 := zaq xw3 t39
   refine p_v (v := .int .u8 (byt xw3 t39)) rfl rfl rfl (zao u9 rfl rfl (by first|omega|(simp;omega)|assumption) (by first|omega|(simp;omega)|assumption)) ?_
   obtain ⟨v135, w135, r135, g135, T135⟩ := e_build_ones (kd := (Kd.int .u8)) (xs := ([(byt xw3 t39)] : List Int)) (len := 1) [.int .u8 (byt xw3 t39)] S132 u45 ty5 rfl rfl rfl rfl rfl (ones_cons rfl ones_nil) [.int .u8 (byt xw3 t39)] (za9.single (k := (Kd.int .u8)) (h := h123) (x := (byt xw3 t39)) (cs := [.int .u8 (byt xw3 t39)]) ⟨rfl, (in_u8 (by first|omega|(simp;omega)|assumption) (by first|omega|(simp;omega)|assumption))⟩) rfl
   have S136 := T135
   dsimp only [lAa, lAn, lA0, lAs] at S136
   refine p_v (v := v135) rfl rfl rfl (y_build_slice (pv := [(0, .int .u8 (byt xw3 t39))]) rfl r135) ?_
   obtain ⟨A138, c138, ev138, lc138, cm138⟩ := S136.row_val (j := 2) rfl
   obtain ⟨v139, w139, r139, g139, T139⟩ := e_append (kd := (Kd.int .u8)) (A := A138) (c := c138) (ys := ([(byt xw3 t39)] : List Int)) (len := ([(byt xw3 t39)] : List Int).length) 45 S136 u45 ty5 rfl rfl (j := 1) rfl rfl (news_own S136 (j := 2) rfl ev138) (by first|omega|(simp;omega)|assumption) (by first|omega|(simp;omega)|assumption)
   have S140 := T139.fx 1 (row 5 (Kd.int .u8) v139 (b ++ ([(byt xw3 t39)] : List Int))) rfl
   dsimp only [lAa, lAn, lA0, lAs] at S140
   refine p_v (v := v139) rfl rfl rfl (x_append rfl ev138 r139) <| p_v (v := v139) rfl rfl rfl (zah rfl) <| zaa <| zak <| zag (l := [0, 1]) rfl <| p_v (v := .int .i64 (t39 + 1)) rfl rfl rfl (x_add r123_39 rfl (zan (by first|omega|(simp;omega)|assumption) (by first|omega|(simp;omega)|assumption))) <| p_v (v := .int .i64 (t39 + 1)) rfl rfl rfl (zac rfl) <| zaa ?_
   refine ih123 (b ++ ([(byt xw3 t39)] : List Int), t39 + 1) _ _ (by dsimp only; omega) ⟨h123, v139, le123, S140.sub [0, 1] (by decide) rfl _ rfl, r123_0, r123_7, rfl, r123_38, rfl, (zan (by first|omega|(simp;omega)|assumption) (by first|omega|(simp;omega)|assumption)), (by first | exact ⟨by omega, by omega, stayL_no hI123.2.2 hI123.1 (by omega) (by assumption)⟩ | exact ⟨by omega, by omega, stayL_yes hI123.2.2 hI123.1 (by omega) (by assumption)⟩)⟩
  refine zas <| zak <| zag (l := [0, 1]) rfl <| p_v (v := .int .i64 (t39 + 1)) rfl rfl rfl (x_add r123_39 rfl (zan (by first|omega|(simp;omega)|assumption) (by first|omega|(simp;omega)|assumption))) <| p_v (v := .int .i64 (t39 + 1)) rfl rfl rfl (zac rfl) <| zaa ?_
  refine ih123 (b, t39 + 1) _ _ (by dsimp only; omega) ⟨h123, v_b, le123, S132.sub [0, 1] (by decide) rfl _ rfl, r123_0, r123_7, r123_9, r123_38, rfl, (zan (by first|omega|(simp;omega)|assumption) (by first|omega|(simp;omega)|assumption)), (by first | exact ⟨by omega, by omega, stayL_no hI123.2.2 hI123.1 (by omega) (by assumption)⟩ | exact ⟨by omega, by omega, stayL_yes hI123.2.2 hI123.1 (by omega) (by assumption)⟩)⟩
 refine zat rfl <| zad <| zag (l := [0, 1, 2]) rfl <| p_v (v := v_b) rfl rfl rfl (zac r123_9) ?_
 obtain ⟨A141, c141, ev141, lc141, cm141⟩ := S123.row_val (j := 1) rfl
 have sz142 := str_small (xs := b) (Nat.le_trans (And.intro lc141 cm141).1 (And.intro lc141 cm141).2); have bdsz142 := sz142; simp only [maxLen] at bdsz142
 refine p_v (v := .string (strOfNums b)) rfl rfl rfl (x_bytes_string u45 u5 u9 ev141 (row_leads_eq S123 (j := 1) rfl ev141)) <| p_v (v := .string (strOfNums b)) rfl rfl rfl (zah rfl) <| zaa <| run_ret Try.func21 (res1 rfl (zbc (v := .string (strOfNums b)) rfl)) ?_
 have q0 : (leftW xw xl xr xd : ByteArray) = (strOfNums b) := by
  exact leftW_end (leftW_1n hI7.2 (by first | (left; omega) | (right; exact ⟨by omega, by assumption⟩))) (leftW_2n hI83.2 (by first | (left; omega) | (right; exact ⟨by omega, by assumption⟩))) hI123.2.2 (by omega)
 refine ⟨_, rfl, h123, ?_, ?_, ?_⟩
 · exact S123.sub [] (by decide) rfl _ rfl
 · first | rfl | (simp only [q0]; rfl) | (simp only [q0])
 · rw [q0]; first | assumption | exact sz142
theorem stays_calls (w : World) (xw : ByteArray) (s0 : xw.size ≤ maxLen) (xl : BSet) (xr : BSet) (xd : BSet) (pre0 : xw.size ≤ 1000000) :
    Calls Try.prog 33 #[.string xw, .agg (zab xl).toArray, .agg (zab xr).toArray, .agg (zab xd).toArray] w fun e w' => ∃ v, e = .returned v ∧ ∃ (hn : Ghost) (r0 : Value), St w.heap.size w hn w' [row 4 Kd.bool r0 (staysW xw xl xr xd)] ∧ v = r0 := by
 refine za8 Try.func33 rfl Try.ntmps33 rfl ?_
 have S0 := St.init w
 have sz0 := s0; simp only [maxLen] at sz0
 refine zad <| zag (l := [0, 1, 2, 3]) rfl ?_
 obtain ⟨b1, w1, r1, g1, T1⟩ := e_box (P := Try.prog) S0 37 (v := .agg (zab xl).toArray) (zab xl) rfl
 have S2 := T1
 dsimp only [lAa, lAn, lA0, lAs] at S2
 refine p_v (v := .pointer (some ⟨b1, 0, none⟩)) rfl rfl rfl (x_box rfl r1) ?_
 obtain ⟨b3, w3, r3, g3, T3⟩ := e_box (P := Try.prog) S2 37 (v := .agg (zab xr).toArray) (zab xr) rfl
 have S4 := T3
 dsimp only [lAa, lAn, lA0, lAs] at S4
 refine p_v (v := .pointer (some ⟨b3, 0, none⟩)) rfl rfl rfl (x_box rfl r3) ?_
 obtain ⟨b5, w5, r5, g5, T5⟩ := e_box (P := Try.prog) S4 37 (v := .agg (zab xd).toArray) (zab xd) rfl
 have S6 := T5
 dsimp only [lAa, lAn, lA0, lAs] at S6
 refine p_v (v := .pointer (some ⟨b5, 0, none⟩)) rfl rfl rfl (x_box rfl r5) <| p_v (v := .slice none 0 0) rfl rfl rfl (zah rfl) <| zaa <| zad <| zag (l := [0, 1, 2, 3]) rfl <| p_v (v := .string xw) rfl rfl rfl (zac rfl) <| p_v (v := .int .i64 (xw.size : Int)) rfl rfl rfl (zap u9 rfl) ?_
 obtain ⟨v7, w7, r7, g7, T7⟩ := e_make (kk := .i64) (kk' := .i64) (kd := Kd.bool) (q := (xw.size : Int)) (z := false) (zc := [.bool false]) S6 u25 ty4 rfl rfl ⟨rfl, trivial⟩ (by first|omega|(simp;omega)|assumption) (by first|omega|(simp;omega)|assumption) (by first|omega|(simp;omega)|assumption)
 have S8 := T7
 dsimp only [lAa, lAn, lA0, lAs] at S8
 refine p_v (v := v7) rfl rfl rfl (x_make rfl rfl r7) <| p_v (v := v7) rfl rfl rfl (zah rfl) <| zaa <| zad <| zag (l := [0]) rfl <| p_v (v := .int .i64 0) rfl rfl rfl (zah rfl) <| zaa <| zad <| zai <| zaz (S := Int) (fun (q_ : Int) ρ w' => match q_ with | xfrom => ∃ (h : Ghost), Le (fun _ => none) h ∧ St w.heap.size w h w' [box b1 37 (zab xl), box b3 37 (zab xr), box b5 37 (zab xd), row 4 Kd.bool v7 (List.replicate ((xw.size : Int)).toNat false)] ∧ ρ 0 = .string xw ∧ ρ 5 = .pointer (some ⟨b1, 0, none⟩) ∧ ρ 6 = .pointer (some ⟨b3, 0, none⟩) ∧ ρ 7 = .pointer (some ⟨b5, 0, none⟩) ∧ ρ 9 = v7 ∧ ρ 10 = .int .i64 xfrom ∧ inK .i64 xfrom ∧ (0 ≤ xfrom ∧ xfrom ≤ (xw.size : Int) ∧ cutL xl (zaf xw) = cutL xl ((zaf xw).drop xfrom.toNat))) (fun q_ => match q_ with | xfrom => (xw.size - xfrom).toNat) (0) ⟨(fun _ => none), Le.refl _, S8.sub [0, 1, 2, 3] (by decide) rfl _ rfl, rfl, rfl, rfl, rfl, rfl, rfl, (zan (by first|omega|(simp;omega)|assumption) (by first|omega|(simp;omega)|assumption)), (by exact ⟨by omega, by omega, cutL_0 _ _⟩)⟩ ?_
 rintro xfrom ih9 ρ9 w9 ⟨h9, le9, S9, r9_0, r9_5, r9_6, r9_7, r9_9, r9_10, f9_0, hI9⟩
 have lf9_0 := i64_lo f9_0; have hf9_0 := i64_hi f9_0
 have rl9_3 := S9.row_le (j := 3) rfl; simp only [maxLen] at rl9_3
 refine zad <| zad ?_
 by_cases hc10 : xfrom < (xw.size : Int)
 ·skip
  have by11 := zaq xw xfrom
  have hf13 : (CFs ⟨b1, 0, none⟩ (zab xl)).1 w9 := (CF.box (m := 4) (S9.box_at (j := 0) rfl) rfl)
  refine daS (hkC 5 hf13 (hkN (w := w9))) 11 rfl mixed ?_
  intro wd14 gd14 hd14
  have S15 := S9.keep gd14
  have hf16 := spUp gd14 hf13
  refine qd0 (i := 0) (v := .int .i64 xfrom) rfl (by decide +kernel) rfl rfl (zac r9_10) (zae rfl) <| qd0 (i := 1) (v := .string xw) rfl (by decide +kernel) rfl rfl (zac r9_0) (zae rfl) <| qd0 (i := 2) (v := .int .i64 (xw.size : Int)) rfl (by decide +kernel) rfl rfl (zap u9 rfl) (zae rfl) <| qd0 (i := 3) (v := .bool (decide (xfrom < (xw.size : Int)))) rfl (by decide +kernel) rfl rfl (x_lss rfl rfl) (zae rfl) <| qd0 (i := 4) (v := .bool (decide (xfrom < (xw.size : Int)))) rfl (by decide +kernel) rfl rfl (zac rfl) (zae rfl) <| qd1 0 (i := 5) (v := .agg (zab xl).toArray) rfl rfl (by decide +kernel) (wo 4 20 rfl rfl (bT hc10) rfl) rfl (fun wq hq => (za0 (seg := (zab xl)) ty37 rfl (by simp) r9_5 hq)) (of_eq hf16 (of_nil _ _)) <| qd0 (i := 6) (v := .string xw) rfl (by decide +kernel) (wo 4 20 rfl rfl (bT hc10) rfl) rfl (zac r9_0) (zae rfl) <| qd0 (i := 7) (v := .int .i64 xfrom) rfl (by decide +kernel) (wo 4 20 rfl rfl (bT hc10) rfl) rfl (zac r9_10) (zae rfl) <| qd0 (i := 8) (v := .int .u8 (byt xw xfrom)) rfl (by decide +kernel) (wo 4 20 rfl rfl (bT hc10) rfl) rfl (zao u9 rfl rfl (by first|omega|(simp;omega)|assumption) (by first|omega|(simp;omega)|assumption)) (zae rfl) <| d_m (i := 9) (v := .bool (has xl (byt xw xfrom))) (fun _ => True) (fun _ ho => trivial) rfl (by decide +kernel) (by decide +kernel) (by decide +kernel) (wo 4 20 rfl rfl (bT hc10) rfl) rfl (fun wq => (zbd (args := [.agg (zab xl).toArray, .int .u8 (byt xw xfrom)]) ca80 rfl rfl)) (fun wq hq => (in_calls wq xl (byt xw xfrom) (in_u8 (by first|omega|(simp;omega)|assumption) (by first|omega|(simp;omega)|assumption))).mono fun e w2 he => by obtain ⟨_, rfl, _, T, rfl⟩ := he; exact ⟨rfl, Chg.of_below T.below⟩) (zae rfl) <| qd0 (i := 10) (v := .bool (has xl (byt xw xfrom))) rfl (by decide +kernel) rfl rfl (x_pick_t (bT hc10) rfl) (zae rfl) <| zay (by decide +kernel) ?_
  intro wd17 gd17
  have S18 := S15.keep gd17
  refine zav (b := has xl (byt xw xfrom)) rfl (fun hc19 => ?_) (fun hc19 => ?_)
  ·skip
   refine zas <| zai <| zag (l := [0, 1, 2]) rfl <| p_v (v := .int .i64 xfrom) rfl rfl rfl (zac r9_10) <| p_v (v := .int .i64 (xfrom + 1)) rfl rfl rfl (x_add rfl rfl (zan (by first|omega|(simp;omega)|assumption) (by first|omega|(simp;omega)|assumption))) <| p_v (v := .int .i64 (xfrom + 1)) rfl rfl rfl (zah rfl) <| zaa <| zak ?_
   refine ih9 (xfrom + 1) _ _ (by dsimp only; omega) ⟨h9, le9, S18.sub [0, 1, 2, 3] (by decide) rfl _ rfl, r9_0, r9_5, r9_6, r9_7, r9_9, rfl, (zan (by first|omega|(simp;omega)|assumption) (by first|omega|(simp;omega)|assumption)), (by exact ⟨by omega, by omega, hI9.2.2.trans (cutL_yes hI9.1 (by omega) (by assumption))⟩)⟩
  refine zat rfl <| zad <| zag (l := [0, 1, 2]) rfl <| p_v (v := .string xw) rfl rfl rfl (zac r9_0) <| p_v (v := .int .i64 (xw.size : Int)) rfl rfl rfl (zap u9 rfl) <| p_v (v := .int .i64 (xw.size : Int)) rfl rfl rfl (zah rfl) <| zaa <| zad <| zai <| zaz (S := Int) (fun (q_ : Int) ρ w' => match q_ with | xto => ∃ (h : Ghost), Le h9 h ∧ St w.heap.size w h w' [box b3 37 (zab xr), box b5 37 (zab xd), row 4 Kd.bool v7 (List.replicate ((xw.size : Int)).toNat false)] ∧ ρ 0 = .string xw ∧ ρ 6 = .pointer (some ⟨b3, 0, none⟩) ∧ ρ 7 = .pointer (some ⟨b5, 0, none⟩) ∧ ρ 9 = v7 ∧ ρ 10 = .int .i64 xfrom ∧ ρ 11 = .int .i64 xto ∧ inK .i64 xto ∧ (xfrom ≤ xto ∧ xto ≤ (xw.size : Int) ∧ cutR xr ((zaf xw).drop xfrom.toNat) = cutR xr (((zaf xw).take xto.toNat).drop xfrom.toNat))) (fun q_ => match q_ with | xto => xto.toNat) ((xw.size : Int)) ⟨h9, Le.refl _, S18.sub [1, 2, 3] (by decide) rfl _ rfl, r9_0, r9_6, r9_7, r9_9, r9_10, rfl, (zan (by first|omega|(simp;omega)|assumption) (by first|omega|(simp;omega)|assumption)), (by exact ⟨by omega, by omega, cutR_0 _ _ _⟩)⟩ ?_
  rintro xto ih20 ρ20 w20 ⟨h20, le20, S20, r20_0, r20_6, r20_7, r20_9, r20_10, r20_11, f20_0, hI20⟩
  have lf20_0 := i64_lo f20_0; have hf20_0 := i64_hi f20_0
  have rl20_2 := S20.row_le (j := 2) rfl; simp only [maxLen] at rl20_2
  refine zad <| zad ?_
  by_cases hc21 : xfrom < xto
  ·skip
   have by22 := zaq xw (xto - 1)
   have hf24 : (CFs ⟨b3, 0, none⟩ (zab xr)).1 w20 := (CF.box (m := 4) (S20.box_at (j := 0) rfl) rfl)
   refine daS (hkC 4 hf24 (hkN (w := w20))) 11 rfl mixed ?_
   intro wd25 gd25 hd25
   have S26 := S20.keep gd25
   have hf27 := spUp gd25 hf24
   refine qd0 (i := 0) (v := .int .i64 xto) rfl (by decide +kernel) rfl rfl (zac r20_11) (zae rfl) <| qd0 (i := 1) (v := .int .i64 xfrom) rfl (by decide +kernel) rfl rfl (zac r20_10) (zae rfl) <| qd0 (i := 2) (v := .bool (decide (xfrom < xto))) rfl (by decide +kernel) rfl rfl (x_gtr rfl rfl) (zae rfl) <| qd0 (i := 3) (v := .bool (decide (xfrom < xto))) rfl (by decide +kernel) rfl rfl (zac rfl) (zae rfl) <| qd1 0 (i := 4) (v := .agg (zab xr).toArray) rfl rfl (by decide +kernel) (wo 3 34 rfl rfl (bT hc21) rfl) rfl (fun wq hq => (za0 (seg := (zab xr)) ty37 rfl (by simp) r20_6 hq)) (of_eq hf27 (of_nil _ _)) <| qd0 (i := 5) (v := .string xw) rfl (by decide +kernel) (wo 3 34 rfl rfl (bT hc21) rfl) rfl (zac r20_0) (zae rfl) <| qd0 (i := 6) (v := .int .i64 xto) rfl (by decide +kernel) (wo 3 34 rfl rfl (bT hc21) rfl) rfl (zac r20_11) (zae rfl) <| qd0 (i := 7) (v := .int .i64 (xto - 1)) rfl (by decide +kernel) (wo 3 34 rfl rfl (bT hc21) rfl) rfl (x_sub rfl rfl (zan (by first|omega|(simp;omega)|assumption) (by first|omega|(simp;omega)|assumption))) (zae rfl) <| qd0 (i := 8) (v := .int .u8 (byt xw (xto - 1))) rfl (by decide +kernel) (wo 3 34 rfl rfl (bT hc21) rfl) rfl (zao u9 rfl rfl (by first|omega|(simp;omega)|assumption) (by first|omega|(simp;omega)|assumption)) (zae rfl) <| d_m (i := 9) (v := .bool (has xr (byt xw (xto - 1)))) (fun _ => True) (fun _ ho => trivial) rfl (by decide +kernel) (by decide +kernel) (by decide +kernel) (wo 3 34 rfl rfl (bT hc21) rfl) rfl (fun wq => (zbd (args := [.agg (zab xr).toArray, .int .u8 (byt xw (xto - 1))]) ca80 rfl rfl)) (fun wq hq => (in_calls wq xr (byt xw (xto - 1)) (in_u8 (by first|omega|(simp;omega)|assumption) (by first|omega|(simp;omega)|assumption))).mono fun e w2 he => by obtain ⟨_, rfl, _, T, rfl⟩ := he; exact ⟨rfl, Chg.of_below T.below⟩) (zae rfl) <| qd0 (i := 10) (v := .bool (has xr (byt xw (xto - 1)))) rfl (by decide +kernel) rfl rfl (x_pick_t (bT hc21) rfl) (zae rfl) <| zay (by decide +kernel) ?_
   intro wd28 gd28
   have S29 := S26.keep gd28
   refine zav (b := has xr (byt xw (xto - 1))) rfl (fun hc30 => ?_) (fun hc30 => ?_)
   ·skip
    refine zas <| zai <| zag (l := [0, 1, 2]) rfl <| p_v (v := .int .i64 xto) rfl rfl rfl (zac r20_11) <| p_v (v := .int .i64 (xto - 1)) rfl rfl rfl (x_sub rfl rfl (zan (by first|omega|(simp;omega)|assumption) (by first|omega|(simp;omega)|assumption))) <| p_v (v := .int .i64 (xto - 1)) rfl rfl rfl (zah rfl) <| zaa <| zak ?_
    refine ih20 (xto - 1) _ _ (by dsimp only; omega) ⟨h20, le20, S29.sub [0, 1, 2] (by decide) rfl _ rfl, r20_0, r20_6, r20_7, r20_9, r20_10, rfl, (zan (by first|omega|(simp;omega)|assumption) (by first|omega|(simp;omega)|assumption)), (by exact ⟨by omega, by omega, hI20.2.2.trans (cutR_yes hI9.1 (by omega) hI20.2.1 (by assumption))⟩)⟩
   refine zat rfl <| zad <| zad <| zag (l := [0, 1]) rfl <| p_v (v := .int .i64 xfrom) rfl rfl rfl (zac r20_10) <| p_v (v := .int .i64 xfrom) rfl rfl rfl (zah rfl) <| zaa <| zai <| zaz (S := (List Bool) × Int) (fun (q_ : (List Bool) × Int) ρ w' => match q_ with | (stays, i) => ∃ (h : Ghost) (v_stays : Value), Le h20 h ∧ St w.heap.size w h w' [box b5 37 (zab xd), row 4 Kd.bool v_stays stays] ∧ ρ 0 = .string xw ∧ ρ 7 = .pointer (some ⟨b5, 0, none⟩) ∧ ρ 9 = v_stays ∧ ρ 11 = .int .i64 xto ∧ ρ 12 = .int .i64 i ∧ inK .i64 i ∧ (xfrom ≤ i ∧ i ≤ xto ∧ stays = tab xw.size fun j => decide (xfrom ≤ (j : Int) ∧ (j : Int) < i) && !has xd (byt xw j))) (fun q_ => match q_ with | (stays, i) => (xto - i).toNat) (List.replicate ((xw.size : Int)).toNat false, xfrom) ⟨h20, v7, Le.refl _, S29.sub [1, 2] (by decide) rfl _ rfl, r20_0, r20_7, r20_9, r20_11, rfl, f9_0, (by exact ⟨by omega, by omega, staysW_0 _ _ _⟩)⟩ ?_
   rintro ⟨stays, i⟩ ih31 ρ31 w31 ⟨h31, v_stays, le31, S31, r31_0, r31_7, r31_9, r31_11, r31_12, f31_0, hI31⟩
   have lf31_0 := i64_lo f31_0; have hf31_0 := i64_hi f31_0
   have rl31_1 := S31.row_le (j := 1) rfl; simp only [maxLen] at rl31_1
   have hl_ : stays.length = xw.size := by rw [hI31.2.2]; exact tab_len _ _
   refine zad <| zad <| zag (l := [0, 1, 2]) rfl <| p_v (v := .int .i64 i) rfl rfl rfl (zac r31_12) <| p_v (v := .int .i64 xto) rfl rfl rfl (zac r31_11) <| p_v (v := .bool (decide (i < xto))) rfl rfl rfl (x_lss rfl rfl) <| zaa ?_
   refine zar (p := i < xto) rfl (fun hc32 => ?_) (fun hc32 => ?_)
   ·skip
    refine zas <| zad <| zai ?_
    have by33 := zaq xw i
    obtain ⟨ad35, a35, at35⟩ := e_index_own (q := i) (m := 1) S31 (j := 1) rfl rfl (by first|omega|(simp;omega)|assumption) (by first|omega|(simp;omega)|assumption)
    have hf36 : (CFs ⟨b5, 0, none⟩ (zab xd)).1 w31 := (CF.box (m := 4) (S31.box_at (j := 0) rfl) rfl)
    refine daS (hkC 2 hf36 (hkN (w := w31))) 10 rfl mixed ?_
    intro wd37 gd37 hd37
    have S38 := S31.keep gd37
    have hf39 := spUp gd37 hf36
    refine qd0 (i := 0) (v := v_stays) rfl (by decide +kernel) rfl rfl (zac r31_9) (zae rfl) <| qd0 (i := 1) (v := .int .i64 i) rfl (by decide +kernel) rfl rfl (zac r31_12) (zae rfl) <| qd1 0 (i := 2) (v := .agg (zab xd).toArray) rfl rfl (by decide +kernel) rfl rfl (fun wq hq => (za0 (seg := (zab xd)) ty37 rfl (by simp) r31_7 hq)) (of_eq hf39 (of_nil _ _)) <| qd0 (i := 3) (v := .string xw) rfl (by decide +kernel) rfl rfl (zac r31_0) (zae rfl) <| qd0 (i := 4) (v := .int .i64 i) rfl (by decide +kernel) rfl rfl (zac r31_12) (zae rfl) <| qd0 (i := 5) (v := .int .u8 (byt xw i)) rfl (by decide +kernel) rfl rfl (zao u9 rfl rfl (by first|omega|(simp;omega)|assumption) (by first|omega|(simp;omega)|assumption)) (zae rfl) <| d_m (i := 6) (v := .bool (has xd (byt xw i))) (fun _ => True) (fun _ ho => trivial) rfl (by decide +kernel) (by decide +kernel) (by decide +kernel) rfl rfl (fun wq => (zbd (args := [.agg (zab xd).toArray, .int .u8 (byt xw i)]) ca80 rfl rfl)) (fun wq hq => (in_calls wq xd (byt xw i) (in_u8 (by first|omega|(simp;omega)|assumption) (by first|omega|(simp;omega)|assumption))).mono fun e w2 he => by obtain ⟨_, rfl, _, T, rfl⟩ := he; exact ⟨rfl, Chg.of_below T.below⟩) (zae rfl) <| qd0 (i := 7) (v := .bool (!(has xd (byt xw i)))) rfl (by decide +kernel) rfl rfl (x_not rfl) (zae rfl) <| qd0 (i := 8) (v := .pointer (some ad35)) rfl (by decide +kernel) rfl rfl (x_index_own u25 ty4 rfl rfl a35 (by first|omega|(simp;omega)|assumption) (by first|omega|(simp;omega)|assumption)) (zae rfl) <| ra_one (i := 9) (by decide +kernel) ?_
    intro wd40 gd40
    have S41 := S38.keep gd40
    have hf42 := spUp gd40 hf39
    obtain ⟨w43, r43, g43, T43⟩ := e_store_own (u := .bool (!(has xd (byt xw i)))) (q := i) (!(has xd (byt xw i))) (vs := [.bool (!(has xd (byt xw i)))]) S41 ty4 rfl (j := 1) rfl rfl ⟨rfl, trivial⟩ at35 (by first|omega|(simp;omega)|assumption) (by first|omega|(simp;omega)|assumption)
    have S44 := T43.fx 1 (row 4 Kd.bool v_stays (stays.set (i).toNat (!(has xd (byt xw i))))) rfl
    dsimp only [lAa, lAn, lA0, lAs] at S44
    have hf45 : (CFs ⟨b5, 0, none⟩ (zab xd)).1 w43 := (CF.box (m := 4) (S44.box_at (j := 0) rfl) rfl)
    refine d_s rfl rfl (x_store rfl rfl r43) (.inr (keep_w (by decide +kernel) trivial)) <| zay (by decide +kernel) ?_
    intro wd46 gd46
    have S47 := S44.keep gd46
    refine zak <| zag (l := [0, 1, 2]) rfl <| p_v (v := .int .i64 i) rfl rfl rfl (zac r31_12) <| p_v (v := .int .i64 (i + 1)) rfl rfl rfl (x_add rfl rfl (zan (by first|omega|(simp;omega)|assumption) (by first|omega|(simp;omega)|assumption))) <| p_v (v := .int .i64 (i + 1)) rfl rfl rfl (zah rfl) <| zaa ?_
    refine ih31 (stays.set (i).toNat (!(has xd (byt xw i))), i + 1) _ _ (by dsimp only; omega) ⟨h31, v_stays, le31, S47.sub [0, 1] (by decide) rfl _ rfl, r31_0, r31_7, r31_9, r31_11, rfl, (zan (by first|omega|(simp;omega)|assumption) (by first|omega|(simp;omega)|assumption)), (by exact ⟨by omega, by omega, staysW_step hI31.2.2 hI9.1 hI31.1 (by omega) (by first | rfl | (simp only [*]; rfl) | simp [*])⟩)⟩
   refine zat rfl <| zad <| zag (l := [0, 1]) rfl <| p_v (v := v_stays) rfl rfl rfl (zac r31_9) <| p_v (v := v_stays) rfl rfl rfl (zah rfl) <| zaa <| run_ret Try.func33 (res1 rfl (zbc (v := v_stays) rfl)) ?_
   have q0 : (staysW xw xl xr xd : List Bool) = stays := by
    exact staysW_is hI9.1 hI20.1 hI20.2.1 hI9.2.2 hI20.2.2 (by first | (left; omega) | (right; exact ⟨by omega, by assumption⟩)) (by first | (left; omega) | (right; exact ⟨by omega, by assumption⟩)) hI31.2.2 (by omega) hI31.2.1
   refine ⟨_, rfl, h31, v_stays, ?_, ?_⟩
   · rw [q0]; exact S31.sub [1] (by decide) rfl _ rfl
   · first | rfl | (simp only [q0]; rfl) | (simp only [q0])
  refine daS (hkN (w := w20)) 11 rfl mixed ?_
  intro wd48 gd48 hd48
  have S49 := S20.keep gd48
  refine qd0 (i := 0) (v := .int .i64 xto) rfl (by decide +kernel) rfl rfl (zac r20_11) (zae rfl) <| qd0 (i := 1) (v := .int .i64 xfrom) rfl (by decide +kernel) rfl rfl (zac r20_10) (zae rfl) <| qd0 (i := 2) (v := .bool (decide (xfrom < xto))) rfl (by decide +kernel) rfl rfl (x_gtr rfl rfl) (zae rfl) <| qd0 (i := 3) (v := .bool (decide (xfrom < xto))) rfl (by decide +kernel) rfl rfl (zac rfl) (zae rfl) <| za7 (i := 4) rfl (by decide +kernel) (by decide +kernel) (by decide +kernel) (wo 3 34 rfl rfl (bF hc21) rfl) rfl (zae rfl) <| za7 (i := 5) rfl (by decide +kernel) (by decide +kernel) (by decide +kernel) (wo 3 34 rfl rfl (bF hc21) rfl) rfl (zae rfl) <| za7 (i := 6) rfl (by decide +kernel) (by decide +kernel) (by decide +kernel) (wo 3 34 rfl rfl (bF hc21) rfl) rfl (zae rfl) <| za7 (i := 7) rfl (by decide +kernel) (by decide +kernel) (by decide +kernel) (wo 3 34 rfl rfl (bF hc21) rfl) rfl (zae rfl) <| za7 (i := 8) rfl (by decide +kernel) (by decide +kernel) (by decide +kernel) (wo 3 34 rfl rfl (bF hc21) rfl) rfl (zae rfl) <| za7 (i := 9) rfl (by decide +kernel) (by decide +kernel) (by decide +kernel) (wo 3 34 rfl rfl (bF hc21) rfl) rfl (zae rfl) <| qd0 (i := 10) (v := .bool false) rfl (by decide +kernel) rfl rfl (x_pick_f (bF hc21) rfl) (zae rfl) <| zay (by decide +kernel) ?_
  intro wd50 gd50
  have S51 := S49.keep gd50
  refine run_cond (b := false) rfl ?_
  simp only [if_true, if_false, Bool.false_eq_true]
  refine zat rfl <| zad <| zad <| zag (l := [0, 1]) rfl <| p_v (v := .int .i64 xfrom) rfl rfl rfl (zac r20_10) <| p_v (v := .int .i64 xfrom) rfl rfl rfl (zah rfl) <| zaa <| zai <| zaz (S := (List Bool) × Int) (fun (q_ : (List Bool) × Int) ρ w' => match q_ with | (stays, i) => ∃ (h : Ghost) (v_stays : Value), Le h20 h ∧ St w.heap.size w h w' [box b5 37 (zab xd), row 4 Kd.bool v_stays stays] ∧ ρ 0 = .string xw ∧ ρ 7 = .pointer (some ⟨b5, 0, none⟩) ∧ ρ 9 = v_stays ∧ ρ 11 = .int .i64 xto ∧ ρ 12 = .int .i64 i ∧ inK .i64 i ∧ (xfrom ≤ i ∧ i ≤ xto ∧ stays = tab xw.size fun j => decide (xfrom ≤ (j : Int) ∧ (j : Int) < i) && !has xd (byt xw j))) (fun q_ => match q_ with | (stays, i) => (xto - i).toNat) (List.replicate ((xw.size : Int)).toNat false, xfrom) ⟨h20, v7, Le.refl _, S51.sub [1, 2] (by decide) rfl _ rfl, r20_0, r20_7, r20_9, r20_11, rfl, f9_0, (by exact ⟨by omega, by omega, staysW_0 _ _ _⟩)⟩ ?_
  rintro ⟨stays, i⟩ ih52 ρ52 w52 ⟨h52, v_stays, le52, S52, r52_0, r52_7, r52_9, r52_11, r52_12, f52_0, hI52⟩
  have lf52_0 := i64_lo f52_0; have hf52_0 := i64_hi f52_0
  have rl52_1 := S52.row_le (j := 1) rfl; simp only [maxLen] at rl52_1
  have hl_ : stays.length = xw.size := by rw [hI52.2.2]; exact tab_len _ _
  refine zad <| zad <| zag (l := [0, 1, 2]) rfl <| p_v (v := .int .i64 i) rfl rfl rfl (zac r52_12) <| p_v (v := .int .i64 xto) rfl rfl rfl (zac r52_11) <| p_v (v := .bool (decide (i < xto))) rfl rfl rfl (x_lss rfl rfl) <| zaa ?_
  refine zar (p := i < xto) rfl (fun hc53 => ?_) (fun hc53 => ?_)
  ·skip
   refine zas <| zad <| zai ?_
   have by54 := zaq xw i
   obtain ⟨ad56, a56, at56⟩ := e_index_own (q := i) (m := 1) S52 (j := 1) rfl rfl (by first|omega|(simp;omega)|assumption) (by first|omega|(simp;omega)|assumption)
   have hf57 : (CFs ⟨b5, 0, none⟩ (zab xd)).1 w52 := (CF.box (m := 4) (S52.box_at (j := 0) rfl) rfl)
   refine daS (hkC 2 hf57 (hkN (w := w52))) 10 rfl mixed ?_
   intro wd58 gd58 hd58
   have S59 := S52.keep gd58
   have hf60 := spUp gd58 hf57
   refine qd0 (i := 0) (v := v_stays) rfl (by decide +kernel) rfl rfl (zac r52_9) (zae rfl) <| qd0 (i := 1) (v := .int .i64 i) rfl (by decide +kernel) rfl rfl (zac r52_12) (zae rfl) <| qd1 0 (i := 2) (v := .agg (zab xd).toArray) rfl rfl (by decide +kernel) rfl rfl (fun wq hq => (za0 (seg := (zab xd)) ty37 rfl (by simp) r52_7 hq)) (of_eq hf60 (of_nil _ _)) <| qd0 (i := 3) (v := .string xw) rfl (by decide +kernel) rfl rfl (zac r52_0) (zae rfl) <| qd0 (i := 4) (v := .int .i64 i) rfl (by decide +kernel) rfl rfl (zac r52_12) (zae rfl) <| qd0 (i := 5) (v := .int .u8 (byt xw i)) rfl (by decide +kernel) rfl rfl (zao u9 rfl rfl (by first|omega|(simp;omega)|assumption) (by first|omega|(simp;omega)|assumption)) (zae rfl) <| d_m (i := 6) (v := .bool (has xd (byt xw i))) (fun _ => True) (fun _ ho => trivial) rfl (by decide +kernel) (by decide +kernel) (by decide +kernel) rfl rfl (fun wq => (zbd (args := [.agg (zab xd).toArray, .int .u8 (byt xw i)]) ca80 rfl rfl)) (fun wq hq => (in_calls wq xd (byt xw i) (in_u8 (by first|omega|(simp;omega)|assumption) (by first|omega|(simp;omega)|assumption))).mono fun e w2 he => by obtain ⟨_, rfl, _, T, rfl⟩ := he; exact ⟨rfl, Chg.of_below T.below⟩) (zae rfl) <| qd0 (i := 7) (v := .bool (!(has xd (byt xw i)))) rfl (by decide +kernel) rfl rfl (x_not rfl) (zae rfl) <| qd0 (i := 8) (v := .pointer (some ad56)) rfl (by decide +kernel) rfl rfl (x_index_own u25 ty4 rfl rfl a56 (by first|omega|(simp;omega)|assumption) (by first|omega|(simp;omega)|assumption)) (zae rfl) <| ra_one (i := 9) (by decide +kernel) ?_
   intro wd61 gd61
   have S62 := S59.keep gd61
   have hf63 := spUp gd61 hf60
   obtain ⟨w64, r64, g64, T64⟩ := e_store_own (u := .bool (!(has xd (byt xw i)))) (q := i) (!(has xd (byt xw i))) (vs := [.bool (!(has xd (byt xw i)))]) S62 ty4 rfl (j := 1) rfl rfl ⟨rfl, trivial⟩ at56 (by first|omega|(simp;omega)|assumption) (by first|omega|(simp;omega)|assumption)
   have S65 := T64.fx 1 (row 4 Kd.bool v_stays (stays.set (i).toNat (!(has xd (byt xw i))))) rfl
   dsimp only [lAa, lAn, lA0, lAs] at S65
   have hf66 : (CFs ⟨b5, 0, none⟩ (zab xd)).1 w64 := (CF.box (m := 4) (S65.box_at (j := 0) rfl) rfl)
   refine d_s rfl rfl (x_store rfl rfl r64) (.inr (keep_w (by decide +kernel) trivial)) <| zay (by decide +kernel) ?_
   intro wd67 gd67
   have S68 := S65.keep gd67
   refine zak <| zag (l := [0, 1, 2]) rfl <| p_v (v := .int .i64 i) rfl rfl rfl (zac r52_12) <| p_v (v := .int .i64 (i + 1)) rfl rfl rfl (x_add rfl rfl (zan (by first|omega|(simp;omega)|assumption) (by first|omega|(simp;omega)|assumption))) <| p_v (v := .int .i64 (i + 1)) rfl rfl rfl (zah rfl) <| zaa ?_
   refine ih52 (stays.set (i).toNat (!(has xd (byt xw i))), i + 1) _ _ (by dsimp only; omega) ⟨h52, v_stays, le52, S68.sub [0, 1] (by decide) rfl _ rfl, r52_0, r52_7, r52_9, r52_11, rfl, (zan (by first|omega|(simp;omega)|assumption) (by first|omega|(simp;omega)|assumption)), (by exact ⟨by omega, by omega, staysW_step hI52.2.2 hI9.1 hI52.1 (by omega) (by first | rfl | (simp only [*]; rfl) | simp [*])⟩)⟩
  refine zat rfl <| zad <| zag (l := [0, 1]) rfl <| p_v (v := v_stays) rfl rfl rfl (zac r52_9) <| p_v (v := v_stays) rfl rfl rfl (zah rfl) <| zaa <| run_ret Try.func33 (res1 rfl (zbc (v := v_stays) rfl)) ?_
  have q0 : (staysW xw xl xr xd : List Bool) = stays := by
   exact staysW_is hI9.1 hI20.1 hI20.2.1 hI9.2.2 hI20.2.2 (by first | (left; omega) | (right; exact ⟨by omega, by assumption⟩)) (by first | (left; omega) | (right; exact ⟨by omega, by assumption⟩)) hI52.2.2 (by omega) hI52.2.1
  refine ⟨_, rfl, h52, v_stays, ?_, ?_⟩
  · rw [q0]; exact S52.sub [1] (by decide) rfl _ rfl
  · first | rfl | (simp only [q0]; rfl) | (simp only [q0])
 refine daS (hkN (w := w9)) 11 rfl mixed ?_
 intro wd69 gd69 hd69
 have S70 := S9.keep gd69
 refine qd0 (i := 0) (v := .int .i64 xfrom) rfl (by decide +kernel) rfl rfl (zac r9_10) (zae rfl) <| qd0 (i := 1) (v := .string xw) rfl (by decide +kernel) rfl rfl (zac r9_0) (zae rfl) <| qd0 (i := 2) (v := .int .i64 (xw.size : Int)) rfl (by decide +kernel) rfl rfl (zap u9 rfl) (zae rfl) <| qd0 (i := 3) (v := .bool (decide (xfrom < (xw.size : Int)))) rfl (by decide +kernel) rfl rfl (x_lss rfl rfl) (zae rfl) <| qd0 (i := 4) (v := .bool (decide (xfrom < (xw.size : Int)))) rfl (by decide +kernel) rfl rfl (zac rfl) (zae rfl) <| za7 (i := 5) rfl (by decide +kernel) (by decide +kernel) (by decide +kernel) (wo 4 20 rfl rfl (bF hc10) rfl) rfl (zae rfl) <| za7 (i := 6) rfl (by decide +kernel) (by decide +kernel) (by decide +kernel) (wo 4 20 rfl rfl (bF hc10) rfl) rfl (zae rfl) <| za7 (i := 7) rfl (by decide +kernel) (by decide +kernel) (by decide +kernel) (wo 4 20 rfl rfl (bF hc10) rfl) rfl (zae rfl) <| za7 (i := 8) rfl (by decide +kernel) (by decide +kernel) (by decide +kernel) (wo 4 20 rfl rfl (bF hc10) rfl) rfl (zae rfl) <| za7 (i := 9) rfl (by decide +kernel) (by decide +kernel) (by decide +kernel) (wo 4 20 rfl rfl (bF hc10) rfl) rfl (zae rfl) <| qd0 (i := 10) (v := .bool false) rfl (by decide +kernel) rfl rfl (x_pick_f (bF hc10) rfl) (zae rfl) <| zay (by decide +kernel) ?_
 intro wd71 gd71
 have S72 := S70.keep gd71
 refine run_cond (b := false) rfl ?_
 simp only [if_true, if_false, Bool.false_eq_true]
 refine zat rfl <| zad <| zag (l := [0, 1, 2]) rfl <| p_v (v := .string xw) rfl rfl rfl (zac r9_0) <| p_v (v := .int .i64 (xw.size : Int)) rfl rfl rfl (zap u9 rfl) <| p_v (v := .int .i64 (xw.size : Int)) rfl rfl rfl (zah rfl) <| zaa <| zad <| zai <| zaz (S := Int) (fun (q_ : Int) ρ w' => match q_ with | xto => ∃ (h : Ghost), Le h9 h ∧ St w.heap.size w h w' [box b3 37 (zab xr), box b5 37 (zab xd), row 4 Kd.bool v7 (List.replicate ((xw.size : Int)).toNat false)] ∧ ρ 0 = .string xw ∧ ρ 6 = .pointer (some ⟨b3, 0, none⟩) ∧ ρ 7 = .pointer (some ⟨b5, 0, none⟩) ∧ ρ 9 = v7 ∧ ρ 10 = .int .i64 xfrom ∧ ρ 11 = .int .i64 xto ∧ inK .i64 xto ∧ (xfrom ≤ xto ∧ xto ≤ (xw.size : Int) ∧ cutR xr ((zaf xw).drop xfrom.toNat) = cutR xr (((zaf xw).take xto.toNat).drop xfrom.toNat))) (fun q_ => match q_ with | xto => xto.toNat) ((xw.size : Int)) ⟨h9, Le.refl _, S72.sub [1, 2, 3] (by decide) rfl _ rfl, r9_0, r9_6, r9_7, r9_9, r9_10, rfl, (zan (by first|omega|(simp;omega)|assumption) (by first|omega|(simp;omega)|assumption)), (by exact ⟨by omega, by omega, cutR_0 _ _ _⟩)⟩ ?_
 rintro xto ih73 ρ73 w73 ⟨h73, le73, S73, r73_0, r73_6, r73_7, r73_9, r73_10, r73_11, f73_0, hI73⟩
 have lf73_0 := i64_lo f73_0; have hf73_0 := i64_hi f73_0
 have rl73_2 := S73.row_le (j := 2) rfl; simp only [maxLen] at rl73_2
 refine zad <| zad ?_
 by_cases hc74 : xfrom < xto
 ·skip
  have by75 := zaq xw (xto - 1)
  have hf77 : (CFs ⟨b3, 0, none⟩ (zab xr)).1 w73 := (CF.box (m := 4) (S73.box_at (j := 0) rfl) rfl)
  refine daS (hkC 4 hf77 (hkN (w := w73))) 11 rfl mixed ?_
  intro wd78 gd78 hd78
  have S79 := S73.keep gd78
  have hf80 := spUp gd78 hf77
  refine qd0 (i := 0) (v := .int .i64 xto) rfl (by decide +kernel) rfl rfl (zac r73_11) (zae rfl) <| qd0 (i := 1) (v := .int .i64 xfrom) rfl (by decide +kernel) rfl rfl (zac r73_10) (zae rfl) <| qd0 (i := 2) (v := .bool (decide (xfrom < xto))) rfl (by decide +kernel) rfl rfl (x_gtr rfl rfl) (zae rfl) <| qd0 (i := 3) (v := .bool (decide (xfrom < xto))) rfl (by decide +kernel) rfl rfl (zac rfl) (zae rfl) <| qd1 0 (i := 4) (v := .agg (zab xr).toArray) rfl rfl (by decide +kernel) (wo 3 34 rfl rfl (bT hc74) rfl) rfl (fun wq hq => (za0 (seg := (zab xr)) ty37 rfl (by simp) r73_6 hq)) (of_eq hf80 (of_nil _ _)) <| qd0 (i := 5) (v := .string xw) rfl (by decide +kernel) (wo 3 34 rfl rfl (bT hc74) rfl) rfl (zac r73_0) (zae rfl) <| qd0 (i := 6) (v := .int .i64 xto) rfl (by decide +kernel) (wo 3 34 rfl rfl (bT hc74) rfl) rfl (zac r73_11) (zae rfl) <| qd0 (i := 7) (v := .int .i64 (xto - 1)) rfl (by decide +kernel) (wo 3 34 rfl rfl (bT hc74) rfl) rfl (x_sub rfl rfl (zan (by first|omega|(simp;omega)|assumption) (by first|omega|(simp;omega)|assumption))) (zae rfl) <| qd0 (i := 8) (v := .int .u8 (byt xw (xto - 1))) rfl (by decide +kernel) (wo 3 34 rfl rfl (bT hc74) rfl) rfl (zao u9 rfl rfl (by first|omega|(simp;omega)|assumption) (by first|omega|(simp;omega)|assumption)) (zae rfl) <| d_m (i := 9) (v := .bool (has xr (byt xw (xto - 1)))) (fun _ => True) (fun _ ho => trivial) rfl (by decide +kernel) (by decide +kernel) (by decide +kernel) (wo 3 34 rfl rfl (bT hc74) rfl) rfl (fun wq => (zbd (args := [.agg (zab xr).toArray, .int .u8 (byt xw (xto - 1))]) ca80 rfl rfl)) (fun wq hq => (in_calls wq xr (byt xw (xto - 1)) (in_u8 (by first|omega|(simp;omega)|assumption) (by first|omega|(simp;omega)|assumption))).mono fun e w2 he => by obtain ⟨_, rfl, _, T, rfl⟩ := he; exact ⟨rfl, Chg.of_below T.below⟩) (zae rfl) <| qd0 (i := 10) (v := .bool (has xr (byt xw (xto - 1)))) rfl (by decide +kernel) rfl rfl (x_pick_t (bT hc74) rfl) (zae rfl) <| zay (by decide +kernel) ?_
  intro wd81 gd81
  have S82 := S79.keep gd81
  refine zav (b := has xr (byt xw (xto - 1))) rfl (fun hc83 => ?_) (fun hc83 => ?_)
  ·skip
   refine zas <| zai <| zag (l := [0, 1, 2]) rfl <| p_v (v := .int .i64 xto) rfl rfl rfl (zac r73_11) <| p_v (v := .int .i64 (xto - 1)) rfl rfl rfl (x_sub rfl rfl (zan (by first|omega|(simp;omega)|assumption) (by first|omega|(simp;omega)|assumption))) <| p_v (v := .int .i64 (xto - 1)) rfl rfl rfl (zah rfl) <| zaa <| zak ?_
   refine ih73 (xto - 1) _ _ (by dsimp only; omega) ⟨h73, le73, S82.sub [0, 1, 2] (by decide) rfl _ rfl, r73_0, r73_6, r73_7, r73_9, r73_10, rfl, (zan (by first|omega|(simp;omega)|assumption) (by first|omega|(simp;omega)|assumption)), (by exact ⟨by omega, by omega, hI73.2.2.trans (cutR_yes hI9.1 (by omega) hI73.2.1 (by assumption))⟩)⟩
  refine zat rfl <| zad <| zad <| zag (l := [0, 1]) rfl <| p_v (v := .int .i64 xfrom) rfl rfl rfl (zac r73_10) <| p_v (v := .int .i64 xfrom) rfl rfl rfl (zah rfl) <| zaa <| zai <| zaz (S := (List Bool) × Int) (fun (q_ : (List Bool) × Int) ρ w' => match q_ with | (stays, i) => ∃ (h : Ghost) (v_stays : Value), Le h73 h ∧ St w.heap.size w h w' [box b5 37 (zab xd), row 4 Kd.bool v_stays stays] ∧ ρ 0 = .string xw ∧ ρ 7 = .pointer (some ⟨b5, 0, none⟩) ∧ ρ 9 = v_stays ∧ ρ 11 = .int .i64 xto ∧ ρ 12 = .int .i64 i ∧ inK .i64 i ∧ (xfrom ≤ i ∧ i ≤ xto ∧ stays = tab xw.size fun j => decide (xfrom ≤ (j : Int) ∧ (j : Int) < i) && !has xd (byt xw j))) (fun q_ => match q_ with | (stays, i) => (xto - i).toNat) (List.replicate ((xw.size : Int)).toNat false, xfrom) ⟨h73, v7, Le.refl _, S82.sub [1, 2] (by decide) rfl _ rfl, r73_0, r73_7, r73_9, r73_11, rfl, f9_0, (by exact ⟨by omega, by omega, staysW_0 _ _ _⟩)⟩ ?_
  rintro ⟨stays, i⟩ ih84 ρ84 w84 ⟨h84, v_stays, le84, S84, r84_0, r84_7, r84_9, r84_11, r84_12, f84_0, hI84⟩
  have lf84_0 := i64_lo f84_0; have hf84_0 := i64_hi f84_0
  have rl84_1 := S84.row_le (j := 1) rfl; simp only [maxLen] at rl84_1
  have hl_ : stays.length = xw.size := by rw [hI84.2.2]; exact tab_len _ _
  refine zad <| zad <| zag (l := [0, 1, 2]) rfl <| p_v (v := .int .i64 i) rfl rfl rfl (zac r84_12) <| p_v (v := .int .i64 xto) rfl rfl rfl (zac r84_11) <| p_v (v := .bool (decide (i < xto))) rfl rfl rfl (x_lss rfl rfl) <| zaa ?_
  refine zar (p := i < xto) rfl (fun hc85 => ?_) (fun hc85 => ?_)
  ·skip
   refine zas <| zad <| zai ?_
   have by86 := zaq xw i
   obtain ⟨ad88, a88, at88⟩ := e_index_own (q := i) (m := 1) S84 (j := 1) rfl rfl (by first|omega|(simp;omega)|assumption) (by first|omega|(simp;omega)|assumption)
   have hf89 : (CFs ⟨b5, 0, none⟩ (zab xd)).1 w84 := (CF.box (m := 4) (S84.box_at (j := 0) rfl) rfl)
   refine daS (hkC 2 hf89 (hkN (w := w84))) 10 rfl mixed ?_
   intro wd90 gd90 hd90
   have S91 := S84.keep gd90
   have hf92 := spUp gd90 hf89
   refine qd0 (i := 0) (v := v_stays) rfl (by decide +kernel) rfl rfl (zac r84_9) (zae rfl) <| qd0 (i := 1) (v := .int .i64 i) rfl (by decide +kernel) rfl rfl (zac r84_12) (zae rfl) <| qd1 0 (i := 2) (v := .agg (zab xd).toArray) rfl rfl (by decide +kernel) rfl rfl (fun wq hq => (za0 (seg := (zab xd)) ty37 rfl (by simp) r84_7 hq)) (of_eq hf92 (of_nil _ _)) <| qd0 (i := 3) (v := .string xw) rfl (by decide +kernel) rfl rfl (zac r84_0) (zae rfl) <| qd0 (i := 4) (v := .int .i64 i) rfl (by decide +kernel) rfl rfl (zac r84_12) (zae rfl) <| qd0 (i := 5) (v := .int .u8 (byt xw i)) rfl (by decide +kernel) rfl rfl (zao u9 rfl rfl (by first|omega|(simp;omega)|assumption) (by first|omega|(simp;omega)|assumption)) (zae rfl) <| d_m (i := 6) (v := .bool (has xd (byt xw i))) (fun _ => True) (fun _ ho => trivial) rfl (by decide +kernel) (by decide +kernel) (by decide +kernel) rfl rfl (fun wq => (zbd (args := [.agg (zab xd).toArray, .int .u8 (byt xw i)]) ca80 rfl rfl)) (fun wq hq => (in_calls wq xd (byt xw i) (in_u8 (by first|omega|(simp;omega)|assumption) (by first|omega|(simp;omega)|assumption))).mono fun e w2 he => by obtain ⟨_, rfl, _, T, rfl⟩ := he; exact ⟨rfl, Chg.of_below T.below⟩) (zae rfl) <| qd0 (i := 7) (v := .bool (!(has xd (byt xw i)))) rfl (by decide +kernel) rfl rfl (x_not rfl) (zae rfl) <| qd0 (i := 8) (v := .pointer (some ad88)) rfl (by decide +kernel) rfl rfl (x_index_own u25 ty4 rfl rfl a88 (by first|omega|(simp;omega)|assumption) (by first|omega|(simp;omega)|assumption)) (zae rfl) <| ra_one (i := 9) (by decide +kernel) ?_
   intro wd93 gd93
   have S94 := S91.keep gd93
   have hf95 := spUp gd93 hf92
   obtain ⟨w96, r96, g96, T96⟩ := e_store_own (u := .bool (!(has xd (byt xw i)))) (q := i) (!(has xd (byt xw i))) (vs := [.bool (!(has xd (byt xw i)))]) S94 ty4 rfl (j := 1) rfl rfl ⟨rfl, trivial⟩ at88 (by first|omega|(simp;omega)|assumption) (by first|omega|(simp;omega)|assumption)
   have S97 := T96.fx 1 (row 4 Kd.bool v_stays (stays.set (i).toNat (!(has xd (byt xw i))))) rfl
   dsimp only [lAa, lAn, lA0, lAs] at S97
   have hf98 : (CFs ⟨b5, 0, none⟩ (zab xd)).1 w96 := (CF.box (m := 4) (S97.box_at (j := 0) rfl) rfl)
   refine d_s rfl rfl (x_store rfl rfl r96) (.inr (keep_w (by decide +kernel) trivial)) <| zay (by decide +kernel) ?_
   intro wd99 gd99
   have S100 := S97.keep gd99
   refine zak <| zag (l := [0, 1, 2]) rfl <| p_v (v := .int .i64 i) rfl rfl rfl (zac r84_12) <| p_v (v := .int .i64 (i + 1)) rfl rfl rfl (x_add rfl rfl (zan (by first|omega|(simp;omega)|assumption) (by first|omega|(simp;omega)|assumption))) <| p_v (v := .int .i64 (i + 1)) rfl rfl rfl (zah rfl) <| zaa ?_
   refine ih84 (stays.set (i).toNat (!(has xd (byt xw i))), i + 1) _ _ (by dsimp only; omega) ⟨h84, v_stays, le84, S100.sub [0, 1] (by decide) rfl _ rfl, r84_0, r84_7, r84_9, r84_11, rfl, (zan (by first|omega|(simp;omega)|assumption) (by first|omega|(simp;omega)|assumption)), (by exact ⟨by omega, by omega, staysW_step hI84.2.2 hI9.1 hI84.1 (by omega) (by first | rfl | (simp only [*]; rfl) | simp [*])⟩)⟩
  refine zat rfl <| zad <| zag (l := [0, 1]) rfl <| p_v (v := v_stays) rfl rfl rfl (zac r84_9) <| p_v (v := v_stays) rfl rfl rfl (zah rfl) <| zaa <| run_ret Try.func33 (res1 rfl (zbc (v := v_stays) rfl)) ?_
  have q0 : (staysW xw xl xr xd : List Bool) = stays := by
   exact staysW_is hI9.1 hI73.1 hI73.2.1 hI9.2.2 hI73.2.2 (by first | (left; omega) | (right; exact ⟨by omega, by assumption⟩)) (by first | (left; omega) | (right; exact ⟨by omega, by assumption⟩)) hI84.2.2 (by omega) hI84.2.1
  refine ⟨_, rfl, h84, v_stays, ?_, ?_⟩
  · rw [q0]; exact S84.sub [1] (by decide) rfl _ rfl
  · first | rfl | (simp only [q0]; rfl) | (simp only [q0])
 refine daS (hkN (w := w73)) 11 rfl mixed ?_
 intro wd101 gd101 hd101
 have S102 := S73.keep gd101
 refine qd0 (i := 0) (v := .int .i64 xto) rfl (by decide +kernel) rfl rfl (zac r73_11) (zae rfl) <| qd0 (i := 1) (v := .int .i64 xfrom) rfl (by decide +kernel) rfl rfl (zac r73_10) (zae rfl) <| qd0 (i := 2) (v := .bool (decide (xfrom < xto))) rfl (by decide +kernel) rfl rfl (x_gtr rfl rfl) (zae rfl) <| qd0 (i := 3) (v := .bool (decide (xfrom < xto))) rfl (by decide +kernel) rfl rfl (zac rfl) (zae rfl) <| za7 (i := 4) rfl (by decide +kernel) (by decide +kernel) (by decide +kernel) (wo 3 34 rfl rfl (bF hc74) rfl) rfl (zae rfl) <| za7 (i := 5) rfl (by decide +kernel) (by decide +kernel) (by decide +kernel) (wo 3 34 rfl rfl (bF hc74) rfl) rfl (zae rfl) <| za7 (i := 6) rfl (by decide +kernel) (by decide +kernel) (by decide +kernel) (wo 3 34 rfl rfl (bF hc74) rfl) rfl (zae rfl) <| za7 (i := 7) rfl (by decide +kernel) (by decide +kernel) (by decide +kernel) (wo 3 34 rfl rfl (bF hc74) rfl) rfl (zae rfl) <| za7 (i := 8) rfl (by decide +kernel) (by decide +kernel) (by decide +kernel) (wo 3 34 rfl rfl (bF hc74) rfl) rfl (zae rfl) <| za7 (i := 9) rfl (by decide +kernel) (by decide +kernel) (by decide +kernel) (wo 3 34 rfl rfl (bF hc74) rfl) rfl (zae rfl) <| qd0 (i := 10) (v := .bool false) rfl (by decide +kernel) rfl rfl (x_pick_f (bF hc74) rfl) (zae rfl) <| zay (by decide +kernel) ?_
 intro wd103 gd103
 have S104 := S102.keep gd103
 refine run_cond (b := false) rfl ?_
 simp only [if_true, if_false, Bool.false_eq_true]
 refine zat rfl <| zad <| zad <| zag (l := [0, 1]) rfl <| p_v (v := .int .i64 xfrom) rfl rfl rfl (zac r73_10) <| p_v (v := .int .i64 xfrom) rfl rfl rfl (zah rfl) <| zaa <| zai <| zaz (S := (List Bool) × Int) (fun (q_ : (List Bool) × Int) ρ w' => match q_ with | (stays, i) => ∃ (h : Ghost) (v_stays : Value), Le h73 h ∧ St w.heap.size w h w' [box b5 37 (zab xd), row 4 Kd.bool v_stays stays] ∧ ρ 0 = .string xw ∧ ρ 7 = .pointer (some ⟨b5, 0, none⟩) ∧ ρ 9 = v_stays ∧ ρ 11 = .int .i64 xto ∧ ρ 12 = .int .i64 i ∧ inK .i64 i ∧ (xfrom ≤ i ∧ i ≤ xto ∧ stays = tab xw.size fun j => decide (xfrom ≤ (j : Int) ∧ (j : Int) < i) && !has xd (byt xw j))) (fun q_ => match q_ with | (stays, i) => (xto - i).toNat) (List.replicate ((xw.size : Int)).toNat false, xfrom) ⟨h73, v7, Le.refl _, S104.sub [1, 2] (by decide) rfl _ rfl, r73_0, r73_7, r73_9, r73_11, rfl, f9_0, (by exact ⟨by omega, by omega, staysW_0 _ _ _⟩)⟩ ?_
 rintro ⟨stays, i⟩ ih105 ρ105 w105 ⟨h105, v_stays, le105, S105, r105_0, r105_7, r105_9, r105_11, r105_12, f105_0, hI105⟩
 have lf105_0 := i64_lo f105_0; have hf105_0 := i64_hi f105_0
 have rl105_1 := S105.row_le (j := 1) rfl; simp only [maxLen] at rl105_1
 have hl_ : stays.length = xw.size := by rw [hI105.2.2]; exact tab_len _ _
 refine zad <| zad <| zag (l := [0, 1, 2]) rfl <| p_v (v := .int .i64 i) rfl rfl rfl (zac r105_12) <| p_v (v := .int .i64 xto) rfl rfl rfl (zac r105_11) <| p_v (v := .bool (decide (i < xto))) rfl rfl rfl (x_lss rfl rfl) <| zaa ?_
 refine zar (p := i < xto) rfl (fun hc106 => ?_) (fun hc106 => ?_)
 ·skip
  refine zas <| zad <| zai ?_
  have by107 := zaq xw i
  obtain ⟨ad109, a109, at109⟩ := e_index_own (q := i) (m := 1) S105 (j := 1) rfl rfl (by first|omega|(simp;omega)|assumption) (by first|omega|(simp;omega)|assumption)
  have hf110 : (CFs ⟨b5, 0, none⟩ (zab xd)).1 w105 := (CF.box (m := 4) (S105.box_at (j := 0) rfl) rfl)
  refine daS (hkC 2 hf110 (hkN (w := w105))) 10 rfl mixed ?_
  intro wd111 gd111 hd111
  have S112 := S105.keep gd111
  have hf113 := spUp gd111 hf110
  refine qd0 (i := 0) (v := v_stays) rfl (by decide +kernel) rfl rfl (zac r105_9) (zae rfl) <| qd0 (i := 1) (v := .int .i64 i) rfl (by decide +kernel) rfl rfl (zac r105_12) (zae rfl) <| qd1 0 (i := 2) (v := .agg (zab xd).toArray) rfl rfl (by decide +kernel) rfl rfl (fun wq hq => (za0 (seg := (zab xd)) ty37 rfl (by simp) r105_7 hq)) (of_eq hf113 (of_nil _ _)) <| qd0 (i := 3) (v := .string xw) rfl (by decide +kernel) rfl rfl (zac r105_0) (zae rfl) <| qd0 (i := 4) (v := .int .i64 i) rfl (by decide +kernel) rfl rfl (zac r105_12) (zae rfl) <| qd0 (i := 5) (v := .int .u8 (byt xw i)) rfl (by decide +kernel) rfl rfl (zao u9 rfl rfl (by first|omega|(simp;omega)|assumption) (by first|omega|(simp;omega)|assumption)) (zae rfl) <| d_m (i := 6) (v := .bool (has xd (byt xw i))) (fun _ => True) (fun _ ho => trivial) rfl (by decide +kernel) (by decide +kernel) (by decide +kernel) rfl rfl (fun wq => (zbd (args := [.agg (zab xd).toArray, .int .u8 (byt xw i)]) ca80 rfl rfl)) (fun wq hq => (in_calls wq xd (byt xw i) (in_u8 (by first|omega|(simp;omega)|assumption) (by first|omega|(simp;omega)|assumption))).mono fun e w2 he => by obtain ⟨_, rfl, _, T, rfl⟩ := he; exact ⟨rfl, Chg.of_below T.below⟩) (zae rfl) <| qd0 (i := 7) (v := .bool (!(has xd (byt xw i)))) rfl (by decide +kernel) rfl rfl (x_not rfl) (zae rfl) <| qd0 (i := 8) (v := .pointer (some ad109)) rfl (by decide +kernel) rfl rfl (x_index_own u25 ty4 rfl rfl a109 (by first|omega|(simp;omega)|assumption) (by first|omega|(simp;omega)|assumption)) (zae rfl) <| ra_one (i := 9) (by decide +kernel) ?_
  intro wd114 gd114
  have S115 := S112.keep gd114
  have hf116 := spUp gd114 hf113
  obtain ⟨w117, r117, g117, T117⟩ := e_store_own (u := .bool (!(has xd (byt xw i)))) (q := i) (!(has xd (byt xw i))) (vs := [.bool (!(has xd (byt xw i)))]) S115 ty4 rfl (j := 1) rfl rfl ⟨rfl, trivial⟩ at109 (by first|omega|(simp;omega)|assumption) (by first|omega|(simp;omega)|assumption)
  have S118 := T117.fx 1 (row 4 Kd.bool v_stays (stays.set (i).toNat (!(has xd (byt xw i))))) rfl
  dsimp only [lAa, lAn, lA0, lAs] at S118
  have hf119 : (CFs ⟨b5, 0, none⟩ (zab xd)).1 w117 := (CF.box (m := 4) (S118.box_at (j := 0) rfl) rfl)
  refine d_s rfl rfl (x_store rfl rfl r117) (.inr (keep_w (by decide +kernel) trivial)) <| zay (by decide +kernel) ?_
  intro wd120 gd120
  have S121 := S118.keep gd120
  refine zak <| zag (l := [0, 1, 2]) rfl <| p_v (v := .int .i64 i) rfl rfl rfl (zac r105_12) <| p_v (v := .int .i64 (i + 1)) rfl rfl rfl (x_add rfl rfl (zan (by first|omega|(simp;omega)|assumption) (by first|omega|(simp;omega)|assumption))) <| p_v (v := .int .i64 (i + 1)) rfl rfl rfl (zah rfl) <| zaa ?_
  refine ih105 (stays.set (i).toNat (!(has xd (byt xw i))), i + 1) _ _ (by dsimp only; omega) ⟨h105, v_stays, le105, S121.sub [0, 1] (by decide) rfl _ rfl, r105_0, r105_7, r105_9, r105_11, rfl, (zan (by first|omega|(simp;omega)|assumption) (by first|omega|(simp;omega)|assumption)), (by exact ⟨by omega, by omega, staysW_step hI105.2.2 hI9.1 hI105.1 (by omega) (by first | rfl | (simp only [*]; rfl) | simp [*])⟩)⟩
 refine zat rfl <| zad <| zag (l := [0, 1]) rfl <| p_v (v := v_stays) rfl rfl rfl (zac r105_9) <| p_v (v := v_stays) rfl rfl rfl (zah rfl) <| zaa <| run_ret Try.func33 (res1 rfl (zbc (v := v_stays) rfl)) ?_
 have q0 : (staysW xw xl xr xd : List Bool) = stays := by
  exact staysW_is hI9.1 hI73.1 hI73.2.1 hI9.2.2 hI73.2.2 (by first | (left; omega) | (right; exact ⟨by omega, by assumption⟩)) (by first | (left; omega) | (right; exact ⟨by omega, by assumption⟩)) hI105.2.2 (by omega) hI105.2.1
 refine ⟨_, rfl, h105, v_stays, ?_, ?_⟩
 · rw [q0]; exact S105.sub [1] (by decide) rfl _ rfl
 · first | rfl | (simp only [q0]; rfl) | (simp only [q0])
theorem left15_calls (w : World) (xw : ByteArray) (s0 : xw.size ≤ maxLen) (xl : BSet) (xr : BSet) (xd : BSet) (pre0 : xw.size ≤ 1000000) :
    Calls Try.prog 22 #[.string xw, .agg (zab xl).toArray, .agg (zab xr).toArray, .agg (zab xd).toArray] w fun e w' => ∃ v, e = .returned v ∧ ∃ (hn : Ghost), St w.heap.size w hn w' [] ∧ v = .string (leftW xw xl xr xd) ∧ (leftW xw xl xr xd).size ≤ maxLen := by
 refine za8 Try.func22 rfl Try.ntmps22 rfl ?_
 have S0 := St.init w
 have sz0 := s0; simp only [maxLen] at sz0
 have hl0_ := staysW_len xw xl xr xd
 refine zad <| zag (l := [0, 1, 2, 3]) rfl ?_
 obtain ⟨b1, w1, r1, g1, T1⟩ := e_box (P := Try.prog) S0 37 (v := .agg (zab xl).toArray) (zab xl) rfl
 have S2 := T1
 dsimp only [lAa, lAn, lA0, lAs] at S2
 refine p_v (v := .pointer (some ⟨b1, 0, none⟩)) rfl rfl rfl (x_box rfl r1) ?_
 obtain ⟨b3, w3, r3, g3, T3⟩ := e_box (P := Try.prog) S2 37 (v := .agg (zab xr).toArray) (zab xr) rfl
 have S4 := T3
 dsimp only [lAa, lAn, lA0, lAs] at S4
 refine p_v (v := .pointer (some ⟨b3, 0, none⟩)) rfl rfl rfl (x_box rfl r3) ?_
 obtain ⟨b5, w5, r5, g5, T5⟩ := e_box (P := Try.prog) S4 37 (v := .agg (zab xd).toArray) (zab xd) rfl
 have S6 := T5
 dsimp only [lAa, lAn, lA0, lAs] at S6
 refine p_v (v := .pointer (some ⟨b5, 0, none⟩)) rfl rfl rfl (x_box rfl r5) <| p_v (v := .string (⟨#[]⟩ : ByteArray)) rfl rfl rfl (zah rfl) <| zaa <| zad <| zag (l := [0, 1, 2, 3, 4, 5]) rfl <| p_v (v := .string xw) rfl rfl rfl (zac rfl) <| p_v (v := .agg (zab xl).toArray) rfl rfl rfl (za0 (seg := (zab xl)) ty37 rfl (by simp) rfl (CF.box (m := 4) (S6.box_at (j := 0) rfl) rfl)) <| p_v (v := .agg (zab xr).toArray) rfl rfl rfl (za0 (seg := (zab xr)) ty37 rfl (by simp) rfl (CF.box (m := 4) (S6.box_at (j := 1) rfl) rfl)) <| p_v (v := .agg (zab xd).toArray) rfl rfl rfl (za0 (seg := (zab xd)) ty37 rfl (by simp) rfl (CF.box (m := 4) (S6.box_at (j := 2) rfl) rfl)) <| p_c rfl rfl rfl (zbd (args := [.string xw, .agg (zab xl).toArray, .agg (zab xr).toArray, .agg (zab xd).toArray]) ca33 rfl rfl) (stays_calls w5 xw s0 xl xr xd (by omega)) ?_
 rintro v7_0 w7 ⟨h7, _, T7, rfl⟩
 obtain ⟨k7, lk7, ll7, U7⟩ := call_joins S6 T7
 have S8 := U7
 dsimp only [lAa, lAn, lA0, lAs] at S8
 refine p_v (v := v7_0) rfl rfl rfl (zah rfl) <| zaa <| zad <| zag (l := [0]) rfl <| p_v (v := .string (⟨#[]⟩ : ByteArray)) rfl rfl rfl (zah rfl) <| zaa <| zad <| zad <| zag (l := [0]) rfl <| p_v (v := .int .i64 0) rfl rfl rfl (zah rfl) <| zaa <| zai ?_
 refine zaz (S := ByteArray × Int) (fun (q_ : ByteArray × Int) ρ w' => match q_ with | (s, i) => ∃ (h : Ghost), Le k7 h ∧ St w.heap.size w h w' [row 4 Kd.bool v7_0 (staysW xw xl xr xd)] ∧ ρ 0 = .string xw ∧ ρ 9 = v7_0 ∧ ρ 10 = .string s ∧ ρ 11 = .int .i64 i ∧ s.size ≤ maxLen ∧ inK .i64 i ∧ (0 ≤ i ∧ i ≤ (xw.size : Int) ∧ s = strOfNums (bytTo xw (staysW xw xl xr xd) i.toNat))) (fun q_ => match q_ with | (s, i) => (xw.size - i).toNat) ((⟨#[]⟩ : ByteArray), 0) ⟨k7, Le.refl _, S8.sub [3] (by decide) rfl _ rfl, rfl, rfl, rfl, rfl, (by decide), (zan (by first|omega|(simp;omega)|assumption) (by first|omega|(simp;omega)|assumption)), (by exact ⟨by omega, by omega, bytTo_0 _ _⟩)⟩ ?_
 rintro ⟨s, i⟩ ih9 ρ9 w9 ⟨h9, le9, S9, r9_0, r9_9, r9_10, r9_11, f9_0, f9_1, hI9⟩
 have lf9_1 := i64_lo f9_1; have hf9_1 := i64_hi f9_1
 have bl9_10 := f9_0; simp only [maxLen] at bl9_10
 have rl9_0 := S9.row_le (j := 0) rfl; simp only [maxLen] at rl9_0
 have hs_ := bytTo_size hI9.2.2 hI9.1; have hl_ := staysW_len xw xl xr xd
 refine zad <| zad <| zag (l := [0, 1, 2, 3]) rfl <| p_v (v := .int .i64 i) rfl rfl rfl (zac r9_11) <| p_v (v := .string xw) rfl rfl rfl (zac r9_0) <| p_v (v := .int .i64 (xw.size : Int)) rfl rfl rfl (zap u9 rfl) <| p_v (v := .bool (decide (i < (xw.size : Int)))) rfl rfl rfl (x_lss rfl rfl) <| zaa ?_
 refine zar (p := i < (xw.size : Int)) rfl (fun hc10 => ?_) (fun hc10 => ?_)
 ·skip
  refine zas <| zad <| zai <| zad <| zag (l := [0, 1, 2, 3]) rfl <| p_v (v := v7_0) rfl rfl rfl (zac r9_9) <| p_v (v := .int .i64 i) rfl rfl rfl (zac r9_11) ?_
  obtain ⟨ad11, a11, at11⟩ := e_index_own (q := i) (m := 1) S9 (j := 0) rfl rfl (by first|omega|(simp;omega)|assumption) (by first|omega|(simp;omega)|assumption)
  refine p_v (v := .pointer (some ad11)) rfl rfl rfl (x_index_own u25 ty4 rfl rfl a11 (by first|omega|(simp;omega)|assumption) (by first|omega|(simp;omega)|assumption)) ?_
  obtain ⟨seg12, rp12, cf12⟩ := e_load_own (q := i) S9 (j := 0) rfl rfl at11 (by first|omega|(simp;omega)|assumption) (by first|omega|(simp;omega)|assumption)
  obtain ⟨rfl, _⟩ := rp12
  refine p_v (v := .bool (at_ (staysW xw xl xr xd) i)) rfl rfl rfl (za0 (seg := [.bool (at_ (staysW xw xl xr xd) i)]) ty4 rfl (by simp) rfl cf12) <| zaa ?_
  refine zav (b := at_ (staysW xw xl xr xd) i) rfl (fun hc13 => ?_) (fun hc13 => ?_)
  ·skip
   refine zag (l := [0, 1, 2, 3, 4, 5, 6, 7]) rfl <| p_v (v := .string s) rfl rfl rfl (zac r9_10) <| p_v (v := .string xw) rfl rfl rfl (zac r9_0) <| p_v (v := .int .i64 i) rfl rfl rfl (zac r9_11) <| p_v (v := .int .i64 i) rfl rfl rfl (zac r9_11) <| p_v (v := .int .i64 (i + 1)) rfl rfl rfl (x_add rfl rfl (zan (by first|omega|(simp;omega)|assumption) (by first|omega|(simp;omega)|assumption))) ?_
   have sx14 : ((subB xw i (i + 1)).size : Int) = i + 1 - i := sub_size xw (by first|omega|(simp;omega)|assumption) (by first|omega|(simp;omega)|assumption) (by first|omega|(simp;omega)|assumption)
   have sh14 : (subB xw i (i + 1)).size ≤ maxLen := by have := sx14; unfold maxLen; omega
   refine p_v (v := .string (subB xw i (i + 1))) rfl rfl rfl (x_slice (lv := some (.int .i64 i)) (hv := some (.int .i64 (i + 1))) rfl rfl rfl (r_sub_both u9 (by first|omega|(simp;omega)|assumption) (by first|omega|(simp;omega)|assumption) (by first|omega|(simp;omega)|assumption))) ?_
   have sb15 : s.size + (subB xw i (i + 1)).size ≤ 9223372036854775807 := by first | omega | (simp only [str_one]; omega) | (simp only [str_one, size_nil]; omega)
   have sz15 : (s ++ (subB xw i (i + 1))).size ≤ maxLen := by rw [size_add]; unfold maxLen; exact sb15
   have st15 := size_add s (subB xw i (i + 1))
   refine p_v (v := .string (s ++ (subB xw i (i + 1)))) rfl rfl rfl (x_add_str rfl rfl sb15) <| p_v (v := .string (s ++ (subB xw i (i + 1)))) rfl rfl rfl (zah rfl) <| zaa <| zak <| zag (l := [0, 1, 2]) rfl <| p_v (v := .int .i64 i) rfl rfl rfl (zac r9_11) <| p_v (v := .int .i64 (i + 1)) rfl rfl rfl (x_add rfl rfl (zan (by first|omega|(simp;omega)|assumption) (by first|omega|(simp;omega)|assumption))) <| p_v (v := .int .i64 (i + 1)) rfl rfl rfl (zah rfl) <| zaa ?_
   refine ih9 (s ++ (subB xw i (i + 1)), i + 1) _ _ (by dsimp only; omega) ⟨h9, le9, S9.sub [0] (by decide) rfl _ rfl, r9_0, r9_9, rfl, rfl, sz15, (zan (by first|omega|(simp;omega)|assumption) (by first|omega|(simp;omega)|assumption)), (by first | exact ⟨by omega, by omega, bytTo_yes hI9.2.2 hI9.1 (by omega) (by assumption) rfl⟩ | exact ⟨by omega, by omega, bytTo_no hI9.2.2 hI9.1 (by assumption)⟩)⟩
  refine zas <| zak <| zag (l := [0, 1, 2]) rfl <| p_v (v := .int .i64 i) rfl rfl rfl (zac r9_11) <| p_v (v := .int .i64 (i + 1)) rfl rfl rfl (x_add rfl rfl (zan (by first|omega|(simp;omega)|assumption) (by first|omega|(simp;omega)|assumption))) <| p_v (v := .int .i64 (i + 1)) rfl rfl rfl (zah rfl) <| zaa ?_
  refine ih9 (s, i + 1) _ _ (by dsimp only; omega) ⟨h9, le9, S9.sub [0] (by decide) rfl _ rfl, r9_0, r9_9, r9_10, rfl, f9_0, (zan (by first|omega|(simp;omega)|assumption) (by first|omega|(simp;omega)|assumption)), (by first | exact ⟨by omega, by omega, bytTo_yes hI9.2.2 hI9.1 (by omega) (by assumption) rfl⟩ | exact ⟨by omega, by omega, bytTo_no hI9.2.2 hI9.1 (by assumption)⟩)⟩
 refine zat rfl <| zad <| zag (l := [0, 1]) rfl <| p_v (v := .string s) rfl rfl rfl (zac r9_10) <| p_v (v := .string s) rfl rfl rfl (zah rfl) <| zaa <| run_ret Try.func22 (res1 rfl (zbc (v := .string s) rfl)) ?_
 have q0 : (leftW xw xl xr xd : ByteArray) = s := by
  exact doc_left hI9.2.2 (by omega) hI9.2.1
 refine ⟨_, rfl, h9, ?_, ?_, ?_⟩
 · exact S9.sub [] (by decide) rfl _ rfl
 · first | rfl | (simp only [q0]; rfl) | (simp only [q0])
 · rw [q0]; first | assumption | exact f9_0
end Go.Proofs.Ytgpkkkekmimoeaa
namespace Go.Proofs.Ytgpkkkekmimoeaa
open Go Go.RowKit Gx
set_option maxHeartbeats 3000000
set_option linter.unusedVariables false
set_option linter.unusedSimpArgs false
set_option maxRecDepth 8000
attribute [local irreducible] first has setOf Lib.ctz cutL cutR stayL leftW fromW toW staysW bytTo
theorem wrapLeft_calls (w : World) (xw : ByteArray) (s0 : xw.size ≤ maxLen) (left : BSet) (right : BSet) (drop : BSet) :
    Calls Try.prog 5 #[.string xw, .agg (zab left).toArray, .agg (zab right).toArray, .agg (zab drop).toArray] w fun e w' => ∃ v, e = .returned v ∧ ∃ (hn : Ghost), St w.heap.size w hn w' [] ∧ v = .bool true := by
 refine za8 Try.func5 rfl Try.ntmps5 rfl ?_
 have S0 := St.init w
 have sz0 := s0; simp only [maxLen] at sz0
 refine zad <| zag (l := [0, 1, 2, 3]) rfl ?_
 obtain ⟨b1, w1, r1, g1, T1⟩ := e_box (P := Try.prog) S0 37 (v := .agg (zab left).toArray) (zab left) rfl
 have S2 := T1
 dsimp only [lAa, lAn, lA0, lAs] at S2
 refine p_v (v := .pointer (some ⟨b1, 0, none⟩)) rfl rfl rfl (x_box rfl r1) ?_
 obtain ⟨b3, w3, r3, g3, T3⟩ := e_box (P := Try.prog) S2 37 (v := .agg (zab right).toArray) (zab right) rfl
 have S4 := T3
 dsimp only [lAa, lAn, lA0, lAs] at S4
 refine p_v (v := .pointer (some ⟨b3, 0, none⟩)) rfl rfl rfl (x_box rfl r3) ?_
 obtain ⟨b5, w5, r5, g5, T5⟩ := e_box (P := Try.prog) S4 37 (v := .agg (zab drop).toArray) (zab drop) rfl
 have S6 := T5
 dsimp only [lAa, lAn, lA0, lAs] at S6
 refine p_v (v := .pointer (some ⟨b5, 0, none⟩)) rfl rfl rfl (x_box rfl r5) <| p_v (v := .bool false) rfl rfl rfl (zah rfl) <| zaa <| zad <| zad <| zag (l := [0, 1, 2]) rfl <| p_v (v := .string xw) rfl rfl rfl (zac rfl) <| p_v (v := .int .i64 (xw.size : Int)) rfl rfl rfl (zap u9 rfl) <| p_v (v := .bool (decide (300 < (xw.size : Int)))) rfl rfl rfl (x_gtr rfl rfl) <| zaa ?_
 refine zar (p := 300 < (xw.size : Int)) rfl (fun hc7 => ?_) (fun hc7 => ?_)
 ·skip
  refine zad <| zag (l := [0, 1]) rfl <| p_c rfl rfl rfl (zbd (args := []) ca20 rfl rfl) (awake15_calls w5 ) ?_
  rintro _ w8 ⟨h8, T8, rfl⟩
  have S9 := S6.keep (Chg.of_below T8.below)
  refine p_v (v := .bool true) rfl rfl rfl (zah rfl) <| zaa <| run_ret Try.func5 (res1 rfl (zbc (v := .bool true) rfl)) ?_
  have q0 : (true : Bool) = true := rfl
  refine ⟨_, rfl, (fun _ => none), ?_, ?_⟩
  · exact S9.sub [] (by decide) rfl _ rfl
  · rfl
 refine zas <| zad ?_
 obtain ⟨_, _, _, _, _, _, _, sz11_0⟩ := calls_some (left_calls w5 xw s0 left right drop (by omega))
 have bd_sz11_0 := sz11_0; simp only [maxLen] at bd_sz11_0
 obtain ⟨_, _, _, _, _, _, _, sz12_0⟩ := calls_some (left15_calls w5 xw s0 left right drop (by omega))
 have bd_sz12_0 := sz12_0; simp only [maxLen] at bd_sz12_0
 have hc13 : ((leftW xw left right drop) = (leftW xw left right drop)) := by
  rfl
 have hf15 : (CFs ⟨b1, 0, none⟩ (zab left)).1 w5 := (CF.box (m := 4) (S6.box_at (j := 0) rfl) rfl)
 have hf16 : (CFs ⟨b3, 0, none⟩ (zab right)).1 w5 := (CF.box (m := 4) (S6.box_at (j := 1) rfl) rfl)
 have hf17 : (CFs ⟨b5, 0, none⟩ (zab drop)).1 w5 := (CF.box (m := 4) (S6.box_at (j := 2) rfl) rfl)
 have hf18 : (CFs ⟨b1, 0, none⟩ (zab left)).1 w5 := (CF.box (m := 4) (S6.box_at (j := 0) rfl) rfl)
 have hf19 : (CFs ⟨b3, 0, none⟩ (zab right)).1 w5 := (CF.box (m := 4) (S6.box_at (j := 1) rfl) rfl)
 have hf20 : (CFs ⟨b5, 0, none⟩ (zab drop)).1 w5 := (CF.box (m := 4) (S6.box_at (j := 2) rfl) rfl)
 refine daS (hkC 1 hf15 (hkC 2 hf16 (hkC 3 hf17 (hkC 6 hf18 (hkC 7 hf19 (hkC 8 hf20 (hkN (w := w5)))))))) 15 rfl mixed ?_
 intro wd21 gd21 hd21
 have S22 := S6.keep gd21
 have hf23 := spUp gd21 hf15
 have hf24 := spUp gd21 hf16
 have hf25 := spUp gd21 hf17
 have hf26 := spUp gd21 hf18
 have hf27 := spUp gd21 hf19
 have hf28 := spUp gd21 hf20
 refine qd0 (i := 0) (v := .string xw) rfl (by decide +kernel) rfl rfl (zac rfl) (zae rfl) <| qd1 0 (i := 1) (v := .agg (zab left).toArray) rfl rfl (by decide +kernel) rfl rfl (fun wq hq => (za0 (seg := (zab left)) ty37 rfl (by simp) rfl hq)) (of_eq hf23 (zae rfl)) <| qd1 1 (i := 2) (v := .agg (zab right).toArray) rfl rfl (by decide +kernel) rfl rfl (fun wq hq => (za0 (seg := (zab right)) ty37 rfl (by simp) rfl hq)) (of_ne rfl (of_eq hf24 (zae rfl))) <| qd1 2 (i := 3) (v := .agg (zab drop).toArray) rfl rfl (by decide +kernel) rfl rfl (fun wq hq => (za0 (seg := (zab drop)) ty37 rfl (by simp) rfl hq)) (of_ne rfl (of_ne rfl (of_eq hf25 (zae rfl)))) <| d_m (i := 4) (v := .string (leftW xw left right drop)) (fun _ => True) (fun _ ho => trivial) rfl (by decide +kernel) (by decide +kernel) (by decide +kernel) rfl rfl (fun wq => (zbd (args := [.string xw, .agg (zab left).toArray, .agg (zab right).toArray, .agg (zab drop).toArray]) ca21 rfl rfl)) (fun wq hq => (left_calls wq xw s0 left right drop (by omega)).mono fun e w2 he => by obtain ⟨_, rfl, _, T, rfl, _⟩ := he; exact ⟨rfl, Chg.of_below T.below⟩) (zae rfl) <| qd0 (i := 5) (v := .string xw) rfl (by decide +kernel) rfl rfl (zac rfl) (zae rfl) <| qd1 3 (i := 6) (v := .agg (zab left).toArray) rfl rfl (by decide +kernel) rfl rfl (fun wq hq => (za0 (seg := (zab left)) ty37 rfl (by simp) rfl hq)) (of_ne rfl (of_ne rfl (of_ne rfl (of_eq hf26 (zae rfl))))) <| qd1 4 (i := 7) (v := .agg (zab right).toArray) rfl rfl (by decide +kernel) rfl rfl (fun wq hq => (za0 (seg := (zab right)) ty37 rfl (by simp) rfl hq)) (of_ne rfl (of_ne rfl (of_ne rfl (of_ne rfl (of_eq hf27 (zae rfl)))))) <| qd1 5 (i := 8) (v := .agg (zab drop).toArray) rfl rfl (by decide +kernel) rfl rfl (fun wq hq => (za0 (seg := (zab drop)) ty37 rfl (by simp) rfl hq)) (of_ne rfl (of_ne rfl (of_ne rfl (of_ne rfl (of_ne rfl (of_eq hf28 (zae rfl))))))) <| d_m (i := 9) (v := .string (leftW xw left right drop)) (fun _ => True) (fun _ ho => trivial) rfl (by decide +kernel) (by decide +kernel) (by decide +kernel) rfl rfl (fun wq => (zbd (args := [.string xw, .agg (zab left).toArray, .agg (zab right).toArray, .agg (zab drop).toArray]) ca22 rfl rfl)) (fun wq hq => (left15_calls wq xw s0 left right drop (by omega)).mono fun e w2 he => by obtain ⟨_, rfl, _, T, rfl, _⟩ := he; exact ⟨rfl, Chg.of_below T.below⟩) (zae rfl) <| qd0 (i := 10) (v := .bool (decide ((leftW xw left right drop) = (leftW xw left right drop)))) rfl (by decide +kernel) rfl rfl (x_eql_string rfl rfl) (zae rfl) <| qd0 (i := 11) (v := .bool (decide ((leftW xw left right drop) = (leftW xw left right drop)))) rfl (by decide +kernel) rfl rfl (zac rfl) (zae rfl) ?_
 refine d_m (i := 12) (v := .bool true) (fun _ => True) (fun _ ho => trivial) rfl (by decide +kernel) (by decide +kernel) (by decide +kernel) (wo 11 24 rfl rfl (bT hc13) rfl) rfl (fun wq => (zbd (args := []) ca20 rfl rfl)) (fun wq hq => (awake15_calls wq ).mono fun e w2 he => by obtain ⟨_, rfl, _, T, rfl⟩ := he; exact ⟨rfl, Chg.of_below T.below⟩) (zae rfl) <| qd0 (i := 13) (v := .bool true) rfl (by decide +kernel) rfl rfl (x_pick_t (bT hc13) rfl) (zae rfl) <| qd0 (i := 14) (v := .bool true) rfl (by decide +kernel) rfl rfl (zah rfl) (zae rfl) <| zay (by decide +kernel) ?_
 intro wd29 gd29
 have S30 := S22.keep gd29
 refine run_ret Try.func5 (res1 rfl (zbc (v := .bool true) rfl)) ?_
 have q0 : (true : Bool) = true := rfl
 refine ⟨_, rfl, (fun _ => none), ?_, ?_⟩
 · exact S30.sub [] (by decide) rfl _ rfl
 · rfl
end Go.Proofs.Ytgpkkkekmimoeaa
namespace Gx
open Go Go.RowKit
set_option linter.unusedSimpArgs false
set_option linter.unusedSectionVars false
set_option linter.unusedVariables false
def Opens {α : Type} (P : Program) (k : Kd α) (t : TypeId) : Prop :=
  ∀ {H : Type} {enc : TypeId × Value → H} {w : World} {spare : Nat → Bool} {held : Bool} {fuel : Nat} {cs : List Value} {x : DataW H × List MemPlace}, DataW.trod enc P w 0 spare held fuel t cs = some x → ∃ m, k.rep (hp w) m cs
section
variable {P : Program} {t e : TypeId}
theorem inK_wf {k : IntKind} {n : Int} (h : (Lit.int k n).wf = true) : inK k n := by
  simp only [Lit.wf, Bool.and_eq_true, decide_eq_true_eq] at h
  exact h
theorem Opens.int {k : IntKind} (ht : P.underlying t = some (.int k)) : Opens P (Kd.int k) t := fun h => by
  obtain ⟨n, rfl, _, hw⟩ := DataW.trod_int ht h
  exact ⟨n, rfl, inK_wf hw⟩
theorem Opens.bool (ht : P.underlying t = some .bool) : Opens P Kd.bool t := fun h => by
  obtain ⟨b, rfl, _⟩ := DataW.trod_bool ht h
  exact ⟨b, rfl, trivial⟩
theorem Opens.string (ht : P.underlying t = some .string) : Opens P Kd.string t := fun h => by
  obtain ⟨s, rfl, _, hs⟩ := DataW.trod_string ht h
  exact ⟨s, rfl, hs⟩
theorem exists_list {α : Type} {Q : Nat → α → Prop} : ∀ (n : Nat), (∀ i, i < n → ∃ m, Q i m) → ∃ l : List α, l.length = n ∧ ∀ i m, l[i]? = some m → Q i m
  | 0, _ => ⟨[], rfl, fun i m h => by simp at h⟩
  | n + 1, h => by
    obtain ⟨l, hl, hq⟩ := exists_list n fun i hi => h i (by omega)
    obtain ⟨m, hm⟩ := h n (by omega)
    refine ⟨l ++ [m], by simp [hl], fun i y hy => ?_⟩
    rw [List.getElem?_append] at hy
    split at hy
    · exact hq i y hy
    · rename_i hi
      have e : i - l.length = 0 := by
        rcases Nat.eq_zero_or_pos (i - l.length) with h0 | h0
        · exact h0
        · rw [List.getElem?_eq_none (by simp; omega)] at hy; cases hy
      rw [e] at hy
      simp at hy
      subst hy
      have : i = n := by omega
      rw [this]; exact hm
theorem Opens.ints {k : IntKind} {n : Nat} (hn : 0 < n) (ht : P.underlying t = some (.array n e)) (he : P.underlying e = some (.int k)) (hc : P.cellsOf e = 1) (hct : P.cellsOf t = n) : Opens P (kInts k n hn) t := fun {H enc w spare held fuel cs x} h => by
  obtain ⟨xs, m, _, _, hl, hx, hel⟩ := DataW.trod_array ht h
  rw [hct] at hl
  have h1 : ∀ i, i < n → ∃ z : Int, cs[i]? = some (.int k z) ∧ inK k z := fun i hi => by
    have h2 := hel i hi
    rw [hc, Nat.mul_one, List.getElem?_eq_getElem (by omega)] at h2
    obtain ⟨z, hz, _, hw⟩ := DataW.trod_int he h2
    refine ⟨z, ?_, inK_wf hw⟩
    have h3 := congrArg (fun l : List Value => l[0]?) hz
    simpa [List.getElem?_take, List.getElem?_drop] using h3
  obtain ⟨l, hll, hq⟩ := exists_list n h1
  refine ⟨l, ?_, hll, fun z hz => ?_⟩
  · apply List.ext_getElem?
    intro i
    rw [encInts, List.getElem?_map]
    by_cases hi : i < n
    · have h4 := hq i (l[i]'(by omega)) (List.getElem?_eq_getElem _)
      rw [h4.1, List.getElem?_eq_getElem (by omega)]; rfl
    · rw [List.getElem?_eq_none (by omega), List.getElem?_eq_none (by omega)]; rfl
  · obtain ⟨i, hi⟩ := List.mem_iff_getElem?.1 hz
    exact (hq i z hi).2
theorem Opens.set (ht : P.underlying t = some (.array 4 e)) (he : P.underlying e = some (.int .u64)) (hc : P.cellsOf e = 1) (hct : P.cellsOf t = 4) : Opens P kSet t := fun h => by
  obtain ⟨l, hl, hok⟩ := Opens.ints (n := 4) (by omega) ht he hc hct h
  exact ⟨ofWords l, by rw [hl, encSet_of hok], trivial⟩
theorem Opens.slice {α : Type} {k : Kd α} (ht : P.underlying t = some (.slice e)) (hc : P.cellsOf e = k.sz) (ho : Opens P k e) : Opens P k.slice t := fun {H enc w spare held fuel cs x} h => by
  rcases DataW.trod_slice ht h with ⟨rfl, _⟩ | ⟨a, len, cap, elems, rest, n, _, rfl, _, _, hl, hm, hlen, hel, _, _⟩
  · exact ⟨[], none, 0, rfl, Nat.le_refl _, by simp [maxLen], fun hne => (hne rfl).elim⟩
  · rw [hc] at hel
    have h1 : ∀ i, i < len → ∃ m, ∃ seg, k.rep (hp w) m seg ∧ ∀ j v, seg[j]? = some v → gcell (hp w) (a.add (i * k.sz + j)) = some v := fun i hi => by
      have h2 := hel i hi
      rw [List.getElem?_eq_getElem (by omega)] at h2
      obtain ⟨seg, hseg, hd⟩ := Option.bind_eq_some_iff.1 h2
      obtain ⟨m, hr⟩ := ho hd
      refine ⟨m, seg, hr, fun j v hj => ?_⟩
      obtain ⟨_, hlen2, hcell⟩ := World.cells?_some hseg
      have hjl : j < k.sz := by
        have := (List.getElem?_eq_some_iff.1 hj).1
        rw [k.len hr] at this; exact this
      have h5 := hcell j hjl
      rw [hj] at h5
      rw [Addr.add_add] at h5
      show gcell (hp w) _ = _
      unfold gcell hp
      unfold World.cell? at h5
      exact h5
    obtain ⟨l, hll, hq⟩ := exists_list len h1
    refine ⟨l, some a, cap, by rw [hll], by omega, hm, fun _ => ⟨a, rfl, hq⟩⟩
theorem okWide_array {n : Nat} {w : World} {r : Reach} {base : Nat} {v : Value} (ht : P.underlying t = some (.array n e)) (h : Value.okWide P w r base t v) : ∃ cs, v = .agg cs ∧ cs.size = P.cellsOf t := by
  simp only [Value.okWide, ht] at h
  obtain ⟨cs, h1, h2, _⟩ := h
  exact ⟨cs, h1, h2⟩
end
end Gx
namespace Gx
open Go Go.RowKit
set_option linter.unusedSimpArgs false
set_option linter.unusedSectionVars false
set_option linter.unusedVariables false
section
variable {P : Program} {t : TypeId}
theorem trod_field {H : Type} {enc : TypeId × Value → H} {w : World} {spare : Nat → Bool} {held : Bool} {fuel : Nat} {cs : List Value} {x : DataW H × List MemPlace} {α : Type} {k : Kd α} {q o ft : Nat} (hf : za2 P t q = some (o, ft)) (hc : P.cellsOf ft = k.sz) (ho : Opens P k ft) (h : DataW.trod enc P w 0 spare held fuel t cs = some x) : ∃ m, k.rep (hp w) m ((cs.drop o).take k.sz) := by
  obtain ⟨fs, fd, hu, hq, rfl, rfl⟩ := fieldInfo_parts hf
  obtain ⟨xs, n, _, _, _, hl, hp⟩ := DataW.trod_struct hu h
  have h1 := hp q fd hq
  have hlt : q < fs.size := (Array.getElem?_eq_some_iff.1 hq).1
  rw [hc, List.getElem?_eq_getElem (by omega)] at h1
  exact ho h1
theorem trod_len {H : Type} {enc : TypeId × Value → H} {w : World} {spare : Nat → Bool} {held : Bool} {fuel : Nat} {cs : List Value} {x : DataW H × List MemPlace} {q o ft : Nat} (hf : za2 P t q = some (o, ft)) (h : DataW.trod enc P w 0 spare held fuel t cs = some x) : cs.length = P.cellsOf t := by
  obtain ⟨fs, fd, hu, hq, rfl, rfl⟩ := fieldInfo_parts hf
  obtain ⟨xs, n, _, _, hl, _, _⟩ := DataW.trod_struct hu h
  exact hl
theorem Opens.spot {a b : TypeId} (h0 : za2 P t 0 = some (0, a)) (h1 : za2 P t 1 = some (4, b)) (hc : P.cellsOf t = 5) (ha : P.cellsOf a = 4) (hb : P.cellsOf b = 1) (oa : Opens P kSet a) (ob : Opens P (Kd.int .u8) b) : Opens P kSpot t := fun {H enc w spare held fuel cs x} h => by
  obtain ⟨s, e0, _⟩ := trod_field h0 ha oa h
  obtain ⟨n, e1, hn⟩ := trod_field h1 hb ob h
  have hl := trod_len h0 h
  rw [hc] at hl
  refine ⟨⟨s, n⟩, ?_, hn⟩
  have e2 : cs = (cs.drop 0).take 4 ++ (cs.drop 4).take 1 := by
    rw [List.drop_zero, List.take_of_length_le (l := cs.drop 4) (by simp; omega), List.take_append_drop]
  rw [e2]
  show (cs.drop 0).take kSet.sz ++ (cs.drop 4).take (Kd.int .u8).sz = _
  rw [e0, e1]; rfl
end
end Gx
namespace Go.Proofs.Ytgpkkkekmimoeaa
open Go Go.ChangeShapes Go.WideShapes Go.ChangeAt Go.RowKit Gx
set_option linter.unusedVariables false
theorem own : ownKnob Try.prog.godebug = none := by kernel_rfl
theorem laidOut : laidOutB Try.prog = true := by kernel_rfl
end Go.Proofs.Ytgpkkkekmimoeaa
