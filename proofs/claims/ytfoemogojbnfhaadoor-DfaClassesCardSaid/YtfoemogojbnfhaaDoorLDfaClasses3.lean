/- My own library for walks through the translated code, and the walks of the functions that the law DfaClasses comes to, part 4; no conditions but those that each contract tells. -/
import Derived.Laws.Concat
import Derived.ProofKit
import Derived.OpenShut
import Derived.ShutString
import Derived.ChangeOld
import Derived.Below
import Derived.DataElems
import Derived.Test.YtfoemogojbnfhaaDoorTie
import Derived.Test.YtfoemogojbnfhaaDoorCards
import Derived.LaidMore
import Derived.Stop.Joined
import Derived.MakeChecks
import Derived.Test.YtfoemogojbnfhaaDoorLDfaClasses2
namespace Go.Proofs.YtfoemogojbnfhaaDoor
open Go Go.RowKit Gx
set_option maxHeartbeats 1000000
set_option linter.unusedVariables false
set_option linter.unusedSimpArgs false
set_option maxRecDepth 8000
attribute [local irreducible] zbj count first someIn has zbd wbits Lib.ctz badQ zd0 zcd goD runD notD errD notTo nextP finalP howB zbt nextC outTo readTo rowIn zdh lastB zat zdx zai errB fitsP madeM allM bfs zdl putB beginB okB zdp smallTo overM lettersP zap
theorem letters_calls (w : World) :
    Calls Tryd.prog 47 #[] w fun e w' => ∃ v, e = .returned v ∧ ∃ (hn : Ghost), St w.heap.size w hn w' [] ∧ v = .agg (zab lettersP).toArray ∧ zbx lettersP := by
 refine zak Tryd.func47 rfl Tryd.ntmps47 rfl ?_
 have S0 := St.init w
 refine zac <| zae (l := [0]) rfl ?_
 obtain ⟨b1, w1, r1, g1, T1⟩ := zcb (P := Tryd.prog) S0 32 (v := zv32) (zab zPart) (by kernel_rfl)
 have S2 := T1
 dsimp only [lAa, lAn, lA0, lAs] at S2
 refine p_v (v := .pointer (some ⟨b1, 0, none⟩)) rfl rfl rfl (zch ty32 r1) <| zaa <| zac <| zae (l := [0, 1, 2, 3, 4, 5, 6, 7, 8]) rfl ?_
 obtain ⟨v3, w3, r3, g3, T3⟩ := za6 (kd := (Kd.int .u8)) (xs := ([97] : List Int)) (len := 1) [.int .u8 97] S2 u39 ty5 rfl rfl rfl rfl rfl (zbs rfl zcc) [.int .u8 97] (zb5.single (k := (Kd.int .u8)) (h := (fun _ => none)) (x := 97) (cs := [.int .u8 97]) ⟨rfl, (in_u8 (by first|omega|(simp;omega)|assumption|simp) (by first|omega|(simp;omega)|assumption|simp))⟩) rfl
 have S4 := T3
 dsimp only [lAa, lAn, lA0, lAs] at S4
 refine p_v (v := v3) rfl rfl rfl (zax (pv := [(0, .int .u8 97)]) rfl r3) ?_
 obtain ⟨A5, c5, ev5, lc5, cm5⟩ := S4.row_val (j := 1) rfl
 refine p_c rfl rfl rfl (za2 (args := [.slice A5 ([97] : List Int).length c5]) ca64 rfl (zdv ev5 rfl)) (of_calls w3 ([97] : List Int) A5 c5 (And.intro lc5 cm5) (zcz S4 (j := 1) rfl ev5)) ?_
 rintro _ w6 ⟨h6, T6, rfl⟩
 have S7 := S4.keep (Chg.of_below T6.below)
 obtain ⟨v8, w8, r8, g8, T8⟩ := za6 (kd := (Kd.int .u8)) (xs := ([98] : List Int)) (len := 1) [.int .u8 98] S7 u39 ty5 rfl rfl rfl rfl rfl (zbs rfl zcc) [.int .u8 98] (zb5.single (k := (Kd.int .u8)) (h := (fun _ => none)) (x := 98) (cs := [.int .u8 98]) ⟨rfl, (in_u8 (by first|omega|(simp;omega)|assumption|simp) (by first|omega|(simp;omega)|assumption|simp))⟩) rfl
 have S9 := T8
 dsimp only [lAa, lAn, lA0, lAs] at S9
 refine p_v (v := v8) rfl rfl rfl (zax (pv := [(0, .int .u8 98)]) rfl r8) ?_
 obtain ⟨A10, c10, ev10, lc10, cm10⟩ := S9.row_val (j := 2) rfl
 refine p_c rfl rfl rfl (za2 (args := [.slice A10 ([98] : List Int).length c10]) ca64 rfl (zdv ev10 rfl)) (of_calls w8 ([98] : List Int) A10 c10 (And.intro lc10 cm10) (zcz S9 (j := 2) rfl ev10)) ?_
 rintro _ w11 ⟨h11, T11, rfl⟩
 have S12 := S9.keep (Chg.of_below T11.below)
 obtain ⟨v13, w13, r13, g13, T13⟩ := za6 (kd := (Kd.int .u8)) (xs := ([99] : List Int)) (len := 1) [.int .u8 99] S12 u39 ty5 rfl rfl rfl rfl rfl (zbs rfl zcc) [.int .u8 99] (zb5.single (k := (Kd.int .u8)) (h := (fun _ => none)) (x := 99) (cs := [.int .u8 99]) ⟨rfl, (in_u8 (by first|omega|(simp;omega)|assumption|simp) (by first|omega|(simp;omega)|assumption|simp))⟩) rfl
 have S14 := T13
 dsimp only [lAa, lAn, lA0, lAs] at S14
 refine p_v (v := v13) rfl rfl rfl (zax (pv := [(0, .int .u8 99)]) rfl r13) ?_
 obtain ⟨A15, c15, ev15, lc15, cm15⟩ := S14.row_val (j := 3) rfl
 refine p_c rfl rfl rfl (za2 (args := [.slice A15 ([99] : List Int).length c15]) ca64 rfl (zdv ev15 rfl)) (of_calls w13 ([99] : List Int) A15 c15 (And.intro lc15 cm15) (zcz S14 (j := 3) rfl ev15)) ?_
 rintro _ w16 ⟨h16, T16, rfl⟩
 have S17 := S14.keep (Chg.of_below T16.below)
 obtain ⟨v18, w18, r18, g18, T18⟩ := e_build_segs (kd := kSet) (xs := ([zbd ([97] : List Int), zbd ([98] : List Int), zbd ([99] : List Int)] : List BSet)) (len := 3) (m := 4) [(.agg (zaf (zbd ([97] : List Int))).toArray, (zaf (zbd ([97] : List Int)))), (.agg (zaf (zbd ([98] : List Int))).toArray, (zaf (zbd ([98] : List Int)))), (.agg (zaf (zbd ([99] : List Int))).toArray, (zaf (zbd ([99] : List Int))))] S17 u62 ty74 rfl rfl rfl rfl (segs_cons rfl rfl (segs_cons rfl rfl (segs_cons rfl rfl segs_nil))) (cs := ((zaf (zbd ([97] : List Int))) ++ ((zaf (zbd ([98] : List Int))) ++ ((zaf (zbd ([99] : List Int))))))) (zb5.cons (k := kSet) (h := (fun _ => none)) (x := zbd ([97] : List Int)) (cs := (zaf (zbd ([97] : List Int)))) ⟨rfl, trivial⟩ (zb5.cons (k := kSet) (h := (fun _ => none)) (x := zbd ([98] : List Int)) (cs := (zaf (zbd ([98] : List Int)))) ⟨rfl, trivial⟩ (zb5.single (k := kSet) (h := (fun _ => none)) (x := zbd ([99] : List Int)) (cs := (zaf (zbd ([99] : List Int)))) ⟨rfl, trivial⟩))) (by simp)
 have S19 := T18
 dsimp only [lAa, lAn, lA0, lAs] at S19
 refine p_v (v := v18) rfl rfl rfl (zax (pv := [(0, .agg (zaf (zbd ([97] : List Int))).toArray), (1, .agg (zaf (zbd ([98] : List Int))).toArray), (2, .agg (zaf (zbd ([99] : List Int))).toArray)]) rfl r18) ?_
 obtain ⟨A20, c20, ev20, lc20, cm20⟩ := S19.row_val (j := 4) rfl
 refine p_c rfl rfl rfl (za2 (args := [.slice A20 ([zbd ([97] : List Int), zbd ([98] : List Int), zbd ([99] : List Int)] : List BSet).length c20]) ca49 rfl (zdv ev20 rfl)) (refine_calls w18 ([zbd ([97] : List Int), zbd ([98] : List Int), zbd ([99] : List Int)] : List BSet) A20 c20 (And.intro lc20 cm20) (zcz S19 (j := 4) rfl ev20)) ?_
 rintro _ w21 ⟨h21, T21, rfl, ok21_0⟩
 have S22 := S19.keep (Chg.of_below T21.below)
 obtain ⟨w23, r23, g23, T23⟩ := zb9 (P := Tryd.prog) (off := 0) (v := .agg (zab (zcu ([zbd ([97] : List Int), zbd ([98] : List Int), zbd ([99] : List Int)] : List BSet))).toArray) (vs := (zab (zcu ([zbd ([97] : List Int), zbd ([98] : List Int), zbd ([99] : List Int)] : List BSet)))) S22 ty32 rfl (zad ok21_0) (j := 0) rfl (by rw [zad (zay)]; decide) (zb3 _)
 rw [lput_all (by rw [zad ok21_0, zad (zay)])] at T23
 have S24 := T23.fx 0 (box b1 32 (zab (zcu ([zbd ([97] : List Int), zbd ([98] : List Int), zbd ([99] : List Int)] : List BSet)))) rfl
 dsimp only [lAa, lAn, lA0, lAs] at S24
 refine p_s rfl rfl (za7 rfl rfl r23) <| zaa <| zar Tryd.func47 (res1 rfl (zdg S24 ty32 rfl (j := 0) rfl (zad ok21_0) (by simp) rfl)) ?_
 have q0 : (lettersP : PartM) = zcu ([zbd ([97] : List Int), zbd ([98] : List Int), zbd ([99] : List Int)] : List BSet) := by
  unfold lettersP; rfl
 refine ⟨_, rfl, (fun _ => none), ?_, ?_, ?_⟩
 · exact S24.sub [] (by decide) rfl _ rfl
 · first | rfl | (simp only [q0]; rfl) | (simp only [q0])
 · rw [q0]; first | assumption | exact zay
theorem small11_calls (w : World) (m : Mach) (A0_0 : Option Addr) (c0_0 : Nat) (b0_0 : m.spots.length ≤ c0_0 ∧ c0_0 ≤ maxLen) (l0_0 : zbo kSpot (hp w) A0_0 m.spots) (A0_1 : Option Addr) (c0_1 : Nat) (b0_1 : m.first.length ≤ c0_1 ∧ c0_1 ≤ maxLen) (l0_1 : zbo (Kd.int .i64) (hp w) A0_1 m.first) (A0_2 : Option Addr) (c0_2 : Nat) (b0_2 : m.follow.length ≤ c0_2 ∧ c0_2 ≤ maxLen) (l0_2 : zbo (Kd.int .i64).slice (hp w) A0_2 m.follow) (A0_3 : Option Addr) (c0_3 : Nat) (b0_3 : m.last.length ≤ c0_3 ∧ c0_3 ≤ maxLen) (l0_3 : zbo Kd.bool (hp w) A0_3 m.last) :
    Calls Tryd.prog 18 #[.agg #[.slice A0_0 m.spots.length c0_0, .slice A0_1 m.first.length c0_1, .slice A0_2 m.follow.length c0_2, .slice A0_3 m.last.length c0_3, .bool m.empty]] w fun e w' => ∃ v, e = .returned v ∧ ∃ (hn : Ghost), St w.heap.size w hn w' [] ∧ v = .bool (zdp m) := by
 refine zak Tryd.func18 rfl Tryd.ntmps18 rfl ?_
 have S0 := St.init w
 have bb0_0 := b0_0.1; have bc0_0 := b0_0.2; simp only [maxLen] at bc0_0
 have bb0_1 := b0_1.1; have bc0_1 := b0_1.2; simp only [maxLen] at bc0_1
 have bb0_2 := b0_2.1; have bc0_2 := b0_2.2; simp only [maxLen] at bc0_2
 have bb0_3 := b0_3.1; have bc0_3 := b0_3.2; simp only [maxLen] at bc0_3
 refine zac <| zae (l := [0, 1]) rfl ?_
 obtain ⟨b1, w1, r1, g1, T1⟩ := zcb (P := Tryd.prog) S0 27 (v := .agg #[.slice A0_0 m.spots.length c0_0, .slice A0_1 m.first.length c0_1, .slice A0_2 m.follow.length c0_2, .slice A0_3 m.last.length c0_3, .bool m.empty]) [.slice A0_0 m.spots.length c0_0, .slice A0_1 m.first.length c0_1, .slice A0_2 m.follow.length c0_2, .slice A0_3 m.last.length c0_3, .bool m.empty] rfl
 have S2 := T1
 dsimp only [lAa, lAn, lA0, lAs] at S2
 refine p_v (v := .pointer (some ⟨b1, 0, none⟩)) rfl rfl rfl (zdo rfl r1) <| p_v (v := .bool false) rfl rfl rfl (zag rfl) <| zaa <| zac <| zac <| zae (l := [0, 1, 2, 3, 4, 5, 6, 7, 8, 9, 10, 11, 12, 13, 14, 15, 16, 17, 18, 19, 20, 21]) rfl <| p_v (v := .pointer (some ⟨b1, 0, none⟩)) rfl rfl rfl (zao fd27_0 ty22 rfl rfl) <| p_v (v := .slice A0_0 m.spots.length c0_0) rfl rfl rfl (zaj (seg := [.slice A0_0 m.spots.length c0_0]) ty22 rfl (by simp) rfl (CF.box (m := 1) (S2.box_at (j := 0) rfl) rfl)) <| p_v (v := .int .i64 (m.spots.length : Int)) rfl rfl rfl (za0 u22 rfl) <| p_v (v := .bool (decide (8 < (m.spots.length : Int)))) rfl rfl rfl (x_gtr rfl rfl) <| p_v (v := .bool (decide (8 < (m.spots.length : Int)))) rfl rfl rfl (zah rfl) ?_
 by_cases hc3 : 8 < (m.spots.length : Int)
 ·skip
  refine zbi rfl (wo 4 8 rfl rfl (bT hc3) rfl) rfl <| zbi rfl (wo 4 8 rfl rfl (bT hc3) rfl) rfl <| zbi rfl (wo 4 8 rfl rfl (bT hc3) rfl) rfl <| zbi rfl (wo 4 8 rfl rfl (bT hc3) rfl) rfl <| p_v (v := .bool true) rfl rfl rfl (zby (bT hc3) rfl) <| p_v (v := .bool true) rfl rfl rfl (zah rfl) <| zbi rfl rfl rfl <| zbi rfl rfl rfl <| zbi rfl rfl rfl <| zbi rfl rfl rfl <| p_v (v := .bool true) rfl rfl rfl (zby rfl rfl) <| p_v (v := .bool true) rfl rfl rfl (zah rfl) ?_
  refine zbi rfl rfl rfl <| zbi rfl rfl rfl <| zbi rfl rfl rfl <| zbi rfl rfl rfl <| p_v (v := .bool true) rfl rfl rfl (zby rfl rfl) <| zaa <| zc3 (b := true) rfl ?_
  simp only [if_true, if_false, Bool.false_eq_true]
  refine zac <| zae (l := [0]) rfl <| p_v (v := .bool false) rfl rfl rfl (zag rfl) <| zaa <| zar Tryd.func18 (res1 rfl (zaw (v := .bool false) rfl)) ?_
  have q0 : (zdp m : Bool) = false := by
   exact small_1 m (by assumption)
  refine ⟨_, rfl, (fun _ => none), ?_, ?_⟩
  · exact S2.sub [] (by decide) rfl _ rfl
  · first | rfl | (simp only [q0]; rfl) | (simp only [q0])
 refine p_v (v := .pointer (some ⟨b1, 2, none⟩)) rfl (wo 4 8 rfl rfl (bF hc3) rfl) rfl (zao fd27_2 ty24 rfl rfl) <| p_v (v := .slice A0_2 m.follow.length c0_2) rfl (wo 4 8 rfl rfl (bF hc3) rfl) rfl (zaj (seg := [.slice A0_2 m.follow.length c0_2]) ty24 rfl (by simp) rfl (CF.box (m := 1) (S2.box_at (j := 0) rfl) rfl)) <| p_v (v := .int .i64 (m.follow.length : Int)) rfl (wo 4 8 rfl rfl (bF hc3) rfl) rfl (za0 u24 rfl) <| p_v (v := .bool (decide (8 < (m.follow.length : Int)))) rfl (wo 4 8 rfl rfl (bF hc3) rfl) rfl (x_gtr rfl rfl) <| p_v (v := .bool (decide (8 < (m.follow.length : Int)))) rfl rfl rfl (zc2 (bF hc3) rfl) <| p_v (v := .bool (decide (8 < (m.follow.length : Int)))) rfl rfl rfl (zah rfl) ?_
 by_cases hc4 : 8 < (m.follow.length : Int)
 ·skip
  refine zbi rfl (wo 10 14 rfl rfl (bT hc4) rfl) rfl <| zbi rfl (wo 10 14 rfl rfl (bT hc4) rfl) rfl <| zbi rfl (wo 10 14 rfl rfl (bT hc4) rfl) rfl <| zbi rfl (wo 10 14 rfl rfl (bT hc4) rfl) rfl <| p_v (v := .bool true) rfl rfl rfl (zby (bT hc4) rfl) <| p_v (v := .bool true) rfl rfl rfl (zah rfl) <| zbi rfl rfl rfl <| zbi rfl rfl rfl <| zbi rfl rfl rfl <| zbi rfl rfl rfl <| p_v (v := .bool true) rfl rfl rfl (zby rfl rfl) <| zaa ?_
  refine zc3 (b := true) rfl ?_
  simp only [if_true, if_false, Bool.false_eq_true]
  refine zac <| zae (l := [0]) rfl <| p_v (v := .bool false) rfl rfl rfl (zag rfl) <| zaa <| zar Tryd.func18 (res1 rfl (zaw (v := .bool false) rfl)) ?_
  have q0 : (zdp m : Bool) = false := by
   exact small_2 m (by assumption)
  refine ⟨_, rfl, (fun _ => none), ?_, ?_⟩
  · exact S2.sub [] (by decide) rfl _ rfl
  · first | rfl | (simp only [q0]; rfl) | (simp only [q0])
 refine p_v (v := .pointer (some ⟨b1, 3, none⟩)) rfl (wo 10 14 rfl rfl (bF hc4) rfl) rfl (zao fd27_3 ty25 rfl rfl) <| p_v (v := .slice A0_3 m.last.length c0_3) rfl (wo 10 14 rfl rfl (bF hc4) rfl) rfl (zaj (seg := [.slice A0_3 m.last.length c0_3]) ty25 rfl (by simp) rfl (CF.box (m := 1) (S2.box_at (j := 0) rfl) rfl)) <| p_v (v := .int .i64 (m.last.length : Int)) rfl (wo 10 14 rfl rfl (bF hc4) rfl) rfl (za0 u25 rfl) <| p_v (v := .bool (decide (8 < (m.last.length : Int)))) rfl (wo 10 14 rfl rfl (bF hc4) rfl) rfl (x_gtr rfl rfl) <| p_v (v := .bool (decide (8 < (m.last.length : Int)))) rfl rfl rfl (zc2 (bF hc4) rfl) <| p_v (v := .bool (decide (8 < (m.last.length : Int)))) rfl rfl rfl (zah rfl) ?_
 by_cases hc5 : 8 < (m.last.length : Int)
 ·skip
  refine zbi rfl (wo 16 20 rfl rfl (bT hc5) rfl) rfl <| zbi rfl (wo 16 20 rfl rfl (bT hc5) rfl) rfl <| zbi rfl (wo 16 20 rfl rfl (bT hc5) rfl) rfl <| zbi rfl (wo 16 20 rfl rfl (bT hc5) rfl) rfl <| p_v (v := .bool true) rfl rfl rfl (zby (bT hc5) rfl) <| zaa <| zc3 (b := true) rfl ?_
  simp only [if_true, if_false, Bool.false_eq_true]
  refine zac <| zae (l := [0]) rfl <| p_v (v := .bool false) rfl rfl rfl (zag rfl) <| zaa <| zar Tryd.func18 (res1 rfl (zaw (v := .bool false) rfl)) ?_
  have q0 : (zdp m : Bool) = false := by
   exact small_3 m (by assumption)
  refine ⟨_, rfl, (fun _ => none), ?_, ?_⟩
  · exact S2.sub [] (by decide) rfl _ rfl
  · first | rfl | (simp only [q0]; rfl) | (simp only [q0])
 refine p_v (v := .pointer (some ⟨b1, 1, none⟩)) rfl (wo 16 20 rfl rfl (bF hc5) rfl) rfl (zao fd27_1 ty23 rfl rfl) <| p_v (v := .slice A0_1 m.first.length c0_1) rfl (wo 16 20 rfl rfl (bF hc5) rfl) rfl (zaj (seg := [.slice A0_1 m.first.length c0_1]) ty23 rfl (by simp) rfl (CF.box (m := 1) (S2.box_at (j := 0) rfl) rfl)) <| p_v (v := .int .i64 (m.first.length : Int)) rfl (wo 16 20 rfl rfl (bF hc5) rfl) rfl (za0 u23 rfl) <| p_v (v := .bool (decide (8 < (m.first.length : Int)))) rfl (wo 16 20 rfl rfl (bF hc5) rfl) rfl (x_gtr rfl rfl) <| p_v (v := .bool (decide (8 < (m.first.length : Int)))) rfl rfl rfl (zc2 (bF hc5) rfl) <| zaa ?_
 refine zan (p := 8 < (m.first.length : Int)) rfl (fun hc6 => ?_) (fun hc6 => ?_)
 ·skip
  refine zac <| zae (l := [0]) rfl <| p_v (v := .bool false) rfl rfl rfl (zag rfl) <| zaa <| zar Tryd.func18 (res1 rfl (zaw (v := .bool false) rfl)) ?_
  have q0 : (zdp m : Bool) = false := by
   exact small_4 m (by assumption)
  refine ⟨_, rfl, (fun _ => none), ?_, ?_⟩
  · exact S2.sub [] (by decide) rfl _ rfl
  · first | rfl | (simp only [q0]; rfl) | (simp only [q0])
 refine zau <| zac <| zac <| zae (l := [0]) rfl <| p_v (v := .int .i64 0) rfl rfl rfl (zag rfl) <| zaa <| zaq <| zbu (S := Int) (fun (q_ : Int) ρ w' => match q_ with | i => ∃ (h : Ghost), Le (fun _ => none) h ∧ St w.heap.size w h w' [box b1 27 [.slice A0_0 m.spots.length c0_0, .slice A0_1 m.first.length c0_1, .slice A0_2 m.follow.length c0_2, .slice A0_3 m.last.length c0_3, .bool m.empty]] ∧ ρ 1 = .pointer (some ⟨b1, 0, none⟩) ∧ ρ 3 = .int .i64 i ∧ inK .i64 i ∧ (0 ≤ i ∧ i ≤ (m.follow.length : Int) ∧ smallTo m i = false)) (fun q_ => match q_ with | i => (m.follow.length - i).toNat) (0) ⟨(fun _ => none), Le.refl _, S2.sub [0] (by decide) rfl _ rfl, rfl, rfl, (zal (by omega) (by omega)), (by exact ⟨by omega, by omega, smallTo_0 _⟩)⟩ ?_
 rintro i ih7 ρ7 w7 ⟨h7, le7, S7, r7_1, r7_3, f7_0, hI7⟩
 have lf7_0 := zbb f7_0; have hf7_0 := zbc f7_0
 refine zac <| zac <| zae (l := [0, 1, 2, 3, 4]) rfl <| p_v (v := .int .i64 i) rfl rfl rfl (zah r7_3) <| p_v (v := .pointer (some ⟨b1, 2, none⟩)) rfl rfl rfl (zao fd27_2 ty24 rfl r7_1) <| p_v (v := .slice A0_2 m.follow.length c0_2) rfl rfl rfl (zaj (seg := [.slice A0_2 m.follow.length c0_2]) ty24 rfl (by simp) rfl (CF.box (m := 1) (S7.box_at (j := 0) rfl) rfl)) <| p_v (v := .int .i64 (m.follow.length : Int)) rfl rfl rfl (za0 u24 rfl) <| p_v (v := .bool (decide (i < (m.follow.length : Int)))) rfl rfl rfl (zdy rfl rfl) <| zaa ?_
 refine zan (p := i < (m.follow.length : Int)) rfl (fun hc8 => ?_) (fun hc8 => ?_)
 ·skip
  refine zau <| zac <| zaq <| zac <| zae (l := [0, 1, 2, 3, 4, 5, 6]) rfl <| p_v (v := .pointer (some ⟨b1, 2, none⟩)) rfl rfl rfl (zao fd27_2 ty24 rfl r7_1) <| p_v (v := .slice A0_2 m.follow.length c0_2) rfl rfl rfl (zaj (seg := [.slice A0_2 m.follow.length c0_2]) ty24 rfl (by simp) rfl (CF.box (m := 1) (S7.box_at (j := 0) rfl) rfl)) <| p_v (v := .int .i64 i) rfl rfl rfl (zah r7_3) ?_
  obtain ⟨ad9, seg9, a9, rp9, ce9⟩ := za9 (q := i) (m := 1) l0_2 rfl (by omega) (by omega)
  refine p_v (v := .pointer (some ad9)) rfl rfl rfl (za8 u24 ty23 rfl rfl a9 (by omega) (by omega)) ?_
  obtain ⟨A9, c9, rfl, lc9, cm9, ld9⟩ := rp9
  have cn9 := cm9; simp only [maxLen] at cn9
  refine p_v (v := .slice A9 (at_ m.follow i).length c9) rfl rfl rfl (zaj (seg := [.slice A9 (at_ m.follow i).length c9]) ty23 rfl (by simp) rfl (CF.ghost ce9 (St.le0 S7))) <| p_v (v := .int .i64 ((at_ m.follow i).length : Int)) rfl rfl rfl (za0 u23 rfl) <| p_v (v := .bool (decide (8 < ((at_ m.follow i).length : Int)))) rfl rfl rfl (x_gtr rfl rfl) <| zaa ?_
  refine zan (p := 8 < ((at_ m.follow i).length : Int)) rfl (fun hc10 => ?_) (fun hc10 => ?_)
  ·skip
   refine zac <| zae (l := [0]) rfl <| p_v (v := .bool false) rfl rfl rfl (zag rfl) <| zaa <| zar Tryd.func18 (res1 rfl (zaw (v := .bool false) rfl)) ?_
   have q0 : (zdp m : Bool) = false := by
    exact small_5 m hI7.1 (by omega) (by assumption)
   refine ⟨_, rfl, h7, ?_, ?_⟩
   · exact S7.sub [] (by decide) rfl _ rfl
   · first | rfl | (simp only [q0]; rfl) | (simp only [q0])
  refine zau <| zas <| zae (l := [0, 1, 2]) rfl <| p_v (v := .int .i64 i) rfl rfl rfl (zah r7_3) <| p_v (v := .int .i64 (i + 1)) rfl rfl rfl (zc7 rfl rfl (zal (by omega) (by omega))) <| p_v (v := .int .i64 (i + 1)) rfl rfl rfl (zag rfl) <| zaa ?_
  refine ih7 (i + 1) _ _ (by dsimp only; omega) ⟨h7, le7, S7.sub [0] (by decide) rfl _ rfl, r7_1, rfl, (zal (by omega) (by omega)), (by exact ⟨by omega, by omega, smallTo_step m hI7.1 (by omega) hI7.2.2 (by assumption)⟩)⟩
 refine zbv rfl <| zac <| zae (l := [0]) rfl <| p_v (v := .bool true) rfl rfl rfl (zag rfl) <| zaa <| zar Tryd.func18 (res1 rfl (zaw (v := .bool true) rfl)) ?_
 have q0 : (zdp m : Bool) = true := by
  exact small_6 m (by omega) (by assumption) (by assumption) (by assumption) (by assumption) hI7.2.2
 refine ⟨_, rfl, h7, ?_, ?_⟩
 · exact S7.sub [] (by decide) rfl _ rfl
 · (simp only [q0])
theorem parted_calls (w : World) (xa : Mach) (A0_0 : Option Addr) (c0_0 : Nat) (b0_0 : xa.spots.length ≤ c0_0 ∧ c0_0 ≤ maxLen) (l0_0 : zbo kSpot (hp w) A0_0 xa.spots) (A0_1 : Option Addr) (c0_1 : Nat) (b0_1 : xa.first.length ≤ c0_1 ∧ c0_1 ≤ maxLen) (l0_1 : zbo (Kd.int .i64) (hp w) A0_1 xa.first) (A0_2 : Option Addr) (c0_2 : Nat) (b0_2 : xa.follow.length ≤ c0_2 ∧ c0_2 ≤ maxLen) (l0_2 : zbo (Kd.int .i64).slice (hp w) A0_2 xa.follow) (A0_3 : Option Addr) (c0_3 : Nat) (b0_3 : xa.last.length ≤ c0_3 ∧ c0_3 ≤ maxLen) (l0_3 : zbo Kd.bool (hp w) A0_3 xa.last) (xb : Mach) (A1_0 : Option Addr) (c1_0 : Nat) (b1_0 : xb.spots.length ≤ c1_0 ∧ c1_0 ≤ maxLen) (l1_0 : zbo kSpot (hp w) A1_0 xb.spots) (A1_1 : Option Addr) (c1_1 : Nat) (b1_1 : xb.first.length ≤ c1_1 ∧ c1_1 ≤ maxLen) (l1_1 : zbo (Kd.int .i64) (hp w) A1_1 xb.first) (A1_2 : Option Addr) (c1_2 : Nat) (b1_2 : xb.follow.length ≤ c1_2 ∧ c1_2 ≤ maxLen) (l1_2 : zbo (Kd.int .i64).slice (hp w) A1_2 xb.follow) (A1_3 : Option Addr) (c1_3 : Nat) (b1_3 : xb.last.length ≤ c1_3 ∧ c1_3 ≤ maxLen) (l1_3 : zbo Kd.bool (hp w) A1_3 xb.last) (pre0 : (xa.spots.length : Int) ≤ 1000 ∧ (xb.spots.length : Int) ≤ 1000) :
    Calls Tryd.prog 20 #[.agg #[.slice A0_0 xa.spots.length c0_0, .slice A0_1 xa.first.length c0_1, .slice A0_2 xa.follow.length c0_2, .slice A0_3 xa.last.length c0_3, .bool xa.empty], .agg #[.slice A1_0 xb.spots.length c1_0, .slice A1_1 xb.first.length c1_1, .slice A1_2 xb.follow.length c1_2, .slice A1_3 xb.last.length c1_3, .bool xb.empty]] w fun e w' => ∃ v, e = .returned v ∧ ∃ (hn : Ghost), St w.heap.size w hn w' [] ∧ v = .agg (zab (zap xa xb)).toArray ∧ zbx (zap xa xb) := by
 refine zak Tryd.func20 rfl Tryd.ntmps20 rfl ?_
 have S0 := St.init w
 have bb0_0 := b0_0.1; have bc0_0 := b0_0.2; simp only [maxLen] at bc0_0
 have bb0_1 := b0_1.1; have bc0_1 := b0_1.2; simp only [maxLen] at bc0_1
 have bb0_2 := b0_2.1; have bc0_2 := b0_2.2; simp only [maxLen] at bc0_2
 have bb0_3 := b0_3.1; have bc0_3 := b0_3.2; simp only [maxLen] at bc0_3
 have bb1_0 := b1_0.1; have bc1_0 := b1_0.2; simp only [maxLen] at bc1_0
 have bb1_1 := b1_1.1; have bc1_1 := b1_1.2; simp only [maxLen] at bc1_1
 have bb1_2 := b1_2.1; have bc1_2 := b1_2.2; simp only [maxLen] at bc1_2
 have bb1_3 := b1_3.1; have bc1_3 := b1_3.2; simp only [maxLen] at bc1_3
 have hla_ := sets_le xa; have hlb_ := sets_le xb
 refine zac <| zae (l := [0, 1, 2]) rfl ?_
 obtain ⟨b1, w1, r1, g1, T1⟩ := zcb (P := Tryd.prog) S0 27 (v := .agg #[.slice A0_0 xa.spots.length c0_0, .slice A0_1 xa.first.length c0_1, .slice A0_2 xa.follow.length c0_2, .slice A0_3 xa.last.length c0_3, .bool xa.empty]) [.slice A0_0 xa.spots.length c0_0, .slice A0_1 xa.first.length c0_1, .slice A0_2 xa.follow.length c0_2, .slice A0_3 xa.last.length c0_3, .bool xa.empty] rfl
 have S2 := T1
 dsimp only [lAa, lAn, lA0, lAs] at S2
 refine p_v (v := .pointer (some ⟨b1, 0, none⟩)) rfl rfl rfl (zdo rfl r1) ?_
 obtain ⟨b3, w3, r3, g3, T3⟩ := zcb (P := Tryd.prog) S2 27 (v := .agg #[.slice A1_0 xb.spots.length c1_0, .slice A1_1 xb.first.length c1_1, .slice A1_2 xb.follow.length c1_2, .slice A1_3 xb.last.length c1_3, .bool xb.empty]) [.slice A1_0 xb.spots.length c1_0, .slice A1_1 xb.first.length c1_1, .slice A1_2 xb.follow.length c1_2, .slice A1_3 xb.last.length c1_3, .bool xb.empty] rfl
 have S4 := T3
 dsimp only [lAa, lAn, lA0, lAs] at S4
 refine p_v (v := .pointer (some ⟨b3, 0, none⟩)) rfl rfl rfl (zdo rfl r3) ?_
 obtain ⟨b5, w5, r5, g5, T5⟩ := zcb (P := Tryd.prog) S4 32 (v := zv32) (zab zPart) (by kernel_rfl)
 have S6 := T5
 dsimp only [lAa, lAn, lA0, lAs] at S6
 refine p_v (v := .pointer (some ⟨b5, 0, none⟩)) rfl rfl rfl (zch ty32 r5) <| zaa <| zac ?_
 have hf7 : (CFs ⟨b1, 0, none⟩ [.slice A0_0 xa.spots.length c0_0, .slice A0_1 xa.first.length c0_1, .slice A0_2 xa.follow.length c0_2, .slice A0_3 xa.last.length c0_3, .bool xa.empty]).1 w5 := (CF.box (m := 5) (S6.box_at (j := 0) rfl) rfl)
 have hf8 : (CFs ⟨b3, 0, none⟩ [.slice A1_0 xb.spots.length c1_0, .slice A1_1 xb.first.length c1_1, .slice A1_2 xb.follow.length c1_2, .slice A1_3 xb.last.length c1_3, .bool xb.empty]).1 w5 := (CF.box (m := 5) (S6.box_at (j := 1) rfl) rfl)
 refine daS (hkC 0 hf7 (hkC 2 hf8 (hkN (w := w5)))) 7 rfl mixed ?_
 intro wd9 gd9 hd9
 have S10 := S6.keep gd9
 have hf11 := spUp gd9 hf7
 have hf12 := spUp gd9 hf8
 refine qd1 0 (i := 0) (v := .agg #[.slice A0_0 xa.spots.length c0_0, .slice A0_1 xa.first.length c0_1, .slice A0_2 xa.follow.length c0_2, .slice A0_3 xa.last.length c0_3, .bool xa.empty]) rfl rfl (by decide +kernel) rfl rfl (fun wq hq => (zaj (seg := [.slice A0_0 xa.spots.length c0_0, .slice A0_1 xa.first.length c0_1, .slice A0_2 xa.follow.length c0_2, .slice A0_3 xa.last.length c0_3, .bool xa.empty]) ty27 rfl (by simp) rfl hq)) (zbz hf11 (zam rfl)) <| qd1 1 (i := 2) (v := .agg #[.slice A1_0 xb.spots.length c1_0, .slice A1_1 xb.first.length c1_1, .slice A1_2 xb.follow.length c1_2, .slice A1_3 xb.last.length c1_3, .bool xb.empty]) rfl rfl (by decide +kernel) rfl rfl (fun wq hq => (zaj (seg := [.slice A1_0 xb.spots.length c1_0, .slice A1_1 xb.first.length c1_1, .slice A1_2 xb.follow.length c1_2, .slice A1_3 xb.last.length c1_3, .bool xb.empty]) ty27 rfl (by simp) rfl hq)) (zbw rfl (zbz hf12 (zam rfl))) <| zb6 (i := 1) (by decide +kernel) ?_
 intro wd13 gd13
 have S14 := S10.keep gd13
 have hf15 := spUp gd13 hf11
 have hf16 := spUp gd13 hf12
 refine d_c rfl rfl rfl (za2 (args := [.agg #[.slice A0_0 xa.spots.length c0_0, .slice A0_1 xa.first.length c0_1, .slice A0_2 xa.follow.length c0_2, .slice A0_3 xa.last.length c0_3, .bool xa.empty]]) ca63 rfl rfl) (setsN_calls wd13 xa A0_0 c0_0 b0_0 (l0_0.mono (St.le0 S14)) A0_1 c0_1 b0_1 (l0_1.mono (St.le0 S14)) A0_2 c0_2 b0_2 (l0_2.mono (St.le0 S14)) A0_3 c0_3 b0_3 (l0_3.mono (St.le0 S14)) (by first | assumption | omega | decide)) ?_
 rintro v17_0 w17 ⟨h17, _, T17, rfl⟩
 obtain ⟨k17, lk17, ll17, U17⟩ := zcl S14 T17
 have S18 := U17
 dsimp only [lAa, lAn, lA0, lAs] at S18
 have hf19 := spUp (Chg.of_below T17.below) hf15
 have hf20 := spUp (Chg.of_below T17.below) hf16
 refine ⟨.inl (Chg.of_below T17.below), ?_⟩
 refine zb6 (i := 3) (by decide +kernel) ?_
 intro wd21 gd21
 have S22 := S18.keep gd21
 have hf23 := spUp gd21 hf19
 have hf24 := spUp gd21 hf20
 refine d_c rfl rfl rfl (za2 (args := [.agg #[.slice A1_0 xb.spots.length c1_0, .slice A1_1 xb.first.length c1_1, .slice A1_2 xb.follow.length c1_2, .slice A1_3 xb.last.length c1_3, .bool xb.empty]]) ca63 rfl rfl) (setsN_calls wd21 xb A1_0 c1_0 b1_0 (l1_0.mono (St.le0 S22)) A1_1 c1_1 b1_1 (l1_1.mono (St.le0 S22)) A1_2 c1_2 b1_2 (l1_2.mono (St.le0 S22)) A1_3 c1_3 b1_3 (l1_3.mono (St.le0 S22)) (by first | assumption | omega | decide)) ?_
 rintro v25_0 w25 ⟨h25, _, T25, rfl⟩
 obtain ⟨k25, lk25, ll25, U25⟩ := zcl S22 T25
 have lc25_0 := (lk17).trans lk25
 have S26 := U25
 dsimp only [lAa, lAn, lA0, lAs] at S26
 have hf27 := spUp (Chg.of_below T25.below) hf23
 have hf28 := spUp (Chg.of_below T25.below) hf24
 refine ⟨.inl (Chg.of_below T25.below), ?_⟩
 refine zb6 (i := 4) (by decide +kernel) ?_
 intro wd29 gd29
 have S30 := S26.keep gd29
 have hf31 := spUp gd29 hf27
 have hf32 := spUp gd29 hf28
 obtain ⟨A34, c34, ev34, lc34, cm34⟩ := S30.row_val (j := 4) rfl
 obtain ⟨v35, w35, r35, g35, T35⟩ := zcw (kd := kSet) (A := A34) (c := c34) (ys := (zdk xb)) (len := (zdk xb).length) 62 S30 u62 ty74 rfl rfl (j := 3) rfl rfl (zdb S30 (j := 4) rfl ev34) (by omega) (by omega)
 have S36 := T35.fx 3 (row 74 kSet v35 ((zdk xa) ++ (zdk xb))) rfl
 dsimp only [lAa, lAn, lA0, lAs] at S36
 have hf37 : (CFs ⟨b1, 0, none⟩ [.slice A0_0 xa.spots.length c0_0, .slice A0_1 xa.first.length c0_1, .slice A0_2 xa.follow.length c0_2, .slice A0_3 xa.last.length c0_3, .bool xa.empty]).1 w35 := (CF.box (m := 5) (S36.box_at (j := 0) rfl) rfl)
 have hf38 : (CFs ⟨b3, 0, none⟩ [.slice A1_0 xb.spots.length c1_0, .slice A1_1 xb.first.length c1_1, .slice A1_2 xb.follow.length c1_2, .slice A1_3 xb.last.length c1_3, .bool xb.empty]).1 w35 := (CF.box (m := 5) (S36.box_at (j := 1) rfl) rfl)
 refine d_v (v := v35) rfl rfl rfl (zcv rfl ev34 r35) (.inr (zce hf37 (zce hf38 trivial))) <| zb6 (i := 5) (by decide +kernel) ?_
 intro wd39 gd39
 have S40 := S36.keep gd39
 have hf41 := spUp gd39 hf37
 have hf42 := spUp gd39 hf38
 obtain ⟨A43, c43, ev43, lc43, cm43⟩ := S40.row_val (j := 3) rfl
 refine d_c rfl rfl rfl (za2 (args := [.slice A43 ((zdk xa) ++ (zdk xb)).length c43]) ca49 rfl (zdv ev43 rfl)) (refine_calls wd39 ((zdk xa) ++ (zdk xb)) A43 c43 (And.intro lc43 cm43) (zcz S40 (j := 3) rfl ev43)) ?_
 rintro _ w44 ⟨h44, T44, rfl, ok44_0⟩
 have S45 := S40.keep (Chg.of_below T44.below)
 have hf46 := spUp (Chg.of_below T44.below) hf41
 have hf47 := spUp (Chg.of_below T44.below) hf42
 refine ⟨.inl (Chg.of_below T44.below), ?_⟩
 refine zb6 (i := 6) (by decide +kernel) ?_
 intro wd48 gd48
 have S49 := S45.keep gd48
 have hf50 := spUp gd48 hf46
 have hf51 := spUp gd48 hf47
 obtain ⟨w52, r52, g52, T52⟩ := zb9 (P := Tryd.prog) (off := 0) (v := .agg (zab (zcu ((zdk xa) ++ (zdk xb)))).toArray) (vs := (zab (zcu ((zdk xa) ++ (zdk xb))))) S49 ty32 rfl (zad ok44_0) (j := 2) rfl (by rw [zad (zay)]; decide) (zb3 _)
 rw [lput_all (by rw [zad ok44_0, zad (zay)])] at T52
 have S53 := T52.fx 2 (box b5 32 (zab (zcu ((zdk xa) ++ (zdk xb))))) rfl
 dsimp only [lAa, lAn, lA0, lAs] at S53
 have hf54 : (CFs ⟨b1, 0, none⟩ [.slice A0_0 xa.spots.length c0_0, .slice A0_1 xa.first.length c0_1, .slice A0_2 xa.follow.length c0_2, .slice A0_3 xa.last.length c0_3, .bool xa.empty]).1 w52 := (CF.box (m := 5) (S53.box_at (j := 0) rfl) rfl)
 have hf55 : (CFs ⟨b3, 0, none⟩ [.slice A1_0 xb.spots.length c1_0, .slice A1_1 xb.first.length c1_1, .slice A1_2 xb.follow.length c1_2, .slice A1_3 xb.last.length c1_3, .bool xb.empty]).1 w52 := (CF.box (m := 5) (S53.box_at (j := 1) rfl) rfl)
 refine d_s rfl rfl (za7 rfl rfl r52) (.inr (zbh (by decide +kernel) (zbh (by decide +kernel) trivial))) <| zco (by decide +kernel) ?_
 intro wd56 gd56
 have S57 := S53.keep gd56
 refine zar Tryd.func20 (res1 rfl (zdg S57 ty32 rfl (j := 2) rfl (zad ok44_0) (by simp) rfl)) ?_
 have q0 : (zap xa xb : PartM) = zcu ((zdk xa) ++ (zdk xb)) := by
  exact (partP_eq _ _).symm
 refine ⟨_, rfl, k25, ?_, ?_, ?_⟩
 · exact S57.sub [] (by decide) rfl _ rfl
 · first | rfl | (simp only [q0]; rfl) | (simp only [q0])
 · rw [q0]; first | assumption | exact zay
theorem awake11_calls (w : World) (tb : Block 0 tzTab w) :
    Calls Tryd.prog 19 #[] w fun e w' => ∃ v, e = .returned v ∧ ∃ (hn : Ghost), St w.heap.size w hn w' [] ∧ v = .bool true := by
 refine zak Tryd.func19 rfl Tryd.ntmps19 rfl ?_
 have S0 := St.init w
 refine zac <| zae (l := [0]) rfl <| p_v (v := .bool false) rfl rfl rfl (zag rfl) <| zaa <| zac <| zae (l := [0, 1, 2, 3, 4, 5, 6, 7, 8]) rfl <| p_c rfl rfl rfl (za2 (args := []) ca46 rfl rfl) (some10_calls w ) ?_
 rintro _ w1 ⟨h1, v1_0, v1_1, v1_2, v1_3, T1, rfl⟩
 obtain ⟨k1, lk1, ll1, U1⟩ := zcl S0 T1
 have S2 := U1
 dsimp only [lAa, lAn, lA0, lAs] at S2
 obtain ⟨h3, le3, T3, rp3⟩ := S2.freeze (i := 0) rfl
 have lf3_0 := (lk1).trans le3
 have S4 := T3.fx 0 (emp) rfl
 dsimp only [lAa, lAn, lA0, lAs] at S4
 obtain ⟨A3, c3, e3, lc3, cm3, ld3⟩ := rp3
 injection e3 with e3 _; subst e3
 have cn3 := cm3; simp only [maxLen] at cn3
 obtain ⟨h5, le5, T5, rp5⟩ := S4.freeze (i := 1) rfl
 have lf5_0 := (lf3_0).trans le5
 have lf5_1 := (le3).trans le5
 have S6 := T5.fx 1 (emp) rfl
 dsimp only [lAa, lAn, lA0, lAs] at S6
 obtain ⟨A5, c5, e5, lc5, cm5, ld5⟩ := rp5
 injection e5 with e5 _; subst e5
 have cn5 := cm5; simp only [maxLen] at cn5
 obtain ⟨h7, le7, T7, rp7⟩ := S6.freeze (i := 2) rfl
 have lf7_0 := (lf5_0).trans le7
 have lf7_1 := (lf5_1).trans le7
 have lf7_2 := (le5).trans le7
 have S8 := T7.fx 2 (emp) rfl
 dsimp only [lAa, lAn, lA0, lAs] at S8
 obtain ⟨A7, c7, e7, lc7, cm7, ld7⟩ := rp7
 injection e7 with e7 _; subst e7
 have cn7 := cm7; simp only [maxLen] at cn7
 obtain ⟨h9, le9, T9, rp9⟩ := S8.freeze (i := 3) rfl
 have lf9_0 := (lf7_0).trans le9
 have lf9_1 := (lf7_1).trans le9
 have lf9_2 := (lf7_2).trans le9
 have lf9_3 := (le7).trans le9
 have S10 := T9.fx 3 (emp) rfl
 dsimp only [lAa, lAn, lA0, lAs] at S10
 obtain ⟨A9, c9, e9, lc9, cm9, ld9⟩ := rp9
 injection e9 with e9 _; subst e9
 have cn9 := cm9; simp only [maxLen] at cn9
 refine p_c rfl rfl rfl (za2 (args := []) ca47 rfl rfl) (letters_calls w1 ) ?_
 rintro _ w11 ⟨h11, T11, rfl, ok11_0⟩
 have S12 := S10.keep (Chg.of_below T11.below)
 refine p_c rfl rfl rfl (za2 (args := [.agg #[.slice A3 zba.spots.length c3, .slice A5 zba.first.length c5, .slice A7 zba.follow.length c7, .slice A9 zba.last.length c9, .bool zba.empty], .agg (zab lettersP).toArray, .pointer none]) ca21 rfl rfl) (build_calls w11 zba A3 c3 (And.intro lc3 cm3) (ld3.mono (lf9_2.trans S12.ghost)) A5 c5 (And.intro lc5 cm5) (ld5.mono (lf9_3.trans S12.ghost)) A7 c7 (And.intro lc7 cm7) (ld7.mono (le9.trans S12.ghost)) A9 c9 (And.intro lc9 cm9) (ld9.mono ((Le.refl _).trans S12.ghost)) lettersP ok11_0 () (by first | assumption | omega | decide) (Block.st S12 tb)) ?_
 rintro _ w13 ⟨h13, v13_0, v13_1, T13, rfl, ok13_0, in13_1⟩
 obtain ⟨k13, lk13, ll13, U13⟩ := zcl S12 T13
 have lc13_0 := (lf9_0).trans lk13
 have lc13_1 := (lf9_1).trans lk13
 have lc13_2 := (lf9_2).trans lk13
 have lc13_3 := (lf9_3).trans lk13
 have lc13_4 := (le9).trans lk13
 have S14 := U13
 dsimp only [lAa, lAn, lA0, lAs] at S14
 have lo_in13_1 := zbb in13_1; have hi_in13_1 := zbc in13_1
 obtain ⟨h15, le15, T15, rp15⟩ := S14.freeze (i := 4) rfl
 have lf15_0 := (lc13_0).trans le15
 have lf15_1 := (lc13_1).trans le15
 have lf15_2 := (lc13_2).trans le15
 have lf15_3 := (lc13_3).trans le15
 have lf15_4 := (lc13_4).trans le15
 have lf15_5 := (lk13).trans le15
 have S16 := T15.fx 4 (emp) rfl
 dsimp only [lAa, lAn, lA0, lAs] at S16
 obtain ⟨A15, c15, e15, lc15, cm15, ld15⟩ := rp15
 injection e15 with e15 _; subst e15
 have cn15 := cm15; simp only [maxLen] at cn15
 obtain ⟨h17, le17, T17, rp17⟩ := S16.freeze (i := 5) rfl
 have lf17_0 := (lf15_0).trans le17
 have lf17_1 := (lf15_1).trans le17
 have lf17_2 := (lf15_2).trans le17
 have lf17_3 := (lf15_3).trans le17
 have lf17_4 := (lf15_4).trans le17
 have lf17_5 := (lf15_5).trans le17
 have lf17_6 := (le15).trans le17
 have S18 := T17.fx 5 (emp) rfl
 dsimp only [lAa, lAn, lA0, lAs] at S18
 obtain ⟨A17, c17, e17, lc17, cm17, ld17⟩ := rp17
 injection e17 with e17 _; subst e17
 have cn17 := cm17; simp only [maxLen] at cn17
 refine p_v (v := .tuple #[.agg ((zab ((zai zba lettersP).part)) ++ ([.slice A15 ((zai zba lettersP).next).length c15, .slice A17 ((zai zba lettersP).final).length c17] : List Value)).toArray, .int .i64 (errB zba lettersP)]) rfl rfl rfl (zah rfl) <| p_v (v := .agg ((zab ((zai zba lettersP).part)) ++ ([.slice A15 ((zai zba lettersP).next).length c15, .slice A17 ((zai zba lettersP).final).length c17] : List Value)).toArray) rfl rfl rfl (zc1 (vs := [.agg ((zab ((zai zba lettersP).part)) ++ ([.slice A15 ((zai zba lettersP).next).length c15, .slice A17 ((zai zba lettersP).final).length c17] : List Value)).toArray, .int .i64 (errB zba lettersP)]) rfl rfl) <| p_v (v := .int .i64 (errB zba lettersP)) rfl rfl rfl (zc1 (vs := [.agg ((zab ((zai zba lettersP).part)) ++ ([.slice A15 ((zai zba lettersP).next).length c15, .slice A17 ((zai zba lettersP).final).length c17] : List Value)).toArray, .int .i64 (errB zba lettersP)]) rfl rfl) ?_
 obtain ⟨b19, w19, r19, g19, T19⟩ := zcb (P := Tryd.prog) S18 35 (v := zv35) ((zab zPart) ++ ([.slice none 0 0, .slice none 0 0] : List Value)) (by kernel_rfl)
 have S20 := T19
 dsimp only [lAa, lAn, lA0, lAs] at S20
 refine p_v (v := .pointer (some ⟨b19, 0, none⟩)) rfl rfl rfl (zch ty35 r19) ?_
 obtain ⟨w21, r21, g21, T21⟩ := zc9 (P := Tryd.prog) (v := .agg ((zab ((zai zba lettersP).part)) ++ ([.slice A15 ((zai zba lettersP).next).length c15, .slice A17 ((zai zba lettersP).final).length c17] : List Value)).toArray) (vs := ((zab ((zai zba lettersP).part)) ++ ([.slice A15 ((zai zba lettersP).next).length c15, .slice A17 ((zai zba lettersP).final).length c17] : List Value))) (cs := ((zab zPart) ++ ([.slice none 0 0, .slice none 0 0] : List Value))) S20 ty35 rfl (zbg (zad ok13_0) rfl) (zbg (zad (zay)) rfl) (j := 6) rfl (one_app (zb3 _) (by simp [Value.oneCell']))
 have S22 := T21.fx 6 (box b19 35 ((zab ((zai zba lettersP).part)) ++ ([.slice A15 ((zai zba lettersP).next).length c15, .slice A17 ((zai zba lettersP).final).length c17] : List Value))) rfl
 dsimp only [lAa, lAn, lA0, lAs] at S22
 refine p_s rfl rfl (za7 rfl rfl r21) <| p_v (v := .int .i64 (errB zba lettersP)) rfl rfl rfl (zag rfl) <| zaa <| zac <| zae (l := [0, 1, 2, 3, 4, 5, 6, 7, 8, 9, 10, 11, 12, 13, 14, 15, 16, 17, 18, 19, 20, 21, 22, 23, 24, 25]) rfl <| p_v (v := .int .i64 (errB zba lettersP)) rfl rfl rfl (zah rfl) <| p_v (v := .bool (decide ((errB zba lettersP) = 0))) rfl rfl rfl (x_eql rfl rfl) <| p_v (v := .bool (decide ((errB zba lettersP) = 0))) rfl rfl rfl (zah rfl) ?_
 have hc23 : ((errB zba lettersP) = 0) := by
  exact some_1
 refine p_v (v := .agg ((zab ((zai zba lettersP).part)) ++ ([.slice A15 ((zai zba lettersP).next).length c15, .slice A17 ((zai zba lettersP).final).length c17] : List Value)).toArray) rfl (wo 2 11 rfl rfl (bT hc23) rfl) rfl (zaj (seg := ((zab ((zai zba lettersP).part)) ++ ([.slice A15 ((zai zba lettersP).next).length c15, .slice A17 ((zai zba lettersP).final).length c17] : List Value))) ty35 (zbg (zad ok13_0) rfl) (by simp) rfl (CF.box (m := 259) (S22.box_at (j := 6) rfl) (zd4 (zbg (zad ok13_0) rfl)))) <| p_c rfl (wo 2 11 rfl rfl (bT hc23) rfl) rfl (za2 (args := [.agg ((zab ((zai zba lettersP).part)) ++ ([.slice A15 ((zai zba lettersP).next).length c15, .slice A17 ((zai zba lettersP).final).length c17] : List Value)).toArray]) ca48 rfl rfl) (rightD_calls w21 (zai zba lettersP) ok13_0 A15 c15 (And.intro lc15 cm15) (ld15.mono (le17.trans S22.ghost)) A17 c17 (And.intro lc17 cm17) (ld17.mono ((Le.refl _).trans S22.ghost))) ?_
 rintro _ w24 ⟨h24, T24, rfl⟩
 have S25 := S22.keep (Chg.of_below T24.below)
 refine p_v (v := .bool (zcd (zai zba lettersP))) rfl rfl rfl (zby (bT hc23) rfl) <| p_v (v := .bool (zcd (zai zba lettersP))) rfl rfl rfl (zah rfl) ?_
 have hc26 : (zcd (zai zba lettersP)) = true := by
  exact some_2
 refine p_v (v := .pointer (some ⟨b19, 257, none⟩)) rfl (wo 6 15 rfl rfl (congrArg Value.bool hc26) rfl) rfl (zao fd35_1 ty24 rfl rfl) <| p_v (v := .slice A15 ((zai zba lettersP).next).length c15) rfl (wo 6 15 rfl rfl (congrArg Value.bool hc26) rfl) rfl (zaj (seg := [.slice A15 ((zai zba lettersP).next).length c15]) ty24 rfl (by simp) rfl (CF.box (m := 1) (S25.box_at (j := 6) rfl) (za5 (a := (zab ((zai zba lettersP).part))) (pre := []) (seg := [.slice A15 ((zai zba lettersP).next).length c15]) (post := [.slice A17 ((zai zba lettersP).final).length c17]) (zad ok13_0) rfl rfl))) <| p_v (v := .int .i64 (((zai zba lettersP).next).length : Int)) rfl (wo 6 15 rfl rfl (congrArg Value.bool hc26) rfl) rfl (za0 u24 rfl) <| p_v (v := .bool (decide ((((zai zba lettersP).next).length : Int) = 5))) rfl (wo 6 15 rfl rfl (congrArg Value.bool hc26) rfl) rfl (x_eql rfl rfl) <| p_v (v := .bool (decide ((((zai zba lettersP).next).length : Int) = 5))) rfl rfl rfl (zby (congrArg Value.bool hc26) rfl) <| p_v (v := .bool (decide ((((zai zba lettersP).next).length : Int) = 5))) rfl rfl rfl (zah rfl) ?_
 have hc27 : ((((zai zba lettersP).next).length : Int) = 5) := by
  exact some_3
 refine p_v (v := .agg ((zab ((zai zba lettersP).part)) ++ ([.slice A15 ((zai zba lettersP).next).length c15, .slice A17 ((zai zba lettersP).final).length c17] : List Value)).toArray) rfl (wo 12 21 rfl rfl (bT hc27) rfl) rfl (zaj (seg := ((zab ((zai zba lettersP).part)) ++ ([.slice A15 ((zai zba lettersP).next).length c15, .slice A17 ((zai zba lettersP).final).length c17] : List Value))) ty35 (zbg (zad ok13_0) rfl) (by simp) rfl (CF.box (m := 259) (S25.box_at (j := 6) rfl) (zd4 (zbg (zad ok13_0) rfl)))) <| p_c rfl (wo 12 21 rfl rfl (bT hc27) rfl) rfl (za2 (args := [.agg ((zab ((zai zba lettersP).part)) ++ ([.slice A15 ((zai zba lettersP).next).length c15, .slice A17 ((zai zba lettersP).final).length c17] : List Value)).toArray, .string (⟨#[]⟩ : ByteArray)]) ca24 rfl rfl) (runD_calls w24 (zai zba lettersP) ok13_0 A15 c15 (And.intro lc15 cm15) (ld15.mono (le17.trans S25.ghost)) A17 c17 (And.intro lc17 cm17) (ld17.mono ((Le.refl _).trans S25.ghost)) (⟨#[]⟩ : ByteArray) (by decide)) ?_
 rintro _ w28 ⟨h28, T28, rfl⟩
 have S29 := S25.keep (Chg.of_below T28.below)
 refine p_v (v := .bool (runD (zai zba lettersP) (⟨#[]⟩ : ByteArray))) rfl rfl rfl (zby (bT hc27) rfl) <| p_v (v := .bool (runD (zai zba lettersP) (⟨#[]⟩ : ByteArray))) rfl rfl rfl (zah rfl) ?_
 have hc30 : (runD (zai zba lettersP) (⟨#[]⟩ : ByteArray)) = true := by
  exact some_4
 refine p_v (v := .agg ((zab ((zai zba lettersP).part)) ++ ([.slice A15 ((zai zba lettersP).next).length c15, .slice A17 ((zai zba lettersP).final).length c17] : List Value)).toArray) rfl (wo 16 25 rfl rfl (congrArg Value.bool hc30) rfl) rfl (zaj (seg := ((zab ((zai zba lettersP).part)) ++ ([.slice A15 ((zai zba lettersP).next).length c15, .slice A17 ((zai zba lettersP).final).length c17] : List Value))) ty35 (zbg (zad ok13_0) rfl) (by simp) rfl (CF.box (m := 259) (S29.box_at (j := 6) rfl) (zd4 (zbg (zad ok13_0) rfl)))) <| p_c rfl (wo 16 25 rfl rfl (congrArg Value.bool hc30) rfl) rfl (za2 (args := [.agg ((zab ((zai zba lettersP).part)) ++ ([.slice A15 ((zai zba lettersP).next).length c15, .slice A17 ((zai zba lettersP).final).length c17] : List Value)).toArray, .string (⟨#[97, 98]⟩ : ByteArray)]) ca24 rfl rfl) (runD_calls w28 (zai zba lettersP) ok13_0 A15 c15 (And.intro lc15 cm15) (ld15.mono (le17.trans S29.ghost)) A17 c17 (And.intro lc17 cm17) (ld17.mono ((Le.refl _).trans S29.ghost)) (⟨#[97, 98]⟩ : ByteArray) (by decide)) ?_
 rintro _ w31 ⟨h31, T31, rfl⟩
 have S32 := S29.keep (Chg.of_below T31.below)
 refine p_v (v := .bool (runD (zai zba lettersP) (⟨#[97, 98]⟩ : ByteArray))) rfl rfl rfl (zby (congrArg Value.bool hc30) rfl) <| p_v (v := .bool (runD (zai zba lettersP) (⟨#[97, 98]⟩ : ByteArray))) rfl rfl rfl (zah rfl) ?_
 have hc33 : (runD (zai zba lettersP) (⟨#[97, 98]⟩ : ByteArray)) = true := by
  exact some_5
 refine p_v (v := .agg ((zab ((zai zba lettersP).part)) ++ ([.slice A15 ((zai zba lettersP).next).length c15, .slice A17 ((zai zba lettersP).final).length c17] : List Value)).toArray) rfl (wo 20 29 rfl rfl (congrArg Value.bool hc33) rfl) rfl (zaj (seg := ((zab ((zai zba lettersP).part)) ++ ([.slice A15 ((zai zba lettersP).next).length c15, .slice A17 ((zai zba lettersP).final).length c17] : List Value))) ty35 (zbg (zad ok13_0) rfl) (by simp) rfl (CF.box (m := 259) (S32.box_at (j := 6) rfl) (zd4 (zbg (zad ok13_0) rfl)))) <| p_c rfl (wo 20 29 rfl rfl (congrArg Value.bool hc33) rfl) rfl (za2 (args := [.agg ((zab ((zai zba lettersP).part)) ++ ([.slice A15 ((zai zba lettersP).next).length c15, .slice A17 ((zai zba lettersP).final).length c17] : List Value)).toArray, .string (⟨#[97, 99]⟩ : ByteArray)]) ca24 rfl rfl) (runD_calls w31 (zai zba lettersP) ok13_0 A15 c15 (And.intro lc15 cm15) (ld15.mono (le17.trans S32.ghost)) A17 c17 (And.intro lc17 cm17) (ld17.mono ((Le.refl _).trans S32.ghost)) (⟨#[97, 99]⟩ : ByteArray) (by decide)) ?_
 rintro _ w34 ⟨h34, T34, rfl⟩
 have S35 := S32.keep (Chg.of_below T34.below)
 refine p_v (v := .bool (!(runD (zai zba lettersP) (⟨#[97, 99]⟩ : ByteArray)))) rfl (wo 20 29 rfl rfl (congrArg Value.bool hc33) rfl) rfl (x_not rfl) <| p_v (v := .bool (!(runD (zai zba lettersP) (⟨#[97, 99]⟩ : ByteArray)))) rfl rfl rfl (zby (congrArg Value.bool hc33) rfl) <| p_v (v := .bool (!(runD (zai zba lettersP) (⟨#[97, 99]⟩ : ByteArray)))) rfl rfl rfl (zag rfl) <| zaa ?_
 have hc36 : (runD (zai zba lettersP) (⟨#[97, 99]⟩ : ByteArray)) = false := by
  exact some_6
 refine zar Tryd.func19 (res1 rfl (zaw (v := .bool true) (congrArg (fun z => Value.bool (!z)) hc36))) ?_
 have q0 : (true : Bool) = true := rfl
 refine ⟨_, rfl, h17, ?_, ?_⟩
 · exact S35.sub [] (by decide) rfl _ rfl
 · rfl
end Go.Proofs.YtfoemogojbnfhaaDoor
namespace Gx
open Go Go.RowKit
set_option linter.unusedSimpArgs false
set_option linter.unusedSectionVars false
set_option linter.unusedVariables false
section
variable {α β : Type} [DecidableEq α]
def KN (kvs : List (α × β)) : Prop := (kvs.map (·.1)).Nodup
end
structure Off (t : Int) (O : Int → List Int → Prop) (kvs : List (Int × ByteArray)) : Prop where
  kn : KN kvs
  len : ∀ i u, O i u → (u.length : Int) = t
  yes : ∀ p ∈ kvs, O p.1 (zdq p.2) ∧ ∀ u, O p.1 u → leL (zdq p.2) u
  all : ∀ i u, O i u → ∃ s, (i, s) ∈ kvs
theorem off_none {t : Int} {O : Int → List Int → Prop} (h : ∀ i u, ¬ O i u) : Off t O [] := ⟨by unfold KN; simp, fun i u hO => absurd hO (h i u), fun p hp => (by cases hp), fun i u hO => absurd hO (h i u)⟩
theorem Off.congr {t : Int} {O O' : Int → List Int → Prop} {kvs : List (Int × ByteArray)} (h : Off t O kvs) (e : ∀ i u, O' i u ↔ O i u) : Off t O' kvs :=
  ⟨h.kn, fun i u hO => h.len i u ((e i u).1 hO), fun p hp => ⟨(e _ _).2 (h.yes p hp).1, fun u hu => (h.yes p hp).2 u ((e _ _).1 hu)⟩, fun i u hO => h.all i u ((e i u).1 hO)⟩
end Gx
namespace Gx
open Go Go.RowKit
set_option linter.unusedSimpArgs false
set_option linter.unusedSectionVars false
set_option linter.unusedVariables false
def O1 (m : Mach) (k : Int) (i : Int) (u : List Int) : Prop := (∃ q : Int, 0 ≤ q ∧ q < k ∧ at_ m.first q = i) ∧ someIn (at_ m.spots i).set = true ∧ u = [first (at_ m.spots i).set]
section
variable {m : Mach} {kvs : List (Int × ByteArray)} {k t : Int}
theorem o1_0 (m : Mach) : Off 1 (O1 m 0) [] := off_none fun i u h => by obtain ⟨⟨q, q0, q1, _⟩, _⟩ := h; omega
section
variable {seen : List Bool} {done : List (Int × ByteArray)} {p : Int × ByteArray} {nx : List (Int × ByteArray)}
end
end
end Gx
namespace Gx
open Go Go.RowKit
set_option linter.unusedSimpArgs false
set_option linter.unusedSectionVars false
set_option linter.unusedVariables false
section
variable {P : Program} {ρ : Env} {w : World} {d : Option Tmp} {ty : TypeId} {pos : String} {af : Array Edge} {g : Option (Nat × Bool)} {x y : Operand}
end
theorem CF.sub {w : World} {ad : Addr} {cs ds : List Value} {o m : Nat} (hc : CF ad cs w) (hs : (cs.drop o).take m = ds) : CF (ad.add o) ds w := fun j v hj => by
  rw [add_add]
  refine hc _ _ ?_
  rw [← hs, List.getElem?_take] at hj
  split at hj
  · rwa [List.getElem?_drop] at hj
  · cases hj
end Gx
namespace Gx
open Go Go.RowKit
set_option linter.unusedSimpArgs false
set_option linter.unusedSectionVars false
set_option linter.unusedVariables false
structure RefD where
  least : List Int
  next : List (List Int)
  final : List Bool
instance : Inhabited RefD := ⟨⟨[], [], []⟩⟩
def Given (x : RefD) (d : Dfa) : Prop := zcd d = true ∧ zbx d.part ∧ x.least = zat d.part ∧ x.next = d.next ∧ x.final = d.final
section
variable {d : Dfa} {tx nx : List ByteArray} {is th : List Bool} {s q k r : Int}
end
end Gx
namespace Gx
open Go Go.RowKit
set_option linter.unusedSimpArgs false
set_option linter.unusedSectionVars false
set_option linter.unusedVariables false
section
variable {P : Program} {w : World} {ρ : Env} {d : Option Nat} {x y : Operand} {ty : TypeId} {pos : String} {af : Array Edge} {g : Option (Nat × Bool)}
end
structure WayI (m : Mach) (src : List Int) (to' : Int) (texts : List ByteArray) (seen : List Bool) (todo : List Int) (i : Int) : Prop where
  way : Way m src texts seen todo
  done : ∀ k : Int, 0 ≤ k → k < i → k < (todo.length : Int) → (∀ x ∈ at_ m.follow (at_ todo k), x ∈ todo) ∧ at_ todo k ≠ to'
structure WayK (m : Mach) (src : List Int) (to' a : Int) (texts : List ByteArray) (seen : List Bool) (todo : List Int) (i k : Int) : Prop where
  base : WayI m src to' texts seen todo i
  lo : 0 ≤ i
  hi : i < (todo.length : Int)
  cur : at_ todo i = a
  row : ∀ q : Int, 0 ≤ q → q < k → q < ((at_ m.follow a).length : Int) → at_ (at_ m.follow a) q ∈ todo
theorem WayK.inn {m : Mach} {src : List Int} {to' a : Int} {texts : List ByteArray} {seen : List Bool} {todo : List Int} {i k : Int} (W : WayK m src to' a texts seen todo i k) : 0 ≤ a ∧ a < (m.spots.length : Int) := by
  rw [← W.cur]; exact W.base.way.inn _ (zee W.lo W.hi)
theorem WayK.size {m : Mach} {src : List Int} {to' a : Int} {texts : List ByteArray} {seen : List Bool} {todo : List Int} {i k : Int} (W : WayK m src to' a texts seen todo i k) : ((at_ texts a).size : Int) ≤ m.spots.length := by
  rw [← W.cur]; exact way_size W.base.way W.lo W.hi
end Gx
namespace Gx
open Go Go.RowKit
set_option linter.unusedSimpArgs false
set_option linter.unusedSectionVars false
set_option linter.unusedVariables false
def nextR2 (a b : RefD) (s : List Int) (k : Int) : List Int := [at_ (at_ a.next (at_ s 0)) k, at_ (at_ b.next (at_ s 1)) k]
def finalR2 (a b : RefD) (n : Int) (s : List Int) : Bool := howB (at_ a.final (at_ s 0)) (at_ b.final (at_ s 1)) n
def listP (s : Int × Int) : List Int := [s.1, s.2]
structure Both2 (a b : RefD) (A B : Dfa) : Prop where
  ga : Given a A
  gb : Given b B
  part : A.part = B.part
  la : (A.next.length : Int) ≤ 1048577
  lb : (B.next.length : Int) ≤ 1048577
section
variable {a b : RefD} {A B : Dfa}
theorem Both2.ra (h : Both2 a b A B) : RightD A := rightD_of h.ga.2.1 h.ga.1
theorem Both2.rb (h : Both2 a b A B) : RightD B := rightD_of h.gb.2.1 h.gb.1
theorem Both2.n (h : Both2 a b A B) : (a.least.length : Int) = A.part.n := by rw [h.ga.2.2.1]; exact leastB_len h.ra.part
theorem Both2.next (h : Both2 a b A B) (s : Int × Int) (k : Int) : nextR2 a b (listP s) k = listP (nextP A B s k) := by
  unfold nextR2 listP nextP
  rw [h.ga.2.2.2.1, h.gb.2.2.2.1]; rfl
theorem Both2.fin (h : Both2 a b A B) (n : Int) (s : Int × Int) : finalR2 a b n (listP s) = finalP A B n s := by
  unfold finalR2 listP finalP
  rw [h.ga.2.2.2.2, h.gb.2.2.2.2]; rfl
theorem Both2.first (h : Both2 a b A B) : InP A B (0, 0) := ⟨⟨Int.le_refl _, h.ra.some_⟩, Int.le_refl _, h.rb.some_⟩
theorem Both2.step (h : Both2 a b A B) (s : Int × Int) (k : Int) (hs : InP A B s) (h0 : 0 ≤ k) (h1 : k < (a.least.length : Int)) : InP A B (nextP A B s k) := nextP_in h.ra h.rb (by rw [h.part]) hs h0 (by rw [← h.n]; exact h1)
variable {fin : List Int → Bool} {all all2 : List (List Int)} {mp mp2 : List (List Int × Int)} {nx : List (List Int)} {fl : List Bool} {l : List Int} {i k : Int} {s : List Int}
end
end Gx
namespace Gx
open Go Go.RowKit
set_option linter.unusedSimpArgs false
set_option linter.unusedSectionVars false
set_option linter.unusedVariables false
theorem not_flen {d : Dfa} (h : zcd d = true) : ((notD d).final.length : Int) = d.final.length := by rw [zcg h]; show (((d.final.map fun x => !x).length : Nat) : Int) = _; rw [List.length_map]
section
variable {m other : Mach}
end
end Gx
namespace Gx
open Go Go.RowKit
set_option linter.unusedSimpArgs false
set_option linter.unusedSectionVars false
set_option linter.unusedVariables false
def zdi {α : Type} (P : Program) (k : Kd α) (t : TypeId) : Prop :=
  ∀ {H : Type} {enc : TypeId × Value → H} {w : World} {spare : Nat → Bool} {held : Bool} {fuel : Nat} {cs : List Value} {x : DataW H × List MemPlace}, DataW.trod enc P w 0 spare held fuel t cs = some x → ∃ m, k.rep (hp w) m cs
section
variable {P : Program} {t e : TypeId}
theorem inK_wf {k : IntKind} {n : Int} (h : (Lit.int k n).wf = true) : inK k n := by
  simp only [Lit.wf, Bool.and_eq_true, decide_eq_true_eq] at h
  exact h
theorem zdi.int {k : IntKind} (ht : P.underlying t = some (.int k)) : zdi P (Kd.int k) t := fun h => by
  obtain ⟨n, rfl, _, hw⟩ := DataW.trod_int ht h
  exact ⟨n, rfl, inK_wf hw⟩
theorem zdi.bool (ht : P.underlying t = some .bool) : zdi P Kd.bool t := fun h => by
  obtain ⟨b, rfl, _⟩ := DataW.trod_bool ht h
  exact ⟨b, rfl, trivial⟩
theorem zdi.string (ht : P.underlying t = some .string) : zdi P Kd.string t := fun h => by
  obtain ⟨s, rfl, _, hs⟩ := DataW.trod_string ht h
  exact ⟨s, rfl, hs⟩
theorem exists_list {α : Type} {Q : Nat → α → Prop} : ∀ (n : Nat), (∀ i, i < n → ∃ m, Q i m) → ∃ l : List α, l.length = n ∧ ∀ i m, l[i]? = some m → Q i m
  | 0, _ => ⟨[], rfl, fun i m h => by simp at h⟩
  | n + 1, h => by
    obtain ⟨l, hl, hq⟩ := exists_list n fun i hi => h i (by omega)
    obtain ⟨m, hm⟩ := h n (by omega)
    refine ⟨l ++ [m], by simp [hl], fun i y hy => ?_⟩
    rw [List.getElem?_append] at hy
    split at hy
    · exact hq i y hy
    · rename_i hi
      have e : i - l.length = 0 := by
        rcases Nat.eq_zero_or_pos (i - l.length) with h0 | h0
        · exact h0
        · rw [List.getElem?_eq_none (by simp; omega)] at hy; cases hy
      rw [e] at hy
      simp at hy
      subst hy
      have : i = n := by omega
      rw [this]; exact hm
theorem zdi.ints {k : IntKind} {n : Nat} (hn : 0 < n) (ht : P.underlying t = some (.array n e)) (he : P.underlying e = some (.int k)) (hc : P.cellsOf e = 1) (hct : P.cellsOf t = n) : zdi P (kInts k n hn) t := fun {H enc w spare held fuel cs x} h => by
  obtain ⟨xs, m, _, _, hl, hx, hel⟩ := DataW.trod_array ht h
  rw [hct] at hl
  have h1 : ∀ i, i < n → ∃ z : Int, cs[i]? = some (.int k z) ∧ inK k z := fun i hi => by
    have h2 := hel i hi
    rw [hc, Nat.mul_one, List.getElem?_eq_getElem (by omega)] at h2
    obtain ⟨z, hz, _, hw⟩ := DataW.trod_int he h2
    refine ⟨z, ?_, inK_wf hw⟩
    have h3 := congrArg (fun l : List Value => l[0]?) hz
    simpa [List.getElem?_take, List.getElem?_drop] using h3
  obtain ⟨l, hll, hq⟩ := exists_list n h1
  refine ⟨l, ?_, hll, fun z hz => ?_⟩
  · apply List.ext_getElem?
    intro i
    rw [zav, List.getElem?_map]
    by_cases hi : i < n
    · have h4 := hq i (l[i]'(by omega)) (List.getElem?_eq_getElem _)
      rw [h4.1, List.getElem?_eq_getElem (by omega)]; rfl
    · rw [List.getElem?_eq_none (by omega), List.getElem?_eq_none (by omega)]; rfl
  · obtain ⟨i, hi⟩ := List.mem_iff_getElem?.1 hz
    exact (hq i z hi).2
theorem zdi.set (ht : P.underlying t = some (.array 4 e)) (he : P.underlying e = some (.int .u64)) (hc : P.cellsOf e = 1) (hct : P.cellsOf t = 4) : zdi P kSet t := fun h => by
  obtain ⟨l, hl, hok⟩ := zdi.ints (n := 4) (by omega) ht he hc hct h
  exact ⟨zbl l, by rw [hl, encSet_of hok], trivial⟩
theorem zdi.slice {α : Type} {k : Kd α} (ht : P.underlying t = some (.slice e)) (hc : P.cellsOf e = k.sz) (ho : zdi P k e) : zdi P k.slice t := fun {H enc w spare held fuel cs x} h => by
  rcases DataW.trod_slice ht h with ⟨rfl, _⟩ | ⟨a, len, cap, elems, rest, n, _, rfl, _, _, hl, hm, hlen, hel, _, _⟩
  · exact ⟨[], none, 0, rfl, Nat.le_refl _, by simp [maxLen], fun hne => (hne rfl).elim⟩
  · rw [hc] at hel
    have h1 : ∀ i, i < len → ∃ m, ∃ seg, k.rep (hp w) m seg ∧ ∀ j v, seg[j]? = some v → gcell (hp w) (a.add (i * k.sz + j)) = some v := fun i hi => by
      have h2 := hel i hi
      rw [List.getElem?_eq_getElem (by omega)] at h2
      obtain ⟨seg, hseg, hd⟩ := Option.bind_eq_some_iff.1 h2
      obtain ⟨m, hr⟩ := ho hd
      refine ⟨m, seg, hr, fun j v hj => ?_⟩
      obtain ⟨_, hlen2, hcell⟩ := World.cells?_some hseg
      have hjl : j < k.sz := by
        have := (List.getElem?_eq_some_iff.1 hj).1
        rw [k.len hr] at this; exact this
      have h5 := hcell j hjl
      rw [hj] at h5
      rw [Addr.add_add] at h5
      show gcell (hp w) _ = _
      unfold gcell hp
      unfold World.cell? at h5
      exact h5
    obtain ⟨l, hll, hq⟩ := exists_list len h1
    refine ⟨l, some a, cap, by rw [hll], by omega, hm, fun _ => ⟨a, rfl, hq⟩⟩
end
end Gx
namespace Gx
open Go Go.RowKit
set_option linter.unusedSimpArgs false
set_option linter.unusedSectionVars false
set_option linter.unusedVariables false
section
variable {P : Program} {t : TypeId}
theorem zd3 {H : Type} {enc : TypeId × Value → H} {w : World} {spare : Nat → Bool} {held : Bool} {fuel : Nat} {cs : List Value} {x : DataW H × List MemPlace} {α : Type} {k : Kd α} {q o ft : Nat} (hf : zbp P t q = some (o, ft)) (hc : P.cellsOf ft = k.sz) (ho : zdi P k ft) (h : DataW.trod enc P w 0 spare held fuel t cs = some x) : ∃ m, k.rep (hp w) m ((cs.drop o).take k.sz) := by
  obtain ⟨fs, fd, hu, hq, rfl, rfl⟩ := fieldInfo_parts hf
  obtain ⟨xs, n, _, _, _, hl, hp⟩ := DataW.trod_struct hu h
  have h1 := hp q fd hq
  have hlt : q < fs.size := (Array.getElem?_eq_some_iff.1 hq).1
  rw [hc, List.getElem?_eq_getElem (by omega)] at h1
  exact ho h1
theorem trod_len {H : Type} {enc : TypeId × Value → H} {w : World} {spare : Nat → Bool} {held : Bool} {fuel : Nat} {cs : List Value} {x : DataW H × List MemPlace} {q o ft : Nat} (hf : zbp P t q = some (o, ft)) (h : DataW.trod enc P w 0 spare held fuel t cs = some x) : cs.length = P.cellsOf t := by
  obtain ⟨fs, fd, hu, hq, rfl, rfl⟩ := fieldInfo_parts hf
  obtain ⟨xs, n, _, _, hl, _, _⟩ := DataW.trod_struct hu h
  exact hl
theorem zdi.spot {a b : TypeId} (h0 : zbp P t 0 = some (0, a)) (h1 : zbp P t 1 = some (4, b)) (hc : P.cellsOf t = 5) (ha : P.cellsOf a = 4) (hb : P.cellsOf b = 1) (oa : zdi P kSet a) (ob : zdi P (Kd.int .u8) b) : zdi P kSpot t := fun {H enc w spare held fuel cs x} h => by
  obtain ⟨s, e0, _⟩ := zd3 h0 ha oa h
  obtain ⟨n, e1, hn⟩ := zd3 h1 hb ob h
  have hl := trod_len h0 h
  rw [hc] at hl
  refine ⟨⟨s, n⟩, ?_, hn⟩
  have e2 : cs = (cs.drop 0).take 4 ++ (cs.drop 4).take 1 := by
    rw [List.drop_zero, List.take_of_length_le (l := cs.drop 4) (by simp; omega), List.take_append_drop]
  rw [e2]
  show (cs.drop 0).take kSet.sz ++ (cs.drop 4).take (Kd.int .u8).sz = _
  rw [e0, e1]; rfl
def kMach : Kd Mach where
  sz := 5
  pos := by omega
  rep := fun h m cs => ∃ A0 c0 A1 c1 A2 c2 A3 c3, cs = [.slice A0 m.spots.length c0, .slice A1 m.first.length c1, .slice A2 m.follow.length c2, .slice A3 m.last.length c3, .bool m.empty] ∧
    ((m.spots.length ≤ c0 ∧ c0 ≤ maxLen) ∧ zbo kSpot h A0 m.spots) ∧ ((m.first.length ≤ c1 ∧ c1 ≤ maxLen) ∧ zbo (Kd.int .i64) h A1 m.first) ∧ ((m.follow.length ≤ c2 ∧ c2 ≤ maxLen) ∧ zbo (Kd.int .i64).slice h A2 m.follow) ∧ ((m.last.length ≤ c3 ∧ c3 ≤ maxLen) ∧ zbo Kd.bool h A3 m.last)
  mono := fun hl ⟨A0, c0, A1, c1, A2, c2, A3, c3, e, h0, h1, h2, h3⟩ => ⟨A0, c0, A1, c1, A2, c2, A3, c3, e, ⟨h0.1, h0.2.mono hl⟩, ⟨h1.1, h1.2.mono hl⟩, ⟨h2.1, h2.2.mono hl⟩, ⟨h3.1, h3.2.mono hl⟩⟩
  len := fun ⟨_, _, _, _, _, _, _, _, e, _⟩ => by rw [e]; rfl
  one := fun ⟨_, _, _, _, _, _, _, _, e, _⟩ u hu => by rw [e] at hu; exact zb7 rfl (zb7 rfl (zb7 rfl (zb7 rfl (zb7 rfl zdu)))) u hu
theorem list5 {cs : List Value} (h : cs.length = 5) {a b c d e : Value} (h0 : (cs.drop 0).take 1 = [a]) (h1 : (cs.drop 1).take 1 = [b]) (h2 : (cs.drop 2).take 1 = [c]) (h3 : (cs.drop 3).take 1 = [d]) (h4 : (cs.drop 4).take 1 = [e]) : cs = [a, b, c, d, e] := by
  match cs, h with
  | [x0, x1, x2, x3, x4], _ => simp at h0 h1 h2 h3 h4; simp [h0, h1, h2, h3, h4]
theorem zdi.mach {t0 t1 t2 t3 t4 : TypeId} (h0 : zbp P t 0 = some (0, t0)) (h1 : zbp P t 1 = some (1, t1)) (h2 : zbp P t 2 = some (2, t2)) (h3 : zbp P t 3 = some (3, t3)) (h4 : zbp P t 4 = some (4, t4)) (hc : P.cellsOf t = 5) (c0 : P.cellsOf t0 = 1) (c1 : P.cellsOf t1 = 1) (c2 : P.cellsOf t2 = 1) (c3 : P.cellsOf t3 = 1) (c4 : P.cellsOf t4 = 1)
    (o0 : zdi P kSpot.slice t0) (o1 : zdi P (Kd.int .i64).slice t1) (o2 : zdi P (Kd.int .i64).slice.slice t2) (o3 : zdi P Kd.bool.slice t3) (o4 : zdi P Kd.bool t4) : zdi P kMach t := fun h => by
  obtain ⟨m0, A0, d0, e0, b0, b0', l0⟩ := zd3 h0 c0 o0 h
  obtain ⟨m1, A1, d1, e1, b1, b1', l1⟩ := zd3 h1 c1 o1 h
  obtain ⟨m2, A2, d2, e2, b2, b2', l2⟩ := zd3 h2 c2 o2 h
  obtain ⟨m3, A3, d3, e3, b3, b3', l3⟩ := zd3 h3 c3 o3 h
  obtain ⟨m4, e4, _⟩ := zd3 h4 c4 o4 h
  have hl := trod_len h0 h
  rw [hc] at hl
  exact ⟨⟨m0, m1, m2, m3, m4⟩, A0, d0, A1, d1, A2, d2, A3, d3, list5 hl e0 e1 e2 e3 e4, ⟨⟨b0, b0'⟩, l0⟩, ⟨⟨b1, b1'⟩, l1⟩, ⟨⟨b2, b2'⟩, l2⟩, ⟨b3, b3'⟩, l3⟩
end
end Gx
namespace Gx
open Go Go.RowKit
set_option linter.unusedSimpArgs false
set_option linter.unusedSectionVars false
set_option linter.unusedVariables false
section
variable {P : Program} {t : TypeId}
theorem parts_of {cs : List Value} {n m : Nat} (h : cs.length = n + m) : cs = (cs.drop 0).take n ++ (cs.drop n).take m := by
  rw [List.drop_zero, List.take_of_length_le (l := cs.drop n) (by simp; omega), List.take_append_drop]
theorem zdi.part {a b : TypeId} (h0 : zbp P t 0 = some (0, a)) (h1 : zbp P t 1 = some (256, b)) (hc : P.cellsOf t = 257) (ha : P.cellsOf a = 256) (hb : P.cellsOf b = 1) (oa : zdi P (kInts .u8 256 (by decide)) a) (ob : zdi P (Kd.int .i64) b) : zdi P kPart t := fun {H enc w spare held fuel cs x} h => by
  obtain ⟨l, e0, ok⟩ := zd3 (k := kInts .u8 256 (by decide)) h0 ha oa h
  obtain ⟨n, e1, hn⟩ := zd3 h1 hb ob h
  have hl := trod_len h0 h
  rw [hc] at hl
  refine ⟨⟨l, n⟩, ?_, ok, hn⟩
  rw [parts_of (n := 256) (m := 1) hl]
  show (cs.drop 0).take (kInts .u8 256 (by decide)).sz ++ (cs.drop 256).take (Kd.int .i64).sz = _
  rw [e0, e1]; rfl
end
end Gx
namespace Gx
open Go Go.RowKit
set_option linter.unusedSimpArgs false
set_option linter.unusedVariables false
set_option linter.unusedSectionVars false
def kRaw : Kd Value where
  sz := 1
  pos := by omega
  rep := fun _ x cs => cs = [x] ∧ x.oneCell' = true
  mono := fun _ h => h
  len := fun h => by rw [h.1]; rfl
  one := fun h u hu => by rw [h.1] at hu; simp at hu; subst hu; exact h.2
def rows {α : Type} (T : TypeId) (k : Kd α) (us : List Value) (xss : List (List α)) (p : Nat → Bool) : Asrt where
  holds := fun h w F => us.length = xss.length ∧ ∃ G : Nat → Nat → Prop, (∀ i, i < xss.length → p i = true → (row T k (us.getD i default) (xss.getD i default)).holds h w (G i) ∧ ∀ b, G i b → F b) ∧
    ∀ i j, i < xss.length → j < xss.length → p i = true → p j = true → i ≠ j → ∀ b, G i b → ¬ G j b
  mono := fun hl ⟨hn, G, h1, h2⟩ => ⟨hn, G, fun i hi hp => ⟨(row T k _ _).mono hl (h1 i hi hp).1, (h1 i hi hp).2⟩, h2⟩
  far := fun hf ⟨hn, G, h1, h2⟩ => ⟨hn, G, fun i hi hp => ⟨(row T k _ _).far (fun b hb => hf b ((h1 i hi hp).2 b hb)) (h1 i hi hp).1, (h1 i hi hp).2⟩, h2⟩
def grid {α : Type} (T : TypeId) (k : Kd α) (us : List Value) (xss : List (List α)) : Asrt := rows T k us xss fun _ => true
def gridB {α : Type} (T : TypeId) (k : Kd α) (us : List Value) (xss : List (List α)) (q : Int) : Asrt := rows T k us xss fun i => !decide (i = q.toNat)
section
variable {base : Nat} {w0 w : World} {h : Ghost} {L : List Asrt}
theorem St.split (S : St base w0 h w L) {j : Nat} {A A1 A2 : Asrt} (hj : L[j]? = some A)
    (hm : ∀ F, A.holds h w F → ∃ F1 F2, A1.holds h w F1 ∧ A2.holds h w F2 ∧ (∀ b, F1 b → F b) ∧ (∀ b, F2 b → F b) ∧ ∀ b, F1 b → ¬ F2 b) : St base w0 h w (L.set j A1 ++ [A2]) := by
  obtain ⟨Fs, hF, hD⟩ := S.sep
  obtain ⟨hA, hU⟩ := hF j A hj
  obtain ⟨F1, F2, h1, h2, s1, s2, hd⟩ := hm _ hA
  have hl : j < L.length := (List.getElem?_eq_some_iff.1 hj).1
  refine ⟨S.below, S.bsz, S.ghost, S.dom, fun i => if i = L.length then F2 else if i = j then F1 else Fs i, fun i B hi => ?_, fun i m hi hm' him b hb1 hb2 => ?_⟩
  · by_cases hil : i = L.length
    · subst hil
      rw [List.getElem?_append_right (by simp)] at hi
      simp at hi
      subst hi
      simp only [if_true]
      exact ⟨h2, fun b hb => hU b (s2 b hb)⟩
    · simp only [if_neg hil]
      have hlt : i < L.length := by
        have := (List.getElem?_eq_some_iff.1 hi).1
        simp at this; omega
      rw [List.getElem?_append_left (by simpa using hlt)] at hi
      by_cases hij : i = j
      · subst hij
        rw [List.getElem?_set_self hl] at hi
        injection hi with hi
        subst hi
        simp only [if_true]
        exact ⟨h1, fun b hb => hU b (s1 b hb)⟩
      · rw [List.getElem?_set_ne (fun e => hij e.symm)] at hi
        simp only [if_neg hij]
        exact hF i B hi
  · simp only [List.length_append, List.length_set, List.length_cons, List.length_nil] at hi hm'
    have old : ∀ i, i < L.length → i ≠ j → ∀ b, Fs j b → ¬ Fs i b := fun i hi hij b hb hb' => hD j i hl hi (fun e => hij e.symm) b hb hb'
    by_cases e1 : i = L.length <;> by_cases e2 : m = L.length
    · omega
    · simp only [if_pos e1] at hb1; simp only [if_neg e2] at hb2
      by_cases e3 : m = j
      · simp only [if_pos e3] at hb2; exact hd b hb2 hb1
      · simp only [if_neg e3] at hb2; exact old m (by omega) e3 b (s2 b hb1) hb2
    · simp only [if_neg e1] at hb1; simp only [if_pos e2] at hb2
      by_cases e3 : i = j
      · simp only [if_pos e3] at hb1; exact hd b hb1 hb2
      · simp only [if_neg e3] at hb1; exact old i (by omega) e3 b (s2 b hb2) hb1
    · simp only [if_neg e1] at hb1; simp only [if_neg e2] at hb2
      by_cases e3 : i = j
      · simp only [if_pos e3] at hb1
        have e4 : m ≠ j := fun e => him (by rw [e3, e])
        simp only [if_neg e4] at hb2
        exact old m (by omega) e4 b (s1 b hb1) hb2
      · simp only [if_neg e3] at hb1
        by_cases e4 : m = j
        · simp only [if_pos e4] at hb2; exact old i (by omega) e3 b (s1 b hb2) hb1
        · simp only [if_neg e4] at hb2; exact hD i m (by omega) (by omega) him b hb1 hb2
theorem St.merge (S : St base w0 h w L) {i j : Nat} {A A1 A2 : Asrt} (hi : L[i]? = some A1) (hj : L[j]? = some A2) (hij : i ≠ j)
    (hm : ∀ F1 F2, A1.holds h w F1 → A2.holds h w F2 → (∀ b, F1 b → ¬ F2 b) → A.holds h w fun b => F1 b ∨ F2 b) : St base w0 h w ((L.set i A).set j emp) := by
  obtain ⟨Fs, hF, hD⟩ := S.sep
  obtain ⟨hA, hU⟩ := hF i A1 hi
  obtain ⟨hB, hV⟩ := hF j A2 hj
  have hli : i < L.length := (List.getElem?_eq_some_iff.1 hi).1
  have hlj : j < L.length := (List.getElem?_eq_some_iff.1 hj).1
  have hA' := hm _ _ hA hB (hD i j hli hlj hij)
  refine ⟨S.below, S.bsz, S.ghost, S.dom, fun m => if m = j then fun _ => False else if m = i then fun b => Fs i b ∨ Fs j b else Fs m, fun m B hB' => ?_, fun m n hm' hn hmn b hb1 hb2 => ?_⟩
  · by_cases e1 : m = j
    · subst e1
      rw [List.getElem?_set_self (by simpa using hlj)] at hB'
      injection hB' with hB'
      subst hB'
      simp only [if_true]
      exact ⟨trivial, fun b hb => hb.elim⟩
    · simp only [if_neg e1]
      rw [List.getElem?_set_ne (fun e => e1 e.symm)] at hB'
      by_cases e2 : m = i
      · subst e2
        rw [List.getElem?_set_self hli] at hB'
        injection hB' with hB'
        subst hB'
        simp only [if_true]
        exact ⟨hA', fun b hb => hb.elim (hU b) (hV b)⟩
      · rw [List.getElem?_set_ne (fun e => e2 e.symm)] at hB'
        simp only [if_neg e2]
        exact hF m B hB'
  · simp only [List.length_set] at hm' hn
    by_cases e1 : m = j
    · simp only [if_pos e1] at hb1
    · by_cases e2 : n = j
      · simp only [if_pos e2] at hb2
      · simp only [if_neg e1] at hb1; simp only [if_neg e2] at hb2
        by_cases e3 : m = i
        · have e4 : n ≠ i := fun e => hmn (by rw [e3, e])
          simp only [if_pos e3] at hb1; simp only [if_neg e4] at hb2
          rcases hb1 with hb1 | hb1
          · exact hD i n hli hn (fun e => e4 e.symm) b hb1 hb2
          · exact hD j n hlj hn (fun e => e2 e.symm) b hb1 hb2
        · simp only [if_neg e3] at hb1
          by_cases e4 : n = i
          · simp only [if_pos e4] at hb2
            rcases hb2 with hb2 | hb2
            · exact hD m i hm' hli e3 b hb1 hb2
            · exact hD m j hm' hlj e1 b hb1 hb2
          · simp only [if_neg e4] at hb2; exact hD m n hm' hn hmn b hb1 hb2
theorem St.plus (S : St base w0 h w L) {A : Asrt} (hA : A.holds h w fun _ => False) : St base w0 h w (L ++ [A]) := by
  obtain ⟨Fs, hF, hD⟩ := S.sep
  refine ⟨S.below, S.bsz, S.ghost, S.dom, fun i => if i = L.length then fun _ => False else Fs i, fun i B hi => ?_, fun i m hi hm him b hb1 hb2 => ?_⟩
  · by_cases e : i = L.length
    · subst e
      rw [List.getElem?_append_right (Nat.le_refl _)] at hi
      simp at hi
      subst hi
      simp only [if_true]
      exact ⟨hA, fun b hb => hb.elim⟩
    · simp only [if_neg e]
      have hlt : i < L.length := by
        have := (List.getElem?_eq_some_iff.1 hi).1
        simp at this; omega
      rw [List.getElem?_append_left hlt] at hi
      exact hF i B hi
  · simp only [List.length_append, List.length_cons, List.length_nil] at hi hm
    by_cases e1 : i = L.length
    · simp only [if_pos e1] at hb1
    · by_cases e2 : m = L.length
      · simp only [if_pos e2] at hb2
      · simp only [if_neg e1] at hb1; simp only [if_neg e2] at hb2
        exact hD i m (by omega) (by omega) him b hb1 hb2
end
section
variable {base : Nat} {w0 w : World} {h : Ghost} {L : List Asrt} {α : Type} {k : Kd α} {T : TypeId} {us us2 : List Value} {xss xss2 : List (List α)} {ys : List α} {v : Value} {i j : Nat} {q : Int}
theorem St.rows_len {p : Nat → Bool} (S : St base w0 h w L) (hj : L[j]? = some (rows T k us xss p)) : us.length = xss.length := by
  obtain ⟨Fs, hF, _⟩ := S.sep
  exact (hF j _ hj).1.1
theorem zd5 (S : St base w0 h w L) (hj : L[j]? = some (grid T k us xss)) : us.length = xss.length := S.rows_len hj
theorem e_focus (S : St base w0 h w L) (hj : L[j]? = some (grid T k us xss)) (h0 : 0 ≤ q) (h1 : q < (xss.length : Int)) : St base w0 h w (L.set j (gridB T k us xss q) ++ [row T k (at_ us q) (at_ xss q)]) := by
  refine S.split hj fun F hA => ?_
  obtain ⟨hn, G, g1, g2⟩ := hA
  refine ⟨fun b => ∃ i, i < xss.length ∧ i ≠ q.toNat ∧ G i b, G q.toNat, ⟨hn, G, fun i hi hp => ?_, fun i j hi hj _ _ => g2 i j hi hj rfl rfl⟩, (g1 q.toNat (by omega) rfl).1, ?_, (g1 q.toNat (by omega) rfl).2, ?_⟩
  · have hne : i ≠ q.toNat := by simpa using hp
    exact ⟨(g1 i hi rfl).1, fun b hb => ⟨i, hi, hne, hb⟩⟩
  · rintro b ⟨i, hi, _, hb⟩; exact (g1 i hi rfl).2 b hb
  · rintro b ⟨i, hi, hne, hb⟩ hb2; exact g2 i q.toNat hi (by omega) rfl rfl hne b hb hb2
theorem e_close2 (S : St base w0 h w L) (hj : L[j]? = some (gridB T k us xss q)) (hi : L[i]? = some (row T k v ys)) (hij : j ≠ i) (h0 : 0 ≤ q) (h1 : q < (xss.length : Int)) :
    St base w0 h w ((L.set j (grid T k (us.set q.toNat v) (xss.set q.toNat ys))).set i emp) := by
  refine S.merge hj hi hij fun F1 F2 hA hB hd => ?_
  obtain ⟨hn, G, g1, g2⟩ := hA
  refine ⟨by simp [hn], fun m => if m = q.toNat then F2 else G m, fun m hm _ => ?_, fun m n hm hn' _ _ hmn b hb1 hb2 => ?_⟩
  · rw [List.length_set] at hm
    by_cases e : m = q.toNat
    · subst e
      simp only [if_true]
      refine ⟨?_, fun b hb => .inr hb⟩
      have e1 : (us.set q.toNat v).getD q.toNat default = v := by simp [List.getD_eq_getElem?_getD, List.getElem?_set_self (show q.toNat < us.length by omega)]
      have e2 : (xss.set q.toNat ys).getD q.toNat default = ys := by simp [List.getD_eq_getElem?_getD, List.getElem?_set_self (show q.toNat < xss.length by omega)]
      rw [e1, e2]; exact hB
    · simp only [if_neg e]
      have h3 := g1 m hm (by simpa using e)
      refine ⟨?_, fun b hb => .inl (h3.2 b hb)⟩
      have e1 : (us.set q.toNat v).getD m default = us.getD m default := by simp [List.getD_eq_getElem?_getD, List.getElem?_set_ne (fun e' => e e'.symm)]
      have e2 : (xss.set q.toNat ys).getD m default = xss.getD m default := by simp [List.getD_eq_getElem?_getD, List.getElem?_set_ne (fun e' => e e'.symm)]
      rw [e1, e2]; exact h3.1
  · rw [List.length_set] at hm hn'
    by_cases e1 : m = q.toNat <;> by_cases e2 : n = q.toNat
    · omega
    · simp only [if_pos e1] at hb1; simp only [if_neg e2] at hb2
      exact hd b ((g1 n hn' (by simpa using e2)).2 b hb2) hb1
    · simp only [if_neg e1] at hb1; simp only [if_pos e2] at hb2
      exact hd b ((g1 m hm (by simpa using e1)).2 b hb1) hb2
    · simp only [if_neg e1] at hb1; simp only [if_neg e2] at hb2
      exact g2 m n hm hn' (by simpa using e1) (by simpa using e2) hmn b hb1 hb2
theorem set_at_self {β : Type} [Inhabited β] (l : List β) (q : Int) : l.set q.toNat (at_ l q) = l := by
  apply List.ext_getElem?
  intro m
  rw [List.getElem?_set]
  split
  · rename_i e
    subst e
    split
    · rename_i hl
      simp [at_, List.getD_eq_getElem?_getD, List.getElem?_eq_getElem hl]
    · rename_i hl
      rw [List.getElem?_eq_none (by omega)]
  · rfl
theorem e_close (S : St base w0 h w L) (hj : L[j]? = some (gridB T k us xss q)) (hi : L[i]? = some (row T k (at_ us q) ys)) (hij : j ≠ i) (h0 : 0 ≤ q) (h1 : q < (xss.length : Int)) :
    St base w0 h w ((L.set j (grid T k us (xss.set q.toNat ys))).set i emp) := by
  have := e_close2 S hj hi hij h0 h1
  rwa [set_at_self] at this
theorem e_close0 (S : St base w0 h w L) (hj : L[j]? = some (gridB T k us xss q)) (hi : L[i]? = some (row T k (at_ us q) (at_ xss q))) (hij : j ≠ i) (h0 : 0 ≤ q) (h1 : q < (xss.length : Int)) :
    St base w0 h w ((L.set j (grid T k us xss)).set i emp) := by
  have := e_close S hj hi hij h0 h1
  rwa [set_at_self] at this
theorem grid_none (S : St base w0 h w L) (T : TypeId) (k : Kd α) (n : Nat) : St base w0 h w (L ++ [grid T k (List.replicate n (.slice none 0 0)) (List.replicate n [])]) := by
  refine S.plus ⟨by simp, fun _ _ => False, fun i hi _ => ⟨?_, fun b hb => hb⟩, fun i j _ _ _ _ _ b hb => hb.elim⟩
  have hi' : i < n := by simpa using hi
  have e1 : (List.replicate n (Value.slice none 0 0)).getD i default = .slice none 0 0 := by simp [List.getD_eq_getElem?_getD, List.getElem?_replicate, hi']
  have e2 : (List.replicate n ([] : List α)).getD i default = [] := by simp [List.getD_eq_getElem?_getD, List.getElem?_replicate, hi']
  rw [e1, e2]
  exact ⟨[], World.ownsRow_nil _ _ _ _, zb5.nil _ _, fun g e => by cases e⟩
theorem grid_one (S : St base w0 h w L) (hi : L[i]? = some (row T k v ys)) : St base w0 h w (L.set i (grid T k [v] [ys])) := by
  refine S.upd hi fun F hA _ => ⟨⟨rfl, rfl, rfl, Nat.le_refl _, fun _ _ _ => rfl⟩, F, ⟨rfl, fun _ => F, fun m hm _ => ?_, fun m n hm hn _ _ hmn => ?_⟩, fun b hb => .inl hb⟩
  · have : m = 0 := by simpa using hm
    subst this
    exact ⟨hA, fun b hb => hb⟩
  · have : m = 0 := by simpa using hm
    have : n = 0 := by simpa using hn
    omega
theorem grid_cat (S : St base w0 h w L) (hj : L[j]? = some (grid T k us xss)) (hi : L[i]? = some (grid T k us2 xss2)) (hij : j ≠ i) : St base w0 h w ((L.set j (grid T k (us ++ us2) (xss ++ xss2))).set i emp) := by
  refine S.merge hj hi hij fun F1 F2 hA hB hd => ?_
  obtain ⟨hn, G, g1, g2⟩ := hA
  obtain ⟨hn2, G2, g3, g4⟩ := hB
  refine ⟨by simp [hn, hn2], fun m => if m < xss.length then G m else G2 (m - xss.length), fun m hm _ => ?_, fun m n hm hn' _ _ hmn b hb1 hb2 => ?_⟩
  · rw [List.length_append] at hm
    by_cases e : m < xss.length
    · simp only [if_pos e]
      refine ⟨?_, fun b hb => .inl ((g1 m e rfl).2 b hb)⟩
      have e1 : (us ++ us2).getD m default = us.getD m default := by simp [List.getD_eq_getElem?_getD, List.getElem?_append_left (show m < us.length by omega)]
      have e2 : (xss ++ xss2).getD m default = xss.getD m default := by simp [List.getD_eq_getElem?_getD, List.getElem?_append_left e]
      rw [e1, e2]; exact (g1 m e rfl).1
    · simp only [if_neg e]
      refine ⟨?_, fun b hb => .inr ((g3 _ (by omega) rfl).2 b hb)⟩
      have e1 : (us ++ us2).getD m default = us2.getD (m - xss.length) default := by simp [List.getD_eq_getElem?_getD, List.getElem?_append_right (show us.length ≤ m by omega), hn]
      have e2 : (xss ++ xss2).getD m default = xss2.getD (m - xss.length) default := by simp [List.getD_eq_getElem?_getD, List.getElem?_append_right (show xss.length ≤ m by omega)]
      rw [e1, e2]; exact (g3 _ (by omega) rfl).1
  · rw [List.length_append] at hm hn'
    by_cases e1 : m < xss.length <;> by_cases e2 : n < xss.length
    · simp only [if_pos e1] at hb1; simp only [if_pos e2] at hb2
      exact g2 m n e1 e2 rfl rfl hmn b hb1 hb2
    · simp only [if_pos e1] at hb1; simp only [if_neg e2] at hb2
      exact hd b ((g1 m e1 rfl).2 b hb1) ((g3 _ (by omega) rfl).2 b hb2)
    · simp only [if_neg e1] at hb1; simp only [if_pos e2] at hb2
      exact hd b ((g1 n e2 rfl).2 b hb2) ((g3 _ (by omega) rfl).2 b hb1)
    · simp only [if_neg e1] at hb1; simp only [if_neg e2] at hb2
      exact g4 _ _ (by omega) (by omega) rfl rfl (by omega) b hb1 hb2
end
end Gx
namespace Go.Proofs.YtfoemogojbnfhaaDoor
open Go Go.RowKit Gx
set_option maxHeartbeats 1000000
set_option linter.unusedVariables false
set_option linter.unusedSimpArgs false
set_option maxRecDepth 8000
attribute [local irreducible] zbj count first someIn has zbd wbits Lib.ctz zdz zci rowOk tab markP intoP behindP runTo endsIn runM anyTo allTo badQ zd0 zcd goD runD notD errD notTo nextP finalP howB zbt nextC outTo readTo rowIn zdh lastB zat zdx zai errB fitsP madeM allM bfs zdl putB beginB okB
theorem notG_calls (w : World) (d : Dfa) (o0_0 : zbx d.part) (A0_1 : Option Addr) (c0_1 : Nat) (b0_1 : d.next.length ≤ c0_1 ∧ c0_1 ≤ maxLen) (l0_1 : zbo (Kd.int .i64).slice (hp w) A0_1 d.next) (A0_2 : Option Addr) (c0_2 : Nat) (b0_2 : d.final.length ≤ c0_2 ∧ c0_2 ≤ maxLen) (l0_2 : zbo Kd.bool (hp w) A0_2 d.final) (pre0 : (d.next.length : Int) ≤ 1048577) :
    Calls Tryd.prog 23 #[.agg ((zab d.part) ++ ([.slice A0_1 d.next.length c0_1, .slice A0_2 d.final.length c0_2] : List Value)).toArray] w fun e w' => ∃ v, e = .returned v ∧ ∃ (hn : Ghost) (r0 : Value) (us1 : List Value) (r2 : Value), St w.heap.size w hn w' [row 23 kRaw r0 us1, grid 3 (Kd.int .i64) us1 ((notD d).next), row 4 Kd.bool r2 ((notD d).final)] ∧ v = .tuple #[.agg ((zab ((notD d).part)) ++ ([r0, r2] : List Value)).toArray, .int .i64 (errD d)] ∧ zbx ((notD d).part) ∧ inK .i64 (errD d) := by
 refine zak Tryd.func23 rfl Tryd.ntmps23 rfl ?_
 have S0 := St.init w
 have ploo0_0 := zbb o0_0.2; have phio0_0 := zbc o0_0.2
 have bb0_1 := b0_1.1; have bc0_1 := b0_1.2; simp only [maxLen] at bc0_1
 have bb0_2 := b0_2.1; have bc0_2 := b0_2.2; simp only [maxLen] at bc0_2
 refine zac <| zae (l := [0, 1, 2]) rfl ?_
 obtain ⟨b1, w1, r1, g1, T1⟩ := zcb (P := Tryd.prog) S0 35 (v := .agg ((zab d.part) ++ ([.slice A0_1 d.next.length c0_1, .slice A0_2 d.final.length c0_2] : List Value)).toArray) ((zab d.part) ++ ([.slice A0_1 d.next.length c0_1, .slice A0_2 d.final.length c0_2] : List Value)) rfl
 have S2 := T1
 dsimp only [lAa, lAn, lA0, lAs] at S2
 refine p_v (v := .pointer (some ⟨b1, 0, none⟩)) rfl rfl rfl (zdo rfl r1) ?_
 obtain ⟨b3, w3, r3, g3, T3⟩ := zcb (P := Tryd.prog) S2 35 (v := zv35) ((zab zPart) ++ ([.slice none 0 0, .slice none 0 0] : List Value)) (by kernel_rfl)
 have S4 := T3
 dsimp only [lAa, lAn, lA0, lAs] at S4
 refine p_v (v := .pointer (some ⟨b3, 0, none⟩)) rfl rfl rfl (zch ty35 r3) <| p_v (v := .int .i64 0) rfl rfl rfl (zag rfl) <| zaa <| zac <| zac <| zae (l := [0, 1, 2]) rfl <| p_v (v := .agg ((zab d.part) ++ ([.slice A0_1 d.next.length c0_1, .slice A0_2 d.final.length c0_2] : List Value)).toArray) rfl rfl rfl (zaj (seg := ((zab d.part) ++ ([.slice A0_1 d.next.length c0_1, .slice A0_2 d.final.length c0_2] : List Value))) ty35 (zbg (zad o0_0) rfl) (by simp) rfl (CF.box (m := 259) (S4.box_at (j := 0) rfl) (zd4 (zbg (zad o0_0) rfl)))) <| p_c rfl rfl rfl (za2 (args := [.agg ((zab d.part) ++ ([.slice A0_1 d.next.length c0_1, .slice A0_2 d.final.length c0_2] : List Value)).toArray]) ca48 rfl rfl) (rightD_calls w3 d o0_0 A0_1 c0_1 b0_1 (l0_1.mono (St.le0 S4)) A0_2 c0_2 b0_2 (l0_2.mono (St.le0 S4))) ?_
 rintro _ w5 ⟨h5, T5, rfl⟩
 have S6 := S4.keep (Chg.of_below T5.below)
 refine p_v (v := .bool (!(zcd d))) rfl rfl rfl (x_not rfl) <| zaa ?_
 refine zcp (b := zcd d) rfl (fun hc7 => ?_) (fun hc7 => ?_)
 ·skip
  refine zac <| zae (l := [0, 1, 2]) rfl <| p_v (v := .agg ((zab zPart) ++ ([.slice none 0 0, .slice none 0 0] : List Value)).toArray) rfl rfl rfl (zd9 (pv := []) rfl (zbq pl35 ty35 rfl (cs := ((zab zPart) ++ ([.slice none 0 0, .slice none 0 0] : List Value))) (by kernel_rfl))) ?_
  obtain ⟨w8, r8, g8, T8⟩ := zc9 (P := Tryd.prog) (v := .agg ((zab zPart) ++ ([.slice none 0 0, .slice none 0 0] : List Value)).toArray) (vs := ((zab zPart) ++ ([.slice none 0 0, .slice none 0 0] : List Value))) (cs := ((zab zPart) ++ ([.slice none 0 0, .slice none 0 0] : List Value))) S6 ty35 rfl (zbg (zad (zay)) rfl) (zbg (zad (zay)) rfl) (j := 1) rfl (one_app (zb3 _) (by simp [Value.oneCell']))
  have S9 : St w.heap.size w (fun _ => none) w8 [box b1 35 ((zab d.part) ++ ([.slice A0_1 d.next.length c0_1, .slice A0_2 d.final.length c0_2] : List Value)), box b3 35 ((zab zPart) ++ ([.slice none 0 0, .slice none 0 0] : List Value))] := T8
  refine p_s rfl rfl (za7 rfl rfl r8) <| p_v (v := .int .i64 1) rfl rfl rfl (zag rfl) <| zaa ?_
  have T10 := S9.row_nil 23 kRaw
  have S11 := T10
  dsimp only [lAa, lAn, lA0, lAs] at S11
  have T12 := grid_none S11 3 (Kd.int .i64) 0
  have S13 := T12
  dsimp only [lAa, lAn, lA0, lAs] at S13
  have gl14 := zd5 S13 (j := 3) rfl
  have T15 := S13.row_nil 4 Kd.bool
  have S16 := T15
  dsimp only [lAa, lAn, lA0, lAs] at S16
  refine zar Tryd.func23 (res2 rfl (zdg S9 ty35 rfl (j := 1) rfl (zbg (zad (zay)) rfl) (by simp) rfl) (zaw (v := .int .i64 1) rfl)) ?_
  have q0 : ((notD d).part : PartM) = zPart := by
   first | exact errD_yes (by assumption) | exact errD_no (by assumption) | (rw [notD_no (by assumption)]; rfl) | (rw [zcg (by assumption)]; done) | (rw [zcg (by assumption)]; show d.next = _; rw [hI_.2.2.1, List.take_of_length_le (by omega)]) | (rw [zcg (by assumption)]; show d.final.map _ = _; rw [hI_.2.2.2, not_end d (by omega)])
  have q1 : ((notD d).next : List (List Int)) = ([] : List (List Int)) := by
   first | exact errD_yes (by assumption) | exact errD_no (by assumption) | (rw [notD_no (by assumption)]; rfl) | (rw [zcg (by assumption)]; done) | (rw [zcg (by assumption)]; show d.next = _; rw [hI_.2.2.1, List.take_of_length_le (by omega)]) | (rw [zcg (by assumption)]; show d.final.map _ = _; rw [hI_.2.2.2, not_end d (by omega)])
  have q2 : ((notD d).final : List Bool) = ([] : List Bool) := by
   first | exact errD_yes (by assumption) | exact errD_no (by assumption) | (rw [notD_no (by assumption)]; rfl) | (rw [zcg (by assumption)]; done) | (rw [zcg (by assumption)]; show d.next = _; rw [hI_.2.2.1, List.take_of_length_le (by omega)]) | (rw [zcg (by assumption)]; show d.final.map _ = _; rw [hI_.2.2.2, not_end d (by omega)])
  have q3 : (errD d : Int) = 1 := by
   first | exact errD_yes (by assumption) | exact errD_no (by assumption) | (rw [notD_no (by assumption)]; rfl) | (rw [zcg (by assumption)]; done) | (rw [zcg (by assumption)]; show d.next = _; rw [hI_.2.2.1, List.take_of_length_le (by omega)]) | (rw [zcg (by assumption)]; show d.final.map _ = _; rw [hI_.2.2.2, not_end d (by omega)])
  refine ⟨_, rfl, (fun _ => none), (.slice none 0 0), ([] : List Value), (.slice none 0 0), ?_, ?_, ?_, ?_⟩
  · rw [q1]; rw [q2]; exact S16.sub [2, 3, 4] (by decide) rfl _ rfl
  · first | rfl | (simp only [q0, q1, q2, q3]; rfl) | (simp only [q0, q1, q2, q3])
  · rw [q0]; first | assumption | exact zay
  · rw [q3]; exact (zal (by first|omega|(simp;omega)|assumption|simp) (by first|omega|(simp;omega)|assumption|simp))
 have hD_ := rightD_of o0_0 hc7; have hfl_ := hD_.final; have hsm_ := hD_.some_
 refine zau <| zac <| zae (l := [0, 1, 2, 3, 4]) rfl <| p_v (v := .pointer (some ⟨b1, 0, none⟩)) rfl rfl rfl (zao fd35_0 ty32 rfl rfl) <| p_v (v := .agg (zab d.part).toArray) rfl rfl rfl (zaj (seg := ((zab d.part))) ty32 (zad o0_0) (by simp) rfl (CF.box (m := 257) (S6.box_at (j := 0) rfl) (seg_mid (pre := []) (seg := ((zab d.part))) (post := [.slice A0_1 d.next.length c0_1, .slice A0_2 d.final.length c0_2]) rfl (zad o0_0)))) <| p_v (v := .agg ((zab d.part) ++ ([.slice none 0 0, .slice none 0 0] : List Value)).toArray) rfl rfl rfl (zd9 (pv := [(0, .agg (zab d.part).toArray)]) rfl (zbq pl35 ty35 rfl (cs := ((zab d.part) ++ ([.slice none 0 0, .slice none 0 0] : List Value))) (fill_mid (vc := (zab d.part)) (pre := []) (seg := (zab zPart)) (post := [.slice none 0 0, .slice none 0 0]) rfl rfl (zad o0_0) (by kernel_rfl) rfl (zad (zay)) rfl))) ?_
 obtain ⟨b17, w17, r17, g17, T17⟩ := zcb (P := Tryd.prog) S6 35 (v := zv35) ((zab zPart) ++ ([.slice none 0 0, .slice none 0 0] : List Value)) (by kernel_rfl)
 have S18 := T17
 dsimp only [lAa, lAn, lA0, lAs] at S18
 refine p_v (v := .pointer (some ⟨b17, 0, none⟩)) rfl rfl rfl (zch ty35 r17) ?_
 obtain ⟨w19, r19, g19, T19⟩ := zc9 (P := Tryd.prog) (v := .agg ((zab d.part) ++ ([.slice none 0 0, .slice none 0 0] : List Value)).toArray) (vs := ((zab d.part) ++ ([.slice none 0 0, .slice none 0 0] : List Value))) (cs := ((zab zPart) ++ ([.slice none 0 0, .slice none 0 0] : List Value))) S18 ty35 rfl (zbg (zad o0_0) rfl) (zbg (zad (zay)) rfl) (j := 2) rfl (one_app (zb3 _) (by simp [Value.oneCell']))
 have S20 := T19.fx 2 (box b17 35 ((zab d.part) ++ ([.slice none 0 0, .slice none 0 0] : List Value))) rfl
 dsimp only [lAa, lAn, lA0, lAs] at S20
 refine p_s rfl rfl (za7 rfl rfl r19) <| zaa <| zac <| zac <| zae (l := [0, 1, 2, 3]) rfl <| p_v (v := .pointer (some ⟨b1, 257, none⟩)) rfl rfl rfl (zao fd35_1 ty24 rfl rfl) <| p_v (v := .slice A0_1 d.next.length c0_1) rfl rfl rfl (zaj (seg := [.slice A0_1 d.next.length c0_1]) ty24 rfl (by simp) rfl (CF.box (m := 1) (S20.box_at (j := 0) rfl) (za5 (a := (zab d.part)) (pre := []) (seg := [.slice A0_1 d.next.length c0_1]) (post := [.slice A0_2 d.final.length c0_2]) (zad o0_0) rfl rfl))) <| p_v (v := .int .i64 (d.next.length : Int)) rfl rfl rfl (za0 u24 rfl) <| p_v (v := .int .i64 0) rfl rfl rfl (zah rfl) <| zaa <| zaq ?_
 have T21 := S20.row_nil 23 kRaw
 obtain ⟨vn21, ev21, T21⟩ : ∃ v, v = (.slice none 0 0 : Value) ∧ St w.heap.size w (fun _ => none) w19 [box b1 35 ((zab d.part) ++ ([.slice A0_1 d.next.length c0_1, .slice A0_2 d.final.length c0_2] : List Value)), box b3 35 ((zab zPart) ++ ([.slice none 0 0, .slice none 0 0] : List Value)), box b17 35 ((zab d.part) ++ ([v, .slice none 0 0] : List Value)), row 23 kRaw v ([] : List Value)] := ⟨_, rfl, T21⟩
 have S22 : St w.heap.size w (fun _ => none) w19 [box b1 35 ((zab d.part) ++ ([.slice A0_1 d.next.length c0_1, .slice A0_2 d.final.length c0_2] : List Value)), box b3 35 ((zab zPart) ++ ([.slice none 0 0, .slice none 0 0] : List Value)), box b17 35 ((zab d.part) ++ ([vn21, .slice none 0 0] : List Value)), row 23 kRaw vn21 ([] : List Value)] := T21
 have T23 := grid_none S22 3 (Kd.int .i64) 0
 have S24 := T23
 dsimp only [lAa, lAn, lA0, lAs] at S24
 have gl25 := zd5 S24 (j := 4) rfl
 have T26 := S24.row_nil 4 Kd.bool
 obtain ⟨vn26, ev26, T26⟩ : ∃ v, v = (.slice none 0 0 : Value) ∧ St w.heap.size w (fun _ => none) w19 [box b1 35 ((zab d.part) ++ ([.slice A0_1 d.next.length c0_1, .slice A0_2 d.final.length c0_2] : List Value)), box b3 35 ((zab zPart) ++ ([.slice none 0 0, .slice none 0 0] : List Value)), box b17 35 ((zab d.part) ++ ([vn21, v] : List Value)), row 23 kRaw vn21 ([] : List Value), grid 3 (Kd.int .i64) ([] : List Value) ([] : List (List Int)), row 4 Kd.bool v ([] : List Bool)] := ⟨_, rfl, T26⟩
 have S27 : St w.heap.size w (fun _ => none) w19 [box b1 35 ((zab d.part) ++ ([.slice A0_1 d.next.length c0_1, .slice A0_2 d.final.length c0_2] : List Value)), box b3 35 ((zab zPart) ++ ([.slice none 0 0, .slice none 0 0] : List Value)), box b17 35 ((zab d.part) ++ ([vn21, vn26] : List Value)), row 23 kRaw vn21 ([] : List Value), grid 3 (Kd.int .i64) ([] : List Value) ([] : List (List Int)), row 4 Kd.bool vn26 ([] : List Bool)] := T26
 refine zbu (S := (List Bool) × (List (List Int)) × Int) (fun (q_ : (List Bool) × (List (List Int)) × Int) ρ w' => match q_ with | (out_2, out_1, t17) => ∃ (h : Ghost) (us_out_1 : List Value) (v_out_1 : Value) (v_out_2 : Value), Le (fun _ => none) h ∧ St w.heap.size w h w' [box b1 35 ((zab d.part) ++ ([.slice A0_1 d.next.length c0_1, .slice A0_2 d.final.length c0_2] : List Value)), box b3 35 ((zab zPart) ++ ([.slice none 0 0, .slice none 0 0] : List Value)), box b17 35 ((zab d.part) ++ ([v_out_1, v_out_2] : List Value)), row 23 kRaw v_out_1 us_out_1, grid 3 (Kd.int .i64) us_out_1 out_1, row 4 Kd.bool v_out_2 out_2] ∧ ρ 1 = .pointer (some ⟨b1, 0, none⟩) ∧ ρ 2 = .pointer (some ⟨b3, 0, none⟩) ∧ ρ 4 = .pointer (some ⟨b17, 0, none⟩) ∧ ρ 15 = .slice A0_1 d.next.length c0_1 ∧ ρ 16 = .int .i64 (d.next.length : Int) ∧ ρ 17 = .int .i64 t17 ∧ inK .i64 t17 ∧ (0 ≤ t17 ∧ t17 ≤ (d.next.length : Int) ∧ out_1 = d.next.take t17.toNat ∧ out_2 = notTo d t17)) (fun q_ => match q_ with | (out_2, out_1, t17) => (d.next.length - t17).toNat) (([] : List Bool), ([] : List (List Int)), 0) ⟨(fun _ => none), ([] : List Value), vn21, vn26, Le.refl _, S27.sub [0, 1, 2, 3, 4, 5] (by decide) rfl _ rfl, rfl, rfl, rfl, rfl, rfl, rfl, (zal (by first|omega|(simp;omega)|assumption|simp) (by first|omega|(simp;omega)|assumption|simp)), (by exact ⟨by omega, by omega, rfl, not_0 d⟩)⟩ ?_
 rintro ⟨out_2, out_1, t17⟩ ih28 ρ28 w28 ⟨h28, us_out_1, v_out_1, v_out_2, le28, S28, r28_1, r28_2, r28_4, r28_15, r28_16, r28_17, f28_0, hI28⟩
 have lf28_0 := zbb f28_0; have hf28_0 := zbc f28_0
 have rl28_3 := S28.row_le (j := 3) rfl; simp only [maxLen] at rl28_3
 have gl28_4 := zd5 S28 (j := 4) rfl
 have rl28_5 := S28.row_le (j := 5) rfl; simp only [maxLen] at rl28_5
 have hq_ := hI28.1; have hn_ : (out_1.length : Int) ≤ t17 := (by rw [hI28.2.2.1, List.length_take]; omega); have hf_ : (out_2.length : Int) ≤ t17 := (by rw [hI28.2.2.2]; exact not_len d hI28.1); have hr_ := hD_.row t17 hI28.1; have hpm_ := hD_.part.hi
 refine zac <| zae (l := [0]) rfl <| p_v (v := .bool (decide (t17 < (d.next.length : Int)))) rfl rfl rfl (zdy r28_17 r28_16) <| zaa <| zac ?_
 refine zan (p := t17 < (d.next.length : Int)) rfl (fun hc29 => ?_) (fun hc29 => ?_)
 ·skip
  refine zau <| zac <| zaq <| zac <| zae (l := [0, 1, 2, 3, 4]) rfl <| p_v (v := .int .i64 t17) rfl rfl rfl (zah r28_17) ?_
  obtain ⟨ad30, seg30, a30, rp30, ce30⟩ := za9 (q := t17) (m := 1) l0_1 rfl (by first|omega|(simp;omega)|assumption|simp) (by first|omega|(simp;omega)|assumption|simp)
  refine p_v (v := .pointer (some ad30)) rfl rfl rfl (za8 u24 ty23 r28_15 r28_17 a30 (by first|omega|(simp;omega)|assumption|simp) (by first|omega|(simp;omega)|assumption|simp)) ?_
  obtain ⟨A30, c30, rfl, lc30, cm30, ld30⟩ := rp30
  have cn30 := cm30; simp only [maxLen] at cn30
  refine p_v (v := .slice A30 (at_ d.next t17).length c30) rfl rfl rfl (zaj (seg := [.slice A30 (at_ d.next t17).length c30]) ty23 rfl (by simp) rfl (CF.ghost ce30 (St.le0 S28))) <| p_v (v := .int .i64 t17) rfl rfl rfl (zag rfl) <| p_v (v := .slice A30 (at_ d.next t17).length c30) rfl rfl rfl (zag rfl) <| zaa ?_
  obtain ⟨ad31, seg31, a31, rp31, ce31⟩ := za9 (q := t17) (m := 1) l0_2 rfl (by first|omega|(simp;omega)|assumption|simp) (by first|omega|(simp;omega)|assumption|simp)
  obtain ⟨rfl, _⟩ := rp31
  have hf32 : (CFs ⟨b17, 257, none⟩ [v_out_1]).1 w28 := (CF.box (m := 1) (S28.box_at (j := 2) rfl) (za5 (a := (zab d.part)) (pre := []) (seg := [v_out_1]) (post := [v_out_2]) (zad o0_0) rfl rfl))
  have hf33 : (CFs ⟨b17, 258, none⟩ [v_out_2]).1 w28 := (CF.box (m := 1) (S28.box_at (j := 2) rfl) (za5 (a := (zab d.part)) (pre := [v_out_1]) (seg := [v_out_2]) (post := []) (zad o0_0) rfl rfl))
  have hf34 : (CFs ⟨b1, 258, none⟩ [.slice A0_2 d.final.length c0_2]).1 w28 := (CF.box (m := 1) (S28.box_at (j := 0) rfl) (za5 (a := (zab d.part)) (pre := [.slice A0_1 d.next.length c0_1]) (seg := [.slice A0_2 d.final.length c0_2]) (post := []) (zad o0_0) rfl rfl))
  have hf35 : (CFs ad31 [.bool (at_ d.final t17)]).1 w28 := (CF.ghost ce31 (St.le0 S28))
  refine daS (hkC 1 hf32 (hkC 7 hf33 (hkC 9 hf34 (hkC 12 hf35 (hkN (w := w28)))))) 20 rfl mixed ?_
  intro wd36 gd36 hd36
  have S37 := S28.keep gd36
  have hf38 := spUp gd36 hf32
  have hf39 := spUp gd36 hf33
  have hf40 := spUp gd36 hf34
  have hf41 := spUp gd36 hf35
  refine qd0 (i := 0) (v := .pointer (some ⟨b17, 257, none⟩)) rfl (by decide +kernel) rfl rfl (zao fd35_1 ty24 rfl r28_4) (zam rfl) <| qd1 0 (i := 1) (v := v_out_1) rfl rfl (by decide +kernel) rfl rfl (fun wq hq => (zaj (seg := [v_out_1]) ty24 rfl (by simp) rfl hq)) (zbz hf38 (zam rfl)) <| qd0 (i := 2) (v := .slice A30 (at_ d.next t17).length c30) rfl (by decide +kernel) rfl rfl (zah rfl) (zam rfl) <| qd0 (i := 6) (v := .pointer (some ⟨b17, 258, none⟩)) rfl (by decide +kernel) rfl rfl (zao fd35_2 ty25 rfl r28_4) (zam rfl) <| qd1 1 (i := 7) (v := v_out_2) rfl rfl (by decide +kernel) rfl rfl (fun wq hq => (zaj (seg := [v_out_2]) ty25 rfl (by simp) rfl hq)) (zbw rfl (zbz hf39 (zam rfl))) <| qd0 (i := 8) (v := .pointer (some ⟨b1, 258, none⟩)) rfl (by decide +kernel) rfl rfl (zao fd35_2 ty25 rfl r28_1) (zam rfl) <| qd1 2 (i := 9) (v := .slice A0_2 d.final.length c0_2) rfl rfl (by decide +kernel) rfl rfl (fun wq hq => (zaj (seg := [.slice A0_2 d.final.length c0_2]) ty25 rfl (by simp) rfl hq)) (zbw rfl (zbw rfl (zbz hf40 (zam rfl)))) <| qd0 (i := 10) (v := .int .i64 t17) rfl (by decide +kernel) rfl rfl (zah rfl) (zam rfl) <| qd0 (i := 11) (v := .pointer (some ad31)) rfl (by decide +kernel) rfl rfl (za8 u25 ty4 rfl rfl a31 (by first|omega|(simp;omega)|assumption|simp) (by first|omega|(simp;omega)|assumption|simp)) (zam rfl) <| qd1 3 (i := 12) (v := .bool (at_ d.final t17)) rfl rfl (by decide +kernel) rfl rfl (fun wq hq => (zaj (seg := [.bool (at_ d.final t17)]) ty4 rfl (by simp) rfl hq)) (zbw rfl (zbw rfl (zbw rfl (zbz hf41 (zam rfl))))) <| qd0 (i := 13) (v := .bool (!(at_ d.final t17))) rfl (by decide +kernel) rfl rfl (x_not rfl) (zam rfl) ?_
  refine ra_join (fun ρ w' => ∃ (h : Ghost) (j133_v76 : Value) (j133_v105 : Value) (j133_us2 : List Value), Le h28 h ∧ St w.heap.size w h w' [box b1 35 ((zab d.part) ++ ([.slice A0_1 d.next.length c0_1, .slice A0_2 d.final.length c0_2] : List Value)), box b3 35 ((zab zPart) ++ ([.slice none 0 0, .slice none 0 0] : List Value)), box b17 35 ((zab d.part) ++ ([j133_v76, j133_v105] : List Value)), row 23 kRaw j133_v76 j133_us2, grid 3 (Kd.int .i64) j133_us2 (out_1 ++ ([(at_ d.next t17)] : List (List Int))), row 4 Kd.bool j133_v105 (out_2 ++ ([!(at_ d.final t17)] : List Bool))] ∧ ρ 1 = .pointer (some ⟨b1, 0, none⟩) ∧ ρ 2 = .pointer (some ⟨b3, 0, none⟩) ∧ ρ 4 = .pointer (some ⟨b17, 0, none⟩) ∧ ρ 15 = .slice A0_1 d.next.length c0_1 ∧ ρ 16 = .int .i64 (d.next.length : Int) ∧ ρ 17 = .int .i64 t17 ∧ zbx d.part ∧ zbx d.part) ?_ (fun jn133 => ?_)
  ·skip
   rintro ρj133 wj133 ⟨hj133, j133_v76, j133_v105, j133_us2, lej133, Sj133, rj133_1, rj133_2, rj133_4, rj133_15, rj133_16, rj133_17, jf133_0, jf133_1⟩
   have jr133_3 := Sj133.row_le (j := 3) rfl; simp only [maxLen] at jr133_3
   have jg133_4 := zd5 Sj133 (j := 4) rfl
   have jr133_5 := Sj133.row_le (j := 5) rfl; simp only [maxLen] at jr133_5
   refine zas <| zae (l := [0, 1]) rfl <| p_v (v := .int .i64 (t17 + 1)) rfl rfl rfl (zc7 rj133_17 rfl (zal (by first|omega|(simp;omega)|assumption|simp) (by first|omega|(simp;omega)|assumption|simp))) <| p_v (v := .int .i64 (t17 + 1)) rfl rfl rfl (zah rfl) <| zaa ?_
   refine ih28 (out_2 ++ ([!(at_ d.final t17)] : List Bool), out_1 ++ ([(at_ d.next t17)] : List (List Int)), t17 + 1) _ _ (by dsimp only; omega) ⟨hj133, j133_us2, j133_v76, j133_v105, ((le28).trans lej133), Sj133.sub [0, 1, 2, 3, 4, 5] (by decide) rfl _ rfl, rj133_1, rj133_2, rj133_4, rj133_15, rj133_16, rfl, (zal (by first|omega|(simp;omega)|assumption|simp) (by first|omega|(simp;omega)|assumption|simp)), (by exact ⟨by omega, by omega, by rw [hI28.2.2.1]; exact (zdf _ hI28.1 (by omega)).symm, by rw [hI28.2.2.2]; exact not_step d hI28.1 (by omega)⟩)⟩
  refine ra_two (i := 3) (i2 := 14) (by decide +kernel) ?_ ?_
  ·skip
   intro wd134 gd134
   have S135 := S37.keep gd134
   have hf136 := spUp gd134 hf38
   have hf137 := spUp gd134 hf39
   have hf138 := spUp gd134 hf40
   have hf139 := spUp gd134 hf41
   refine d_c rfl rfl rfl (za2 (args := [.slice A30 (at_ d.next t17).length c30]) ca87 rfl rfl) (cloneI_calls wd134 (at_ d.next t17) A30 c30 (And.intro lc30 cm30) (ld30.mono (St.le0 S135)) (by omega)) ?_
   rintro v140_0 w140 ⟨h140, _, T140, rfl⟩
   obtain ⟨k140, lk140, ll140, U140⟩ := zcl S135 T140
   have lc140_0 := (le28).trans lk140
   have S141 := U140
   dsimp only [lAa, lAn, lA0, lAs] at S141
   have hf142 := spUp (Chg.of_below T140.below) hf136
   have hf143 := spUp (Chg.of_below T140.below) hf137
   have hf144 := spUp (Chg.of_below T140.below) hf138
   have hf145 := spUp (Chg.of_below T140.below) hf139
   refine ⟨.inl (Chg.of_below T140.below), ?_⟩
   refine ra_two (i := 4) (i2 := 14) (by decide +kernel) ?_ ?_
   ·skip
    intro wd146 gd146
    have S147 := S141.keep gd146
    have hf148 := spUp gd146 hf142
    have hf149 := spUp gd146 hf143
    have hf150 := spUp gd146 hf144
    have hf151 := spUp gd146 hf145
    obtain ⟨v152, w152, r152, g152, T152⟩ := za6 (kd := kRaw) (xs := ([v140_0] : List Value)) (len := 1) [v140_0] S147 u24 ty23 rfl rfl rfl rfl rfl (zbs (zcq S147 (j := 6) rfl) zcc) [v140_0] (zb5.single (k := kRaw) (h := k140) (x := v140_0) (cs := [v140_0]) ⟨rfl, zcx S147 (j := 6) rfl⟩) rfl
    have S153 := T152
    dsimp only [lAa, lAn, lA0, lAs] at S153
    have T154 := grid_one S153 (i := 6) rfl
    have S155 := T154.fx 6 (grid 3 (Kd.int .i64) ([v140_0] : List Value) ([(at_ d.next t17)] : List (List Int))) rfl
    dsimp only [lAa, lAn, lA0, lAs] at S155
    have hf156 := spUp g152 hf148
    have hf157 := spUp g152 hf149
    have hf158 := spUp g152 hf150
    have hf159 := spUp g152 hf151
    refine d_v (v := v152) rfl rfl rfl (zax (pv := [(0, v140_0)]) rfl r152) (.inl g152) ?_
    refine ra_two (i := 5) (i2 := 14) (by decide +kernel) ?_ ?_
    ·skip
     intro wd160 gd160
     have S161 := S155.keep gd160
     have hf162 := spUp gd160 hf156
     have hf163 := spUp gd160 hf157
     have hf164 := spUp gd160 hf158
     have hf165 := spUp gd160 hf159
     obtain ⟨A167, c167, ev167, lc167, cm167⟩ := S161.row_val (j := 7) rfl
     obtain ⟨v168, w168, r168, g168, T168⟩ := zcw (kd := kRaw) (A := A167) (c := c167) (ys := ([v140_0] : List Value)) (len := ([v140_0] : List Value).length) 24 S161 u24 ty23 rfl rfl (j := 3) rfl rfl (zdb S161 (j := 7) rfl ev167) (by first|omega|(simp;omega)|assumption|simp) (by first|omega|(simp;omega)|assumption|simp)
     have S169 := T168.fx 3 (row 23 kRaw v168 (us_out_1 ++ ([v140_0] : List Value))) rfl
     dsimp only [lAa, lAn, lA0, lAs] at S169
     have T170 := grid_cat S169 (j := 4) (i := 6) rfl rfl (by decide)
     have S171 : St w.heap.size w k140 w168 [box b1 35 ((zab d.part) ++ ([.slice A0_1 d.next.length c0_1, .slice A0_2 d.final.length c0_2] : List Value)), box b3 35 ((zab zPart) ++ ([.slice none 0 0, .slice none 0 0] : List Value)), box b17 35 ((zab d.part) ++ ([v_out_1, v_out_2] : List Value)), row 23 kRaw v168 (us_out_1 ++ ([v140_0] : List Value)), grid 3 (Kd.int .i64) (us_out_1 ++ ([v140_0] : List Value)) (out_1 ++ ([(at_ d.next t17)] : List (List Int))), row 4 Kd.bool v_out_2 out_2, emp, row 23 kRaw v152 ([v140_0] : List Value)] := T170
     have gl172 := zd5 S171 (j := 4) rfl
     have hf173 : (CFs ⟨b17, 257, none⟩ [v_out_1]).1 w168 := (CF.box (m := 1) (S171.box_at (j := 2) rfl) (za5 (a := (zab d.part)) (pre := []) (seg := [v_out_1]) (post := [v_out_2]) (zad o0_0) rfl rfl))
     have hf174 : (CFs ⟨b17, 258, none⟩ [v_out_2]).1 w168 := (CF.box (m := 1) (S171.box_at (j := 2) rfl) (za5 (a := (zab d.part)) (pre := [v_out_1]) (seg := [v_out_2]) (post := []) (zad o0_0) rfl rfl))
     have hf175 : (CFs ⟨b1, 258, none⟩ [.slice A0_2 d.final.length c0_2]).1 w168 := (CF.box (m := 1) (S171.box_at (j := 0) rfl) (za5 (a := (zab d.part)) (pre := [.slice A0_1 d.next.length c0_1]) (seg := [.slice A0_2 d.final.length c0_2]) (post := []) (zad o0_0) rfl rfl))
     have hf176 : (CFs ad31 [.bool (at_ d.final t17)]).1 w168 := (CF.ghost ce31 (St.le0 S171))
     refine d_v (v := v168) rfl rfl rfl (zcv rfl ev167 r168) (.inr (zbh (by decide +kernel) (zce hf174 (zce hf175 (zce hf176 trivial))))) <| qd0 (i := 16) (v := .pointer (some ⟨b17, 257, none⟩)) rfl (by decide +kernel) rfl rfl (zao fd35_1 ty24 rfl r28_4) (zam rfl) <| zb6 (i := 14) (by decide +kernel) ?_
     intro wd177 gd177
     have S178 := S171.keep gd177
     have hf179 := spUp gd177 hf173
     have hf180 := spUp gd177 hf174
     have hf181 := spUp gd177 hf175
     have hf182 := spUp gd177 hf176
     obtain ⟨v183, w183, r183, g183, T183⟩ := za6 (kd := Kd.bool) (xs := ([!(at_ d.final t17)] : List Bool)) (len := 1) [.bool (!(at_ d.final t17))] S178 u25 ty4 rfl rfl rfl rfl rfl (zbs rfl zcc) [.bool (!(at_ d.final t17))] (zb5.single (k := Kd.bool) (h := k140) (x := !(at_ d.final t17)) (cs := [.bool (!(at_ d.final t17))]) ⟨rfl, trivial⟩) rfl
     have S184 := T183
     dsimp only [lAa, lAn, lA0, lAs] at S184
     have hf185 := spUp g183 hf179
     have hf186 := spUp g183 hf180
     have hf187 := spUp g183 hf181
     have hf188 := spUp g183 hf182
     refine d_v (v := v183) rfl rfl rfl (zax (pv := [(0, .bool (!(at_ d.final t17)))]) rfl r183) (.inl g183) <| zb6 (i := 15) (by decide +kernel) ?_
     intro wd189 gd189
     have S190 := S184.keep gd189
     have hf191 := spUp gd189 hf185
     have hf192 := spUp gd189 hf186
     have hf193 := spUp gd189 hf187
     have hf194 := spUp gd189 hf188
     obtain ⟨A196, c196, ev196, lc196, cm196⟩ := S190.row_val (j := 8) rfl
     obtain ⟨v197, w197, r197, g197, T197⟩ := zcw (kd := Kd.bool) (A := A196) (c := c196) (ys := ([!(at_ d.final t17)] : List Bool)) (len := ([!(at_ d.final t17)] : List Bool).length) 25 S190 u25 ty4 rfl rfl (j := 5) rfl rfl (zdb S190 (j := 8) rfl ev196) (by first|omega|(simp;omega)|assumption|simp) (by first|omega|(simp;omega)|assumption|simp)
     have S198 := T197.fx 5 (row 4 Kd.bool v197 (out_2 ++ ([!(at_ d.final t17)] : List Bool))) rfl
     dsimp only [lAa, lAn, lA0, lAs] at S198
     have hf199 : (CFs ⟨b17, 257, none⟩ [v_out_1]).1 w197 := (CF.box (m := 1) (S198.box_at (j := 2) rfl) (za5 (a := (zab d.part)) (pre := []) (seg := [v_out_1]) (post := [v_out_2]) (zad o0_0) rfl rfl))
     have hf200 : (CFs ⟨b17, 258, none⟩ [v_out_2]).1 w197 := (CF.box (m := 1) (S198.box_at (j := 2) rfl) (za5 (a := (zab d.part)) (pre := [v_out_1]) (seg := [v_out_2]) (post := []) (zad o0_0) rfl rfl))
     have hf201 : (CFs ⟨b1, 258, none⟩ [.slice A0_2 d.final.length c0_2]).1 w197 := (CF.box (m := 1) (S198.box_at (j := 0) rfl) (za5 (a := (zab d.part)) (pre := [.slice A0_1 d.next.length c0_1]) (seg := [.slice A0_2 d.final.length c0_2]) (post := []) (zad o0_0) rfl rfl))
     have hf202 : (CFs ad31 [.bool (at_ d.final t17)]).1 w197 := (CF.ghost ce31 (St.le0 S198))
     refine d_v (v := v197) rfl rfl rfl (zcv rfl ev196 r197) (.inr (zce hf199 (zbh (by decide +kernel) (zce hf201 (zce hf202 trivial))))) <| zb6 (i := 17) (by decide +kernel) ?_
     intro wd203 gd203
     have S204 := S198.keep gd203
     have hf205 := spUp gd203 hf199
     have hf206 := spUp gd203 hf200
     have hf207 := spUp gd203 hf201
     have hf208 := spUp gd203 hf202
     have oc210 := zcx S204 (j := 3) rfl
     obtain ⟨w209, r209, g209, T209⟩ := zc5 (P := Tryd.prog) (off := 257) (v := v168) (vs := [v168]) (a := (zab d.part)) (pre := []) (seg := [v_out_1]) (post := [v_out_2]) S204 ty24 (zcq S204 (j := 3) rfl) rfl (zad o0_0) rfl rfl (j := 2) rfl (zb7 oc210 zdu)
     have S211 := T209.fx 2 (box b17 35 ((zab d.part) ++ ([v168, v_out_2] : List Value))) rfl
     dsimp only [lAa, lAn, lA0, lAs] at S211
     have hf212 : (CFs ⟨b1, 258, none⟩ [.slice A0_2 d.final.length c0_2]).1 w209 := (CF.box (m := 1) (S211.box_at (j := 0) rfl) (za5 (a := (zab d.part)) (pre := [.slice A0_1 d.next.length c0_1]) (seg := [.slice A0_2 d.final.length c0_2]) (post := []) (zad o0_0) rfl rfl))
     have hf213 : (CFs ad31 [.bool (at_ d.final t17)]).1 w209 := (CF.ghost ce31 (St.le0 S211))
     refine d_s rfl rfl (za7 rfl rfl r209) (.inr (zbh (by decide +kernel) (zbh (by decide +kernel) (zce hf212 (zce hf213 trivial))))) <| qd0 (i := 18) (v := .pointer (some ⟨b17, 258, none⟩)) rfl (by decide +kernel) rfl rfl (zao fd35_2 ty25 rfl r28_4) (zam rfl) <| zb6 (i := 19) (by decide +kernel) ?_
     intro wd214 gd214
     have S215 := S211.keep gd214
     have hf216 := spUp gd214 hf212
     have hf217 := spUp gd214 hf213
     have oc219 := zcx S215 (j := 5) rfl
     obtain ⟨w218, r218, g218, T218⟩ := zc5 (P := Tryd.prog) (off := 258) (v := v197) (vs := [v197]) (a := (zab d.part)) (pre := [v168]) (seg := [v_out_2]) (post := []) S215 ty25 (zcq S215 (j := 5) rfl) rfl (zad o0_0) rfl rfl (j := 2) rfl (zb7 oc219 zdu)
     have S220 := T218.fx 2 (box b17 35 ((zab d.part) ++ ([v168, v197] : List Value))) rfl
     dsimp only [lAa, lAn, lA0, lAs] at S220
     have hf221 : (CFs ⟨b1, 258, none⟩ [.slice A0_2 d.final.length c0_2]).1 w218 := (CF.box (m := 1) (S220.box_at (j := 0) rfl) (za5 (a := (zab d.part)) (pre := [.slice A0_1 d.next.length c0_1]) (seg := [.slice A0_2 d.final.length c0_2]) (post := []) (zad o0_0) rfl rfl))
     have hf222 : (CFs ad31 [.bool (at_ d.final t17)]).1 w218 := (CF.ghost ce31 (St.le0 S220))
     refine d_s rfl rfl (za7 rfl rfl r218) (.inr (zbh (by decide +kernel) (zbh (by decide +kernel) (zbh (by decide +kernel) (zbh (by decide +kernel) trivial))))) <| zco (by decide +kernel) ?_
     intro wd223 gd223
     have S224 := S220.keep gd223
     exact jn133 _ _ ⟨k140, v168, v197, (us_out_1 ++ ([v140_0] : List Value)), lk140, S224.sub [0, 1, 2, 3, 4, 5] (by decide) rfl _ rfl, r28_1, r28_2, r28_4, r28_15, r28_16, r28_17, o0_0, o0_0⟩
    intro wd225 gd225
    have S226 := S155.keep gd225
    have hf227 := spUp gd225 hf156
    have hf228 := spUp gd225 hf157
    have hf229 := spUp gd225 hf158
    have hf230 := spUp gd225 hf159
    obtain ⟨v231, w231, r231, g231, T231⟩ := za6 (kd := Kd.bool) (xs := ([!(at_ d.final t17)] : List Bool)) (len := 1) [.bool (!(at_ d.final t17))] S226 u25 ty4 rfl rfl rfl rfl rfl (zbs rfl zcc) [.bool (!(at_ d.final t17))] (zb5.single (k := Kd.bool) (h := k140) (x := !(at_ d.final t17)) (cs := [.bool (!(at_ d.final t17))]) ⟨rfl, trivial⟩) rfl
    have S232 := T231
    dsimp only [lAa, lAn, lA0, lAs] at S232
    have hf233 := spUp g231 hf227
    have hf234 := spUp g231 hf228
    have hf235 := spUp g231 hf229
    have hf236 := spUp g231 hf230
    refine d_v (v := v231) rfl rfl rfl (zax (pv := [(0, .bool (!(at_ d.final t17)))]) rfl r231) (.inl g231) <| zb6 (i := 5) (by decide +kernel) ?_
    intro wd237 gd237
    have S238 := S232.keep gd237
    have hf239 := spUp gd237 hf233
    have hf240 := spUp gd237 hf234
    have hf241 := spUp gd237 hf235
    have hf242 := spUp gd237 hf236
    obtain ⟨A244, c244, ev244, lc244, cm244⟩ := S238.row_val (j := 7) rfl
    obtain ⟨v245, w245, r245, g245, T245⟩ := zcw (kd := kRaw) (A := A244) (c := c244) (ys := ([v140_0] : List Value)) (len := ([v140_0] : List Value).length) 24 S238 u24 ty23 rfl rfl (j := 3) rfl rfl (zdb S238 (j := 7) rfl ev244) (by first|omega|(simp;omega)|assumption|simp) (by first|omega|(simp;omega)|assumption|simp)
    have S246 := T245.fx 3 (row 23 kRaw v245 (us_out_1 ++ ([v140_0] : List Value))) rfl
    dsimp only [lAa, lAn, lA0, lAs] at S246
    have T247 := grid_cat S246 (j := 4) (i := 6) rfl rfl (by decide)
    have S248 : St w.heap.size w k140 w245 [box b1 35 ((zab d.part) ++ ([.slice A0_1 d.next.length c0_1, .slice A0_2 d.final.length c0_2] : List Value)), box b3 35 ((zab zPart) ++ ([.slice none 0 0, .slice none 0 0] : List Value)), box b17 35 ((zab d.part) ++ ([v_out_1, v_out_2] : List Value)), row 23 kRaw v245 (us_out_1 ++ ([v140_0] : List Value)), grid 3 (Kd.int .i64) (us_out_1 ++ ([v140_0] : List Value)) (out_1 ++ ([(at_ d.next t17)] : List (List Int))), row 4 Kd.bool v_out_2 out_2, emp, row 23 kRaw v152 ([v140_0] : List Value), row 4 Kd.bool v231 ([!(at_ d.final t17)] : List Bool)] := T247
    have gl249 := zd5 S248 (j := 4) rfl
    have hf250 : (CFs ⟨b17, 257, none⟩ [v_out_1]).1 w245 := (CF.box (m := 1) (S248.box_at (j := 2) rfl) (za5 (a := (zab d.part)) (pre := []) (seg := [v_out_1]) (post := [v_out_2]) (zad o0_0) rfl rfl))
    have hf251 : (CFs ⟨b17, 258, none⟩ [v_out_2]).1 w245 := (CF.box (m := 1) (S248.box_at (j := 2) rfl) (za5 (a := (zab d.part)) (pre := [v_out_1]) (seg := [v_out_2]) (post := []) (zad o0_0) rfl rfl))
    have hf252 : (CFs ⟨b1, 258, none⟩ [.slice A0_2 d.final.length c0_2]).1 w245 := (CF.box (m := 1) (S248.box_at (j := 0) rfl) (za5 (a := (zab d.part)) (pre := [.slice A0_1 d.next.length c0_1]) (seg := [.slice A0_2 d.final.length c0_2]) (post := []) (zad o0_0) rfl rfl))
    have hf253 : (CFs ad31 [.bool (at_ d.final t17)]).1 w245 := (CF.ghost ce31 (St.le0 S248))
    refine d_v (v := v245) rfl rfl rfl (zcv rfl ev244 r245) (.inr (zbh (by decide +kernel) (zce hf251 (zce hf252 (zce hf253 trivial))))) <| qd0 (i := 16) (v := .pointer (some ⟨b17, 257, none⟩)) rfl (by decide +kernel) rfl rfl (zao fd35_1 ty24 rfl r28_4) (zam rfl) <| zb6 (i := 15) (by decide +kernel) ?_
    intro wd254 gd254
    have S255 := S248.keep gd254
    have hf256 := spUp gd254 hf250
    have hf257 := spUp gd254 hf251
    have hf258 := spUp gd254 hf252
    have hf259 := spUp gd254 hf253
    obtain ⟨A261, c261, ev261, lc261, cm261⟩ := S255.row_val (j := 8) rfl
    obtain ⟨v262, w262, r262, g262, T262⟩ := zcw (kd := Kd.bool) (A := A261) (c := c261) (ys := ([!(at_ d.final t17)] : List Bool)) (len := ([!(at_ d.final t17)] : List Bool).length) 25 S255 u25 ty4 rfl rfl (j := 5) rfl rfl (zdb S255 (j := 8) rfl ev261) (by first|omega|(simp;omega)|assumption|simp) (by first|omega|(simp;omega)|assumption|simp)
    have S263 := T262.fx 5 (row 4 Kd.bool v262 (out_2 ++ ([!(at_ d.final t17)] : List Bool))) rfl
    dsimp only [lAa, lAn, lA0, lAs] at S263
    have hf264 : (CFs ⟨b17, 257, none⟩ [v_out_1]).1 w262 := (CF.box (m := 1) (S263.box_at (j := 2) rfl) (za5 (a := (zab d.part)) (pre := []) (seg := [v_out_1]) (post := [v_out_2]) (zad o0_0) rfl rfl))
    have hf265 : (CFs ⟨b17, 258, none⟩ [v_out_2]).1 w262 := (CF.box (m := 1) (S263.box_at (j := 2) rfl) (za5 (a := (zab d.part)) (pre := [v_out_1]) (seg := [v_out_2]) (post := []) (zad o0_0) rfl rfl))
    have hf266 : (CFs ⟨b1, 258, none⟩ [.slice A0_2 d.final.length c0_2]).1 w262 := (CF.box (m := 1) (S263.box_at (j := 0) rfl) (za5 (a := (zab d.part)) (pre := [.slice A0_1 d.next.length c0_1]) (seg := [.slice A0_2 d.final.length c0_2]) (post := []) (zad o0_0) rfl rfl))
    have hf267 : (CFs ad31 [.bool (at_ d.final t17)]).1 w262 := (CF.ghost ce31 (St.le0 S263))
    refine d_v (v := v262) rfl rfl rfl (zcv rfl ev261 r262) (.inr (zce hf264 (zbh (by decide +kernel) (zce hf266 (zce hf267 trivial))))) <| zb6 (i := 17) (by decide +kernel) ?_
    intro wd268 gd268
    have S269 := S263.keep gd268
    have hf270 := spUp gd268 hf264
    have hf271 := spUp gd268 hf265
    have hf272 := spUp gd268 hf266
    have hf273 := spUp gd268 hf267
    have oc275 := zcx S269 (j := 3) rfl
    obtain ⟨w274, r274, g274, T274⟩ := zc5 (P := Tryd.prog) (off := 257) (v := v245) (vs := [v245]) (a := (zab d.part)) (pre := []) (seg := [v_out_1]) (post := [v_out_2]) S269 ty24 (zcq S269 (j := 3) rfl) rfl (zad o0_0) rfl rfl (j := 2) rfl (zb7 oc275 zdu)
    have S276 := T274.fx 2 (box b17 35 ((zab d.part) ++ ([v245, v_out_2] : List Value))) rfl
    dsimp only [lAa, lAn, lA0, lAs] at S276
    have hf277 : (CFs ⟨b1, 258, none⟩ [.slice A0_2 d.final.length c0_2]).1 w274 := (CF.box (m := 1) (S276.box_at (j := 0) rfl) (za5 (a := (zab d.part)) (pre := [.slice A0_1 d.next.length c0_1]) (seg := [.slice A0_2 d.final.length c0_2]) (post := []) (zad o0_0) rfl rfl))
    have hf278 : (CFs ad31 [.bool (at_ d.final t17)]).1 w274 := (CF.ghost ce31 (St.le0 S276))
    refine d_s rfl rfl (za7 rfl rfl r274) (.inr (zbh (by decide +kernel) (zbh (by decide +kernel) (zce hf277 (zce hf278 trivial))))) <| qd0 (i := 18) (v := .pointer (some ⟨b17, 258, none⟩)) rfl (by decide +kernel) rfl rfl (zao fd35_2 ty25 rfl r28_4) (zam rfl) <| zb6 (i := 19) (by decide +kernel) ?_
    intro wd279 gd279
    have S280 := S276.keep gd279
    have hf281 := spUp gd279 hf277
    have hf282 := spUp gd279 hf278
    have oc284 := zcx S280 (j := 5) rfl
    obtain ⟨w283, r283, g283, T283⟩ := zc5 (P := Tryd.prog) (off := 258) (v := v262) (vs := [v262]) (a := (zab d.part)) (pre := [v245]) (seg := [v_out_2]) (post := []) S280 ty25 (zcq S280 (j := 5) rfl) rfl (zad o0_0) rfl rfl (j := 2) rfl (zb7 oc284 zdu)
    have S285 := T283.fx 2 (box b17 35 ((zab d.part) ++ ([v245, v262] : List Value))) rfl
    dsimp only [lAa, lAn, lA0, lAs] at S285
    have hf286 : (CFs ⟨b1, 258, none⟩ [.slice A0_2 d.final.length c0_2]).1 w283 := (CF.box (m := 1) (S285.box_at (j := 0) rfl) (za5 (a := (zab d.part)) (pre := [.slice A0_1 d.next.length c0_1]) (seg := [.slice A0_2 d.final.length c0_2]) (post := []) (zad o0_0) rfl rfl))
    have hf287 : (CFs ad31 [.bool (at_ d.final t17)]).1 w283 := (CF.ghost ce31 (St.le0 S285))
    refine d_s rfl rfl (za7 rfl rfl r283) (.inr (zbh (by decide +kernel) (zbh (by decide +kernel) (zbh (by decide +kernel) (zbh (by decide +kernel) trivial))))) <| zco (by decide +kernel) ?_
    intro wd288 gd288
    have S289 := S285.keep gd288
    exact jn133 _ _ ⟨k140, v245, v262, (us_out_1 ++ ([v140_0] : List Value)), lk140, S289.sub [0, 1, 2, 3, 4, 5] (by decide) rfl _ rfl, r28_1, r28_2, r28_4, r28_15, r28_16, r28_17, o0_0, o0_0⟩
   intro wd290 gd290
   have S291 := S141.keep gd290
   have hf292 := spUp gd290 hf142
   have hf293 := spUp gd290 hf143
   have hf294 := spUp gd290 hf144
   have hf295 := spUp gd290 hf145
   obtain ⟨v296, w296, r296, g296, T296⟩ := za6 (kd := Kd.bool) (xs := ([!(at_ d.final t17)] : List Bool)) (len := 1) [.bool (!(at_ d.final t17))] S291 u25 ty4 rfl rfl rfl rfl rfl (zbs rfl zcc) [.bool (!(at_ d.final t17))] (zb5.single (k := Kd.bool) (h := k140) (x := !(at_ d.final t17)) (cs := [.bool (!(at_ d.final t17))]) ⟨rfl, trivial⟩) rfl
   have S297 := T296
   dsimp only [lAa, lAn, lA0, lAs] at S297
   have hf298 := spUp g296 hf292
   have hf299 := spUp g296 hf293
   have hf300 := spUp g296 hf294
   have hf301 := spUp g296 hf295
   refine d_v (v := v296) rfl rfl rfl (zax (pv := [(0, .bool (!(at_ d.final t17)))]) rfl r296) (.inl g296) <| zb6 (i := 4) (by decide +kernel) ?_
   intro wd302 gd302
   have S303 := S297.keep gd302
   have hf304 := spUp gd302 hf298
   have hf305 := spUp gd302 hf299
   have hf306 := spUp gd302 hf300
   have hf307 := spUp gd302 hf301
   obtain ⟨v308, w308, r308, g308, T308⟩ := za6 (kd := kRaw) (xs := ([v140_0] : List Value)) (len := 1) [v140_0] S303 u24 ty23 rfl rfl rfl rfl rfl (zbs (zcq S303 (j := 6) rfl) zcc) [v140_0] (zb5.single (k := kRaw) (h := k140) (x := v140_0) (cs := [v140_0]) ⟨rfl, zcx S303 (j := 6) rfl⟩) rfl
   have S309 := T308
   dsimp only [lAa, lAn, lA0, lAs] at S309
   have T310 := grid_one S309 (i := 6) rfl
   have S311 := T310.fx 6 (grid 3 (Kd.int .i64) ([v140_0] : List Value) ([(at_ d.next t17)] : List (List Int))) rfl
   dsimp only [lAa, lAn, lA0, lAs] at S311
   have hf312 := spUp g308 hf304
   have hf313 := spUp g308 hf305
   have hf314 := spUp g308 hf306
   have hf315 := spUp g308 hf307
   refine d_v (v := v308) rfl rfl rfl (zax (pv := [(0, v140_0)]) rfl r308) (.inl g308) <| zb6 (i := 5) (by decide +kernel) ?_
   intro wd316 gd316
   have S317 := S311.keep gd316
   have hf318 := spUp gd316 hf312
   have hf319 := spUp gd316 hf313
   have hf320 := spUp gd316 hf314
   have hf321 := spUp gd316 hf315
   obtain ⟨A323, c323, ev323, lc323, cm323⟩ := S317.row_val (j := 8) rfl
   obtain ⟨v324, w324, r324, g324, T324⟩ := zcw (kd := kRaw) (A := A323) (c := c323) (ys := ([v140_0] : List Value)) (len := ([v140_0] : List Value).length) 24 S317 u24 ty23 rfl rfl (j := 3) rfl rfl (zdb S317 (j := 8) rfl ev323) (by first|omega|(simp;omega)|assumption|simp) (by first|omega|(simp;omega)|assumption|simp)
   have S325 := T324.fx 3 (row 23 kRaw v324 (us_out_1 ++ ([v140_0] : List Value))) rfl
   dsimp only [lAa, lAn, lA0, lAs] at S325
   have T326 := grid_cat S325 (j := 4) (i := 6) rfl rfl (by decide)
   have S327 : St w.heap.size w k140 w324 [box b1 35 ((zab d.part) ++ ([.slice A0_1 d.next.length c0_1, .slice A0_2 d.final.length c0_2] : List Value)), box b3 35 ((zab zPart) ++ ([.slice none 0 0, .slice none 0 0] : List Value)), box b17 35 ((zab d.part) ++ ([v_out_1, v_out_2] : List Value)), row 23 kRaw v324 (us_out_1 ++ ([v140_0] : List Value)), grid 3 (Kd.int .i64) (us_out_1 ++ ([v140_0] : List Value)) (out_1 ++ ([(at_ d.next t17)] : List (List Int))), row 4 Kd.bool v_out_2 out_2, emp, row 4 Kd.bool v296 ([!(at_ d.final t17)] : List Bool), row 23 kRaw v308 ([v140_0] : List Value)] := T326
   have gl328 := zd5 S327 (j := 4) rfl
   have hf329 : (CFs ⟨b17, 257, none⟩ [v_out_1]).1 w324 := (CF.box (m := 1) (S327.box_at (j := 2) rfl) (za5 (a := (zab d.part)) (pre := []) (seg := [v_out_1]) (post := [v_out_2]) (zad o0_0) rfl rfl))
   have hf330 : (CFs ⟨b17, 258, none⟩ [v_out_2]).1 w324 := (CF.box (m := 1) (S327.box_at (j := 2) rfl) (za5 (a := (zab d.part)) (pre := [v_out_1]) (seg := [v_out_2]) (post := []) (zad o0_0) rfl rfl))
   have hf331 : (CFs ⟨b1, 258, none⟩ [.slice A0_2 d.final.length c0_2]).1 w324 := (CF.box (m := 1) (S327.box_at (j := 0) rfl) (za5 (a := (zab d.part)) (pre := [.slice A0_1 d.next.length c0_1]) (seg := [.slice A0_2 d.final.length c0_2]) (post := []) (zad o0_0) rfl rfl))
   have hf332 : (CFs ad31 [.bool (at_ d.final t17)]).1 w324 := (CF.ghost ce31 (St.le0 S327))
   refine d_v (v := v324) rfl rfl rfl (zcv rfl ev323 r324) (.inr (zbh (by decide +kernel) (zce hf330 (zce hf331 (zce hf332 trivial))))) <| qd0 (i := 16) (v := .pointer (some ⟨b17, 257, none⟩)) rfl (by decide +kernel) rfl rfl (zao fd35_1 ty24 rfl r28_4) (zam rfl) <| zb6 (i := 15) (by decide +kernel) ?_
   intro wd333 gd333
   have S334 := S327.keep gd333
   have hf335 := spUp gd333 hf329
   have hf336 := spUp gd333 hf330
   have hf337 := spUp gd333 hf331
   have hf338 := spUp gd333 hf332
   obtain ⟨A340, c340, ev340, lc340, cm340⟩ := S334.row_val (j := 7) rfl
   obtain ⟨v341, w341, r341, g341, T341⟩ := zcw (kd := Kd.bool) (A := A340) (c := c340) (ys := ([!(at_ d.final t17)] : List Bool)) (len := ([!(at_ d.final t17)] : List Bool).length) 25 S334 u25 ty4 rfl rfl (j := 5) rfl rfl (zdb S334 (j := 7) rfl ev340) (by first|omega|(simp;omega)|assumption|simp) (by first|omega|(simp;omega)|assumption|simp)
   have S342 := T341.fx 5 (row 4 Kd.bool v341 (out_2 ++ ([!(at_ d.final t17)] : List Bool))) rfl
   dsimp only [lAa, lAn, lA0, lAs] at S342
   have hf343 : (CFs ⟨b17, 257, none⟩ [v_out_1]).1 w341 := (CF.box (m := 1) (S342.box_at (j := 2) rfl) (za5 (a := (zab d.part)) (pre := []) (seg := [v_out_1]) (post := [v_out_2]) (zad o0_0) rfl rfl))
   have hf344 : (CFs ⟨b17, 258, none⟩ [v_out_2]).1 w341 := (CF.box (m := 1) (S342.box_at (j := 2) rfl) (za5 (a := (zab d.part)) (pre := [v_out_1]) (seg := [v_out_2]) (post := []) (zad o0_0) rfl rfl))
   have hf345 : (CFs ⟨b1, 258, none⟩ [.slice A0_2 d.final.length c0_2]).1 w341 := (CF.box (m := 1) (S342.box_at (j := 0) rfl) (za5 (a := (zab d.part)) (pre := [.slice A0_1 d.next.length c0_1]) (seg := [.slice A0_2 d.final.length c0_2]) (post := []) (zad o0_0) rfl rfl))
   have hf346 : (CFs ad31 [.bool (at_ d.final t17)]).1 w341 := (CF.ghost ce31 (St.le0 S342))
   refine d_v (v := v341) rfl rfl rfl (zcv rfl ev340 r341) (.inr (zce hf343 (zbh (by decide +kernel) (zce hf345 (zce hf346 trivial))))) <| zb6 (i := 17) (by decide +kernel) ?_
   intro wd347 gd347
   have S348 := S342.keep gd347
   have hf349 := spUp gd347 hf343
   have hf350 := spUp gd347 hf344
   have hf351 := spUp gd347 hf345
   have hf352 := spUp gd347 hf346
   have oc354 := zcx S348 (j := 3) rfl
   obtain ⟨w353, r353, g353, T353⟩ := zc5 (P := Tryd.prog) (off := 257) (v := v324) (vs := [v324]) (a := (zab d.part)) (pre := []) (seg := [v_out_1]) (post := [v_out_2]) S348 ty24 (zcq S348 (j := 3) rfl) rfl (zad o0_0) rfl rfl (j := 2) rfl (zb7 oc354 zdu)
   have S355 := T353.fx 2 (box b17 35 ((zab d.part) ++ ([v324, v_out_2] : List Value))) rfl
   dsimp only [lAa, lAn, lA0, lAs] at S355
   have hf356 : (CFs ⟨b1, 258, none⟩ [.slice A0_2 d.final.length c0_2]).1 w353 := (CF.box (m := 1) (S355.box_at (j := 0) rfl) (za5 (a := (zab d.part)) (pre := [.slice A0_1 d.next.length c0_1]) (seg := [.slice A0_2 d.final.length c0_2]) (post := []) (zad o0_0) rfl rfl))
   have hf357 : (CFs ad31 [.bool (at_ d.final t17)]).1 w353 := (CF.ghost ce31 (St.le0 S355))
   refine d_s rfl rfl (za7 rfl rfl r353) (.inr (zbh (by decide +kernel) (zbh (by decide +kernel) (zce hf356 (zce hf357 trivial))))) <| qd0 (i := 18) (v := .pointer (some ⟨b17, 258, none⟩)) rfl (by decide +kernel) rfl rfl (zao fd35_2 ty25 rfl r28_4) (zam rfl) <| zb6 (i := 19) (by decide +kernel) ?_
   intro wd358 gd358
   have S359 := S355.keep gd358
   have hf360 := spUp gd358 hf356
   have hf361 := spUp gd358 hf357
   have oc363 := zcx S359 (j := 5) rfl
   obtain ⟨w362, r362, g362, T362⟩ := zc5 (P := Tryd.prog) (off := 258) (v := v341) (vs := [v341]) (a := (zab d.part)) (pre := [v324]) (seg := [v_out_2]) (post := []) S359 ty25 (zcq S359 (j := 5) rfl) rfl (zad o0_0) rfl rfl (j := 2) rfl (zb7 oc363 zdu)
   have S364 := T362.fx 2 (box b17 35 ((zab d.part) ++ ([v324, v341] : List Value))) rfl
   dsimp only [lAa, lAn, lA0, lAs] at S364
   have hf365 : (CFs ⟨b1, 258, none⟩ [.slice A0_2 d.final.length c0_2]).1 w362 := (CF.box (m := 1) (S364.box_at (j := 0) rfl) (za5 (a := (zab d.part)) (pre := [.slice A0_1 d.next.length c0_1]) (seg := [.slice A0_2 d.final.length c0_2]) (post := []) (zad o0_0) rfl rfl))
   have hf366 : (CFs ad31 [.bool (at_ d.final t17)]).1 w362 := (CF.ghost ce31 (St.le0 S364))
   refine d_s rfl rfl (za7 rfl rfl r362) (.inr (zbh (by decide +kernel) (zbh (by decide +kernel) (zbh (by decide +kernel) (zbh (by decide +kernel) trivial))))) <| zco (by decide +kernel) ?_
   intro wd367 gd367
   have S368 := S364.keep gd367
   exact jn133 _ _ ⟨k140, v324, v341, (us_out_1 ++ ([v140_0] : List Value)), lk140, S368.sub [0, 1, 2, 3, 4, 5] (by decide) rfl _ rfl, r28_1, r28_2, r28_4, r28_15, r28_16, r28_17, o0_0, o0_0⟩
  intro wd369 gd369
  have S370 := S37.keep gd369
  have hf371 := spUp gd369 hf38
  have hf372 := spUp gd369 hf39
  have hf373 := spUp gd369 hf40
  have hf374 := spUp gd369 hf41
  obtain ⟨v375, w375, r375, g375, T375⟩ := za6 (kd := Kd.bool) (xs := ([!(at_ d.final t17)] : List Bool)) (len := 1) [.bool (!(at_ d.final t17))] S370 u25 ty4 rfl rfl rfl rfl rfl (zbs rfl zcc) [.bool (!(at_ d.final t17))] (zb5.single (k := Kd.bool) (h := h28) (x := !(at_ d.final t17)) (cs := [.bool (!(at_ d.final t17))]) ⟨rfl, trivial⟩) rfl
  have S376 := T375
  dsimp only [lAa, lAn, lA0, lAs] at S376
  have hf377 := spUp g375 hf371
  have hf378 := spUp g375 hf372
  have hf379 := spUp g375 hf373
  have hf380 := spUp g375 hf374
  refine d_v (v := v375) rfl rfl rfl (zax (pv := [(0, .bool (!(at_ d.final t17)))]) rfl r375) (.inl g375) <| zb6 (i := 3) (by decide +kernel) ?_
  intro wd381 gd381
  have S382 := S376.keep gd381
  have hf383 := spUp gd381 hf377
  have hf384 := spUp gd381 hf378
  have hf385 := spUp gd381 hf379
  have hf386 := spUp gd381 hf380
  refine d_c rfl rfl rfl (za2 (args := [.slice A30 (at_ d.next t17).length c30]) ca87 rfl rfl) (cloneI_calls wd381 (at_ d.next t17) A30 c30 (And.intro lc30 cm30) (ld30.mono (St.le0 S382)) (by omega)) ?_
  rintro v387_0 w387 ⟨h387, _, T387, rfl⟩
  obtain ⟨k387, lk387, ll387, U387⟩ := zcl S382 T387
  have lc387_0 := (le28).trans lk387
  have S388 := U387
  dsimp only [lAa, lAn, lA0, lAs] at S388
  have hf389 := spUp (Chg.of_below T387.below) hf383
  have hf390 := spUp (Chg.of_below T387.below) hf384
  have hf391 := spUp (Chg.of_below T387.below) hf385
  have hf392 := spUp (Chg.of_below T387.below) hf386
  refine ⟨.inl (Chg.of_below T387.below), ?_⟩
  refine zb6 (i := 4) (by decide +kernel) ?_
  intro wd393 gd393
  have S394 := S388.keep gd393
  have hf395 := spUp gd393 hf389
  have hf396 := spUp gd393 hf390
  have hf397 := spUp gd393 hf391
  have hf398 := spUp gd393 hf392
  obtain ⟨v399, w399, r399, g399, T399⟩ := za6 (kd := kRaw) (xs := ([v387_0] : List Value)) (len := 1) [v387_0] S394 u24 ty23 rfl rfl rfl rfl rfl (zbs (zcq S394 (j := 7) rfl) zcc) [v387_0] (zb5.single (k := kRaw) (h := k387) (x := v387_0) (cs := [v387_0]) ⟨rfl, zcx S394 (j := 7) rfl⟩) rfl
  have S400 := T399
  dsimp only [lAa, lAn, lA0, lAs] at S400
  have T401 := grid_one S400 (i := 7) rfl
  have S402 := T401.fx 7 (grid 3 (Kd.int .i64) ([v387_0] : List Value) ([(at_ d.next t17)] : List (List Int))) rfl
  dsimp only [lAa, lAn, lA0, lAs] at S402
  have hf403 := spUp g399 hf395
  have hf404 := spUp g399 hf396
  have hf405 := spUp g399 hf397
  have hf406 := spUp g399 hf398
  refine d_v (v := v399) rfl rfl rfl (zax (pv := [(0, v387_0)]) rfl r399) (.inl g399) <| zb6 (i := 5) (by decide +kernel) ?_
  intro wd407 gd407
  have S408 := S402.keep gd407
  have hf409 := spUp gd407 hf403
  have hf410 := spUp gd407 hf404
  have hf411 := spUp gd407 hf405
  have hf412 := spUp gd407 hf406
  obtain ⟨A414, c414, ev414, lc414, cm414⟩ := S408.row_val (j := 8) rfl
  obtain ⟨v415, w415, r415, g415, T415⟩ := zcw (kd := kRaw) (A := A414) (c := c414) (ys := ([v387_0] : List Value)) (len := ([v387_0] : List Value).length) 24 S408 u24 ty23 rfl rfl (j := 3) rfl rfl (zdb S408 (j := 8) rfl ev414) (by first|omega|(simp;omega)|assumption|simp) (by first|omega|(simp;omega)|assumption|simp)
  have S416 := T415.fx 3 (row 23 kRaw v415 (us_out_1 ++ ([v387_0] : List Value))) rfl
  dsimp only [lAa, lAn, lA0, lAs] at S416
  have T417 := grid_cat S416 (j := 4) (i := 7) rfl rfl (by decide)
  have S418 : St w.heap.size w k387 w415 [box b1 35 ((zab d.part) ++ ([.slice A0_1 d.next.length c0_1, .slice A0_2 d.final.length c0_2] : List Value)), box b3 35 ((zab zPart) ++ ([.slice none 0 0, .slice none 0 0] : List Value)), box b17 35 ((zab d.part) ++ ([v_out_1, v_out_2] : List Value)), row 23 kRaw v415 (us_out_1 ++ ([v387_0] : List Value)), grid 3 (Kd.int .i64) (us_out_1 ++ ([v387_0] : List Value)) (out_1 ++ ([(at_ d.next t17)] : List (List Int))), row 4 Kd.bool v_out_2 out_2, row 4 Kd.bool v375 ([!(at_ d.final t17)] : List Bool), emp, row 23 kRaw v399 ([v387_0] : List Value)] := T417
  have gl419 := zd5 S418 (j := 4) rfl
  have hf420 : (CFs ⟨b17, 257, none⟩ [v_out_1]).1 w415 := (CF.box (m := 1) (S418.box_at (j := 2) rfl) (za5 (a := (zab d.part)) (pre := []) (seg := [v_out_1]) (post := [v_out_2]) (zad o0_0) rfl rfl))
  have hf421 : (CFs ⟨b17, 258, none⟩ [v_out_2]).1 w415 := (CF.box (m := 1) (S418.box_at (j := 2) rfl) (za5 (a := (zab d.part)) (pre := [v_out_1]) (seg := [v_out_2]) (post := []) (zad o0_0) rfl rfl))
  have hf422 : (CFs ⟨b1, 258, none⟩ [.slice A0_2 d.final.length c0_2]).1 w415 := (CF.box (m := 1) (S418.box_at (j := 0) rfl) (za5 (a := (zab d.part)) (pre := [.slice A0_1 d.next.length c0_1]) (seg := [.slice A0_2 d.final.length c0_2]) (post := []) (zad o0_0) rfl rfl))
  have hf423 : (CFs ad31 [.bool (at_ d.final t17)]).1 w415 := (CF.ghost ce31 (St.le0 S418))
  refine d_v (v := v415) rfl rfl rfl (zcv rfl ev414 r415) (.inr (zbh (by decide +kernel) (zce hf421 (zce hf422 (zce hf423 trivial))))) <| qd0 (i := 16) (v := .pointer (some ⟨b17, 257, none⟩)) rfl (by decide +kernel) rfl rfl (zao fd35_1 ty24 rfl r28_4) (zam rfl) <| zb6 (i := 15) (by decide +kernel) ?_
  intro wd424 gd424
  have S425 := S418.keep gd424
  have hf426 := spUp gd424 hf420
  have hf427 := spUp gd424 hf421
  have hf428 := spUp gd424 hf422
  have hf429 := spUp gd424 hf423
  obtain ⟨A431, c431, ev431, lc431, cm431⟩ := S425.row_val (j := 6) rfl
  obtain ⟨v432, w432, r432, g432, T432⟩ := zcw (kd := Kd.bool) (A := A431) (c := c431) (ys := ([!(at_ d.final t17)] : List Bool)) (len := ([!(at_ d.final t17)] : List Bool).length) 25 S425 u25 ty4 rfl rfl (j := 5) rfl rfl (zdb S425 (j := 6) rfl ev431) (by first|omega|(simp;omega)|assumption|simp) (by first|omega|(simp;omega)|assumption|simp)
  have S433 := T432.fx 5 (row 4 Kd.bool v432 (out_2 ++ ([!(at_ d.final t17)] : List Bool))) rfl
  dsimp only [lAa, lAn, lA0, lAs] at S433
  have hf434 : (CFs ⟨b17, 257, none⟩ [v_out_1]).1 w432 := (CF.box (m := 1) (S433.box_at (j := 2) rfl) (za5 (a := (zab d.part)) (pre := []) (seg := [v_out_1]) (post := [v_out_2]) (zad o0_0) rfl rfl))
  have hf435 : (CFs ⟨b17, 258, none⟩ [v_out_2]).1 w432 := (CF.box (m := 1) (S433.box_at (j := 2) rfl) (za5 (a := (zab d.part)) (pre := [v_out_1]) (seg := [v_out_2]) (post := []) (zad o0_0) rfl rfl))
  have hf436 : (CFs ⟨b1, 258, none⟩ [.slice A0_2 d.final.length c0_2]).1 w432 := (CF.box (m := 1) (S433.box_at (j := 0) rfl) (za5 (a := (zab d.part)) (pre := [.slice A0_1 d.next.length c0_1]) (seg := [.slice A0_2 d.final.length c0_2]) (post := []) (zad o0_0) rfl rfl))
  have hf437 : (CFs ad31 [.bool (at_ d.final t17)]).1 w432 := (CF.ghost ce31 (St.le0 S433))
  refine d_v (v := v432) rfl rfl rfl (zcv rfl ev431 r432) (.inr (zce hf434 (zbh (by decide +kernel) (zce hf436 (zce hf437 trivial))))) <| zb6 (i := 17) (by decide +kernel) ?_
  intro wd438 gd438
  have S439 := S433.keep gd438
  have hf440 := spUp gd438 hf434
  have hf441 := spUp gd438 hf435
  have hf442 := spUp gd438 hf436
  have hf443 := spUp gd438 hf437
  have oc445 := zcx S439 (j := 3) rfl
  obtain ⟨w444, r444, g444, T444⟩ := zc5 (P := Tryd.prog) (off := 257) (v := v415) (vs := [v415]) (a := (zab d.part)) (pre := []) (seg := [v_out_1]) (post := [v_out_2]) S439 ty24 (zcq S439 (j := 3) rfl) rfl (zad o0_0) rfl rfl (j := 2) rfl (zb7 oc445 zdu)
  have S446 := T444.fx 2 (box b17 35 ((zab d.part) ++ ([v415, v_out_2] : List Value))) rfl
  dsimp only [lAa, lAn, lA0, lAs] at S446
  have hf447 : (CFs ⟨b1, 258, none⟩ [.slice A0_2 d.final.length c0_2]).1 w444 := (CF.box (m := 1) (S446.box_at (j := 0) rfl) (za5 (a := (zab d.part)) (pre := [.slice A0_1 d.next.length c0_1]) (seg := [.slice A0_2 d.final.length c0_2]) (post := []) (zad o0_0) rfl rfl))
  have hf448 : (CFs ad31 [.bool (at_ d.final t17)]).1 w444 := (CF.ghost ce31 (St.le0 S446))
  refine d_s rfl rfl (za7 rfl rfl r444) (.inr (zbh (by decide +kernel) (zbh (by decide +kernel) (zce hf447 (zce hf448 trivial))))) <| qd0 (i := 18) (v := .pointer (some ⟨b17, 258, none⟩)) rfl (by decide +kernel) rfl rfl (zao fd35_2 ty25 rfl r28_4) (zam rfl) <| zb6 (i := 19) (by decide +kernel) ?_
  intro wd449 gd449
  have S450 := S446.keep gd449
  have hf451 := spUp gd449 hf447
  have hf452 := spUp gd449 hf448
  have oc454 := zcx S450 (j := 5) rfl
  obtain ⟨w453, r453, g453, T453⟩ := zc5 (P := Tryd.prog) (off := 258) (v := v432) (vs := [v432]) (a := (zab d.part)) (pre := [v415]) (seg := [v_out_2]) (post := []) S450 ty25 (zcq S450 (j := 5) rfl) rfl (zad o0_0) rfl rfl (j := 2) rfl (zb7 oc454 zdu)
  have S455 := T453.fx 2 (box b17 35 ((zab d.part) ++ ([v415, v432] : List Value))) rfl
  dsimp only [lAa, lAn, lA0, lAs] at S455
  have hf456 : (CFs ⟨b1, 258, none⟩ [.slice A0_2 d.final.length c0_2]).1 w453 := (CF.box (m := 1) (S455.box_at (j := 0) rfl) (za5 (a := (zab d.part)) (pre := [.slice A0_1 d.next.length c0_1]) (seg := [.slice A0_2 d.final.length c0_2]) (post := []) (zad o0_0) rfl rfl))
  have hf457 : (CFs ad31 [.bool (at_ d.final t17)]).1 w453 := (CF.ghost ce31 (St.le0 S455))
  refine d_s rfl rfl (za7 rfl rfl r453) (.inr (zbh (by decide +kernel) (zbh (by decide +kernel) (zbh (by decide +kernel) (zbh (by decide +kernel) trivial))))) <| zco (by decide +kernel) ?_
  intro wd458 gd458
  have S459 := S455.keep gd458
  exact jn133 _ _ ⟨k387, v415, v432, (us_out_1 ++ ([v387_0] : List Value)), lk387, S459.sub [0, 1, 2, 3, 4, 5] (by decide) rfl _ rfl, r28_1, r28_2, r28_4, r28_15, r28_16, r28_17, o0_0, o0_0⟩
 refine zbv rfl <| zac <| zae (l := [0, 1, 2]) rfl <| p_v (v := .agg ((zab d.part) ++ ([v_out_1, v_out_2] : List Value)).toArray) rfl rfl rfl (zaj (seg := ((zab d.part) ++ ([v_out_1, v_out_2] : List Value))) ty35 (zbg (zad o0_0) rfl) (by simp) r28_4 (CF.box (m := 259) (S28.box_at (j := 2) rfl) (zd4 (zbg (zad o0_0) rfl)))) ?_
 have oc461 := zcx S28 (j := 3) rfl
 have oc462 := zcx S28 (j := 5) rfl
 obtain ⟨w460, r460, g460, T460⟩ := zc9 (P := Tryd.prog) (v := .agg ((zab d.part) ++ ([v_out_1, v_out_2] : List Value)).toArray) (vs := ((zab d.part) ++ ([v_out_1, v_out_2] : List Value))) (cs := ((zab zPart) ++ ([.slice none 0 0, .slice none 0 0] : List Value))) S28 ty35 rfl (zbg (zad o0_0) rfl) (zbg (zad (zay)) rfl) (j := 1) rfl (one_app (zb3 _) (zb7 oc461 (zb7 oc462 zdu)))
 have S463 := T460.fx 1 (box b3 35 ((zab d.part) ++ ([v_out_1, v_out_2] : List Value))) rfl
 dsimp only [lAa, lAn, lA0, lAs] at S463
 refine p_s rfl rfl (za7 r28_2 rfl r460) <| p_v (v := .int .i64 0) rfl rfl rfl (zag rfl) <| zaa <| zar Tryd.func23 (res2 rfl (zdg S463 ty35 r28_2 (j := 1) rfl (zbg (zad o0_0) rfl) (by simp) rfl) (zaw (v := .int .i64 0) rfl)) ?_
 have q0 : ((notD d).part : PartM) = d.part := by
  first | exact errD_yes (by assumption) | exact errD_no (by assumption) | (rw [notD_no (by assumption)]; rfl) | (rw [zcg (by assumption)]; done) | (rw [zcg (by assumption)]; show d.next = _; rw [hI28.2.2.1, List.take_of_length_le (by omega)]) | (rw [zcg (by assumption)]; show d.final.map _ = _; rw [hI28.2.2.2, not_end d (by omega)])
 have q1 : ((notD d).next : List (List Int)) = out_1 := by
  first | exact errD_yes (by assumption) | exact errD_no (by assumption) | (rw [notD_no (by assumption)]; rfl) | (rw [zcg (by assumption)]; done) | (rw [zcg (by assumption)]; show d.next = _; rw [hI28.2.2.1, List.take_of_length_le (by omega)]) | (rw [zcg (by assumption)]; show d.final.map _ = _; rw [hI28.2.2.2, not_end d (by omega)])
 have q2 : ((notD d).final : List Bool) = out_2 := by
  first | exact errD_yes (by assumption) | exact errD_no (by assumption) | (rw [notD_no (by assumption)]; rfl) | (rw [zcg (by assumption)]; done) | (rw [zcg (by assumption)]; show d.next = _; rw [hI28.2.2.1, List.take_of_length_le (by omega)]) | (rw [zcg (by assumption)]; show d.final.map _ = _; rw [hI28.2.2.2, not_end d (by omega)])
 have q3 : (errD d : Int) = 0 := by
  first | exact errD_yes (by assumption) | exact errD_no (by assumption) | (rw [notD_no (by assumption)]; rfl) | (rw [zcg (by assumption)]; done) | (rw [zcg (by assumption)]; show d.next = _; rw [hI28.2.2.1, List.take_of_length_le (by omega)]) | (rw [zcg (by assumption)]; show d.final.map _ = _; rw [hI28.2.2.2, not_end d (by omega)])
 refine ⟨_, rfl, h28, v_out_1, us_out_1, v_out_2, ?_, ?_, ?_, ?_⟩
 · rw [q1]; rw [q2]; exact S463.sub [3, 4, 5] (by decide) rfl _ rfl
 · first | rfl | (simp only [q0, q1, q2, q3]; rfl) | (simp only [q0, q1, q2, q3])
 · rw [q0]; first | assumption | exact zay
 · rw [q3]; exact (zal (by first|omega|(simp;omega)|assumption|simp) (by first|omega|(simp;omega)|assumption|simp))
end Go.Proofs.YtfoemogojbnfhaaDoor
namespace Gx
open Go Go.RowKit
set_option linter.unusedSimpArgs false
set_option linter.unusedVariables false
structure AlikeC (p : PartM) (w : ByteArray) (b : List Int) : Prop where
  map : b.map (at_ p.of) = (zdq w).map (at_ p.of)
  rng : ∀ x ∈ b, 0 ≤ x ∧ x < 256
theorem alikeC_0 (p : PartM) (w : ByteArray) : AlikeC p w (zdq w) := ⟨rfl, bytesL_range w⟩
theorem alikeC_step {p : PartM} {w : ByteArray} {b : List Int} (A : AlikeC p w b) {i v : Int} (h0 : 0 ≤ i) (h1 : i < (b.length : Int)) (hv : 0 ≤ v ∧ v < 256) (hc : at_ p.of v = at_ p.of (at_ b i)) : AlikeC p w (b.set i.toNat v) where
  map := by
    rw [List.map_set, A.map]
    have e : at_ p.of v = at_ ((zdq w).map (at_ p.of)) i := by
      rw [← A.map, hc, at_map _ _ h0 h1]
    rw [e]
    apply List.ext_getElem?
    intro m
    rw [List.getElem?_set]
    split
    · rename_i e2
      subst e2
      split
      · rename_i hl
        simp [at_, List.getD_eq_getElem?_getD, List.getElem?_eq_getElem hl]
      · rename_i hl
        rw [List.getElem?_eq_none (by omega)]
    · rfl
  rng := fun x hx => by
    rcases List.mem_or_eq_of_mem_set hx with h | h
    · exact A.rng x h
    · subst h; exact hv
theorem goL_map (d : Dfa) (l : List Int) : goL d l = (l.map (at_ d.part.of)).foldl (fun q k => at_ (at_ d.next q) k) 0 := by
  unfold goL; rw [List.foldl_map]
theorem alikeC_end {d : Dfa} {p : PartM} (hd : d.part = p) (hr : zcd d = true) {w : ByteArray} {b : List Int} (A : AlikeC p w b) : runD d w = runD d (strOfNums b) := by
  rw [runD_list hr, runD_list hr, bytes_str A.rng, goL_map, goL_map, hd, A.map]
abbrev nilM : Mach := ⟨[], [], [], [], false⟩
theorem partP_right (a b : Mach) : RightP (zap a b) := rightP_of (okPart_pP a b) (rightP_ref _)
theorem least_in {p : PartM} (R : RightP p) (ho : zbx p) {c : Int} (c0 : 0 ≤ c) (c1 : c < 256) : 0 ≤ at_ p.of c ∧ at_ p.of c < ((zat p).length : Int) ∧ (0 ≤ at_ (zat p) (at_ p.of c) ∧ at_ (zat p) (at_ p.of c) < 256) ∧ at_ p.of (at_ (zat p) (at_ p.of c)) = at_ p.of c := by
  have h0 : 0 ≤ at_ p.of c := u8_lo (zb2 ho.1 c0 (by show c < ((256 : Nat) : Int); omega))
  have h1 := R.of_lt c c0 c1
  have h2 := leastB_at R h0 h1
  rw [leastB_len R]
  exact ⟨h0, h1, ⟨h2.1, h2.2.1⟩, h2.2.2⟩
end Gx
namespace Go.Proofs.YtfoemogojbnfhaaDoor
open Go Go.RowKit Gx
set_option maxHeartbeats 1000000
set_option linter.unusedVariables false
set_option linter.unusedSimpArgs false
set_option maxRecDepth 8000
attribute [local irreducible] zbj count first someIn has zbd wbits Lib.ctz badQ zd0 zcd goD runD notD errD notTo nextP finalP howB zbt nextC outTo readTo rowIn zdh lastB zat zdx zai errB fitsP madeM allM bfs zdl putB beginB okB zdz zci rowOk tab markP intoP behindP runTo endsIn runM anyTo allTo zdp smallTo overM lettersP zap zdq strOfNums
theorem dfaClasses_calls (w : World) (m : Mach) (A0_0 : Option Addr) (c0_0 : Nat) (b0_0 : m.spots.length ≤ c0_0 ∧ c0_0 ≤ maxLen) (l0_0 : zbo kSpot (hp w) A0_0 m.spots) (A0_1 : Option Addr) (c0_1 : Nat) (b0_1 : m.first.length ≤ c0_1 ∧ c0_1 ≤ maxLen) (l0_1 : zbo (Kd.int .i64) (hp w) A0_1 m.first) (A0_2 : Option Addr) (c0_2 : Nat) (b0_2 : m.follow.length ≤ c0_2 ∧ c0_2 ≤ maxLen) (l0_2 : zbo (Kd.int .i64).slice (hp w) A0_2 m.follow) (A0_3 : Option Addr) (c0_3 : Nat) (b0_3 : m.last.length ≤ c0_3 ∧ c0_3 ≤ maxLen) (l0_3 : zbo Kd.bool (hp w) A0_3 m.last) (xw : ByteArray) (s1 : xw.size ≤ maxLen) (tb : Block 0 tzTab w) :
    Calls Tryd.prog 3 #[.agg #[.slice A0_0 m.spots.length c0_0, .slice A0_1 m.first.length c0_1, .slice A0_2 m.follow.length c0_2, .slice A0_3 m.last.length c0_3, .bool m.empty], .string xw] w fun e w' => ∃ v, e = .returned v ∧ ∃ (hn : Ghost), St w.heap.size w hn w' [] ∧ v = .bool true := by
 refine zak Tryd.func3 rfl Tryd.ntmps3 rfl ?_
 have S0 := St.init w
 have bb0_0 := b0_0.1; have bc0_0 := b0_0.2; simp only [maxLen] at bc0_0
 have bb0_1 := b0_1.1; have bc0_1 := b0_1.2; simp only [maxLen] at bc0_1
 have bb0_2 := b0_2.1; have bc0_2 := b0_2.2; simp only [maxLen] at bc0_2
 have bb0_3 := b0_3.1; have bc0_3 := b0_3.2; simp only [maxLen] at bc0_3
 have sz1 := s1; simp only [maxLen] at sz1
 have hz_ : ((nilM).spots.length : Int) ≤ 1000 := by decide
 refine zac <| zae (l := [0, 1]) rfl ?_
 obtain ⟨b1, w1, r1, g1, T1⟩ := zcb (P := Tryd.prog) S0 27 (v := .agg #[.slice A0_0 m.spots.length c0_0, .slice A0_1 m.first.length c0_1, .slice A0_2 m.follow.length c0_2, .slice A0_3 m.last.length c0_3, .bool m.empty]) [.slice A0_0 m.spots.length c0_0, .slice A0_1 m.first.length c0_1, .slice A0_2 m.follow.length c0_2, .slice A0_3 m.last.length c0_3, .bool m.empty] rfl
 have S2 := T1
 dsimp only [lAa, lAn, lA0, lAs] at S2
 refine p_v (v := .pointer (some ⟨b1, 0, none⟩)) rfl rfl rfl (zdo rfl r1) <| p_v (v := .bool false) rfl rfl rfl (zag rfl) <| zaa <| zac <| zac <| zae (l := [0, 1, 2, 3, 4, 5, 6, 7]) rfl <| p_v (v := .agg #[.slice A0_0 m.spots.length c0_0, .slice A0_1 m.first.length c0_1, .slice A0_2 m.follow.length c0_2, .slice A0_3 m.last.length c0_3, .bool m.empty]) rfl rfl rfl (zaj (seg := [.slice A0_0 m.spots.length c0_0, .slice A0_1 m.first.length c0_1, .slice A0_2 m.follow.length c0_2, .slice A0_3 m.last.length c0_3, .bool m.empty]) ty27 rfl (by simp) rfl (CF.box (m := 5) (S2.box_at (j := 0) rfl) rfl)) <| p_c rfl rfl rfl (za2 (args := [.agg #[.slice A0_0 m.spots.length c0_0, .slice A0_1 m.first.length c0_1, .slice A0_2 m.follow.length c0_2, .slice A0_3 m.last.length c0_3, .bool m.empty]]) ca18 rfl rfl) (small11_calls w1 m A0_0 c0_0 b0_0 (l0_0.mono (St.le0 S2)) A0_1 c0_1 b0_1 (l0_1.mono (St.le0 S2)) A0_2 c0_2 b0_2 (l0_2.mono (St.le0 S2)) A0_3 c0_3 b0_3 (l0_3.mono (St.le0 S2))) ?_
 rintro _ w3 ⟨h3, T3, rfl⟩
 have S4 := S2.keep (Chg.of_below T3.below)
 refine p_v (v := .bool (!(zdp m))) rfl rfl rfl (x_not rfl) <| p_v (v := .bool (!(zdp m))) rfl rfl rfl (zah rfl) ?_
 rcases Bool.eq_false_or_eq_true (zdp m) with hc5 | hc5
 ·skip
  have hs1_ := smallM_of hc5
  refine p_v (v := .string xw) rfl (wo 3 19 rfl rfl (congrArg (fun z => Value.bool (!z)) hc5) rfl) rfl (zah rfl) <| p_v (v := .int .i64 (xw.size : Int)) rfl (wo 3 19 rfl rfl (congrArg (fun z => Value.bool (!z)) hc5) rfl) rfl (x_len_string u9 rfl) <| p_v (v := .bool (decide (100 < (xw.size : Int)))) rfl (wo 3 19 rfl rfl (congrArg (fun z => Value.bool (!z)) hc5) rfl) rfl (x_gtr rfl rfl) <| p_v (v := .bool (decide (100 < (xw.size : Int)))) rfl rfl rfl (zc2 (congrArg (fun z => Value.bool (!z)) hc5) rfl) <| zaa ?_
  refine zan (p := 100 < (xw.size : Int)) rfl (fun hc6 => ?_) (fun hc6 => ?_)
  ·skip
   refine zac <| zae (l := [0, 1]) rfl <| p_c rfl rfl rfl (za2 (args := []) ca19 rfl rfl) (awake11_calls w3  (Block.st S4 tb)) ?_
   rintro _ w7 ⟨h7, T7, rfl⟩
   have S8 := S4.keep (Chg.of_below T7.below)
   refine p_v (v := .bool true) rfl rfl rfl (zag rfl) <| zaa <| zar Tryd.func3 (res1 rfl (zaw (v := .bool true) rfl)) ?_
   have q0 : (true : Bool) = true := rfl
   refine ⟨_, rfl, (fun _ => none), ?_, ?_⟩
   · exact S8.sub [] (by decide) rfl _ rfl
   · rfl
  refine zau <| zac <| zae (l := [0, 1, 2, 3, 4]) rfl <| p_v (v := .agg #[.slice A0_0 m.spots.length c0_0, .slice A0_1 m.first.length c0_1, .slice A0_2 m.follow.length c0_2, .slice A0_3 m.last.length c0_3, .bool m.empty]) rfl rfl rfl (zaj (seg := [.slice A0_0 m.spots.length c0_0, .slice A0_1 m.first.length c0_1, .slice A0_2 m.follow.length c0_2, .slice A0_3 m.last.length c0_3, .bool m.empty]) ty27 rfl (by simp) rfl (CF.box (m := 5) (S4.box_at (j := 0) rfl) rfl)) <| p_v (v := .agg #[.slice none 0 0, .slice none 0 0, .slice none 0 0, .slice none 0 0, .bool false]) rfl rfl rfl (zd9 (pv := []) rfl (zbq pl27 ty27 rfl (cs := [.slice none 0 0, .slice none 0 0, .slice none 0 0, .slice none 0 0, .bool false]) rfl)) <| p_c rfl rfl rfl (za2 (args := [.agg #[.slice A0_0 m.spots.length c0_0, .slice A0_1 m.first.length c0_1, .slice A0_2 m.follow.length c0_2, .slice A0_3 m.last.length c0_3, .bool m.empty], .agg #[.slice none 0 0, .slice none 0 0, .slice none 0 0, .slice none 0 0, .bool false]]) ca20 rfl rfl) (parted_calls w3 m A0_0 c0_0 b0_0 (l0_0.mono (St.le0 S4)) A0_1 c0_1 b0_1 (l0_1.mono (St.le0 S4)) A0_2 c0_2 b0_2 (l0_2.mono (St.le0 S4)) A0_3 c0_3 b0_3 (l0_3.mono (St.le0 S4)) nilM none 0 (by simp [maxLen]) (leads_nil _ _) none 0 (by simp [maxLen]) (leads_nil _ _) none 0 (by simp [maxLen]) (leads_nil _ _) none 0 (by simp [maxLen]) (leads_nil _ _) (by first | assumption | exact ⟨by omega, by omega⟩)) ?_
  rintro _ w10 ⟨h10, T10, rfl, ok10_0⟩
  have S11 := S4.keep (Chg.of_below T10.below)
  obtain ⟨b12, w12, r12, g12, T12⟩ := zcb (P := Tryd.prog) S11 32 (v := zv32) (zab zPart) (by kernel_rfl)
  have S13 := T12
  dsimp only [lAa, lAn, lA0, lAs] at S13
  refine p_v (v := .pointer (some ⟨b12, 0, none⟩)) rfl rfl rfl (zch ty32 r12) ?_
  obtain ⟨w14, r14, g14, T14⟩ := zb9 (P := Tryd.prog) (off := 0) (v := .agg (zab (zap m nilM)).toArray) (vs := (zab (zap m nilM))) S13 ty32 rfl (zad ok10_0) (j := 1) rfl (by rw [zad (zay)]; decide) (zb3 _)
  rw [lput_all (by rw [zad ok10_0, zad (zay)])] at T14
  have S15 := T14.fx 1 (box b12 32 (zab (zap m nilM))) rfl
  dsimp only [lAa, lAn, lA0, lAs] at S15
  refine p_s rfl rfl (za7 rfl rfl r14) <| zaa <| zac <| zae (l := [0, 1, 2, 3, 4, 5, 6, 7, 8]) rfl <| p_v (v := .agg #[.slice A0_0 m.spots.length c0_0, .slice A0_1 m.first.length c0_1, .slice A0_2 m.follow.length c0_2, .slice A0_3 m.last.length c0_3, .bool m.empty]) rfl rfl rfl (zaj (seg := [.slice A0_0 m.spots.length c0_0, .slice A0_1 m.first.length c0_1, .slice A0_2 m.follow.length c0_2, .slice A0_3 m.last.length c0_3, .bool m.empty]) ty27 rfl (by simp) rfl (CF.box (m := 5) (S15.box_at (j := 0) rfl) rfl)) <| p_v (v := .agg (zab (zap m nilM)).toArray) rfl rfl rfl (zaj (seg := (zab (zap m nilM))) ty32 (zad ok10_0) (by simp) rfl (CF.box (m := 257) (S15.box_at (j := 1) rfl) (by rw [List.drop_zero, List.take_of_length_le (by rw [zad ok10_0]; exact Nat.le_refl _)]))) <| p_c rfl rfl rfl (za2 (args := [.agg #[.slice A0_0 m.spots.length c0_0, .slice A0_1 m.first.length c0_1, .slice A0_2 m.follow.length c0_2, .slice A0_3 m.last.length c0_3, .bool m.empty], .agg (zab (zap m nilM)).toArray, .pointer none]) ca21 rfl rfl) (build_calls w14 m A0_0 c0_0 b0_0 (l0_0.mono (St.le0 S15)) A0_1 c0_1 b0_1 (l0_1.mono (St.le0 S15)) A0_2 c0_2 b0_2 (l0_2.mono (St.le0 S15)) A0_3 c0_3 b0_3 (l0_3.mono (St.le0 S15)) (zap m nilM) ok10_0 () (by first | assumption | omega | decide) (Block.st S15 tb)) ?_
  rintro _ w16 ⟨h16, v16_0, v16_1, T16, rfl, ok16_0, in16_1⟩
  obtain ⟨k16, lk16, ll16, U16⟩ := zcl S15 T16
  have S17 := U16
  dsimp only [lAa, lAn, lA0, lAs] at S17
  have lo_in16_1 := zbb in16_1; have hi_in16_1 := zbc in16_1
  obtain ⟨h18, le18, T18, rp18⟩ := S17.freeze (i := 2) rfl
  have lf18_0 := (lk16).trans le18
  have S19 := T18.fx 2 (emp) rfl
  dsimp only [lAa, lAn, lA0, lAs] at S19
  obtain ⟨A18, c18, e18, lc18, cm18, ld18⟩ := rp18
  injection e18 with e18 _; subst e18
  have cn18 := cm18; simp only [maxLen] at cn18
  obtain ⟨h20, le20, T20, rp20⟩ := S19.freeze (i := 3) rfl
  have lf20_0 := (lf18_0).trans le20
  have lf20_1 := (le18).trans le20
  have S21 := T20.fx 3 (emp) rfl
  dsimp only [lAa, lAn, lA0, lAs] at S21
  obtain ⟨A20, c20, e20, lc20, cm20, ld20⟩ := rp20
  injection e20 with e20 _; subst e20
  have cn20 := cm20; simp only [maxLen] at cn20
  refine p_v (v := .tuple #[.agg ((zab ((zai m (zap m nilM)).part)) ++ ([.slice A18 ((zai m (zap m nilM)).next).length c18, .slice A20 ((zai m (zap m nilM)).final).length c20] : List Value)).toArray, .int .i64 (errB m (zap m nilM))]) rfl rfl rfl (zah rfl) <| p_v (v := .agg ((zab ((zai m (zap m nilM)).part)) ++ ([.slice A18 ((zai m (zap m nilM)).next).length c18, .slice A20 ((zai m (zap m nilM)).final).length c20] : List Value)).toArray) rfl rfl rfl (zc1 (vs := [.agg ((zab ((zai m (zap m nilM)).part)) ++ ([.slice A18 ((zai m (zap m nilM)).next).length c18, .slice A20 ((zai m (zap m nilM)).final).length c20] : List Value)).toArray, .int .i64 (errB m (zap m nilM))]) rfl rfl) <| p_v (v := .int .i64 (errB m (zap m nilM))) rfl rfl rfl (zc1 (vs := [.agg ((zab ((zai m (zap m nilM)).part)) ++ ([.slice A18 ((zai m (zap m nilM)).next).length c18, .slice A20 ((zai m (zap m nilM)).final).length c20] : List Value)).toArray, .int .i64 (errB m (zap m nilM))]) rfl rfl) ?_
  obtain ⟨b22, w22, r22, g22, T22⟩ := zcb (P := Tryd.prog) S21 35 (v := zv35) ((zab zPart) ++ ([.slice none 0 0, .slice none 0 0] : List Value)) (by kernel_rfl)
  have S23 := T22
  dsimp only [lAa, lAn, lA0, lAs] at S23
  refine p_v (v := .pointer (some ⟨b22, 0, none⟩)) rfl rfl rfl (zch ty35 r22) ?_
  obtain ⟨w24, r24, g24, T24⟩ := zc9 (P := Tryd.prog) (v := .agg ((zab ((zai m (zap m nilM)).part)) ++ ([.slice A18 ((zai m (zap m nilM)).next).length c18, .slice A20 ((zai m (zap m nilM)).final).length c20] : List Value)).toArray) (vs := ((zab ((zai m (zap m nilM)).part)) ++ ([.slice A18 ((zai m (zap m nilM)).next).length c18, .slice A20 ((zai m (zap m nilM)).final).length c20] : List Value))) (cs := ((zab zPart) ++ ([.slice none 0 0, .slice none 0 0] : List Value))) S23 ty35 rfl (zbg (zad ok16_0) rfl) (zbg (zad (zay)) rfl) (j := 4) rfl (one_app (zb3 _) (by simp [Value.oneCell']))
  have S25 := T24.fx 4 (box b22 35 ((zab ((zai m (zap m nilM)).part)) ++ ([.slice A18 ((zai m (zap m nilM)).next).length c18, .slice A20 ((zai m (zap m nilM)).final).length c20] : List Value))) rfl
  dsimp only [lAa, lAn, lA0, lAs] at S25
  refine p_s rfl rfl (za7 rfl rfl r24) <| p_v (v := .int .i64 (errB m (zap m nilM))) rfl rfl rfl (zag rfl) <| zaa <| zac <| zac <| zae (l := [0, 1]) rfl <| p_v (v := .int .i64 (errB m (zap m nilM))) rfl rfl rfl (zah rfl) <| p_v (v := .bool (decide ((errB m (zap m nilM)) ≠ 0))) rfl rfl rfl (x_neq rfl rfl) <| zaa ?_
  refine zan (p := (errB m (zap m nilM)) ≠ 0) rfl (fun hc26 => ?_) (fun hc26 => ?_)
  ·skip
   refine zac <| zae (l := [0, 1]) rfl <| p_c rfl rfl rfl (za2 (args := []) ca19 rfl rfl) (awake11_calls w24  (Block.st S25 tb)) ?_
   rintro _ w27 ⟨h27, T27, rfl⟩
   have S28 := S25.keep (Chg.of_below T27.below)
   refine p_v (v := .bool true) rfl rfl rfl (zag rfl) <| zaa <| zar Tryd.func3 (res1 rfl (zaw (v := .bool true) rfl)) ?_
   have q0 : (true : Bool) = true := rfl
   refine ⟨_, rfl, h20, ?_, ?_⟩
   · exact S28.sub [] (by decide) rfl _ rfl
   · rfl
  have ha_ := errB_iff.1 (Decidable.not_not.1 hc26); have har_ := build_right (okPart_pP m nilM) ha_; have hap_ := build_part ha_; have hal_ := build_len (p := (zap m nilM)) (m := m) (by omega); have hfl_ := (rightD_of (by rw [hap_]; exact okPart_pP m nilM) har_).final
  refine zau <| zac <| zae (l := [0, 1, 2]) rfl <| p_v (v := .agg (zab (zap m nilM)).toArray) rfl rfl rfl (zaj (seg := (zab (zap m nilM))) ty32 (zad ok10_0) (by simp) rfl (CF.box (m := 257) (S25.box_at (j := 1) rfl) (by rw [List.drop_zero, List.take_of_length_le (by rw [zad ok10_0]; exact Nat.le_refl _)]))) <| p_c rfl rfl rfl (za2 (args := [.agg (zab (zap m nilM)).toArray]) ca22 rfl rfl) (leastL_calls w24 (zap m nilM) ok10_0 (Block.st S25 tb)) ?_
  rintro v30_0 w30 ⟨h30, _, T30, rfl⟩
  obtain ⟨k30, lk30, ll30, U30⟩ := zcl S25 T30
  have lc30_0 := (lf20_0).trans lk30
  have lc30_1 := (lf20_1).trans lk30
  have lc30_2 := (le20).trans lk30
  have S31 := U30
  dsimp only [lAa, lAn, lA0, lAs] at S31
  obtain ⟨h32, le32, T32, rp32⟩ := S31.freeze (i := 5) rfl
  have lf32_0 := (lc30_0).trans le32
  have lf32_1 := (lc30_1).trans le32
  have lf32_2 := (lc30_2).trans le32
  have lf32_3 := (lk30).trans le32
  have S33 := T32.fx 5 (emp) rfl
  dsimp only [lAa, lAn, lA0, lAs] at S33
  obtain ⟨A32, c32, e32, lc32, cm32, ld32⟩ := rp32
  injection e32 with e32 _; subst e32
  have cn32 := cm32; simp only [maxLen] at cn32
  refine p_v (v := .slice A32 (zat (zap m nilM)).length c32) rfl rfl rfl (zag rfl) <| zaa <| zac <| zae (l := [0, 1, 2]) rfl <| p_v (v := .string xw) rfl rfl rfl (zah rfl) ?_
  obtain ⟨v34, w34, r34, g34, T34⟩ := e_str_bytes xw S33 u9 u39 u5 s1
  have S35 := T34
  dsimp only [lAa, lAn, lA0, lAs] at S35
  have lb34 := bytesL_len xw
  refine p_v (v := v34) rfl rfl rfl (x_str_bytes rfl r34) <| p_v (v := v34) rfl rfl rfl (zag rfl) <| zaa <| zac <| zac <| zae (l := [0]) rfl <| p_v (v := .int .i64 0) rfl rfl rfl (zag rfl) <| zaa <| zaq <| zbu (S := (List Int) × Int) (fun (q_ : (List Int) × Int) ρ w' => match q_ with | (b, i) => ∃ (h : Ghost) (v_b : Value), Le h32 h ∧ St w.heap.size w h w' [box b12 32 (zab (zap m nilM)), box b22 35 ((zab ((zai m (zap m nilM)).part)) ++ ([.slice A18 ((zai m (zap m nilM)).next).length c18, .slice A20 ((zai m (zap m nilM)).final).length c20] : List Value)), rowB 5 v_b b] ∧ ρ 1 = .string xw ∧ ρ 5 = .pointer (some ⟨b12, 0, none⟩) ∧ ρ 6 = .pointer (some ⟨b22, 0, none⟩) ∧ ρ 8 = .slice A32 (zat (zap m nilM)).length c32 ∧ ρ 9 = v_b ∧ ρ 10 = .int .i64 i ∧ inK .i64 i ∧ (0 ≤ i ∧ AlikeC (zap m nilM) xw b)) (fun q_ => match q_ with | (b, i) => ((b.length : Int) - i).toNat) (zdq xw, 0) ⟨h32, v34, Le.refl _, S35.sub [1, 4, 6] (by decide) rfl _ rfl, rfl, rfl, rfl, rfl, rfl, rfl, (zal (by first|omega|(simp;omega)|assumption|simp) (by first|omega|(simp;omega)|assumption|simp)), (by exact ⟨by omega, alikeC_0 _ xw⟩)⟩ ?_
  rintro ⟨b, i⟩ ih36 ρ36 w36 ⟨h36, v_b, le36, S36, r36_1, r36_5, r36_6, r36_8, r36_9, r36_10, f36_0, hI36⟩
  have lf36_0 := zbb f36_0; have hf36_0 := zbc f36_0
  have rl36_2 := rowB_le S36 (j := 2) rfl; simp only [maxLen] at rl36_2
  have hi0_ := hI36.1
  have hin_ := fun (h : i < (b.length : Int)) => least_in (partP_right m nilM) (okPart_pP m nilM) (hI36.2.rng _ (zee hI36.1 h)).1 (hI36.2.rng _ (zee hI36.1 h)).2
  refine zac <| zac <| zae (l := [0, 1, 2, 3]) rfl <| p_v (v := .int .i64 i) rfl rfl rfl (zah r36_10) <| p_v (v := v_b) rfl rfl rfl (zah r36_9) ?_
  have lb37 := rowB_le S36 (j := 2) rfl; simp only [maxLen] at lb37
  obtain ⟨A37, c37, ev37, _, _⟩ := rowB_val S36 (j := 2) rfl
  refine p_v (v := .int .i64 (b.length : Int)) rfl rfl rfl (x_len_own u39 rfl ⟨A37, c37, ev37⟩) <| p_v (v := .bool (decide (i < (b.length : Int)))) rfl rfl rfl (zdy rfl rfl) <| zaa ?_
  refine zan (p := i < (b.length : Int)) rfl (fun hc38 => ?_) (fun hc38 => ?_)
  ·skip
   refine zau <| zac <| zaq <| zac <| zac <| zae (l := [0, 1, 2, 3, 4, 5, 6, 7, 8, 9, 10]) rfl <| p_v (v := v_b) rfl rfl rfl (zah r36_9) <| p_v (v := .int .i64 i) rfl rfl rfl (zah r36_10) ?_
   obtain ⟨ad39, a39, at39⟩ := e_indexB (q := i) S36 (j := 2) rfl (by first|omega|(simp;omega)|assumption|simp) (by first|omega|(simp;omega)|assumption|simp)
   refine p_v (v := .pointer (some ad39)) rfl rfl rfl (zdj u39 ty5 rfl rfl a39 (by first|omega|(simp;omega)|assumption|simp) (by first|omega|(simp;omega)|assumption|simp)) ?_
   obtain ⟨in40, cf40⟩ := e_loadB (q := i) S36 (j := 2) rfl at39 (by first|omega|(simp;omega)|assumption|simp) (by first|omega|(simp;omega)|assumption|simp)
   have lo40 := u8_lo in40; have hi40 := u8_hi in40
   refine p_v (v := .int .u8 (at_ b i)) rfl rfl rfl (zaj (seg := [.int .u8 (at_ b i)]) ty5 rfl (by simp) rfl cf40) <| p_v (v := .pointer (some ⟨b12, 0, none⟩)) rfl rfl rfl (zao fd32_0 ty30 rfl r36_5) <| p_v (v := .pointer (some ⟨b12, 0 + (at_ b i).toNat * 1, none⟩)) rfl rfl rfl (za3 u30 ty5 rfl rfl (by first|omega|(simp;omega)|assumption|simp) (by first|omega|(simp;omega)|assumption|simp)) ?_
   have in41 := zb2 (ok10_0).1 (i := at_ b i) (by first|omega|(simp;omega)|assumption|simp) (by first|omega|(simp;omega)|assumption|simp)
   have lo41 := u8_lo in41; have hi41 := u8_hi in41
   refine p_v (v := .int .u8 (at_ ((zap m nilM).of) (at_ b i))) rfl rfl rfl (zaj (seg := [.int .u8 (at_ ((zap m nilM).of) (at_ b i))]) ty5 rfl (by simp) rfl (CF.box (m := 1) (S36.box_at (j := 0) rfl) (cs := (zab (zap m nilM))) (encPart_at ok10_0 (by first|omega|(simp;omega)|assumption|simp) (by first|omega|(simp;omega)|assumption|simp)))) <| p_v (v := .int .i64 (at_ ((zap m nilM).of) (at_ b i))) rfl rfl rfl (x_conv u5 u3 rfl (zal (by first|omega|(simp;omega)|assumption|simp) (by first|omega|(simp;omega)|assumption|simp))) <| p_v (v := .slice A32 (zat (zap m nilM)).length c32) rfl rfl rfl (zah r36_8) <| p_v (v := .int .i64 ((zat (zap m nilM)).length : Int)) rfl rfl rfl (za0 u39 rfl) <| p_v (v := .bool (decide (((zat (zap m nilM)).length : Int) ≤ (at_ ((zap m nilM).of) (at_ b i))))) rfl rfl rfl (x_geq rfl rfl) <| zaa ?_
   have hc42 : ¬ (((zat (zap m nilM)).length : Int) ≤ (at_ ((zap m nilM).of) (at_ b i))) := by
    have := (hin_ (by omega)).2.1; omega
   refine zc3 (b := false) (bF hc42) ?_
   simp only [if_true, if_false, Bool.false_eq_true]
   refine zau <| zae (l := [0, 1, 2, 3, 4, 5, 6, 7, 8, 9, 10, 11, 12, 13]) rfl <| p_v (v := v_b) rfl rfl rfl (zah r36_9) <| p_v (v := .int .i64 i) rfl rfl rfl (zah r36_10) <| p_v (v := .slice A32 (zat (zap m nilM)).length c32) rfl rfl rfl (zah r36_8) <| p_v (v := v_b) rfl rfl rfl (zah r36_9) <| p_v (v := .int .i64 i) rfl rfl rfl (zah r36_10) ?_
   obtain ⟨ad43, a43, at43⟩ := e_indexB (q := i) S36 (j := 2) rfl (by first|omega|(simp;omega)|assumption|simp) (by first|omega|(simp;omega)|assumption|simp)
   refine p_v (v := .pointer (some ad43)) rfl rfl rfl (zdj u39 ty5 rfl rfl a43 (by first|omega|(simp;omega)|assumption|simp) (by first|omega|(simp;omega)|assumption|simp)) ?_
   obtain ⟨in44, cf44⟩ := e_loadB (q := i) S36 (j := 2) rfl at43 (by first|omega|(simp;omega)|assumption|simp) (by first|omega|(simp;omega)|assumption|simp)
   have lo44 := u8_lo in44; have hi44 := u8_hi in44
   refine p_v (v := .int .u8 (at_ b i)) rfl rfl rfl (zaj (seg := [.int .u8 (at_ b i)]) ty5 rfl (by simp) rfl cf44) <| p_v (v := .pointer (some ⟨b12, 0, none⟩)) rfl rfl rfl (zao fd32_0 ty30 rfl r36_5) <| p_v (v := .pointer (some ⟨b12, 0 + (at_ b i).toNat * 1, none⟩)) rfl rfl rfl (za3 u30 ty5 rfl rfl (by first|omega|(simp;omega)|assumption|simp) (by first|omega|(simp;omega)|assumption|simp)) ?_
   have in45 := zb2 (ok10_0).1 (i := at_ b i) (by first|omega|(simp;omega)|assumption|simp) (by first|omega|(simp;omega)|assumption|simp)
   have lo45 := u8_lo in45; have hi45 := u8_hi in45
   refine p_v (v := .int .u8 (at_ ((zap m nilM).of) (at_ b i))) rfl rfl rfl (zaj (seg := [.int .u8 (at_ ((zap m nilM).of) (at_ b i))]) ty5 rfl (by simp) rfl (CF.box (m := 1) (S36.box_at (j := 0) rfl) (cs := (zab (zap m nilM))) (encPart_at ok10_0 (by first|omega|(simp;omega)|assumption|simp) (by first|omega|(simp;omega)|assumption|simp)))) ?_
   obtain ⟨ad46, seg46, a46, rp46, ce46⟩ := za9 (q := at_ ((zap m nilM).of) (at_ b i)) (m := 1) ld32 rfl (by first|omega|(simp;omega)|assumption|simp) (by first|omega|(simp;omega)|assumption|simp)
   refine p_v (v := .pointer (some ad46)) rfl rfl rfl (za8 u39 ty5 rfl rfl a46 (by first|omega|(simp;omega)|assumption|simp) (by first|omega|(simp;omega)|assumption|simp)) ?_
   obtain ⟨rfl, in46⟩ := rp46
   have lo46 := u8_lo in46; have hi46 := u8_hi in46
   refine p_v (v := .int .u8 (at_ (zat (zap m nilM)) (at_ ((zap m nilM).of) (at_ b i)))) rfl rfl rfl (zaj (seg := [.int .u8 (at_ (zat (zap m nilM)) (at_ ((zap m nilM).of) (at_ b i)))]) ty5 rfl (by simp) rfl (CF.ghost ce46 (le36.trans S36.ghost))) ?_
   obtain ⟨ad47, a47, at47⟩ := e_indexB (q := i) S36 (j := 2) rfl (by first|omega|(simp;omega)|assumption|simp) (by first|omega|(simp;omega)|assumption|simp)
   refine p_v (v := .pointer (some ad47)) rfl rfl rfl (zdj u39 ty5 rfl rfl a47 (by first|omega|(simp;omega)|assumption|simp) (by first|omega|(simp;omega)|assumption|simp)) ?_
   obtain ⟨w48, r48, g48, T48⟩ := e_storeB (q := i) (z := at_ (zat (zap m nilM)) (at_ ((zap m nilM).of) (at_ b i))) S36 ty5 (j := 2) rfl (in_u8 (by first|omega|(simp;omega)|assumption|simp) (by first|omega|(simp;omega)|assumption|simp)) at47 (by first|omega|(simp;omega)|assumption|simp) (by first|omega|(simp;omega)|assumption|simp)
   have S49 := T48.fx 2 (rowB 5 v_b (b.set (i).toNat (at_ (zat (zap m nilM)) (at_ ((zap m nilM).of) (at_ b i))))) rfl
   dsimp only [lAa, lAn, lA0, lAs] at S49
   refine p_s rfl rfl (za7 rfl rfl r48) <| zaa <| zas <| zae (l := [0, 1, 2]) rfl <| p_v (v := .int .i64 i) rfl rfl rfl (zah r36_10) <| p_v (v := .int .i64 (i + 1)) rfl rfl rfl (zc7 rfl rfl (zal (by first|omega|(simp;omega)|assumption|simp) (by first|omega|(simp;omega)|assumption|simp))) <| p_v (v := .int .i64 (i + 1)) rfl rfl rfl (zag rfl) <| zaa ?_
   refine ih36 (b.set (i).toNat (at_ (zat (zap m nilM)) (at_ ((zap m nilM).of) (at_ b i))), i + 1) _ _ (by (try simp only [List.length_set]); omega) ⟨h36, v_b, le36, S49.sub [0, 1, 2] (by decide) rfl _ rfl, r36_1, r36_5, r36_6, r36_8, r36_9, rfl, (zal (by first|omega|(simp;omega)|assumption|simp) (by first|omega|(simp;omega)|assumption|simp)), (by exact ⟨by omega, alikeC_step hI36.2 hI36.1 (by omega) (hin_ (by omega)).2.2.1 (hin_ (by omega)).2.2.2⟩)⟩
  refine zbv rfl <| zac <| zae (l := [0, 1, 2, 3, 4, 5, 6, 7]) rfl <| p_v (v := .agg ((zab ((zai m (zap m nilM)).part)) ++ ([.slice A18 ((zai m (zap m nilM)).next).length c18, .slice A20 ((zai m (zap m nilM)).final).length c20] : List Value)).toArray) rfl rfl rfl (zaj (seg := ((zab ((zai m (zap m nilM)).part)) ++ ([.slice A18 ((zai m (zap m nilM)).next).length c18, .slice A20 ((zai m (zap m nilM)).final).length c20] : List Value))) ty35 (zbg (zad ok16_0) rfl) (by simp) r36_6 (CF.box (m := 259) (S36.box_at (j := 1) rfl) (zd4 (zbg (zad ok16_0) rfl)))) <| p_c rfl rfl rfl (za2 (args := [.agg ((zab ((zai m (zap m nilM)).part)) ++ ([.slice A18 ((zai m (zap m nilM)).next).length c18, .slice A20 ((zai m (zap m nilM)).final).length c20] : List Value)).toArray]) ca23 rfl rfl) (notG_calls w36 (zai m (zap m nilM)) ok16_0 A18 c18 (And.intro lc18 cm18) (ld18.mono (((lf32_2).trans le36).trans S36.ghost)) A20 c20 (And.intro lc20 cm20) (ld20.mono (((lf32_3).trans le36).trans S36.ghost)) (by first | assumption | omega)) ?_
  rintro _ w50 ⟨h50, v50_0, us50_1, v50_2, T50, rfl, ok50_0, in50_1⟩
  obtain ⟨k50, lk50, ll50, U50⟩ := zcl S36 T50
  have lc50_0 := (((lf32_0).trans le36)).trans lk50
  have lc50_1 := (((lf32_1).trans le36)).trans lk50
  have lc50_2 := (((lf32_2).trans le36)).trans lk50
  have lc50_3 := (((lf32_3).trans le36)).trans lk50
  have lc50_4 := (((le32).trans le36)).trans lk50
  have lc50_5 := (le36).trans lk50
  have S51 := U50
  dsimp only [lAa, lAn, lA0, lAs] at S51
  have lo_in50_1 := zbb in50_1; have hi_in50_1 := zbc in50_1
  have gl52 := zd5 S51 (j := 4) rfl
  refine p_v (v := .tuple #[.agg ((zab ((notD (zai m (zap m nilM))).part)) ++ ([v50_0, v50_2] : List Value)).toArray, .int .i64 (errD (zai m (zap m nilM)))]) rfl rfl rfl (zah rfl) <| p_v (v := .agg ((zab ((notD (zai m (zap m nilM))).part)) ++ ([v50_0, v50_2] : List Value)).toArray) rfl rfl rfl (zc1 (vs := [.agg ((zab ((notD (zai m (zap m nilM))).part)) ++ ([v50_0, v50_2] : List Value)).toArray, .int .i64 (errD (zai m (zap m nilM)))]) rfl rfl) <| p_v (v := .int .i64 (errD (zai m (zap m nilM)))) rfl rfl rfl (zc1 (vs := [.agg ((zab ((notD (zai m (zap m nilM))).part)) ++ ([v50_0, v50_2] : List Value)).toArray, .int .i64 (errD (zai m (zap m nilM)))]) rfl rfl) ?_
  obtain ⟨b53, w53, r53, g53, T53⟩ := zcb (P := Tryd.prog) S51 35 (v := zv35) ((zab zPart) ++ ([.slice none 0 0, .slice none 0 0] : List Value)) (by kernel_rfl)
  have S54 := T53
  dsimp only [lAa, lAn, lA0, lAs] at S54
  refine p_v (v := .pointer (some ⟨b53, 0, none⟩)) rfl rfl rfl (zch ty35 r53) ?_
  have oc56 := zcx S54 (j := 3) rfl
  have oc57 := zcx S54 (j := 5) rfl
  obtain ⟨w55, r55, g55, T55⟩ := zc9 (P := Tryd.prog) (v := .agg ((zab ((notD (zai m (zap m nilM))).part)) ++ ([v50_0, v50_2] : List Value)).toArray) (vs := ((zab ((notD (zai m (zap m nilM))).part)) ++ ([v50_0, v50_2] : List Value))) (cs := ((zab zPart) ++ ([.slice none 0 0, .slice none 0 0] : List Value))) S54 ty35 rfl (zbg (zad ok50_0) rfl) (zbg (zad (zay)) rfl) (j := 6) rfl (one_app (zb3 _) (zb7 oc56 (zb7 oc57 zdu)))
  have S58 := T55.fx 6 (box b53 35 ((zab ((notD (zai m (zap m nilM))).part)) ++ ([v50_0, v50_2] : List Value))) rfl
  dsimp only [lAa, lAn, lA0, lAs] at S58
  refine p_s rfl rfl (za7 rfl rfl r55) <| p_v (v := .int .i64 (errD (zai m (zap m nilM)))) rfl rfl rfl (zag rfl) <| zaa <| zac <| zac ?_
  have hc59 : ¬ ((errD (zai m (zap m nilM))) ≠ 0) := by
   exact fun h => h (errD_yes har_)
  obtain ⟨A61, c61, ev61, lc61, cm61⟩ := rowB_val S58 (j := 2) rfl
  have sz62 := str_small (xs := b) (Nat.le_trans (And.intro lc61 cm61).1 (And.intro lc61 cm61).2); have bdsz62 := sz62; simp only [maxLen] at bdsz62
  have hf64 : (CFs ⟨b22, 0, none⟩ ((zab ((zai m (zap m nilM)).part)) ++ ([.slice A18 ((zai m (zap m nilM)).next).length c18, .slice A20 ((zai m (zap m nilM)).final).length c20] : List Value))).1 w55 := (CF.box (m := 259) (S58.box_at (j := 1) rfl) (zd4 (zbg (zad ok16_0) rfl)))
  have hf65 : (zdc (Kd.int .i64).slice A18 ((zai m (zap m nilM)).next)).1 w55 := (ld18.mono (lc50_2.trans S58.ghost))
  have hf66 : (zdc Kd.bool A20 ((zai m (zap m nilM)).final)).1 w55 := (ld20.mono (lc50_3.trans S58.ghost))
  have hf67 : (CFs ⟨b22, 0, none⟩ ((zab ((zai m (zap m nilM)).part)) ++ ([.slice A18 ((zai m (zap m nilM)).next).length c18, .slice A20 ((zai m (zap m nilM)).final).length c20] : List Value))).1 w55 := (CF.box (m := 259) (S58.box_at (j := 1) rfl) (zd4 (zbg (zad ok16_0) rfl)))
  have hf68 : (zdc (Kd.int .u8) A61 b).1 w55 := (rowB_leads S58 (j := 2) rfl ev61)
  have hf69 : (zdc (Kd.int .i64).slice A18 ((zai m (zap m nilM)).next)).1 w55 := (ld18.mono (lc50_2.trans S58.ghost))
  have hf70 : (zdc Kd.bool A20 ((zai m (zap m nilM)).final)).1 w55 := (ld20.mono (lc50_3.trans S58.ghost))
  refine daS (hkC 3 hf64 (hkC 5 hf65 (hkC 5 hf66 (hkC 6 hf67 (hkC 8 hf68 (hkC 9 hf69 (hkC 9 hf70 (hkN (w := w55))))))))) 12 rfl mixed ?_
  intro wd71 gd71 hd71
  have S72 := S58.keep gd71
  have hf73 := spUp gd71 hf64
  have hf74 := spUp gd71 hf65
  have hf75 := spUp gd71 hf66
  have hf76 := spUp gd71 hf67
  have hf77 := spUp gd71 hf68
  have hf78 := spUp gd71 hf69
  have hf79 := spUp gd71 hf70
  refine qd0 (i := 0) (v := .int .i64 (errD (zai m (zap m nilM)))) rfl (by decide +kernel) rfl rfl (zah rfl) (zam rfl) <| qd0 (i := 1) (v := .bool (decide ((errD (zai m (zap m nilM))) ≠ 0))) rfl (by decide +kernel) rfl rfl (x_neq rfl rfl) (zam rfl) <| qd0 (i := 2) (v := .bool (decide ((errD (zai m (zap m nilM))) ≠ 0))) rfl (by decide +kernel) rfl rfl (zah rfl) (zam rfl) <| qd1 0 (i := 3) (v := .agg ((zab ((zai m (zap m nilM)).part)) ++ ([.slice A18 ((zai m (zap m nilM)).next).length c18, .slice A20 ((zai m (zap m nilM)).final).length c20] : List Value)).toArray) rfl rfl (by decide +kernel) (wo 2 78 rfl rfl (bF hc59) rfl) rfl (fun wq hq => (zaj (seg := ((zab ((zai m (zap m nilM)).part)) ++ ([.slice A18 ((zai m (zap m nilM)).next).length c18, .slice A20 ((zai m (zap m nilM)).final).length c20] : List Value))) ty35 (zbg (zad ok16_0) rfl) (by simp) r36_6 hq)) (zbz hf73 (zam rfl)) <| qd0 (i := 4) (v := .string xw) rfl (by decide +kernel) (wo 2 78 rfl rfl (bF hc59) rfl) rfl (zah r36_1) (zam rfl) <| d_m (i := 5) (v := .bool (runD (zai m (zap m nilM)) xw)) (fun wf => zbo (Kd.int .i64).slice (hp wf) A18 ((zai m (zap m nilM)).next) ∧ zbo Kd.bool (hp wf) A20 ((zai m (zap m nilM)).final)) (fun _ ho => ⟨ho _ (List.mem_of_getElem? (i := 1) rfl) rfl, ho _ (List.mem_of_getElem? (i := 2) rfl) rfl⟩) rfl (by decide +kernel) (by decide +kernel) (by decide +kernel) (wo 2 78 rfl rfl (bF hc59) rfl) rfl (fun wq => (za2 (args := [.agg ((zab ((zai m (zap m nilM)).part)) ++ ([.slice A18 ((zai m (zap m nilM)).next).length c18, .slice A20 ((zai m (zap m nilM)).final).length c20] : List Value)).toArray, .string xw]) ca24 rfl rfl)) (fun wq hq => (runD_calls wq (zai m (zap m nilM)) ok16_0 A18 c18 (And.intro lc18 cm18) hq.1 A20 c20 (And.intro lc20 cm20) hq.2 xw s1).mono fun e w2 he => by obtain ⟨_, rfl, _, T, rfl⟩ := he; exact ⟨rfl, Chg.of_below T.below⟩) (zbw rfl (zbz hf74 (zbz hf75 (zam rfl)))) <| qd1 3 (i := 6) (v := .agg ((zab ((zai m (zap m nilM)).part)) ++ ([.slice A18 ((zai m (zap m nilM)).next).length c18, .slice A20 ((zai m (zap m nilM)).final).length c20] : List Value)).toArray) rfl rfl (by decide +kernel) (wo 2 78 rfl rfl (bF hc59) rfl) rfl (fun wq hq => (zaj (seg := ((zab ((zai m (zap m nilM)).part)) ++ ([.slice A18 ((zai m (zap m nilM)).next).length c18, .slice A20 ((zai m (zap m nilM)).final).length c20] : List Value))) ty35 (zbg (zad ok16_0) rfl) (by simp) r36_6 hq)) (zbw rfl (zbw rfl (zbw rfl (zbz hf76 (zam rfl))))) <| qd0 (i := 7) (v := v_b) rfl (by decide +kernel) (wo 2 78 rfl rfl (bF hc59) rfl) rfl (zah r36_9) (zam rfl) <| qdn (i := 8) (v := .string (strOfNums b)) (fun wf => zbo (Kd.int .u8) (hp wf) A61 b) (fun _ ho => ho _ (List.mem_of_getElem? (i := 4) rfl) rfl) rfl (by decide +kernel) (wo 2 78 rfl rfl (bF hc59) rfl) rfl (fun wq hq => (x_bytes_string u39 u5 u9 ev61 hq)) (zbw rfl (zbw rfl (zbw rfl (zbw rfl (zbz hf77 (zam rfl)))))) <| d_m (i := 9) (v := .bool (runD (zai m (zap m nilM)) (strOfNums b))) (fun wf => zbo (Kd.int .i64).slice (hp wf) A18 ((zai m (zap m nilM)).next) ∧ zbo Kd.bool (hp wf) A20 ((zai m (zap m nilM)).final)) (fun _ ho => ⟨ho _ (List.mem_of_getElem? (i := 5) rfl) rfl, ho _ (List.mem_of_getElem? (i := 6) rfl) rfl⟩) rfl (by decide +kernel) (by decide +kernel) (by decide +kernel) (wo 2 78 rfl rfl (bF hc59) rfl) rfl (fun wq => (za2 (args := [.agg ((zab ((zai m (zap m nilM)).part)) ++ ([.slice A18 ((zai m (zap m nilM)).next).length c18, .slice A20 ((zai m (zap m nilM)).final).length c20] : List Value)).toArray, .string (strOfNums b)]) ca24 rfl rfl)) (fun wq hq => (runD_calls wq (zai m (zap m nilM)) ok16_0 A18 c18 (And.intro lc18 cm18) hq.1 A20 c20 (And.intro lc20 cm20) hq.2 (strOfNums b) sz62).mono fun e w2 he => by obtain ⟨_, rfl, _, T, rfl⟩ := he; exact ⟨rfl, Chg.of_below T.below⟩) (zbw rfl (zbw rfl (zbw rfl (zbw rfl (zbw rfl (zbz hf78 (zbz hf79 (zam rfl)))))))) <| qd0 (i := 10) (v := .bool (decide ((runD (zai m (zap m nilM)) xw) ≠ (runD (zai m (zap m nilM)) (strOfNums b))))) rfl (by decide +kernel) (wo 2 78 rfl rfl (bF hc59) rfl) rfl (x_neq_bool u4 rfl rfl) (zam rfl) <| qd0 (i := 11) (v := .bool (decide ((runD (zai m (zap m nilM)) xw) ≠ (runD (zai m (zap m nilM)) (strOfNums b))))) rfl (by decide +kernel) rfl rfl (zc2 (bF hc59) rfl) (zam rfl) ?_
  refine zco (by decide +kernel) ?_
  intro wd80 gd80
  have S81 := S72.keep gd80
  have hc82 : ¬ ((runD (zai m (zap m nilM)) xw) ≠ (runD (zai m (zap m nilM)) (strOfNums b))) := by
   exact fun h => h (alikeC_end hap_ har_ hI36.2)
  refine zc3 (b := false) (bF hc82) ?_
  simp only [if_true, if_false, Bool.false_eq_true]
  refine zau <| zac <| zae (l := [0, 1, 2, 3]) rfl <| p_v (v := .agg ((zab ((zai m (zap m nilM)).part)) ++ ([.slice A18 ((zai m (zap m nilM)).next).length c18, .slice A20 ((zai m (zap m nilM)).final).length c20] : List Value)).toArray) rfl rfl rfl (zaj (seg := ((zab ((zai m (zap m nilM)).part)) ++ ([.slice A18 ((zai m (zap m nilM)).next).length c18, .slice A20 ((zai m (zap m nilM)).final).length c20] : List Value))) ty35 (zbg (zad ok16_0) rfl) (by simp) r36_6 (CF.box (m := 259) (S81.box_at (j := 1) rfl) (zd4 (zbg (zad ok16_0) rfl)))) <| p_v (v := .string xw) rfl rfl rfl (zah r36_1) <| p_c rfl rfl rfl (za2 (args := [.agg ((zab ((zai m (zap m nilM)).part)) ++ ([.slice A18 ((zai m (zap m nilM)).next).length c18, .slice A20 ((zai m (zap m nilM)).final).length c20] : List Value)).toArray, .string xw]) ca24 rfl rfl) (runD_calls wd80 (zai m (zap m nilM)) ok16_0 A18 c18 (And.intro lc18 cm18) (ld18.mono (lc50_2.trans S81.ghost)) A20 c20 (And.intro lc20 cm20) (ld20.mono (lc50_3.trans S81.ghost)) xw s1) ?_
  rintro _ w83 ⟨h83, T83, rfl⟩
  have S84 := S81.keep (Chg.of_below T83.below)
  refine p_v (v := .bool (runD (zai m (zap m nilM)) xw)) rfl rfl rfl (zag rfl) <| zaa <| zac <| zac <| zae (l := [0]) rfl <| p_v (v := .int .i64 0) rfl rfl rfl (zag rfl) <| zaa <| zaq <| zbu (S := (List Bool) × (List (List Int)) × Int) (fun (q_ : (List Bool) × (List (List Int)) × Int) ρ w' => match q_ with | (n_2, n_1, i2) => ∃ (h : Ghost) (v_n_2 : Value), Le k50 h ∧ St w.heap.size w h w' [box b22 35 ((zab ((zai m (zap m nilM)).part)) ++ ([.slice A18 ((zai m (zap m nilM)).next).length c18, .slice A20 ((zai m (zap m nilM)).final).length c20] : List Value)), row 23 kRaw v50_0 us50_1, grid 3 (Kd.int .i64) us50_1 n_1, row 4 Kd.bool v_n_2 n_2, box b53 35 ((zab ((notD (zai m (zap m nilM))).part)) ++ ([v50_0, v_n_2] : List Value))] ∧ ρ 1 = .string xw ∧ ρ 6 = .pointer (some ⟨b22, 0, none⟩) ∧ ρ 11 = .pointer (some ⟨b53, 0, none⟩) ∧ ρ 13 = .bool (runD (zai m (zap m nilM)) xw) ∧ ρ 14 = .int .i64 i2 ∧ inK .i64 i2 ∧ (0 ≤ i2 ∧ (n_1.length : Int) = (zai m (zap m nilM)).next.length ∧ (n_2.length : Int) = (zai m (zap m nilM)).next.length)) (fun q_ => match q_ with | (n_2, n_1, i2) => ((zai m (zap m nilM)).next.length - i2).toNat) ((notD (zai m (zap m nilM))).final, (notD (zai m (zap m nilM))).next, 0) ⟨k50, v50_2, Le.refl _, S84.sub [1, 3, 4, 5, 6] (by decide) rfl _ rfl, r36_1, r36_6, rfl, rfl, rfl, (zal (by first|omega|(simp;omega)|assumption|simp) (by first|omega|(simp;omega)|assumption|simp)), (by exact ⟨by omega, by rw [zcg har_], by rw [not_flen har_, hfl_]⟩)⟩ ?_
  rintro ⟨n_2, n_1, i2⟩ ih85 ρ85 w85 ⟨h85, v_n_2, le85, S85, r85_1, r85_6, r85_11, r85_13, r85_14, f85_0, hI85⟩
  have lf85_0 := zbb f85_0; have hf85_0 := zbc f85_0
  have rl85_1 := S85.row_le (j := 1) rfl; simp only [maxLen] at rl85_1
  have gl85_2 := zd5 S85 (j := 2) rfl
  have rl85_3 := S85.row_le (j := 3) rfl; simp only [maxLen] at rl85_3
  refine zac <| zac <| zae (l := [0, 1, 2, 3, 4]) rfl <| p_v (v := .int .i64 i2) rfl rfl rfl (zah r85_14) <| p_v (v := .pointer (some ⟨b53, 257, none⟩)) rfl rfl rfl (zao fd35_1 ty24 rfl r85_11) <| p_v (v := v50_0) rfl rfl rfl (zaj (seg := [v50_0]) ty24 rfl (by simp) rfl (CF.box (m := 1) (S85.box_at (j := 4) rfl) (za5 (a := (zab ((notD (zai m (zap m nilM))).part))) (pre := []) (seg := [v50_0]) (post := [v_n_2]) (zad ok50_0) rfl rfl))) ?_
  have lb86 := S85.row_le (j := 1) rfl; simp only [maxLen] at lb86
  refine p_v (v := .int .i64 (us50_1.length : Int)) rfl rfl rfl (x_len_own u24 rfl (e_len_own S85 (j := 1) rfl)) <| p_v (v := .bool (decide (i2 < (us50_1.length : Int)))) rfl rfl rfl (zdy rfl rfl) <| zaa ?_
  refine zan (p := i2 < (us50_1.length : Int)) rfl (fun hc87 => ?_) (fun hc87 => ?_)
  ·skip
   refine zau <| zac <| zaq <| zac <| zae (l := [0, 1, 2, 3, 4]) rfl <| p_v (v := .pointer (some ⟨b53, 258, none⟩)) rfl rfl rfl (zao fd35_2 ty25 rfl r85_11) <| p_v (v := v_n_2) rfl rfl rfl (zaj (seg := [v_n_2]) ty25 rfl (by simp) rfl (CF.box (m := 1) (S85.box_at (j := 4) rfl) (za5 (a := (zab ((notD (zai m (zap m nilM))).part))) (pre := [v50_0]) (seg := [v_n_2]) (post := []) (zad ok50_0) rfl rfl))) <| p_v (v := .int .i64 i2) rfl rfl rfl (zah r85_14) ?_
   obtain ⟨ad88, a88, at88⟩ := zeb (q := i2) (m := 1) S85 (j := 3) rfl rfl (by first|omega|(simp;omega)|assumption|simp) (by first|omega|(simp;omega)|assumption|simp)
   refine p_v (v := .pointer (some ad88)) rfl rfl rfl (zdj u25 ty4 rfl rfl a88 (by first|omega|(simp;omega)|assumption|simp) (by first|omega|(simp;omega)|assumption|simp)) ?_
   obtain ⟨w89, r89, g89, T89⟩ := e_store_own (u := .bool true) (q := i2) true (vs := [.bool true]) S85 ty4 rfl (j := 3) rfl rfl ⟨rfl, trivial⟩ at88 (by first|omega|(simp;omega)|assumption|simp) (by first|omega|(simp;omega)|assumption|simp)
   have S90 := T89.fx 3 (row 4 Kd.bool v_n_2 (n_2.set (i2).toNat true)) rfl
   dsimp only [lAa, lAn, lA0, lAs] at S90
   refine p_s rfl rfl (za7 rfl rfl r89) <| zaa <| zac <| zae (l := [0]) rfl <| p_v (v := .int .i64 0) rfl rfl rfl (zag rfl) <| zaa <| zaq <| zbu (S := (List (List Int)) × Int) (fun (q_ : (List (List Int)) × Int) ρ w' => match q_ with | (n_12, k) => ∃ (h : Ghost), Le h85 h ∧ St w.heap.size w h w' [box b22 35 ((zab ((zai m (zap m nilM)).part)) ++ ([.slice A18 ((zai m (zap m nilM)).next).length c18, .slice A20 ((zai m (zap m nilM)).final).length c20] : List Value)), row 23 kRaw v50_0 us50_1, grid 3 (Kd.int .i64) us50_1 n_12, row 4 Kd.bool v_n_2 (n_2.set (i2).toNat true), box b53 35 ((zab ((notD (zai m (zap m nilM))).part)) ++ ([v50_0, v_n_2] : List Value))] ∧ ρ 1 = .string xw ∧ ρ 6 = .pointer (some ⟨b22, 0, none⟩) ∧ ρ 11 = .pointer (some ⟨b53, 0, none⟩) ∧ ρ 13 = .bool (runD (zai m (zap m nilM)) xw) ∧ ρ 14 = .int .i64 i2 ∧ ρ 15 = .int .i64 k ∧ inK .i64 k ∧ (0 ≤ k ∧ (n_12.length : Int) = n_1.length ∧ ((at_ n_12 i2).length : Int) = (at_ n_1 i2).length)) (fun q_ => match q_ with | (n_12, k) => ((at_ n_1 i2).length - k).toNat) (n_1, 0) ⟨h85, Le.refl _, S90.sub [0, 1, 2, 3, 4] (by decide) rfl _ rfl, r85_1, r85_6, r85_11, r85_13, r85_14, rfl, (zal (by first|omega|(simp;omega)|assumption|simp) (by first|omega|(simp;omega)|assumption|simp)), (by exact ⟨by omega, rfl, rfl⟩)⟩ ?_
   rintro ⟨n_12, k⟩ ih91 ρ91 w91 ⟨h91, le91, S91, r91_1, r91_6, r91_11, r91_13, r91_14, r91_15, f91_0, hI91⟩
   have lf91_0 := zbb f91_0; have hf91_0 := zbc f91_0
   have rl91_1 := S91.row_le (j := 1) rfl; simp only [maxLen] at rl91_1
   have gl91_2 := zd5 S91 (j := 2) rfl
   have rl91_3 := S91.row_le (j := 3) rfl; simp only [maxLen] at rl91_3
   refine zac <| zac <| zae (l := [0, 1, 2, 3, 4, 5, 6, 7]) rfl <| p_v (v := .int .i64 k) rfl rfl rfl (zah r91_15) <| p_v (v := .pointer (some ⟨b53, 257, none⟩)) rfl rfl rfl (zao fd35_1 ty24 rfl r91_11) <| p_v (v := v50_0) rfl rfl rfl (zaj (seg := [v50_0]) ty24 rfl (by simp) rfl (CF.box (m := 1) (S91.box_at (j := 4) rfl) (za5 (a := (zab ((notD (zai m (zap m nilM))).part))) (pre := []) (seg := [v50_0]) (post := [v_n_2]) (zad ok50_0) rfl rfl))) <| p_v (v := .int .i64 i2) rfl rfl rfl (zah r91_14) ?_
   obtain ⟨ad92, a92, at92⟩ := zeb (q := i2) (m := 1) S91 (j := 1) rfl rfl (by first|omega|(simp;omega)|assumption|simp) (by first|omega|(simp;omega)|assumption|simp)
   refine p_v (v := .pointer (some ad92)) rfl rfl rfl (zdj u24 ty23 rfl rfl a92 (by first|omega|(simp;omega)|assumption|simp) (by first|omega|(simp;omega)|assumption|simp)) ?_
   obtain ⟨seg93, rp93, cf93⟩ := e_load_own (q := i2) S91 (j := 1) rfl rfl at92 (by first|omega|(simp;omega)|assumption|simp) (by first|omega|(simp;omega)|assumption|simp)
   obtain ⟨rfl, _⟩ := rp93
   have T94 := e_focus (q := i2) S91 (j := 2) rfl (by first|omega|(simp;omega)|assumption|simp) (by first|omega|(simp;omega)|assumption|simp)
   have S95 : St w.heap.size w h91 w91 [box b22 35 ((zab ((zai m (zap m nilM)).part)) ++ ([.slice A18 ((zai m (zap m nilM)).next).length c18, .slice A20 ((zai m (zap m nilM)).final).length c20] : List Value)), row 23 kRaw v50_0 us50_1, gridB 3 (Kd.int .i64) us50_1 n_12 i2, row 4 Kd.bool v_n_2 (n_2.set (i2).toNat true), box b53 35 ((zab ((notD (zai m (zap m nilM))).part)) ++ ([v50_0, v_n_2] : List Value)), row 3 (Kd.int .i64) (at_ us50_1 i2) (at_ n_12 i2)] := T94
   refine p_v (v := (at_ us50_1 i2)) rfl rfl rfl (zaj (seg := [(at_ us50_1 i2)]) ty23 rfl (by simp) rfl cf93) ?_
   have lb96 := S95.row_le (j := 5) rfl; simp only [maxLen] at lb96
   refine p_v (v := .int .i64 ((at_ n_12 i2).length : Int)) rfl rfl rfl (x_len_own u23 rfl (e_len_own S95 (j := 5) rfl)) <| p_v (v := .bool (decide (k < ((at_ n_12 i2).length : Int)))) rfl rfl rfl (zdy rfl rfl) <| zaa ?_
   refine zan (p := k < ((at_ n_12 i2).length : Int)) rfl (fun hc97 => ?_) (fun hc97 => ?_)
   ·skip
    refine zau <| zac <| zaq <| zae (l := [0, 1, 2, 3, 4, 5, 6, 7]) rfl <| p_v (v := .pointer (some ⟨b53, 257, none⟩)) rfl rfl rfl (zao fd35_1 ty24 rfl r91_11) <| p_v (v := v50_0) rfl rfl rfl (zaj (seg := [v50_0]) ty24 rfl (by simp) rfl (CF.box (m := 1) (S95.box_at (j := 4) rfl) (za5 (a := (zab ((notD (zai m (zap m nilM))).part))) (pre := []) (seg := [v50_0]) (post := [v_n_2]) (zad ok50_0) rfl rfl))) <| p_v (v := .int .i64 i2) rfl rfl rfl (zah r91_14) ?_
    obtain ⟨ad98, a98, at98⟩ := zeb (q := i2) (m := 1) S95 (j := 1) rfl rfl (by first|omega|(simp;omega)|assumption|simp) (by first|omega|(simp;omega)|assumption|simp)
    refine p_v (v := .pointer (some ad98)) rfl rfl rfl (zdj u24 ty23 rfl rfl a98 (by first|omega|(simp;omega)|assumption|simp) (by first|omega|(simp;omega)|assumption|simp)) ?_
    obtain ⟨seg99, rp99, cf99⟩ := e_load_own (q := i2) S95 (j := 1) rfl rfl at98 (by first|omega|(simp;omega)|assumption|simp) (by first|omega|(simp;omega)|assumption|simp)
    obtain ⟨rfl, _⟩ := rp99
    refine p_v (v := (at_ us50_1 i2)) rfl rfl rfl (zaj (seg := [(at_ us50_1 i2)]) ty23 rfl (by simp) rfl cf99) <| p_v (v := .int .i64 k) rfl rfl rfl (zah r91_15) ?_
    obtain ⟨ad100, a100, at100⟩ := zeb (q := k) (m := 1) S95 (j := 5) rfl rfl (by first|omega|(simp;omega)|assumption|simp) (by first|omega|(simp;omega)|assumption|simp)
    refine p_v (v := .pointer (some ad100)) rfl rfl rfl (zdj u23 ty3 rfl rfl a100 (by first|omega|(simp;omega)|assumption|simp) (by first|omega|(simp;omega)|assumption|simp)) ?_
    obtain ⟨w101, r101, g101, T101⟩ := e_store_own (u := .int .i64 0) (q := k) 0 (vs := [.int .i64 0]) S95 ty3 rfl (j := 5) rfl rfl ⟨rfl, (zal (by first|omega|(simp;omega)|assumption|simp) (by first|omega|(simp;omega)|assumption|simp))⟩ at100 (by first|omega|(simp;omega)|assumption|simp) (by first|omega|(simp;omega)|assumption|simp)
    have S102 := T101.fx 5 (row 3 (Kd.int .i64) (at_ us50_1 i2) ((at_ n_12 i2).set (k).toNat 0)) rfl
    dsimp only [lAa, lAn, lA0, lAs] at S102
    refine p_s rfl rfl (za7 rfl rfl r101) <| zaa <| zas <| zae (l := [0, 1, 2]) rfl <| p_v (v := .int .i64 k) rfl rfl rfl (zah r91_15) <| p_v (v := .int .i64 (k + 1)) rfl rfl rfl (zc7 rfl rfl (zal (by first|omega|(simp;omega)|assumption|simp) (by first|omega|(simp;omega)|assumption|simp))) <| p_v (v := .int .i64 (k + 1)) rfl rfl rfl (zag rfl) <| zaa ?_
    have T103 := e_close (q := i2) S102 (j := 2) (i := 5) rfl rfl (by decide) (by first|omega|(simp;omega)|assumption|simp) (by first|omega|(simp;omega)|assumption|simp)
    have S104 : St w.heap.size w h91 w101 [box b22 35 ((zab ((zai m (zap m nilM)).part)) ++ ([.slice A18 ((zai m (zap m nilM)).next).length c18, .slice A20 ((zai m (zap m nilM)).final).length c20] : List Value)), row 23 kRaw v50_0 us50_1, grid 3 (Kd.int .i64) us50_1 (n_12.set (i2).toNat ((at_ n_12 i2).set (k).toNat 0)), row 4 Kd.bool v_n_2 (n_2.set (i2).toNat true), box b53 35 ((zab ((notD (zai m (zap m nilM))).part)) ++ ([v50_0, v_n_2] : List Value)), emp] := T103
    have gl105 := zd5 S104 (j := 2) rfl
    have gx106 : (n_12.set (i2).toNat ((at_ n_12 i2).set (k).toNat 0)).length = n_12.length := List.length_set
    have gx106_ : at_ (n_12.set (i2).toNat ((at_ n_12 i2).set (k).toNat 0)) i2 = ((at_ n_12 i2).set (k).toNat 0) := at_set_self (by first|omega|(simp;omega)|assumption|simp) (by skip; first|omega|(simp;omega)|assumption|simp)
    refine ih91 (n_12.set (i2).toNat ((at_ n_12 i2).set (k).toNat 0), k + 1) _ _ (by dsimp only; omega) ⟨h91, le91, S104.sub [0, 1, 2, 3, 4] (by decide) rfl _ rfl, r91_1, r91_6, r91_11, r91_13, r91_14, rfl, (zal (by first|omega|(simp;omega)|assumption|simp) (by first|omega|(simp;omega)|assumption|simp)), (by exact ⟨by omega, by rw [List.length_set]; exact hI91.2.1, by rw [at_set_self hI85.1 (by omega), List.length_set]; exact hI91.2.2⟩)⟩
   refine zbv rfl <| zas <| zae (l := [0, 1, 2]) rfl <| p_v (v := .int .i64 i2) rfl rfl rfl (zah r91_14) <| p_v (v := .int .i64 (i2 + 1)) rfl rfl rfl (zc7 rfl rfl (zal (by first|omega|(simp;omega)|assumption|simp) (by first|omega|(simp;omega)|assumption|simp))) <| p_v (v := .int .i64 (i2 + 1)) rfl rfl rfl (zag rfl) <| zaa ?_
   have T107 := e_close0 (q := i2) S95 (j := 2) (i := 5) rfl rfl (by decide) (by first|omega|(simp;omega)|assumption|simp) (by first|omega|(simp;omega)|assumption|simp)
   have S108 : St w.heap.size w h91 w91 [box b22 35 ((zab ((zai m (zap m nilM)).part)) ++ ([.slice A18 ((zai m (zap m nilM)).next).length c18, .slice A20 ((zai m (zap m nilM)).final).length c20] : List Value)), row 23 kRaw v50_0 us50_1, grid 3 (Kd.int .i64) us50_1 n_12, row 4 Kd.bool v_n_2 (n_2.set (i2).toNat true), box b53 35 ((zab ((notD (zai m (zap m nilM))).part)) ++ ([v50_0, v_n_2] : List Value)), emp] := T107
   have gl109 := zd5 S108 (j := 2) rfl
   refine ih85 (n_2.set (i2).toNat true, n_12, i2 + 1) _ _ (by dsimp only; omega) ⟨h91, v_n_2, ((le85).trans le91), S108.sub [0, 1, 2, 3, 4] (by decide) rfl _ rfl, r91_1, r91_6, r91_11, r91_13, rfl, (zal (by first|omega|(simp;omega)|assumption|simp) (by first|omega|(simp;omega)|assumption|simp)), (by exact ⟨by omega, by omega, by rw [List.length_set]; exact hI85.2.2⟩)⟩
  refine zbv rfl <| zac <| zae (l := [0, 1, 2, 3, 4, 5, 6, 7, 8]) rfl <| p_v (v := .agg ((zab ((zai m (zap m nilM)).part)) ++ ([.slice A18 ((zai m (zap m nilM)).next).length c18, .slice A20 ((zai m (zap m nilM)).final).length c20] : List Value)).toArray) rfl rfl rfl (zaj (seg := ((zab ((zai m (zap m nilM)).part)) ++ ([.slice A18 ((zai m (zap m nilM)).next).length c18, .slice A20 ((zai m (zap m nilM)).final).length c20] : List Value))) ty35 (zbg (zad ok16_0) rfl) (by simp) r85_6 (CF.box (m := 259) (S85.box_at (j := 0) rfl) (zd4 (zbg (zad ok16_0) rfl)))) <| p_v (v := .string xw) rfl rfl rfl (zah r85_1) <| p_c rfl rfl rfl (za2 (args := [.agg ((zab ((zai m (zap m nilM)).part)) ++ ([.slice A18 ((zai m (zap m nilM)).next).length c18, .slice A20 ((zai m (zap m nilM)).final).length c20] : List Value)).toArray, .string xw]) ca24 rfl rfl) (runD_calls w85 (zai m (zap m nilM)) ok16_0 A18 c18 (And.intro lc18 cm18) (ld18.mono (((lc50_2).trans le85).trans S85.ghost)) A20 c20 (And.intro lc20 cm20) (ld20.mono (((lc50_3).trans le85).trans S85.ghost)) xw s1) ?_
  rintro _ w110 ⟨h110, T110, rfl⟩
  have S111 := S85.keep (Chg.of_below T110.below)
  refine p_v (v := .bool (runD (zai m (zap m nilM)) xw)) rfl rfl rfl (zah r85_13) <| p_v (v := .bool (decide ((runD (zai m (zap m nilM)) xw) = (runD (zai m (zap m nilM)) xw)))) rfl rfl rfl (x_eql_bool u4 rfl rfl) <| p_v (v := .bool (decide ((runD (zai m (zap m nilM)) xw) = (runD (zai m (zap m nilM)) xw)))) rfl rfl rfl (zah rfl) ?_
  have hc112 : ((runD (zai m (zap m nilM)) xw) = (runD (zai m (zap m nilM)) xw)) := by
   rfl
  refine p_c rfl (wo 5 124 rfl rfl (bT hc112) rfl) rfl (za2 (args := []) ca19 rfl rfl) (awake11_calls w110  (Block.st S111 tb)) ?_
  rintro _ w113 ⟨h113, T113, rfl⟩
  have S114 := S111.keep (Chg.of_below T113.below)
  refine p_v (v := .bool true) rfl rfl rfl (zby (bT hc112) rfl) <| p_v (v := .bool true) rfl rfl rfl (zag rfl) <| zaa <| zar Tryd.func3 (res1 rfl (zaw (v := .bool true) rfl)) ?_
  have q0 : (true : Bool) = true := rfl
  refine ⟨_, rfl, h85, ?_, ?_⟩
  · exact S114.sub [] (by decide) rfl _ rfl
  · rfl
 refine zbi rfl (wo 3 19 rfl rfl (congrArg (fun z => Value.bool (!z)) hc5) rfl) rfl <| zbi rfl (wo 3 19 rfl rfl (congrArg (fun z => Value.bool (!z)) hc5) rfl) rfl <| zbi rfl (wo 3 19 rfl rfl (congrArg (fun z => Value.bool (!z)) hc5) rfl) rfl <| p_v (v := .bool true) rfl rfl rfl (zby (congrArg (fun z => Value.bool (!z)) hc5) rfl) <| zaa <| zc3 (b := true) rfl ?_
 simp only [if_true, if_false, Bool.false_eq_true]
 refine zac <| zae (l := [0, 1]) rfl <| p_c rfl rfl rfl (za2 (args := []) ca19 rfl rfl) (awake11_calls w3  (Block.st S4 tb)) ?_
 rintro _ w116 ⟨h116, T116, rfl⟩
 have S117 := S4.keep (Chg.of_below T116.below)
 refine p_v (v := .bool true) rfl rfl rfl (zag rfl) <| zaa <| zar Tryd.func3 (res1 rfl (zaw (v := .bool true) rfl)) ?_
 have q0 : (true : Bool) = true := rfl
 refine ⟨_, rfl, (fun _ => none), ?_, ?_⟩
 · exact S117.sub [] (by decide) rfl _ rfl
 · rfl
end Go.Proofs.YtfoemogojbnfhaaDoor
namespace Go.Proofs.YtfoemogojbnfhaaDoor
open Go Go.ChangeShapes Go.WideShapes Go.ChangeAt Go.RowKit Gx
set_option linter.unusedVariables false
theorem own : ownKnob Tryd.prog.godebug = none := by kernel_rfl
theorem laidOut : laidOutB Tryd.prog = true := by kernel_rfl
def laid : List (String × DataW Unit) := [("math/bits.deBruijn64tab", Rows.laid_math_bits_deBruijn64tab)]
theorem gTab : Tryd.prog.globalNamed "math/bits.deBruijn64tab" = some 0 := by kernel_rfl
theorem tTab : (Tryd.prog.globals[0]?).map (·.type) = some 222 := by kernel_rfl
theorem door_met (os : Os) (args : Array Value) : laidMetH Tryd.prog laid ((World.doorLaid Tryd.prog 4000 os).forCall (fun _ _ => 0) ⟨#[], args, []⟩).memory :=
  laidMetH_of_parts3 (fuel := 8) (laidMet_of_run' 8 (by kernel_rfl) (by kernel_rfl)) (by kernel_rfl) (by kernel_rfl)
set_option maxRecDepth 20000 in
theorem tab_of_laid {W : World} (h : laidMetH Tryd.prog laid W) : Block 0 tzTab W := by
  rw [MakeChecks.laidMetH_plain _ _ _ (by kernel_rfl)] at h
  obtain ⟨ps, ⟨g0, t0, cs0, f0, p0, q0, hg0, ht0, hv0, hd0, _⟩, _, _⟩ := h
  obtain rfl := Option.some.inj (gTab.symm.trans hg0)
  obtain rfl := Option.some.inj (tTab.symm.trans ht0)
  obtain ⟨xs, m, _, hx, hl, hn, hel⟩ := DataW.trod_array (n := 64) (e := 5) (by kernel_rfl) hd0
  have c5 : Tryd.prog.cellsOf 5 = 1 := by kernel_rfl
  have c70 : Tryd.prog.cellsOf 222 = 64 := by kernel_rfl
  rw [c70] at hl
  intro j hj
  have hj64 : j < 64 := hj
  rw [World.var?_cell hg0 hv0 j]
  have h2 := hel j hj64
  rw [c5, Nat.mul_one, List.getElem?_eq_getElem (by omega)] at h2
  obtain ⟨z, hz, hzx, _⟩ := DataW.trod_int (k := .u8) (by kernel_rfl) h2
  have h3 := congrArg (fun l : List Value => l[0]?) hz
  simp only [List.getElem?_take, List.getElem?_drop, List.getElem?_cons_zero, Nat.add_zero] at h3
  have h4 : cs0[j]? = some (.int .u8 z) := by rw [← Array.getElem?_toList]; simpa using h3
  rw [h4]
  simp only [Prod.mk.injEq] at hx
  have h6 : (xs.map (·.1))[j]? = some (.lit (.int .u8 z)) := by rw [List.getElem?_map, List.getElem?_eq_getElem (by omega), Option.map_some, hzx]
  have h7 : Rows.laid_math_bits_deBruijn64tab (H := Unit) = .agg (tzTab.map fun v => match v with | .int k n => .lit (.int k n) | _ => .nil) := by kernel_rfl
  rw [h7] at hx
  injection hx.1 with h8
  rw [← h8] at h6
  have h9 : ∀ j, j < 64 → ∃ n, tzTab[j]? = some (.int .u8 n) := fun j hj => ⟨_, by unfold tzTab; rw [List.getElem?_map, List.getElem?_eq_getElem (by exact hj)]; rfl⟩
  obtain ⟨n, hn9⟩ := h9 j hj64
  rw [List.getElem?_map, hn9] at h6
  simp at h6
  rw [hn9, h6]
end Go.Proofs.YtfoemogojbnfhaaDoor
