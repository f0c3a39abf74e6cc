/- My own library for walks through the translated code, and the walks of the functions that the law DfaBuilds comes to, part 7; no conditions but those that each contract tells. -/
import Derived.ProofKit
import Derived.OpenShut
import Derived.ShutString
import Derived.ChangeOld
import Derived.Below
import Derived.DataElems
import Derived.Test.YtfoemogojbnfhaaDoorTie
import Derived.Test.YtfoemogojbnfhaaDoorCards
import Derived.LaidMore
import Derived.Stop.Joined
import Derived.MakeChecks
import Derived.Test.YtfoemogojbnfhaaDoorLDfaBuilds5
namespace Go.Proofs.YtfoemogojbnfhaaDoor
open Go Go.RowKit Gx
set_option maxHeartbeats 1000000
set_option linter.unusedVariables false
set_option linter.unusedSimpArgs false
set_option maxRecDepth 8000
attribute [local irreducible] zcf count first has zb6 wbits Lib.ctz badQ zee zcm goD runD notD errD notTo zce zdq howB zek zbt errO zca nextC outTo readTo rowIn zdr lastB zam zd7 zaf errB zfb madeM allM bfs zcn putB beginB okB zds zbs rowOk tab markP intoP behindP runTo endsIn runM zep mayP zdt stepP mayTo anyTo allTo zdx zd4 smallTo overM lettersP zai zeo
theorem dfaBuilds_calls (w : World) (m : Mach) (A0_0 : Option Addr) (c0_0 : Nat) (b0_0 : m.spots.length ≤ c0_0 ∧ c0_0 ≤ maxLen) (l0_0 : zbe zel (hp w) A0_0 m.spots) (A0_1 : Option Addr) (c0_1 : Nat) (b0_1 : m.first.length ≤ c0_1 ∧ c0_1 ≤ maxLen) (l0_1 : zbe (Kd.int .i64) (hp w) A0_1 m.first) (A0_2 : Option Addr) (c0_2 : Nat) (b0_2 : m.follow.length ≤ c0_2 ∧ c0_2 ≤ maxLen) (l0_2 : zbe (Kd.int .i64).slice (hp w) A0_2 m.follow) (A0_3 : Option Addr) (c0_3 : Nat) (b0_3 : m.last.length ≤ c0_3 ∧ c0_3 ≤ maxLen) (l0_3 : zbe Kd.bool (hp w) A0_3 m.last) (other : Mach) (A1_0 : Option Addr) (c1_0 : Nat) (b1_0 : other.spots.length ≤ c1_0 ∧ c1_0 ≤ maxLen) (l1_0 : zbe zel (hp w) A1_0 other.spots) (A1_1 : Option Addr) (c1_1 : Nat) (b1_1 : other.first.length ≤ c1_1 ∧ c1_1 ≤ maxLen) (l1_1 : zbe (Kd.int .i64) (hp w) A1_1 other.first) (A1_2 : Option Addr) (c1_2 : Nat) (b1_2 : other.follow.length ≤ c1_2 ∧ c1_2 ≤ maxLen) (l1_2 : zbe (Kd.int .i64).slice (hp w) A1_2 other.follow) (A1_3 : Option Addr) (c1_3 : Nat) (b1_3 : other.last.length ≤ c1_3 ∧ c1_3 ≤ maxLen) (l1_3 : zbe Kd.bool (hp w) A1_3 other.last) (how : Int) (i2 : inK .u8 how) (p : PartM) (o3 : okPart p) (tb : zex 0 tzTab w) :
    Calls Tryd.prog 4 #[.agg #[.slice A0_0 m.spots.length c0_0, .slice A0_1 m.first.length c0_1, .slice A0_2 m.follow.length c0_2, .slice A0_3 m.last.length c0_3, .bool m.empty], .agg #[.slice A1_0 other.spots.length c1_0, .slice A1_1 other.first.length c1_1, .slice A1_2 other.follow.length c1_2, .slice A1_3 other.last.length c1_3, .bool other.empty], .int .u8 how, .agg (zac p).toArray] w fun e w' => ∃ v, e = .returned v ∧ ∃ (hn : Ghost), St w.heap.size w hn w' [] ∧ v = .bool true := by
 refine zaq Tryd.func4 rfl Tryd.ntmps4 rfl ?_
 have S0 := St.init w
 have bb0_0 := b0_0.1; have bc0_0 := b0_0.2; simp only [maxLen] at bc0_0
 have bb0_1 := b0_1.1; have bc0_1 := b0_1.2; simp only [maxLen] at bc0_1
 have bb0_2 := b0_2.1; have bc0_2 := b0_2.2; simp only [maxLen] at bc0_2
 have bb0_3 := b0_3.1; have bc0_3 := b0_3.2; simp only [maxLen] at bc0_3
 have bb1_0 := b1_0.1; have bc1_0 := b1_0.2; simp only [maxLen] at bc1_0
 have bb1_1 := b1_1.1; have bc1_1 := b1_1.2; simp only [maxLen] at bc1_1
 have bb1_2 := b1_2.1; have bc1_2 := b1_2.2; simp only [maxLen] at bc1_2
 have bb1_3 := b1_3.1; have bc1_3 := b1_3.2; simp only [maxLen] at bc1_3
 have lo2 := zeu i2; have hi2 := zfa i2
 have ploo3 := za7 o3.2; have phio3 := za8 o3.2
 refine zab <| zad (l := [0, 1, 2, 3]) rfl ?_
 obtain ⟨b11, w11, r11, g11, T11⟩ := zb2 (P := Tryd.prog) S0 27 (v := .agg #[.slice A0_0 m.spots.length c0_0, .slice A0_1 m.first.length c0_1, .slice A0_2 m.follow.length c0_2, .slice A0_3 m.last.length c0_3, .bool m.empty]) [.slice A0_0 m.spots.length c0_0, .slice A0_1 m.first.length c0_1, .slice A0_2 m.follow.length c0_2, .slice A0_3 m.last.length c0_3, .bool m.empty] rfl
 have S12 := T11
 dsimp only [lAa, lAn, lA0, lAs] at S12
 refine p_v (v := .pointer (some ⟨b11, 0, none⟩)) rfl rfl rfl (zc8 rfl r11) ?_
 obtain ⟨b13, w13, r13, g13, T13⟩ := zb2 (P := Tryd.prog) S12 27 (v := .agg #[.slice A1_0 other.spots.length c1_0, .slice A1_1 other.first.length c1_1, .slice A1_2 other.follow.length c1_2, .slice A1_3 other.last.length c1_3, .bool other.empty]) [.slice A1_0 other.spots.length c1_0, .slice A1_1 other.first.length c1_1, .slice A1_2 other.follow.length c1_2, .slice A1_3 other.last.length c1_3, .bool other.empty] rfl
 have S14 := T13
 dsimp only [lAa, lAn, lA0, lAs] at S14
 refine p_v (v := .pointer (some ⟨b13, 0, none⟩)) rfl rfl rfl (zc8 rfl r13) ?_
 obtain ⟨b15, w15, r15, g15, T15⟩ := zb2 (P := Tryd.prog) S14 32 (v := .agg (zac p).toArray) (zac p) rfl
 have S16 := T15
 dsimp only [lAa, lAn, lA0, lAs] at S16
 refine p_v (v := .pointer (some ⟨b15, 0, none⟩)) rfl rfl rfl (zc8 rfl r15) <| p_v (v := .bool false) rfl rfl rfl (zah rfl) <| zaa <| zab <| zab <| zad (l := [0, 1, 2, 3, 4, 5, 6, 7]) rfl <| p_v (v := .agg #[.slice A0_0 m.spots.length c0_0, .slice A0_1 m.first.length c0_1, .slice A0_2 m.follow.length c0_2, .slice A0_3 m.last.length c0_3, .bool m.empty]) rfl rfl rfl (zal (seg := [.slice A0_0 m.spots.length c0_0, .slice A0_1 m.first.length c0_1, .slice A0_2 m.follow.length c0_2, .slice A0_3 m.last.length c0_3, .bool m.empty]) ty27 rfl (by simp) rfl (CF.box (m := 5) (S16.box_at (j := 0) rfl) rfl)) <| p_c rfl rfl rfl (za6 (args := [.agg #[.slice A0_0 m.spots.length c0_0, .slice A0_1 m.first.length c0_1, .slice A0_2 m.follow.length c0_2, .slice A0_3 m.last.length c0_3, .bool m.empty]]) ca18 rfl rfl) (small11_calls w15 m A0_0 c0_0 b0_0 (l0_0.mono (St.le0 S16)) A0_1 c0_1 b0_1 (l0_1.mono (St.le0 S16)) A0_2 c0_2 b0_2 (l0_2.mono (St.le0 S16)) A0_3 c0_3 b0_3 (l0_3.mono (St.le0 S16))) ?_
 rintro _ w17 ⟨h17, T17, rfl⟩
 have S18 := S16.keep (Chg.of_below T17.below)
 refine p_v (v := .bool (!(zd4 m))) rfl rfl rfl (ze2 rfl) <| p_v (v := .bool (!(zd4 m))) rfl rfl rfl (zag rfl) ?_
 rcases Bool.eq_false_or_eq_true (zd4 m) with hc19 | hc19
 ·skip
  have hs1_ := smallM_of hc19; have hal_ := build_len (p := zai m other) (m := m) (by omega)
  refine p_v (v := .agg #[.slice A1_0 other.spots.length c1_0, .slice A1_1 other.first.length c1_1, .slice A1_2 other.follow.length c1_2, .slice A1_3 other.last.length c1_3, .bool other.empty]) rfl (wo 3 27 rfl rfl (congrArg (fun z => Value.bool (!z)) hc19) rfl) rfl (zal (seg := [.slice A1_0 other.spots.length c1_0, .slice A1_1 other.first.length c1_1, .slice A1_2 other.follow.length c1_2, .slice A1_3 other.last.length c1_3, .bool other.empty]) ty27 rfl (by simp) rfl (CF.box (m := 5) (S18.box_at (j := 1) rfl) rfl)) <| p_c rfl (wo 3 27 rfl rfl (congrArg (fun z => Value.bool (!z)) hc19) rfl) rfl (za6 (args := [.agg #[.slice A1_0 other.spots.length c1_0, .slice A1_1 other.first.length c1_1, .slice A1_2 other.follow.length c1_2, .slice A1_3 other.last.length c1_3, .bool other.empty]]) ca18 rfl rfl) (small11_calls w17 other A1_0 c1_0 b1_0 (l1_0.mono (St.le0 S18)) A1_1 c1_1 b1_1 (l1_1.mono (St.le0 S18)) A1_2 c1_2 b1_2 (l1_2.mono (St.le0 S18)) A1_3 c1_3 b1_3 (l1_3.mono (St.le0 S18))) ?_
  rintro _ w20 ⟨h20, T20, rfl⟩
  have S21 := S18.keep (Chg.of_below T20.below)
  refine p_v (v := .bool (!(zd4 other))) rfl (wo 3 27 rfl rfl (congrArg (fun z => Value.bool (!z)) hc19) rfl) rfl (ze2 rfl) <| p_v (v := .bool (!(zd4 other))) rfl rfl rfl (zbk (congrArg (fun z => Value.bool (!z)) hc19) rfl) <| zaa ?_
  refine zch (b := zd4 other) rfl (fun hc22 => ?_) (fun hc22 => ?_)
  ·skip
   refine zab <| zad (l := [0, 1]) rfl <| p_c rfl rfl rfl (za6 (args := []) ca19 rfl rfl) (zei w20  (zex.st S21 tb)) ?_
   rintro _ w23 ⟨h23, T23, rfl⟩
   have S24 := S21.keep (Chg.of_below T23.below)
   refine p_v (v := .bool true) rfl rfl rfl (zah rfl) <| zaa <| zar Tryd.func4 (res1 rfl (zax (v := .bool true) rfl)) ?_
   have q0 : (true : Bool) = true := rfl
   refine ⟨_, rfl, (fun _ => none), ?_, ?_⟩
   · exact S24.sub [] (by decide) rfl _ rfl
   · rfl
  have hs2_ := smallM_of hc22; have hbl_ := build_len (p := zai m other) (m := other) (by omega); have hlb_ := leastB_le (zai m other)
  refine zau <| zab <| zad (l := [0, 1, 2, 3, 4]) rfl <| p_v (v := .agg #[.slice A0_0 m.spots.length c0_0, .slice A0_1 m.first.length c0_1, .slice A0_2 m.follow.length c0_2, .slice A0_3 m.last.length c0_3, .bool m.empty]) rfl rfl rfl (zal (seg := [.slice A0_0 m.spots.length c0_0, .slice A0_1 m.first.length c0_1, .slice A0_2 m.follow.length c0_2, .slice A0_3 m.last.length c0_3, .bool m.empty]) ty27 rfl (by simp) rfl (CF.box (m := 5) (S21.box_at (j := 0) rfl) rfl)) <| p_v (v := .agg #[.slice A1_0 other.spots.length c1_0, .slice A1_1 other.first.length c1_1, .slice A1_2 other.follow.length c1_2, .slice A1_3 other.last.length c1_3, .bool other.empty]) rfl rfl rfl (zal (seg := [.slice A1_0 other.spots.length c1_0, .slice A1_1 other.first.length c1_1, .slice A1_2 other.follow.length c1_2, .slice A1_3 other.last.length c1_3, .bool other.empty]) ty27 rfl (by simp) rfl (CF.box (m := 5) (S21.box_at (j := 1) rfl) rfl)) <| p_c rfl rfl rfl (za6 (args := [.agg #[.slice A0_0 m.spots.length c0_0, .slice A0_1 m.first.length c0_1, .slice A0_2 m.follow.length c0_2, .slice A0_3 m.last.length c0_3, .bool m.empty], .agg #[.slice A1_0 other.spots.length c1_0, .slice A1_1 other.first.length c1_1, .slice A1_2 other.follow.length c1_2, .slice A1_3 other.last.length c1_3, .bool other.empty]]) ca20 rfl rfl) (parted_calls w20 m A0_0 c0_0 b0_0 (l0_0.mono (St.le0 S21)) A0_1 c0_1 b0_1 (l0_1.mono (St.le0 S21)) A0_2 c0_2 b0_2 (l0_2.mono (St.le0 S21)) A0_3 c0_3 b0_3 (l0_3.mono (St.le0 S21)) other A1_0 c1_0 b1_0 (l1_0.mono (St.le0 S21)) A1_1 c1_1 b1_1 (l1_1.mono (St.le0 S21)) A1_2 c1_2 b1_2 (l1_2.mono (St.le0 S21)) A1_3 c1_3 b1_3 (l1_3.mono (St.le0 S21)) (by first | assumption | exact ⟨by omega, by omega⟩)) ?_
  rintro _ w26 ⟨h26, T26, rfl, ok26_0⟩
  have S27 := S21.keep (Chg.of_below T26.below)
  obtain ⟨b28, w28, r28, g28, T28⟩ := zb2 (P := Tryd.prog) S27 32 (v := zv32) (zac zPart) (by kernel_rfl)
  have S29 := T28
  dsimp only [lAa, lAn, lA0, lAs] at S29
  refine p_v (v := .pointer (some ⟨b28, 0, none⟩)) rfl rfl rfl (zcj ty32 r28) ?_
  obtain ⟨w30, r30, g30, T30⟩ := zcb (P := Tryd.prog) (off := 0) (v := .agg (zac (zai m other)).toArray) (vs := (zac (zai m other))) S29 ty32 rfl (zae ok26_0) (j := 3) rfl (by rw [zae (zay)]; decide) (zbu _)
  rw [lput_all (by rw [zae ok26_0, zae (zay)])] at T30
  have S31 := T30.fx 3 (box b28 32 (zac (zai m other))) rfl
  dsimp only [lAa, lAn, lA0, lAs] at S31
  refine p_s rfl rfl (zbh rfl rfl r30) <| zaa <| zab <| zad (l := [0, 1, 2, 3, 4, 5, 6, 7, 8]) rfl <| p_v (v := .agg #[.slice A0_0 m.spots.length c0_0, .slice A0_1 m.first.length c0_1, .slice A0_2 m.follow.length c0_2, .slice A0_3 m.last.length c0_3, .bool m.empty]) rfl rfl rfl (zal (seg := [.slice A0_0 m.spots.length c0_0, .slice A0_1 m.first.length c0_1, .slice A0_2 m.follow.length c0_2, .slice A0_3 m.last.length c0_3, .bool m.empty]) ty27 rfl (by simp) rfl (CF.box (m := 5) (S31.box_at (j := 0) rfl) rfl)) <| p_v (v := .agg (zac (zai m other)).toArray) rfl rfl rfl (zal (seg := (zac (zai m other))) ty32 (zae ok26_0) (by simp) rfl (CF.box (m := 257) (S31.box_at (j := 3) rfl) (by rw [List.drop_zero, List.take_of_length_le (by rw [zae ok26_0]; exact Nat.le_refl _)]))) <| p_c rfl rfl rfl (za6 (args := [.agg #[.slice A0_0 m.spots.length c0_0, .slice A0_1 m.first.length c0_1, .slice A0_2 m.follow.length c0_2, .slice A0_3 m.last.length c0_3, .bool m.empty], .agg (zac (zai m other)).toArray, .pointer none]) ca21 rfl rfl) (build_calls w30 m A0_0 c0_0 b0_0 (l0_0.mono (St.le0 S31)) A0_1 c0_1 b0_1 (l0_1.mono (St.le0 S31)) A0_2 c0_2 b0_2 (l0_2.mono (St.le0 S31)) A0_3 c0_3 b0_3 (l0_3.mono (St.le0 S31)) (zai m other) ok26_0 () (by first | assumption | omega | decide) (zex.st S31 tb)) ?_
  rintro _ w32 ⟨h32, v32_0, v32_1, T32, rfl, ok32_0, in32_1⟩
  obtain ⟨k32, lk32, ll32, U32⟩ := zci S31 T32
  have S33 := U32
  dsimp only [lAa, lAn, lA0, lAs] at S33
  have lo_in32_1 := za7 in32_1; have hi_in32_1 := za8 in32_1
  obtain ⟨h34, le34, T34, rp34⟩ := S33.freeze (i := 4) rfl
  have lf34_0 := (lk32).trans le34
  have S35 := T34.fx 4 (emp) rfl
  dsimp only [lAa, lAn, lA0, lAs] at S35
  obtain ⟨A34, c34, e34, lc34, cm34, ld34⟩ := rp34
  injection e34 with e34 _; subst e34
  have cn34 := cm34; simp only [maxLen] at cn34
  obtain ⟨h36, le36, T36, rp36⟩ := S35.freeze (i := 5) rfl
  have lf36_0 := (lf34_0).trans le36
  have lf36_1 := (le34).trans le36
  have S37 := T36.fx 5 (emp) rfl
  dsimp only [lAa, lAn, lA0, lAs] at S37
  obtain ⟨A36, c36, e36, lc36, cm36, ld36⟩ := rp36
  injection e36 with e36 _; subst e36
  have cn36 := cm36; simp only [maxLen] at cn36
  refine p_v (v := .tuple #[.agg ((zac ((zaf m (zai m other)).part)) ++ ([.slice A34 ((zaf m (zai m other)).next).length c34, .slice A36 ((zaf m (zai m other)).final).length c36] : List Value)).toArray, .int .i64 (errB m (zai m other))]) rfl rfl rfl (zag rfl) <| p_v (v := .agg ((zac ((zaf m (zai m other)).part)) ++ ([.slice A34 ((zaf m (zai m other)).next).length c34, .slice A36 ((zaf m (zai m other)).final).length c36] : List Value)).toArray) rfl rfl rfl (zcs (vs := [.agg ((zac ((zaf m (zai m other)).part)) ++ ([.slice A34 ((zaf m (zai m other)).next).length c34, .slice A36 ((zaf m (zai m other)).final).length c36] : List Value)).toArray, .int .i64 (errB m (zai m other))]) rfl rfl) <| p_v (v := .int .i64 (errB m (zai m other))) rfl rfl rfl (zcs (vs := [.agg ((zac ((zaf m (zai m other)).part)) ++ ([.slice A34 ((zaf m (zai m other)).next).length c34, .slice A36 ((zaf m (zai m other)).final).length c36] : List Value)).toArray, .int .i64 (errB m (zai m other))]) rfl rfl) ?_
  obtain ⟨b38, w38, r38, g38, T38⟩ := zb2 (P := Tryd.prog) S37 35 (v := zv35) ((zac zPart) ++ ([.slice none 0 0, .slice none 0 0] : List Value)) (by kernel_rfl)
  have S39 := T38
  dsimp only [lAa, lAn, lA0, lAs] at S39
  refine p_v (v := .pointer (some ⟨b38, 0, none⟩)) rfl rfl rfl (zcj ty35 r38) ?_
  obtain ⟨w40, r40, g40, T40⟩ := zco (P := Tryd.prog) (v := .agg ((zac ((zaf m (zai m other)).part)) ++ ([.slice A34 ((zaf m (zai m other)).next).length c34, .slice A36 ((zaf m (zai m other)).final).length c36] : List Value)).toArray) (vs := ((zac ((zaf m (zai m other)).part)) ++ ([.slice A34 ((zaf m (zai m other)).next).length c34, .slice A36 ((zaf m (zai m other)).final).length c36] : List Value))) (cs := ((zac zPart) ++ ([.slice none 0 0, .slice none 0 0] : List Value))) S39 ty35 rfl (zbb (zae ok32_0) rfl) (zbb (zae (zay)) rfl) (j := 6) rfl (zd1 (zbu _) (by simp [Value.oneCell']))
  have S41 := T40.fx 6 (box b38 35 ((zac ((zaf m (zai m other)).part)) ++ ([.slice A34 ((zaf m (zai m other)).next).length c34, .slice A36 ((zaf m (zai m other)).final).length c36] : List Value))) rfl
  dsimp only [lAa, lAn, lA0, lAs] at S41
  refine p_s rfl rfl (zbh rfl rfl r40) <| p_v (v := .int .i64 (errB m (zai m other))) rfl rfl rfl (zah rfl) <| zaa <| zab <| zad (l := [0, 1, 2, 3, 4, 5, 6, 7, 8]) rfl <| p_v (v := .agg #[.slice A1_0 other.spots.length c1_0, .slice A1_1 other.first.length c1_1, .slice A1_2 other.follow.length c1_2, .slice A1_3 other.last.length c1_3, .bool other.empty]) rfl rfl rfl (zal (seg := [.slice A1_0 other.spots.length c1_0, .slice A1_1 other.first.length c1_1, .slice A1_2 other.follow.length c1_2, .slice A1_3 other.last.length c1_3, .bool other.empty]) ty27 rfl (by simp) rfl (CF.box (m := 5) (S41.box_at (j := 1) rfl) rfl)) <| p_v (v := .agg (zac (zai m other)).toArray) rfl rfl rfl (zal (seg := (zac (zai m other))) ty32 (zae ok26_0) (by simp) rfl (CF.box (m := 257) (S41.box_at (j := 3) rfl) (by rw [List.drop_zero, List.take_of_length_le (by rw [zae ok26_0]; exact Nat.le_refl _)]))) <| p_c rfl rfl rfl (za6 (args := [.agg #[.slice A1_0 other.spots.length c1_0, .slice A1_1 other.first.length c1_1, .slice A1_2 other.follow.length c1_2, .slice A1_3 other.last.length c1_3, .bool other.empty], .agg (zac (zai m other)).toArray, .pointer none]) ca21 rfl rfl) (build_calls w40 other A1_0 c1_0 b1_0 (l1_0.mono (St.le0 S41)) A1_1 c1_1 b1_1 (l1_1.mono (St.le0 S41)) A1_2 c1_2 b1_2 (l1_2.mono (St.le0 S41)) A1_3 c1_3 b1_3 (l1_3.mono (St.le0 S41)) (zai m other) ok26_0 () (by first | assumption | omega | decide) (zex.st S41 tb)) ?_
  rintro _ w42 ⟨h42, v42_0, v42_1, T42, rfl, ok42_0, in42_1⟩
  obtain ⟨k42, lk42, ll42, U42⟩ := zci S41 T42
  have lc42_0 := (lf36_0).trans lk42
  have lc42_1 := (lf36_1).trans lk42
  have lc42_2 := (le36).trans lk42
  have S43 := U42
  dsimp only [lAa, lAn, lA0, lAs] at S43
  have lo_in42_1 := za7 in42_1; have hi_in42_1 := za8 in42_1
  obtain ⟨h44, le44, T44, rp44⟩ := S43.freeze (i := 7) rfl
  have lf44_0 := (lc42_0).trans le44
  have lf44_1 := (lc42_1).trans le44
  have lf44_2 := (lc42_2).trans le44
  have lf44_3 := (lk42).trans le44
  have S45 := T44.fx 7 (emp) rfl
  dsimp only [lAa, lAn, lA0, lAs] at S45
  obtain ⟨A44, c44, e44, lc44, cm44, ld44⟩ := rp44
  injection e44 with e44 _; subst e44
  have cn44 := cm44; simp only [maxLen] at cn44
  obtain ⟨h46, le46, T46, rp46⟩ := S45.freeze (i := 8) rfl
  have lf46_0 := (lf44_0).trans le46
  have lf46_1 := (lf44_1).trans le46
  have lf46_2 := (lf44_2).trans le46
  have lf46_3 := (lf44_3).trans le46
  have lf46_4 := (le44).trans le46
  have S47 := T46.fx 8 (emp) rfl
  dsimp only [lAa, lAn, lA0, lAs] at S47
  obtain ⟨A46, c46, e46, lc46, cm46, ld46⟩ := rp46
  injection e46 with e46 _; subst e46
  have cn46 := cm46; simp only [maxLen] at cn46
  refine p_v (v := .tuple #[.agg ((zac ((zaf other (zai m other)).part)) ++ ([.slice A44 ((zaf other (zai m other)).next).length c44, .slice A46 ((zaf other (zai m other)).final).length c46] : List Value)).toArray, .int .i64 (errB other (zai m other))]) rfl rfl rfl (zag rfl) <| p_v (v := .agg ((zac ((zaf other (zai m other)).part)) ++ ([.slice A44 ((zaf other (zai m other)).next).length c44, .slice A46 ((zaf other (zai m other)).final).length c46] : List Value)).toArray) rfl rfl rfl (zcs (vs := [.agg ((zac ((zaf other (zai m other)).part)) ++ ([.slice A44 ((zaf other (zai m other)).next).length c44, .slice A46 ((zaf other (zai m other)).final).length c46] : List Value)).toArray, .int .i64 (errB other (zai m other))]) rfl rfl) <| p_v (v := .int .i64 (errB other (zai m other))) rfl rfl rfl (zcs (vs := [.agg ((zac ((zaf other (zai m other)).part)) ++ ([.slice A44 ((zaf other (zai m other)).next).length c44, .slice A46 ((zaf other (zai m other)).final).length c46] : List Value)).toArray, .int .i64 (errB other (zai m other))]) rfl rfl) ?_
  obtain ⟨b48, w48, r48, g48, T48⟩ := zb2 (P := Tryd.prog) S47 35 (v := zv35) ((zac zPart) ++ ([.slice none 0 0, .slice none 0 0] : List Value)) (by kernel_rfl)
  have S49 := T48
  dsimp only [lAa, lAn, lA0, lAs] at S49
  refine p_v (v := .pointer (some ⟨b48, 0, none⟩)) rfl rfl rfl (zcj ty35 r48) ?_
  obtain ⟨w50, r50, g50, T50⟩ := zco (P := Tryd.prog) (v := .agg ((zac ((zaf other (zai m other)).part)) ++ ([.slice A44 ((zaf other (zai m other)).next).length c44, .slice A46 ((zaf other (zai m other)).final).length c46] : List Value)).toArray) (vs := ((zac ((zaf other (zai m other)).part)) ++ ([.slice A44 ((zaf other (zai m other)).next).length c44, .slice A46 ((zaf other (zai m other)).final).length c46] : List Value))) (cs := ((zac zPart) ++ ([.slice none 0 0, .slice none 0 0] : List Value))) S49 ty35 rfl (zbb (zae ok42_0) rfl) (zbb (zae (zay)) rfl) (j := 9) rfl (zd1 (zbu _) (by simp [Value.oneCell']))
  have S51 := T50.fx 9 (box b48 35 ((zac ((zaf other (zai m other)).part)) ++ ([.slice A44 ((zaf other (zai m other)).next).length c44, .slice A46 ((zaf other (zai m other)).final).length c46] : List Value))) rfl
  dsimp only [lAa, lAn, lA0, lAs] at S51
  refine p_s rfl rfl (zbh rfl rfl r50) <| p_v (v := .int .i64 (errB other (zai m other))) rfl rfl rfl (zah rfl) <| zaa <| zab <| zad (l := [0, 1, 2, 3, 4, 5, 6, 7, 8]) rfl <| p_v (v := .agg #[.slice A0_0 m.spots.length c0_0, .slice A0_1 m.first.length c0_1, .slice A0_2 m.follow.length c0_2, .slice A0_3 m.last.length c0_3, .bool m.empty]) rfl rfl rfl (zal (seg := [.slice A0_0 m.spots.length c0_0, .slice A0_1 m.first.length c0_1, .slice A0_2 m.follow.length c0_2, .slice A0_3 m.last.length c0_3, .bool m.empty]) ty27 rfl (by simp) rfl (CF.box (m := 5) (S51.box_at (j := 0) rfl) rfl)) <| p_v (v := .agg (zac p).toArray) rfl rfl rfl (zal (seg := (zac p)) ty32 (zae o3) (by simp) rfl (CF.box (m := 257) (S51.box_at (j := 2) rfl) (by rw [List.drop_zero, List.take_of_length_le (by rw [zae o3]; exact Nat.le_refl _)]))) <| p_c rfl rfl rfl (za6 (args := [.agg #[.slice A0_0 m.spots.length c0_0, .slice A0_1 m.first.length c0_1, .slice A0_2 m.follow.length c0_2, .slice A0_3 m.last.length c0_3, .bool m.empty], .agg (zac p).toArray, .pointer none]) ca21 rfl rfl) (build_calls w50 m A0_0 c0_0 b0_0 (l0_0.mono (St.le0 S51)) A0_1 c0_1 b0_1 (l0_1.mono (St.le0 S51)) A0_2 c0_2 b0_2 (l0_2.mono (St.le0 S51)) A0_3 c0_3 b0_3 (l0_3.mono (St.le0 S51)) p o3 () (by first | assumption | omega | decide) (zex.st S51 tb)) ?_
  rintro _ w52 ⟨h52, v52_0, v52_1, T52, rfl, ok52_0, in52_1⟩
  obtain ⟨k52, lk52, ll52, U52⟩ := zci S51 T52
  have lc52_0 := (lf46_0).trans lk52
  have lc52_1 := (lf46_1).trans lk52
  have lc52_2 := (lf46_2).trans lk52
  have lc52_3 := (lf46_3).trans lk52
  have lc52_4 := (lf46_4).trans lk52
  have lc52_5 := (le46).trans lk52
  have S53 := U52
  dsimp only [lAa, lAn, lA0, lAs] at S53
  have lo_in52_1 := za7 in52_1; have hi_in52_1 := za8 in52_1
  obtain ⟨h54, le54, T54, rp54⟩ := S53.freeze (i := 10) rfl
  have lf54_0 := (lc52_0).trans le54
  have lf54_1 := (lc52_1).trans le54
  have lf54_2 := (lc52_2).trans le54
  have lf54_3 := (lc52_3).trans le54
  have lf54_4 := (lc52_4).trans le54
  have lf54_5 := (lc52_5).trans le54
  have lf54_6 := (lk52).trans le54
  have S55 := T54.fx 10 (emp) rfl
  dsimp only [lAa, lAn, lA0, lAs] at S55
  obtain ⟨A54, c54, e54, lc54, cm54, ld54⟩ := rp54
  injection e54 with e54 _; subst e54
  have cn54 := cm54; simp only [maxLen] at cn54
  obtain ⟨h56, le56, T56, rp56⟩ := S55.freeze (i := 11) rfl
  have lf56_0 := (lf54_0).trans le56
  have lf56_1 := (lf54_1).trans le56
  have lf56_2 := (lf54_2).trans le56
  have lf56_3 := (lf54_3).trans le56
  have lf56_4 := (lf54_4).trans le56
  have lf56_5 := (lf54_5).trans le56
  have lf56_6 := (lf54_6).trans le56
  have lf56_7 := (le54).trans le56
  have S57 := T56.fx 11 (emp) rfl
  dsimp only [lAa, lAn, lA0, lAs] at S57
  obtain ⟨A56, c56, e56, lc56, cm56, ld56⟩ := rp56
  injection e56 with e56 _; subst e56
  have cn56 := cm56; simp only [maxLen] at cn56
  refine p_v (v := .tuple #[.agg ((zac ((zaf m p).part)) ++ ([.slice A54 ((zaf m p).next).length c54, .slice A56 ((zaf m p).final).length c56] : List Value)).toArray, .int .i64 (errB m p)]) rfl rfl rfl (zag rfl) <| p_v (v := .agg ((zac ((zaf m p).part)) ++ ([.slice A54 ((zaf m p).next).length c54, .slice A56 ((zaf m p).final).length c56] : List Value)).toArray) rfl rfl rfl (zcs (vs := [.agg ((zac ((zaf m p).part)) ++ ([.slice A54 ((zaf m p).next).length c54, .slice A56 ((zaf m p).final).length c56] : List Value)).toArray, .int .i64 (errB m p)]) rfl rfl) <| p_v (v := .int .i64 (errB m p)) rfl rfl rfl (zcs (vs := [.agg ((zac ((zaf m p).part)) ++ ([.slice A54 ((zaf m p).next).length c54, .slice A56 ((zaf m p).final).length c56] : List Value)).toArray, .int .i64 (errB m p)]) rfl rfl) ?_
  obtain ⟨b58, w58, r58, g58, T58⟩ := zb2 (P := Tryd.prog) S57 35 (v := zv35) ((zac zPart) ++ ([.slice none 0 0, .slice none 0 0] : List Value)) (by kernel_rfl)
  have S59 := T58
  dsimp only [lAa, lAn, lA0, lAs] at S59
  refine p_v (v := .pointer (some ⟨b58, 0, none⟩)) rfl rfl rfl (zcj ty35 r58) ?_
  obtain ⟨w60, r60, g60, T60⟩ := zco (P := Tryd.prog) (v := .agg ((zac ((zaf m p).part)) ++ ([.slice A54 ((zaf m p).next).length c54, .slice A56 ((zaf m p).final).length c56] : List Value)).toArray) (vs := ((zac ((zaf m p).part)) ++ ([.slice A54 ((zaf m p).next).length c54, .slice A56 ((zaf m p).final).length c56] : List Value))) (cs := ((zac zPart) ++ ([.slice none 0 0, .slice none 0 0] : List Value))) S59 ty35 rfl (zbb (zae ok52_0) rfl) (zbb (zae (zay)) rfl) (j := 12) rfl (zd1 (zbu _) (by simp [Value.oneCell']))
  have S61 := T60.fx 12 (box b58 35 ((zac ((zaf m p).part)) ++ ([.slice A54 ((zaf m p).next).length c54, .slice A56 ((zaf m p).final).length c56] : List Value))) rfl
  dsimp only [lAa, lAn, lA0, lAs] at S61
  refine p_s rfl rfl (zbh rfl rfl r60) <| p_v (v := .int .i64 (errB m p)) rfl rfl rfl (zah rfl) <| zaa <| zab ?_
  refine run_joinW (fun ρ w' => ∃ (h : Ghost), Le h56 h ∧ St w.heap.size w h w' [box b11 27 [.slice A0_0 m.spots.length c0_0, .slice A0_1 m.first.length c0_1, .slice A0_2 m.follow.length c0_2, .slice A0_3 m.last.length c0_3, .bool m.empty], box b13 27 [.slice A1_0 other.spots.length c1_0, .slice A1_1 other.first.length c1_1, .slice A1_2 other.follow.length c1_2, .slice A1_3 other.last.length c1_3, .bool other.empty], box b28 32 (zac (zai m other)), box b38 35 ((zac ((zaf m (zai m other)).part)) ++ ([.slice A34 ((zaf m (zai m other)).next).length c34, .slice A36 ((zaf m (zai m other)).final).length c36] : List Value)), box b48 35 ((zac ((zaf other (zai m other)).part)) ++ ([.slice A44 ((zaf other (zai m other)).next).length c44, .slice A46 ((zaf other (zai m other)).final).length c46] : List Value))] ∧ ρ 2 = .int .u8 how ∧ ρ 4 = .pointer (some ⟨b11, 0, none⟩) ∧ ρ 5 = .pointer (some ⟨b13, 0, none⟩) ∧ ρ 9 = .pointer (some ⟨b28, 0, none⟩) ∧ ρ 10 = .pointer (some ⟨b38, 0, none⟩) ∧ ρ 11 = .int .i64 (errB m (zai m other)) ∧ ρ 12 = .pointer (some ⟨b48, 0, none⟩) ∧ ρ 13 = .int .i64 (errB other (zai m other)) ∧ okPart (zai m other) ∧ okPart ((zaf m (zai m other)).part) ∧ okPart ((zaf other (zai m other)).part) ∧ (True)) ?_ (fun jn79 => ?_)
  ·skip
   rintro ρj79 wj79 ⟨hj79, lej79, Sj79, rj79_2, rj79_4, rj79_5, rj79_9, rj79_10, rj79_11, rj79_12, rj79_13, jf79_0, jf79_1, jf79_2, jI79⟩
   have JI1_ := jI79
   refine zab <| zad (l := [0, 1, 2, 3, 4, 5, 6, 7, 8, 9]) rfl <| p_v (v := .agg ((zac ((zaf m (zai m other)).part)) ++ ([.slice A34 ((zaf m (zai m other)).next).length c34, .slice A36 ((zaf m (zai m other)).final).length c36] : List Value)).toArray) rfl rfl rfl (zal (seg := ((zac ((zaf m (zai m other)).part)) ++ ([.slice A34 ((zaf m (zai m other)).next).length c34, .slice A36 ((zaf m (zai m other)).final).length c36] : List Value))) ty35 (zbb (zae jf79_1) rfl) (by simp) rj79_10 (CF.box (m := 259) (Sj79.box_at (j := 3) rfl) (zdo (zbb (zae jf79_1) rfl)))) <| p_v (v := .agg ((zac ((zaf other (zai m other)).part)) ++ ([.slice A44 ((zaf other (zai m other)).next).length c44, .slice A46 ((zaf other (zai m other)).final).length c46] : List Value)).toArray) rfl rfl rfl (zal (seg := ((zac ((zaf other (zai m other)).part)) ++ ([.slice A44 ((zaf other (zai m other)).next).length c44, .slice A46 ((zaf other (zai m other)).final).length c46] : List Value))) ty35 (zbb (zae jf79_2) rfl) (by simp) rj79_12 (CF.box (m := 259) (Sj79.box_at (j := 4) rfl) (zdo (zbb (zae jf79_2) rfl)))) <| p_v (v := .int .u8 how) rfl rfl rfl (zag rj79_2) <| p_c rfl rfl rfl (za6 (args := [.agg ((zac ((zaf m (zai m other)).part)) ++ ([.slice A34 ((zaf m (zai m other)).next).length c34, .slice A36 ((zaf m (zai m other)).final).length c36] : List Value)).toArray, .agg ((zac ((zaf other (zai m other)).part)) ++ ([.slice A44 ((zaf other (zai m other)).next).length c44, .slice A46 ((zaf other (zai m other)).final).length c46] : List Value)).toArray, .int .u8 how, .pointer none]) ca28 rfl rfl) (both_calls wj79 (zaf m (zai m other)) jf79_1 A34 c34 (And.intro lc34 cm34) (ld34.mono (((lf56_2).trans lej79).trans Sj79.ghost)) A36 c36 (And.intro lc36 cm36) (ld36.mono (((lf56_3).trans lej79).trans Sj79.ghost)) (zaf other (zai m other)) jf79_2 A44 c44 (And.intro lc44 cm44) (ld44.mono (((lf56_5).trans lej79).trans Sj79.ghost)) A46 c46 (And.intro lc46 cm46) (ld46.mono (((lf56_6).trans lej79).trans Sj79.ghost)) how (zec (by first|omega|(simp;omega)|assumption|simp) (by first|omega|(simp;omega)|assumption|simp)) () (by first | assumption | exact ⟨by assumption, by assumption⟩)) ?_
   rintro _ w80 ⟨h80, v80_0, v80_1, T80, rfl, ok80_0, in80_1⟩
   obtain ⟨k80, lk80, ll80, U80⟩ := zci Sj79 T80
   have lc80_0 := (((lf56_0).trans lej79)).trans lk80
   have lc80_1 := (((lf56_1).trans lej79)).trans lk80
   have lc80_2 := (((lf56_2).trans lej79)).trans lk80
   have lc80_3 := (((lf56_3).trans lej79)).trans lk80
   have lc80_4 := (((lf56_4).trans lej79)).trans lk80
   have lc80_5 := (((lf56_5).trans lej79)).trans lk80
   have lc80_6 := (((lf56_6).trans lej79)).trans lk80
   have lc80_7 := (((lf56_7).trans lej79)).trans lk80
   have lc80_8 := (((le56).trans lej79)).trans lk80
   have lc80_9 := (lej79).trans lk80
   have S81 := U80
   dsimp only [lAa, lAn, lA0, lAs] at S81
   have lo_in80_1 := za7 in80_1; have hi_in80_1 := za8 in80_1
   obtain ⟨h82, le82, T82, rp82⟩ := S81.freeze (i := 5) rfl
   have lf82_0 := (lc80_0).trans le82
   have lf82_1 := (lc80_1).trans le82
   have lf82_2 := (lc80_2).trans le82
   have lf82_3 := (lc80_3).trans le82
   have lf82_4 := (lc80_4).trans le82
   have lf82_5 := (lc80_5).trans le82
   have lf82_6 := (lc80_6).trans le82
   have lf82_7 := (lc80_7).trans le82
   have lf82_8 := (lc80_8).trans le82
   have lf82_9 := (lc80_9).trans le82
   have lf82_10 := (lk80).trans le82
   have S83 := T82.fx 5 (emp) rfl
   dsimp only [lAa, lAn, lA0, lAs] at S83
   obtain ⟨A82, c82, e82, lc82, cm82, ld82⟩ := rp82
   injection e82 with e82 _; subst e82
   have cn82 := cm82; simp only [maxLen] at cn82
   obtain ⟨h84, le84, T84, rp84⟩ := S83.freeze (i := 6) rfl
   have lf84_0 := (lf82_0).trans le84
   have lf84_1 := (lf82_1).trans le84
   have lf84_2 := (lf82_2).trans le84
   have lf84_3 := (lf82_3).trans le84
   have lf84_4 := (lf82_4).trans le84
   have lf84_5 := (lf82_5).trans le84
   have lf84_6 := (lf82_6).trans le84
   have lf84_7 := (lf82_7).trans le84
   have lf84_8 := (lf82_8).trans le84
   have lf84_9 := (lf82_9).trans le84
   have lf84_10 := (lf82_10).trans le84
   have lf84_11 := (le82).trans le84
   have S85 := T84.fx 6 (emp) rfl
   dsimp only [lAa, lAn, lA0, lAs] at S85
   obtain ⟨A84, c84, e84, lc84, cm84, ld84⟩ := rp84
   injection e84 with e84 _; subst e84
   have cn84 := cm84; simp only [maxLen] at cn84
   refine p_v (v := .tuple #[.agg ((zac ((zbt (zaf m (zai m other)) (zaf other (zai m other)) how).part)) ++ ([.slice A82 ((zbt (zaf m (zai m other)) (zaf other (zai m other)) how).next).length c82, .slice A84 ((zbt (zaf m (zai m other)) (zaf other (zai m other)) how).final).length c84] : List Value)).toArray, .int .i64 (errO (zaf m (zai m other)) (zaf other (zai m other)) how)]) rfl rfl rfl (zag rfl) <| p_v (v := .agg ((zac ((zbt (zaf m (zai m other)) (zaf other (zai m other)) how).part)) ++ ([.slice A82 ((zbt (zaf m (zai m other)) (zaf other (zai m other)) how).next).length c82, .slice A84 ((zbt (zaf m (zai m other)) (zaf other (zai m other)) how).final).length c84] : List Value)).toArray) rfl rfl rfl (zcs (vs := [.agg ((zac ((zbt (zaf m (zai m other)) (zaf other (zai m other)) how).part)) ++ ([.slice A82 ((zbt (zaf m (zai m other)) (zaf other (zai m other)) how).next).length c82, .slice A84 ((zbt (zaf m (zai m other)) (zaf other (zai m other)) how).final).length c84] : List Value)).toArray, .int .i64 (errO (zaf m (zai m other)) (zaf other (zai m other)) how)]) rfl rfl) <| p_v (v := .int .i64 (errO (zaf m (zai m other)) (zaf other (zai m other)) how)) rfl rfl rfl (zcs (vs := [.agg ((zac ((zbt (zaf m (zai m other)) (zaf other (zai m other)) how).part)) ++ ([.slice A82 ((zbt (zaf m (zai m other)) (zaf other (zai m other)) how).next).length c82, .slice A84 ((zbt (zaf m (zai m other)) (zaf other (zai m other)) how).final).length c84] : List Value)).toArray, .int .i64 (errO (zaf m (zai m other)) (zaf other (zai m other)) how)]) rfl rfl) ?_
   obtain ⟨b86, w86, r86, g86, T86⟩ := zb2 (P := Tryd.prog) S85 35 (v := zv35) ((zac zPart) ++ ([.slice none 0 0, .slice none 0 0] : List Value)) (by kernel_rfl)
   have S87 := T86
   dsimp only [lAa, lAn, lA0, lAs] at S87
   refine p_v (v := .pointer (some ⟨b86, 0, none⟩)) rfl rfl rfl (zcj ty35 r86) ?_
   obtain ⟨w88, r88, g88, T88⟩ := zco (P := Tryd.prog) (v := .agg ((zac ((zbt (zaf m (zai m other)) (zaf other (zai m other)) how).part)) ++ ([.slice A82 ((zbt (zaf m (zai m other)) (zaf other (zai m other)) how).next).length c82, .slice A84 ((zbt (zaf m (zai m other)) (zaf other (zai m other)) how).final).length c84] : List Value)).toArray) (vs := ((zac ((zbt (zaf m (zai m other)) (zaf other (zai m other)) how).part)) ++ ([.slice A82 ((zbt (zaf m (zai m other)) (zaf other (zai m other)) how).next).length c82, .slice A84 ((zbt (zaf m (zai m other)) (zaf other (zai m other)) how).final).length c84] : List Value))) (cs := ((zac zPart) ++ ([.slice none 0 0, .slice none 0 0] : List Value))) S87 ty35 rfl (zbb (zae ok80_0) rfl) (zbb (zae (zay)) rfl) (j := 7) rfl (zd1 (zbu _) (by simp [Value.oneCell']))
   have S89 := T88.fx 7 (box b86 35 ((zac ((zbt (zaf m (zai m other)) (zaf other (zai m other)) how).part)) ++ ([.slice A82 ((zbt (zaf m (zai m other)) (zaf other (zai m other)) how).next).length c82, .slice A84 ((zbt (zaf m (zai m other)) (zaf other (zai m other)) how).final).length c84] : List Value))) rfl
   dsimp only [lAa, lAn, lA0, lAs] at S89
   refine p_s rfl rfl (zbh rfl rfl r88) <| p_v (v := .int .i64 (errO (zaf m (zai m other)) (zaf other (zai m other)) how)) rfl rfl rfl (zah rfl) <| zaa <| zab <| zad (l := [0, 1, 2, 3, 4, 5, 6, 7]) rfl <| p_v (v := .agg ((zac ((zaf m (zai m other)).part)) ++ ([.slice A34 ((zaf m (zai m other)).next).length c34, .slice A36 ((zaf m (zai m other)).final).length c36] : List Value)).toArray) rfl rfl rfl (zal (seg := ((zac ((zaf m (zai m other)).part)) ++ ([.slice A34 ((zaf m (zai m other)).next).length c34, .slice A36 ((zaf m (zai m other)).final).length c36] : List Value))) ty35 (zbb (zae jf79_1) rfl) (by simp) rj79_10 (CF.box (m := 259) (S89.box_at (j := 3) rfl) (zdo (zbb (zae jf79_1) rfl)))) <| p_c rfl rfl rfl (za6 (args := [.agg ((zac ((zaf m (zai m other)).part)) ++ ([.slice A34 ((zaf m (zai m other)).next).length c34, .slice A36 ((zaf m (zai m other)).final).length c36] : List Value)).toArray]) ca23 rfl rfl) (notD_calls w88 (zaf m (zai m other)) jf79_1 A34 c34 (And.intro lc34 cm34) (ld34.mono (lf84_2.trans S89.ghost)) A36 c36 (And.intro lc36 cm36) (ld36.mono (lf84_3.trans S89.ghost)) (by first | assumption | omega)) ?_
   rintro _ w90 ⟨h90, v90_0, v90_1, T90, rfl, ok90_0, in90_1⟩
   obtain ⟨k90, lk90, ll90, U90⟩ := zci S89 T90
   have lc90_0 := (lf84_0).trans lk90
   have lc90_1 := (lf84_1).trans lk90
   have lc90_2 := (lf84_2).trans lk90
   have lc90_3 := (lf84_3).trans lk90
   have lc90_4 := (lf84_4).trans lk90
   have lc90_5 := (lf84_5).trans lk90
   have lc90_6 := (lf84_6).trans lk90
   have lc90_7 := (lf84_7).trans lk90
   have lc90_8 := (lf84_8).trans lk90
   have lc90_9 := (lf84_9).trans lk90
   have lc90_10 := (lf84_10).trans lk90
   have lc90_11 := (lf84_11).trans lk90
   have lc90_12 := (le84).trans lk90
   have S91 := U90
   dsimp only [lAa, lAn, lA0, lAs] at S91
   have lo_in90_1 := za7 in90_1; have hi_in90_1 := za8 in90_1
   obtain ⟨h92, le92, T92, rp92⟩ := S91.freeze (i := 8) rfl
   have lf92_0 := (lc90_0).trans le92
   have lf92_1 := (lc90_1).trans le92
   have lf92_2 := (lc90_2).trans le92
   have lf92_3 := (lc90_3).trans le92
   have lf92_4 := (lc90_4).trans le92
   have lf92_5 := (lc90_5).trans le92
   have lf92_6 := (lc90_6).trans le92
   have lf92_7 := (lc90_7).trans le92
   have lf92_8 := (lc90_8).trans le92
   have lf92_9 := (lc90_9).trans le92
   have lf92_10 := (lc90_10).trans le92
   have lf92_11 := (lc90_11).trans le92
   have lf92_12 := (lc90_12).trans le92
   have lf92_13 := (lk90).trans le92
   have S93 := T92.fx 8 (emp) rfl
   dsimp only [lAa, lAn, lA0, lAs] at S93
   obtain ⟨A92, c92, e92, lc92, cm92, ld92⟩ := rp92
   injection e92 with e92 _; subst e92
   have cn92 := cm92; simp only [maxLen] at cn92
   obtain ⟨h94, le94, T94, rp94⟩ := S93.freeze (i := 9) rfl
   have lf94_0 := (lf92_0).trans le94
   have lf94_1 := (lf92_1).trans le94
   have lf94_2 := (lf92_2).trans le94
   have lf94_3 := (lf92_3).trans le94
   have lf94_4 := (lf92_4).trans le94
   have lf94_5 := (lf92_5).trans le94
   have lf94_6 := (lf92_6).trans le94
   have lf94_7 := (lf92_7).trans le94
   have lf94_8 := (lf92_8).trans le94
   have lf94_9 := (lf92_9).trans le94
   have lf94_10 := (lf92_10).trans le94
   have lf94_11 := (lf92_11).trans le94
   have lf94_12 := (lf92_12).trans le94
   have lf94_13 := (lf92_13).trans le94
   have lf94_14 := (le92).trans le94
   have S95 := T94.fx 9 (emp) rfl
   dsimp only [lAa, lAn, lA0, lAs] at S95
   obtain ⟨A94, c94, e94, lc94, cm94, ld94⟩ := rp94
   injection e94 with e94 _; subst e94
   have cn94 := cm94; simp only [maxLen] at cn94
   refine p_v (v := .tuple #[.agg ((zac ((notD (zaf m (zai m other))).part)) ++ ([.slice A92 ((notD (zaf m (zai m other))).next).length c92, .slice A94 ((notD (zaf m (zai m other))).final).length c94] : List Value)).toArray, .int .i64 (errD (zaf m (zai m other)))]) rfl rfl rfl (zag rfl) <| p_v (v := .agg ((zac ((notD (zaf m (zai m other))).part)) ++ ([.slice A92 ((notD (zaf m (zai m other))).next).length c92, .slice A94 ((notD (zaf m (zai m other))).final).length c94] : List Value)).toArray) rfl rfl rfl (zcs (vs := [.agg ((zac ((notD (zaf m (zai m other))).part)) ++ ([.slice A92 ((notD (zaf m (zai m other))).next).length c92, .slice A94 ((notD (zaf m (zai m other))).final).length c94] : List Value)).toArray, .int .i64 (errD (zaf m (zai m other)))]) rfl rfl) <| p_v (v := .int .i64 (errD (zaf m (zai m other)))) rfl rfl rfl (zcs (vs := [.agg ((zac ((notD (zaf m (zai m other))).part)) ++ ([.slice A92 ((notD (zaf m (zai m other))).next).length c92, .slice A94 ((notD (zaf m (zai m other))).final).length c94] : List Value)).toArray, .int .i64 (errD (zaf m (zai m other)))]) rfl rfl) ?_
   obtain ⟨b96, w96, r96, g96, T96⟩ := zb2 (P := Tryd.prog) S95 35 (v := zv35) ((zac zPart) ++ ([.slice none 0 0, .slice none 0 0] : List Value)) (by kernel_rfl)
   have S97 := T96
   dsimp only [lAa, lAn, lA0, lAs] at S97
   refine p_v (v := .pointer (some ⟨b96, 0, none⟩)) rfl rfl rfl (zcj ty35 r96) ?_
   obtain ⟨w98, r98, g98, T98⟩ := zco (P := Tryd.prog) (v := .agg ((zac ((notD (zaf m (zai m other))).part)) ++ ([.slice A92 ((notD (zaf m (zai m other))).next).length c92, .slice A94 ((notD (zaf m (zai m other))).final).length c94] : List Value)).toArray) (vs := ((zac ((notD (zaf m (zai m other))).part)) ++ ([.slice A92 ((notD (zaf m (zai m other))).next).length c92, .slice A94 ((notD (zaf m (zai m other))).final).length c94] : List Value))) (cs := ((zac zPart) ++ ([.slice none 0 0, .slice none 0 0] : List Value))) S97 ty35 rfl (zbb (zae ok90_0) rfl) (zbb (zae (zay)) rfl) (j := 10) rfl (zd1 (zbu _) (by simp [Value.oneCell']))
   have S99 := T98.fx 10 (box b96 35 ((zac ((notD (zaf m (zai m other))).part)) ++ ([.slice A92 ((notD (zaf m (zai m other))).next).length c92, .slice A94 ((notD (zaf m (zai m other))).final).length c94] : List Value))) rfl
   dsimp only [lAa, lAn, lA0, lAs] at S99
   refine p_s rfl rfl (zbh rfl rfl r98) <| p_v (v := .int .i64 (errD (zaf m (zai m other)))) rfl rfl rfl (zah rfl) <| zaa <| zab <| zab <| zad (l := [0, 1, 2, 3, 4, 5]) rfl <| p_v (v := .int .i64 (errB m (zai m other))) rfl rfl rfl (zag rj79_11) <| p_v (v := .bool (decide ((errB m (zai m other)) ≠ 0))) rfl rfl rfl (x_neq rfl rfl) <| p_v (v := .bool (decide ((errB m (zai m other)) ≠ 0))) rfl rfl rfl (zag rfl) ?_
   by_cases hc100 : (errB m (zai m other)) ≠ 0
   ·skip
    have hx1_ := hc100
    refine za2 rfl (wo 2 97 rfl rfl (bT hc100) rfl) rfl <| za2 rfl (wo 2 97 rfl rfl (bT hc100) rfl) rfl <| p_v (v := .bool true) rfl rfl rfl (za5 (bT hc100) rfl) <| zaa <| zb4 (b := true) rfl ?_
    simp only [if_true, if_false, Bool.false_eq_true]
    refine zab <| zad (l := [0, 1, 2, 3, 4, 5, 6, 7, 8, 9, 10, 11, 12, 13, 14, 15, 16, 17, 18, 19, 20, 21, 22, 23, 24, 25, 26]) rfl <| p_v (v := .int .i64 (errB m (zai m other))) rfl rfl rfl (zag rj79_11) <| p_v (v := .bool (decide ((errB m (zai m other)) = 0))) rfl rfl rfl (ze4 rfl rfl) <| p_v (v := .bool (decide ((errB m (zai m other)) = 0))) rfl rfl rfl (zag rfl) ?_
    have hc101 : ¬ ((errB m (zai m other)) = 0) := by
     exact fun h => hx1_ h
    refine p_v (v := .int .i64 (errB m (zai m other))) rfl (wo 2 103 rfl rfl (bF hc101) rfl) rfl (zag rj79_11) <| p_v (v := .bool (decide ((errB m (zai m other)) = 1))) rfl (wo 2 103 rfl rfl (bF hc101) rfl) rfl (ze4 rfl rfl) <| p_v (v := .bool (decide ((errB m (zai m other)) = 1))) rfl (wo 2 103 rfl rfl (bF hc101) rfl) rfl (zag rfl) ?_
    have hc102 : ((errB m (zai m other)) = 1) := by
     exact errB_one hx1_
    refine p_v (v := .pointer (some ⟨b38, 257, none⟩)) rfl (wo 5 106 rfl rfl (bT hc102) rfl) rfl (zan zfg ty24 rfl rj79_10) <| p_v (v := .slice A34 ((zaf m (zai m other)).next).length c34) rfl (wo 5 106 rfl rfl (bT hc102) rfl) rfl (zal (seg := [.slice A34 ((zaf m (zai m other)).next).length c34]) ty24 rfl (by simp) rfl (CF.box (m := 1) (S99.box_at (j := 3) rfl) (zbd (a := (zac ((zaf m (zai m other)).part))) (pre := []) (seg := [.slice A34 ((zaf m (zai m other)).next).length c34]) (post := [.slice A36 ((zaf m (zai m other)).final).length c36]) (zae jf79_1) rfl rfl))) <| p_v (v := .int .i64 (((zaf m (zai m other)).next).length : Int)) rfl (wo 5 106 rfl rfl (bT hc102) rfl) rfl (za0 u24 rfl) <| p_v (v := .bool (decide ((((zaf m (zai m other)).next).length : Int) = 0))) rfl (wo 5 106 rfl rfl (bT hc102) rfl) rfl (ze4 rfl rfl) <| p_v (v := .bool (decide ((((zaf m (zai m other)).next).length : Int) = 0))) rfl (wo 2 103 rfl rfl (bF hc101) rfl) rfl (za5 (bT hc102) rfl) <| p_v (v := .bool (decide ((((zaf m (zai m other)).next).length : Int) = 0))) rfl rfl rfl (zbk (bF hc101) rfl) <| p_v (v := .bool (decide ((((zaf m (zai m other)).next).length : Int) = 0))) rfl rfl rfl (zag rfl) ?_
    have hc103 : ((((zaf m (zai m other)).next).length : Int) = 0) := by
     exact build_none hx1_
    refine p_v (v := .int .i64 (errO (zaf m (zai m other)) (zaf other (zai m other)) how)) rfl (wo 12 113 rfl rfl (bT hc103) rfl) rfl (zag rfl) <| p_v (v := .bool (decide ((errO (zaf m (zai m other)) (zaf other (zai m other)) how) = 1))) rfl (wo 12 113 rfl rfl (bT hc103) rfl) rfl (ze4 rfl rfl) <| p_v (v := .bool (decide ((errO (zaf m (zai m other)) (zaf other (zai m other)) how) = 1))) rfl rfl rfl (za5 (bT hc103) rfl) <| p_v (v := .bool (decide ((errO (zaf m (zai m other)) (zaf other (zai m other)) how) = 1))) rfl rfl rfl (zag rfl) ?_
    have hc104 : ((errO (zaf m (zai m other)) (zaf other (zai m other)) how) = 1) := by
     exact errO_1 _ _ hx1_
    refine p_v (v := .int .i64 (errD (zaf m (zai m other)))) rfl (wo 16 117 rfl rfl (bT hc104) rfl) rfl (zag rfl) <| p_v (v := .bool (decide ((errD (zaf m (zai m other))) = 0))) rfl (wo 16 117 rfl rfl (bT hc104) rfl) rfl (ze4 rfl rfl) <| p_v (v := .int .i64 (errB m (zai m other))) rfl (wo 16 117 rfl rfl (bT hc104) rfl) rfl (zag rj79_11) <| p_v (v := .bool (decide ((errB m (zai m other)) = 0))) rfl (wo 16 117 rfl rfl (bT hc104) rfl) rfl (ze4 rfl rfl) <| p_v (v := .bool (decide ((decide ((errD (zaf m (zai m other))) = 0)) = false))) rfl (wo 16 117 rfl rfl (bT hc104) rfl) rfl (x_eql_bool u4 rfl (bF hc101)) <| p_v (v := .bool (decide ((decide ((errD (zaf m (zai m other))) = 0)) = false))) rfl rfl rfl (za5 (bT hc104) rfl) <| p_v (v := .bool (decide ((decide ((errD (zaf m (zai m other))) = 0)) = false))) rfl rfl rfl (zag rfl) ?_
    have hc105 : ((decide ((errD (zaf m (zai m other))) = 0)) = false) := by
     rw [errD_b (okPart_pP m other)]; first | done | exact decide_eq_false hx1_ | exact decide_eq_true hy1_
    refine p_c rfl (wo 23 124 rfl rfl (bT hc105) rfl) rfl (za6 (args := []) ca19 rfl rfl) (zei w98  (zex.st S99 tb)) ?_
    rintro _ w106 ⟨h106, T106, rfl⟩
    have S107 := S99.keep (Chg.of_below T106.below)
    refine p_v (v := .bool true) rfl rfl rfl (za5 (bT hc105) rfl) <| p_v (v := .bool true) rfl rfl rfl (zah rfl) <| zaa <| zar Tryd.func4 (res1 rfl (zax (v := .bool true) rfl)) ?_
    have q0 : (true : Bool) = true := rfl
    refine ⟨_, rfl, h94, ?_, ?_⟩
    · exact S107.sub [] (by decide) rfl _ rfl
    · rfl
   have hy1_ := Decidable.not_not.1 hc100; have ha_ := errB_iff.1 hy1_; have har_ := build_right (okPart_pP m other) ha_; have hRa_ := (okB_of (okPart_pP m other) ha_).2.1
   refine p_v (v := .int .i64 (errB other (zai m other))) rfl (wo 2 97 rfl rfl (bF hc100) rfl) rfl (zag rj79_13) <| p_v (v := .bool (decide ((errB other (zai m other)) ≠ 0))) rfl (wo 2 97 rfl rfl (bF hc100) rfl) rfl (x_neq rfl rfl) <| p_v (v := .bool (decide ((errB other (zai m other)) ≠ 0))) rfl rfl rfl (zbk (bF hc100) rfl) <| zaa ?_
   refine zap (p := (errB other (zai m other)) ≠ 0) rfl (fun hc109 => ?_) (fun hc109 => ?_)
   ·skip
    have hx2_ := hc109
    refine zab <| zad (l := [0, 1, 2, 3, 4, 5, 6, 7, 8, 9, 10, 11, 12, 13, 14, 15, 16, 17, 18, 19, 20, 21, 22, 23, 24, 25, 26]) rfl <| p_v (v := .int .i64 (errB m (zai m other))) rfl rfl rfl (zag rj79_11) <| p_v (v := .bool (decide ((errB m (zai m other)) = 0))) rfl rfl rfl (ze4 rfl rfl) <| p_v (v := .bool (decide ((errB m (zai m other)) = 0))) rfl rfl rfl (zag rfl) ?_
    have hc110 : ((errB m (zai m other)) = 0) := by
     exact hy1_
    refine za2 rfl (wo 2 103 rfl rfl (bT hc110) rfl) rfl <| za2 rfl (wo 2 103 rfl rfl (bT hc110) rfl) rfl <| za2 rfl (wo 2 103 rfl rfl (bT hc110) rfl) rfl <| za2 rfl rfl rfl <| za2 rfl rfl rfl <| za2 rfl rfl rfl <| za2 rfl rfl rfl <| za2 rfl (wo 2 103 rfl rfl (bT hc110) rfl) rfl <| p_v (v := .bool true) rfl rfl rfl (za5 (bT hc110) rfl) <| p_v (v := .bool true) rfl rfl rfl (zag rfl) <| p_v (v := .int .i64 (errO (zaf m (zai m other)) (zaf other (zai m other)) how)) rfl rfl rfl (zag rfl) <| p_v (v := .bool (decide ((errO (zaf m (zai m other)) (zaf other (zai m other)) how) = 1))) rfl rfl rfl (ze4 rfl rfl) ?_
    refine p_v (v := .bool (decide ((errO (zaf m (zai m other)) (zaf other (zai m other)) how) = 1))) rfl rfl rfl (za5 rfl rfl) <| p_v (v := .bool (decide ((errO (zaf m (zai m other)) (zaf other (zai m other)) how) = 1))) rfl rfl rfl (zag rfl) ?_
    have hc111 : ((errO (zaf m (zai m other)) (zaf other (zai m other)) how) = 1) := by
     exact errO_2 _ _ hx2_
    refine p_v (v := .int .i64 (errD (zaf m (zai m other)))) rfl (wo 16 117 rfl rfl (bT hc111) rfl) rfl (zag rfl) <| p_v (v := .bool (decide ((errD (zaf m (zai m other))) = 0))) rfl (wo 16 117 rfl rfl (bT hc111) rfl) rfl (ze4 rfl rfl) <| p_v (v := .int .i64 (errB m (zai m other))) rfl (wo 16 117 rfl rfl (bT hc111) rfl) rfl (zag rj79_11) <| p_v (v := .bool (decide ((errB m (zai m other)) = 0))) rfl (wo 16 117 rfl rfl (bT hc111) rfl) rfl (ze4 rfl rfl) <| p_v (v := .bool (decide ((decide ((errD (zaf m (zai m other))) = 0)) = true))) rfl (wo 16 117 rfl rfl (bT hc111) rfl) rfl (x_eql_bool u4 rfl (bT hc110)) <| p_v (v := .bool (decide ((decide ((errD (zaf m (zai m other))) = 0)) = true))) rfl rfl rfl (za5 (bT hc111) rfl) <| p_v (v := .bool (decide ((decide ((errD (zaf m (zai m other))) = 0)) = true))) rfl rfl rfl (zag rfl) ?_
    have hc112 : ((decide ((errD (zaf m (zai m other))) = 0)) = true) := by
     rw [errD_b (okPart_pP m other)]; first | done | exact decide_eq_false hx1_ | exact decide_eq_true hy1_
    refine p_c rfl (wo 23 124 rfl rfl (bT hc112) rfl) rfl (za6 (args := []) ca19 rfl rfl) (zei w98  (zex.st S99 tb)) ?_
    rintro _ w113 ⟨h113, T113, rfl⟩
    have S114 := S99.keep (Chg.of_below T113.below)
    refine p_v (v := .bool true) rfl rfl rfl (za5 (bT hc112) rfl) <| p_v (v := .bool true) rfl rfl rfl (zah rfl) <| zaa <| zar Tryd.func4 (res1 rfl (zax (v := .bool true) rfl)) ?_
    have q0 : (true : Bool) = true := rfl
    refine ⟨_, rfl, h94, ?_, ?_⟩
    · exact S114.sub [] (by decide) rfl _ rfl
    · rfl
   have hy2_ := Decidable.not_not.1 hc109; have hb_ := errB_iff.1 hy2_; have hRb_ := (okB_of (okPart_pP m other) hb_).2.1; have hb2_ := both2_of ha_ hb_ (by omega) (by omega)
   refine zau <| zab <| zad (l := [0, 1, 2]) rfl <| p_v (v := .agg (zac (zai m other)).toArray) rfl rfl rfl (zal (seg := (zac (zai m other))) ty32 (zae jf79_0) (by simp) rj79_9 (CF.box (m := 257) (S99.box_at (j := 2) rfl) (by rw [List.drop_zero, List.take_of_length_le (by rw [zae jf79_0]; exact Nat.le_refl _)]))) <| p_c rfl rfl rfl (za6 (args := [.agg (zac (zai m other)).toArray]) ca22 rfl rfl) (leastL_calls w98 (zai m other) jf79_0 (zex.st S99 tb)) ?_
   rintro v116_0 w116 ⟨h116, _, T116, rfl⟩
   obtain ⟨k116, lk116, ll116, U116⟩ := zci S99 T116
   have lc116_0 := (lf94_0).trans lk116
   have lc116_1 := (lf94_1).trans lk116
   have lc116_2 := (lf94_2).trans lk116
   have lc116_3 := (lf94_3).trans lk116
   have lc116_4 := (lf94_4).trans lk116
   have lc116_5 := (lf94_5).trans lk116
   have lc116_6 := (lf94_6).trans lk116
   have lc116_7 := (lf94_7).trans lk116
   have lc116_8 := (lf94_8).trans lk116
   have lc116_9 := (lf94_9).trans lk116
   have lc116_10 := (lf94_10).trans lk116
   have lc116_11 := (lf94_11).trans lk116
   have lc116_12 := (lf94_12).trans lk116
   have lc116_13 := (lf94_13).trans lk116
   have lc116_14 := (lf94_14).trans lk116
   have lc116_15 := (le94).trans lk116
   have S117 := U116
   dsimp only [lAa, lAn, lA0, lAs] at S117
   obtain ⟨h118, le118, T118, rp118⟩ := S117.freeze (i := 11) rfl
   have lf118_0 := (lc116_0).trans le118
   have lf118_1 := (lc116_1).trans le118
   have lf118_2 := (lc116_2).trans le118
   have lf118_3 := (lc116_3).trans le118
   have lf118_4 := (lc116_4).trans le118
   have lf118_5 := (lc116_5).trans le118
   have lf118_6 := (lc116_6).trans le118
   have lf118_7 := (lc116_7).trans le118
   have lf118_8 := (lc116_8).trans le118
   have lf118_9 := (lc116_9).trans le118
   have lf118_10 := (lc116_10).trans le118
   have lf118_11 := (lc116_11).trans le118
   have lf118_12 := (lc116_12).trans le118
   have lf118_13 := (lc116_13).trans le118
   have lf118_14 := (lc116_14).trans le118
   have lf118_15 := (lc116_15).trans le118
   have lf118_16 := (lk116).trans le118
   have S119 := T118.fx 11 (emp) rfl
   dsimp only [lAa, lAn, lA0, lAs] at S119
   obtain ⟨A118, c118, e118, lc118, cm118, ld118⟩ := rp118
   injection e118 with e118 _; subst e118
   have cn118 := cm118; simp only [maxLen] at cn118
   refine p_v (v := .slice A118 (zam (zai m other)).length c118) rfl rfl rfl (zah rfl) <| zaa <| zab <| zad (l := [0, 1, 2, 3, 4]) rfl <| p_v (v := .agg #[.slice A0_0 m.spots.length c0_0, .slice A0_1 m.first.length c0_1, .slice A0_2 m.follow.length c0_2, .slice A0_3 m.last.length c0_3, .bool m.empty]) rfl rfl rfl (zal (seg := [.slice A0_0 m.spots.length c0_0, .slice A0_1 m.first.length c0_1, .slice A0_2 m.follow.length c0_2, .slice A0_3 m.last.length c0_3, .bool m.empty]) ty27 rfl (by simp) rj79_4 (CF.box (m := 5) (S119.box_at (j := 0) rfl) rfl)) <| p_v (v := .slice A118 (zam (zai m other)).length c118) rfl rfl rfl (zag rfl) <| p_c rfl rfl rfl (za6 (args := [.agg #[.slice A0_0 m.spots.length c0_0, .slice A0_1 m.first.length c0_1, .slice A0_2 m.follow.length c0_2, .slice A0_3 m.last.length c0_3, .bool m.empty], .slice A118 (zam (zai m other)).length c118]) ca29 rfl rfl) (ref11_calls w116 m A0_0 c0_0 b0_0 (l0_0.mono (St.le0 S119)) A0_1 c0_1 b0_1 (l0_1.mono (St.le0 S119)) A0_2 c0_2 b0_2 (l0_2.mono (St.le0 S119)) A0_3 c0_3 b0_3 (l0_3.mono (St.le0 S119)) (zam (zai m other)) A118 c118 (And.intro lc118 cm118) (ld118.mono ((Le.refl _).trans S119.ghost)) (by first | assumption | exact ⟨by assumption, by omega, by omega⟩)) ?_
   rintro _ w120 ⟨h120, v120_0, v120_1, T120, rfl⟩
   obtain ⟨k120, lk120, ll120, U120⟩ := zci S119 T120
   have lc120_0 := (lf118_0).trans lk120
   have lc120_1 := (lf118_1).trans lk120
   have lc120_2 := (lf118_2).trans lk120
   have lc120_3 := (lf118_3).trans lk120
   have lc120_4 := (lf118_4).trans lk120
   have lc120_5 := (lf118_5).trans lk120
   have lc120_6 := (lf118_6).trans lk120
   have lc120_7 := (lf118_7).trans lk120
   have lc120_8 := (lf118_8).trans lk120
   have lc120_9 := (lf118_9).trans lk120
   have lc120_10 := (lf118_10).trans lk120
   have lc120_11 := (lf118_11).trans lk120
   have lc120_12 := (lf118_12).trans lk120
   have lc120_13 := (lf118_13).trans lk120
   have lc120_14 := (lf118_14).trans lk120
   have lc120_15 := (lf118_15).trans lk120
   have lc120_16 := (lf118_16).trans lk120
   have lc120_17 := (le118).trans lk120
   have S121 := U120
   dsimp only [lAa, lAn, lA0, lAs] at S121
   obtain ⟨h122, le122, T122, rp122⟩ := S121.freeze (i := 12) rfl
   have lf122_0 := (lc120_0).trans le122
   have lf122_1 := (lc120_1).trans le122
   have lf122_2 := (lc120_2).trans le122
   have lf122_3 := (lc120_3).trans le122
   have lf122_4 := (lc120_4).trans le122
   have lf122_5 := (lc120_5).trans le122
   have lf122_6 := (lc120_6).trans le122
   have lf122_7 := (lc120_7).trans le122
   have lf122_8 := (lc120_8).trans le122
   have lf122_9 := (lc120_9).trans le122
   have lf122_10 := (lc120_10).trans le122
   have lf122_11 := (lc120_11).trans le122
   have lf122_12 := (lc120_12).trans le122
   have lf122_13 := (lc120_13).trans le122
   have lf122_14 := (lc120_14).trans le122
   have lf122_15 := (lc120_15).trans le122
   have lf122_16 := (lc120_16).trans le122
   have lf122_17 := (lc120_17).trans le122
   have lf122_18 := (lk120).trans le122
   have S123 := T122.fx 12 (emp) rfl
   dsimp only [lAa, lAn, lA0, lAs] at S123
   obtain ⟨A122, c122, e122, lc122, cm122, ld122⟩ := rp122
   injection e122 with e122 _; subst e122
   have cn122 := cm122; simp only [maxLen] at cn122
   obtain ⟨h124, le124, T124, rp124⟩ := S123.freeze (i := 13) rfl
   have lf124_0 := (lf122_0).trans le124
   have lf124_1 := (lf122_1).trans le124
   have lf124_2 := (lf122_2).trans le124
   have lf124_3 := (lf122_3).trans le124
   have lf124_4 := (lf122_4).trans le124
   have lf124_5 := (lf122_5).trans le124
   have lf124_6 := (lf122_6).trans le124
   have lf124_7 := (lf122_7).trans le124
   have lf124_8 := (lf122_8).trans le124
   have lf124_9 := (lf122_9).trans le124
   have lf124_10 := (lf122_10).trans le124
   have lf124_11 := (lf122_11).trans le124
   have lf124_12 := (lf122_12).trans le124
   have lf124_13 := (lf122_13).trans le124
   have lf124_14 := (lf122_14).trans le124
   have lf124_15 := (lf122_15).trans le124
   have lf124_16 := (lf122_16).trans le124
   have lf124_17 := (lf122_17).trans le124
   have lf124_18 := (lf122_18).trans le124
   have lf124_19 := (le122).trans le124
   have S125 := T124.fx 13 (emp) rfl
   dsimp only [lAa, lAn, lA0, lAs] at S125
   obtain ⟨A124, c124, e124, lc124, cm124, ld124⟩ := rp124
   injection e124 with e124 _; subst e124
   have cn124 := cm124; simp only [maxLen] at cn124
   obtain ⟨b126, w126, r126, g126, T126⟩ := zb2 (P := Tryd.prog) S125 47 (v := (.agg #[.slice none 0 0, .slice none 0 0, .slice none 0 0])) [.slice none 0 0, .slice none 0 0, .slice none 0 0] rfl
   have S127 := T126
   dsimp only [lAa, lAn, lA0, lAs] at S127
   refine p_v (v := .pointer (some ⟨b126, 0, none⟩)) rfl rfl rfl (zcj ty47 r126) ?_
   obtain ⟨w128, r128, g128, T128⟩ := zcb (P := Tryd.prog) (off := 0) (v := .agg #[.slice A118 (zam (zai m other)).length c118, .slice A122 ((refB m (zam (zai m other))).next).length c122, .slice A124 ((refB m (zam (zai m other))).final).length c124]) (vs := [.slice A118 (zam (zai m other)).length c118, .slice A122 ((refB m (zam (zai m other))).next).length c122, .slice A124 ((refB m (zam (zai m other))).final).length c124]) S127 ty47 rfl rfl (j := 14) rfl (by first | decide | exact Nat.le_of_ble_eq_true rfl) (by simp [Value.oneCell'])
   have S129 := T128.fx 14 (box b126 47 [.slice A118 (zam (zai m other)).length c118, .slice A122 ((refB m (zam (zai m other))).next).length c122, .slice A124 ((refB m (zam (zai m other))).final).length c124]) rfl
   dsimp only [lAa, lAn, lA0, lAs] at S129
   refine p_s rfl rfl (zbh rfl rfl r128) <| zaa <| zab <| zad (l := [0, 1, 2, 3, 4]) rfl <| p_v (v := .agg #[.slice A1_0 other.spots.length c1_0, .slice A1_1 other.first.length c1_1, .slice A1_2 other.follow.length c1_2, .slice A1_3 other.last.length c1_3, .bool other.empty]) rfl rfl rfl (zal (seg := [.slice A1_0 other.spots.length c1_0, .slice A1_1 other.first.length c1_1, .slice A1_2 other.follow.length c1_2, .slice A1_3 other.last.length c1_3, .bool other.empty]) ty27 rfl (by simp) rj79_5 (CF.box (m := 5) (S129.box_at (j := 1) rfl) rfl)) <| p_v (v := .slice A118 (zam (zai m other)).length c118) rfl rfl rfl (zag rfl) <| p_c rfl rfl rfl (za6 (args := [.agg #[.slice A1_0 other.spots.length c1_0, .slice A1_1 other.first.length c1_1, .slice A1_2 other.follow.length c1_2, .slice A1_3 other.last.length c1_3, .bool other.empty], .slice A118 (zam (zai m other)).length c118]) ca29 rfl rfl) (ref11_calls w128 other A1_0 c1_0 b1_0 (l1_0.mono (St.le0 S129)) A1_1 c1_1 b1_1 (l1_1.mono (St.le0 S129)) A1_2 c1_2 b1_2 (l1_2.mono (St.le0 S129)) A1_3 c1_3 b1_3 (l1_3.mono (St.le0 S129)) (zam (zai m other)) A118 c118 (And.intro lc118 cm118) (ld118.mono (lf124_18.trans S129.ghost)) (by first | assumption | exact ⟨by assumption, by omega, by omega⟩)) ?_
   rintro _ w130 ⟨h130, v130_0, v130_1, T130, rfl⟩
   obtain ⟨k130, lk130, ll130, U130⟩ := zci S129 T130
   have lc130_0 := (lf124_0).trans lk130
   have lc130_1 := (lf124_1).trans lk130
   have lc130_2 := (lf124_2).trans lk130
   have lc130_3 := (lf124_3).trans lk130
   have lc130_4 := (lf124_4).trans lk130
   have lc130_5 := (lf124_5).trans lk130
   have lc130_6 := (lf124_6).trans lk130
   have lc130_7 := (lf124_7).trans lk130
   have lc130_8 := (lf124_8).trans lk130
   have lc130_9 := (lf124_9).trans lk130
   have lc130_10 := (lf124_10).trans lk130
   have lc130_11 := (lf124_11).trans lk130
   have lc130_12 := (lf124_12).trans lk130
   have lc130_13 := (lf124_13).trans lk130
   have lc130_14 := (lf124_14).trans lk130
   have lc130_15 := (lf124_15).trans lk130
   have lc130_16 := (lf124_16).trans lk130
   have lc130_17 := (lf124_17).trans lk130
   have lc130_18 := (lf124_18).trans lk130
   have lc130_19 := (lf124_19).trans lk130
   have lc130_20 := (le124).trans lk130
   have S131 := U130
   dsimp only [lAa, lAn, lA0, lAs] at S131
   obtain ⟨h132, le132, T132, rp132⟩ := S131.freeze (i := 15) rfl
   have lf132_0 := (lc130_0).trans le132
   have lf132_1 := (lc130_1).trans le132
   have lf132_2 := (lc130_2).trans le132
   have lf132_3 := (lc130_3).trans le132
   have lf132_4 := (lc130_4).trans le132
   have lf132_5 := (lc130_5).trans le132
   have lf132_6 := (lc130_6).trans le132
   have lf132_7 := (lc130_7).trans le132
   have lf132_8 := (lc130_8).trans le132
   have lf132_9 := (lc130_9).trans le132
   have lf132_10 := (lc130_10).trans le132
   have lf132_11 := (lc130_11).trans le132
   have lf132_12 := (lc130_12).trans le132
   have lf132_13 := (lc130_13).trans le132
   have lf132_14 := (lc130_14).trans le132
   have lf132_15 := (lc130_15).trans le132
   have lf132_16 := (lc130_16).trans le132
   have lf132_17 := (lc130_17).trans le132
   have lf132_18 := (lc130_18).trans le132
   have lf132_19 := (lc130_19).trans le132
   have lf132_20 := (lc130_20).trans le132
   have lf132_21 := (lk130).trans le132
   have S133 := T132.fx 15 (emp) rfl
   dsimp only [lAa, lAn, lA0, lAs] at S133
   obtain ⟨A132, c132, e132, lc132, cm132, ld132⟩ := rp132
   injection e132 with e132 _; subst e132
   have cn132 := cm132; simp only [maxLen] at cn132
   obtain ⟨h134, le134, T134, rp134⟩ := S133.freeze (i := 16) rfl
   have lf134_0 := (lf132_0).trans le134
   have lf134_1 := (lf132_1).trans le134
   have lf134_2 := (lf132_2).trans le134
   have lf134_3 := (lf132_3).trans le134
   have lf134_4 := (lf132_4).trans le134
   have lf134_5 := (lf132_5).trans le134
   have lf134_6 := (lf132_6).trans le134
   have lf134_7 := (lf132_7).trans le134
   have lf134_8 := (lf132_8).trans le134
   have lf134_9 := (lf132_9).trans le134
   have lf134_10 := (lf132_10).trans le134
   have lf134_11 := (lf132_11).trans le134
   have lf134_12 := (lf132_12).trans le134
   have lf134_13 := (lf132_13).trans le134
   have lf134_14 := (lf132_14).trans le134
   have lf134_15 := (lf132_15).trans le134
   have lf134_16 := (lf132_16).trans le134
   have lf134_17 := (lf132_17).trans le134
   have lf134_18 := (lf132_18).trans le134
   have lf134_19 := (lf132_19).trans le134
   have lf134_20 := (lf132_20).trans le134
   have lf134_21 := (lf132_21).trans le134
   have lf134_22 := (le132).trans le134
   have S135 := T134.fx 16 (emp) rfl
   dsimp only [lAa, lAn, lA0, lAs] at S135
   obtain ⟨A134, c134, e134, lc134, cm134, ld134⟩ := rp134
   injection e134 with e134 _; subst e134
   have cn134 := cm134; simp only [maxLen] at cn134
   obtain ⟨b136, w136, r136, g136, T136⟩ := zb2 (P := Tryd.prog) S135 47 (v := (.agg #[.slice none 0 0, .slice none 0 0, .slice none 0 0])) [.slice none 0 0, .slice none 0 0, .slice none 0 0] rfl
   have S137 := T136
   dsimp only [lAa, lAn, lA0, lAs] at S137
   refine p_v (v := .pointer (some ⟨b136, 0, none⟩)) rfl rfl rfl (zcj ty47 r136) ?_
   obtain ⟨w138, r138, g138, T138⟩ := zcb (P := Tryd.prog) (off := 0) (v := .agg #[.slice A118 (zam (zai m other)).length c118, .slice A132 ((refB other (zam (zai m other))).next).length c132, .slice A134 ((refB other (zam (zai m other))).final).length c134]) (vs := [.slice A118 (zam (zai m other)).length c118, .slice A132 ((refB other (zam (zai m other))).next).length c132, .slice A134 ((refB other (zam (zai m other))).final).length c134]) S137 ty47 rfl rfl (j := 17) rfl (by first | decide | exact Nat.le_of_ble_eq_true rfl) (by simp [Value.oneCell'])
   have S139 := T138.fx 17 (box b136 47 [.slice A118 (zam (zai m other)).length c118, .slice A132 ((refB other (zam (zai m other))).next).length c132, .slice A134 ((refB other (zam (zai m other))).final).length c134]) rfl
   dsimp only [lAa, lAn, lA0, lAs] at S139
   refine p_s rfl rfl (zbh rfl rfl r138) <| zaa <| zab <| zab ?_
   have hf140 : (CFs ⟨b38, 0, none⟩ ((zac ((zaf m (zai m other)).part)) ++ ([.slice A34 ((zaf m (zai m other)).next).length c34, .slice A36 ((zaf m (zai m other)).final).length c36] : List Value))).1 w138 := (CF.box (m := 259) (S139.box_at (j := 3) rfl) (zdo (zbb (zae jf79_1) rfl)))
   have hf141 : (CFs ⟨b126, 0, none⟩ [.slice A118 (zam (zai m other)).length c118, .slice A122 ((refB m (zam (zai m other))).next).length c122, .slice A124 ((refB m (zam (zai m other))).final).length c124]).1 w138 := (CF.box (m := 3) (S139.box_at (j := 14) rfl) rfl)
   refine daS (hkC 0 hf140 (hkC 2 hf141 (hkN (w := w138)))) 31 rfl mixed ?_
   intro wd142 gd142 hd142
   have S143 := S139.keep gd142
   have hf144 := spUp gd142 hf140
   have hf145 := spUp gd142 hf141
   refine qd1 0 (i := 0) (v := .agg ((zac ((zaf m (zai m other)).part)) ++ ([.slice A34 ((zaf m (zai m other)).next).length c34, .slice A36 ((zaf m (zai m other)).final).length c36] : List Value)).toArray) rfl rfl (by decide +kernel) rfl rfl (fun wq hq => (zal (seg := ((zac ((zaf m (zai m other)).part)) ++ ([.slice A34 ((zaf m (zai m other)).next).length c34, .slice A36 ((zaf m (zai m other)).final).length c36] : List Value))) ty35 (zbb (zae jf79_1) rfl) (by simp) rj79_10 hq)) (za9 hf144 (zaj rfl)) <| qd1 1 (i := 2) (v := .agg #[.slice A118 (zam (zai m other)).length c118, .slice A122 ((refB m (zam (zai m other))).next).length c122, .slice A124 ((refB m (zam (zai m other))).final).length c124]) rfl rfl (by decide +kernel) rfl rfl (fun wq hq => (zal (seg := [.slice A118 (zam (zai m other)).length c118, .slice A122 ((refB m (zam (zai m other))).next).length c122, .slice A124 ((refB m (zam (zai m other))).final).length c124]) ty47 rfl (by simp) rfl hq)) (za1 rfl (za9 hf145 (zaj rfl))) <| zby (i := 1) (by decide +kernel) ?_
   intro wd146 gd146
   have S147 := S143.keep gd146
   have hf148 := spUp gd146 hf144
   have hf149 := spUp gd146 hf145
   refine d_i rfl rfl rfl (za6 (args := [.agg ((zac ((zaf m (zai m other)).part)) ++ ([.slice A34 ((zaf m (zai m other)).next).length c34, .slice A36 ((zaf m (zai m other)).final).length c36] : List Value)).toArray]) ca31 rfl rfl) (zaq Tryd.func31 rfl Tryd.ntmps31 rfl ?_)
   refine zab <| zad (l := [0, 1]) rfl ?_
   obtain ⟨b150, w150, r150, g150, T150⟩ := zb2 (P := Tryd.prog) S147 35 (v := .agg ((zac ((zaf m (zai m other)).part)) ++ ([.slice A34 ((zaf m (zai m other)).next).length c34, .slice A36 ((zaf m (zai m other)).final).length c36] : List Value)).toArray) ((zac ((zaf m (zai m other)).part)) ++ ([.slice A34 ((zaf m (zai m other)).next).length c34, .slice A36 ((zaf m (zai m other)).final).length c36] : List Value)) rfl
   have S151 := T150
   dsimp only [lAa, lAn, lA0, lAs] at S151
   refine p_v (v := .pointer (some ⟨b150, 0, none⟩)) rfl rfl rfl (zc8 rfl r150) ?_
   obtain ⟨b152, w152, r152, g152, T152⟩ := zb2 (P := Tryd.prog) S151 47 (v := (.agg #[.slice none 0 0, .slice none 0 0, .slice none 0 0])) [.slice none 0 0, .slice none 0 0, .slice none 0 0] rfl
   have S153 := T152
   dsimp only [lAa, lAn, lA0, lAs] at S153
   refine p_v (v := .pointer (some ⟨b152, 0, none⟩)) rfl rfl rfl (zcj ty47 r152) <| zaa <| zab <| zad (l := [0, 1, 2, 3, 4, 5]) rfl <| p_v (v := .pointer (some ⟨b150, 257, none⟩)) rfl rfl rfl (zan zfg ty24 rfl rfl) <| p_v (v := .slice A34 ((zaf m (zai m other)).next).length c34) rfl rfl rfl (zal (seg := [.slice A34 ((zaf m (zai m other)).next).length c34]) ty24 rfl (by simp) rfl (CF.box (m := 1) (S153.box_at (j := 18) rfl) (zbd (a := (zac ((zaf m (zai m other)).part))) (pre := []) (seg := [.slice A34 ((zaf m (zai m other)).next).length c34]) (post := [.slice A36 ((zaf m (zai m other)).final).length c36]) (zae jf79_1) rfl rfl))) <| p_v (v := .pointer (some ⟨b150, 258, none⟩)) rfl rfl rfl (zan ze0 ty25 rfl rfl) <| p_v (v := .slice A36 ((zaf m (zai m other)).final).length c36) rfl rfl rfl (zal (seg := [.slice A36 ((zaf m (zai m other)).final).length c36]) ty25 rfl (by simp) rfl (CF.box (m := 1) (S153.box_at (j := 18) rfl) (zbd (a := (zac ((zaf m (zai m other)).part))) (pre := [.slice A34 ((zaf m (zai m other)).next).length c34]) (seg := [.slice A36 ((zaf m (zai m other)).final).length c36]) (post := []) (zae jf79_1) rfl rfl))) <| p_v (v := .agg #[.slice none 0 0, .slice A34 ((zaf m (zai m other)).next).length c34, .slice A36 ((zaf m (zai m other)).final).length c36]) rfl rfl rfl (zdj (pv := [(1, .slice A34 ((zaf m (zai m other)).next).length c34), (2, .slice A36 ((zaf m (zai m other)).final).length c36)]) rfl (zbg pl47 ty47 rfl (cs := [.slice none 0 0, .slice A34 ((zaf m (zai m other)).next).length c34, .slice A36 ((zaf m (zai m other)).final).length c36]) rfl)) ?_
   obtain ⟨w154, r154, g154, T154⟩ := zcb (P := Tryd.prog) (off := 0) (v := .agg #[.slice none 0 0, .slice A34 ((zaf m (zai m other)).next).length c34, .slice A36 ((zaf m (zai m other)).final).length c36]) (vs := [.slice none 0 0, .slice A34 ((zaf m (zai m other)).next).length c34, .slice A36 ((zaf m (zai m other)).final).length c36]) S153 ty47 rfl rfl (j := 19) rfl (by first | decide | exact Nat.le_of_ble_eq_true rfl) (by simp [Value.oneCell'])
   have S155 := T154.fx 19 (box b152 47 [.slice none 0 0, .slice A34 ((zaf m (zai m other)).next).length c34, .slice A36 ((zaf m (zai m other)).final).length c36]) rfl
   dsimp only [lAa, lAn, lA0, lAs] at S155
   refine p_s rfl rfl (zbh rfl rfl r154) <| zaa <| zar Tryd.func31 (res1 rfl (zcv S155 ty47 rfl (j := 19) rfl rfl (by simp) rfl)) ?_
   refine ⟨_, rfl, ?_⟩
   have hf156 : (CFs ⟨b38, 0, none⟩ ((zac ((zaf m (zai m other)).part)) ++ ([.slice A34 ((zaf m (zai m other)).next).length c34, .slice A36 ((zaf m (zai m other)).final).length c36] : List Value))).1 w154 := (CF.box (m := 259) (S155.box_at (j := 3) rfl) (zdo (zbb (zae jf79_1) rfl)))
   have hf157 : (CFs ⟨b126, 0, none⟩ [.slice A118 (zam (zai m other)).length c118, .slice A122 ((refB m (zam (zai m other))).next).length c122, .slice A124 ((refB m (zam (zai m other))).final).length c124]).1 w154 := (CF.box (m := 3) (S155.box_at (j := 14) rfl) rfl)
   refine ⟨.inr (zbv hf156 (zbv hf157 trivial)), ?_⟩
   have hc159 : (zeo (⟨([] : List Int), (zaf m (zai m other)).next, (zaf m (zai m other)).final⟩ : RefD) (⟨zam (zai m other), (refB m (zam (zai m other))).next, (refB m (zam (zai m other))).final⟩ : RefD)) = true := by
    exact same_b (okPart_pP m other) ha_ _
   have hf160 : (zbx (Kd.int .i64).slice A34 ((zaf m (zai m other)).next)).1 w154 := (ld34.mono (lf134_2.trans S155.ghost))
   have hf161 : (zbx Kd.bool A36 ((zaf m (zai m other)).final)).1 w154 := (ld36.mono (lf134_3.trans S155.ghost))
   have hf162 : (zbx (Kd.int .u8) A118 (zam (zai m other))).1 w154 := (ld118.mono (lf134_18.trans S155.ghost))
   have hf163 : (zbx (Kd.int .i64).slice A122 ((refB m (zam (zai m other))).next)).1 w154 := (ld122.mono (lf134_20.trans S155.ghost))
   have hf164 : (zbx Kd.bool A124 ((refB m (zam (zai m other))).final)).1 w154 := (ld124.mono (lf134_21.trans S155.ghost))
   have hf165 : (CFs ⟨b48, 0, none⟩ ((zac ((zaf other (zai m other)).part)) ++ ([.slice A44 ((zaf other (zai m other)).next).length c44, .slice A46 ((zaf other (zai m other)).final).length c46] : List Value))).1 w154 := (CF.box (m := 259) (S155.box_at (j := 4) rfl) (zdo (zbb (zae jf79_2) rfl)))
   have hf166 : (CFs ⟨b136, 0, none⟩ [.slice A118 (zam (zai m other)).length c118, .slice A132 ((refB other (zam (zai m other))).next).length c132, .slice A134 ((refB other (zam (zai m other))).final).length c134]).1 w154 := (CF.box (m := 3) (S155.box_at (j := 17) rfl) rfl)
   refine raMo (hkC 3 hf160 (hkC 3 hf161 (hkC 3 hf162 (hkC 3 hf163 (hkC 3 hf164 (hkC 6 hf165 (hkC 8 hf166 (hkN (w := w154))))))))) <| d_m (i := 3) (v := .bool (zeo (⟨([] : List Int), (zaf m (zai m other)).next, (zaf m (zai m other)).final⟩ : RefD) (⟨zam (zai m other), (refB m (zam (zai m other))).next, (refB m (zam (zai m other))).final⟩ : RefD))) (fun wf => zbe (Kd.int .i64).slice (hp wf) A34 ((zaf m (zai m other)).next) ∧ zbe Kd.bool (hp wf) A36 ((zaf m (zai m other)).final) ∧ zbe (Kd.int .u8) (hp wf) A118 (zam (zai m other)) ∧ zbe (Kd.int .i64).slice (hp wf) A122 ((refB m (zam (zai m other))).next) ∧ zbe Kd.bool (hp wf) A124 ((refB m (zam (zai m other))).final)) (fun _ ho => ⟨ho _ (List.mem_of_getElem? (i := 0) rfl) rfl, ho _ (List.mem_of_getElem? (i := 1) rfl) rfl, ho _ (List.mem_of_getElem? (i := 2) rfl) rfl, ho _ (List.mem_of_getElem? (i := 3) rfl) rfl, ho _ (List.mem_of_getElem? (i := 4) rfl) rfl⟩) rfl (by decide +kernel) (by decide +kernel) (by decide +kernel) rfl rfl (fun wq => (za6 (args := [.agg #[.slice none 0 0, .slice A34 ((zaf m (zai m other)).next).length c34, .slice A36 ((zaf m (zai m other)).final).length c36], .agg #[.slice A118 (zam (zai m other)).length c118, .slice A122 ((refB m (zam (zai m other))).next).length c122, .slice A124 ((refB m (zam (zai m other))).final).length c124]]) ca30 rfl rfl)) (fun wq hq => (sameR_calls wq (⟨([] : List Int), (zaf m (zai m other)).next, (zaf m (zai m other)).final⟩ : RefD) none 0 (by simp [maxLen]) (leads_nil _ _) A34 c34 (And.intro lc34 cm34) hq.1 A36 c36 (And.intro lc36 cm36) hq.2.1 (⟨zam (zai m other), (refB m (zam (zai m other))).next, (refB m (zam (zai m other))).final⟩ : RefD) A118 c118 (And.intro lc118 cm118) hq.2.2.1 A122 c122 (And.intro lc122 cm122) hq.2.2.2.1 A124 c124 (And.intro lc124 cm124) hq.2.2.2.2).mono fun e w2 he => by obtain ⟨_, rfl, _, T, rfl⟩ := he; exact ⟨rfl, Chg.of_below T.below⟩) (za9 hf160 (za9 hf161 (za9 hf162 (za9 hf163 (za9 hf164 (zaj rfl)))))) <| qd0 (i := 4) (v := .bool (!(zeo (⟨([] : List Int), (zaf m (zai m other)).next, (zaf m (zai m other)).final⟩ : RefD) (⟨zam (zai m other), (refB m (zam (zai m other))).next, (refB m (zam (zai m other))).final⟩ : RefD)))) rfl (by decide +kernel) rfl rfl (ze2 rfl) (zaj rfl) <| qd0 (i := 5) (v := .bool (!(zeo (⟨([] : List Int), (zaf m (zai m other)).next, (zaf m (zai m other)).final⟩ : RefD) (⟨zam (zai m other), (refB m (zam (zai m other))).next, (refB m (zam (zai m other))).final⟩ : RefD)))) rfl (by decide +kernel) rfl rfl (zag rfl) (zaj rfl) <| qd1 5 (i := 6) (v := .agg ((zac ((zaf other (zai m other)).part)) ++ ([.slice A44 ((zaf other (zai m other)).next).length c44, .slice A46 ((zaf other (zai m other)).final).length c46] : List Value)).toArray) rfl rfl (by decide +kernel) (wo 5 140 rfl rfl (congrArg (fun z => Value.bool (!z)) hc159) rfl) rfl (fun wq hq => (zal (seg := ((zac ((zaf other (zai m other)).part)) ++ ([.slice A44 ((zaf other (zai m other)).next).length c44, .slice A46 ((zaf other (zai m other)).final).length c46] : List Value))) ty35 (zbb (zae jf79_2) rfl) (by simp) rj79_12 hq)) (za1 rfl (za1 rfl (za1 rfl (za1 rfl (za1 rfl (za9 hf165 (zaj rfl))))))) <| qd1 6 (i := 8) (v := .agg #[.slice A118 (zam (zai m other)).length c118, .slice A132 ((refB other (zam (zai m other))).next).length c132, .slice A134 ((refB other (zam (zai m other))).final).length c134]) rfl rfl (by decide +kernel) (wo 5 140 rfl rfl (congrArg (fun z => Value.bool (!z)) hc159) rfl) rfl (fun wq hq => (zal (seg := [.slice A118 (zam (zai m other)).length c118, .slice A132 ((refB other (zam (zai m other))).next).length c132, .slice A134 ((refB other (zam (zai m other))).final).length c134]) ty47 rfl (by simp) rfl hq)) (za1 rfl (za1 rfl (za1 rfl (za1 rfl (za1 rfl (za1 rfl (za9 hf166 (zaj rfl)))))))) <| zby (i := 7) (by decide +kernel) ?_
   intro wd167 gd167
   have S168 := S155.keep gd167
   have hf169 := spUp gd167 hf160
   have hf170 := spUp gd167 hf161
   have hf171 := spUp gd167 hf162
   have hf172 := spUp gd167 hf163
   have hf173 := spUp gd167 hf164
   have hf174 := spUp gd167 hf165
   have hf175 := spUp gd167 hf166
   have hf176 := spUp gd167 hf156
   have hf177 := spUp gd167 hf157
   refine d_i rfl (wo 5 140 rfl rfl (congrArg (fun z => Value.bool (!z)) hc159) rfl) rfl (za6 (args := [.agg ((zac ((zaf other (zai m other)).part)) ++ ([.slice A44 ((zaf other (zai m other)).next).length c44, .slice A46 ((zaf other (zai m other)).final).length c46] : List Value)).toArray]) ca31 rfl rfl) (zaq Tryd.func31 rfl Tryd.ntmps31 rfl ?_)
   refine zab <| zad (l := [0, 1]) rfl ?_
   obtain ⟨b178, w178, r178, g178, T178⟩ := zb2 (P := Tryd.prog) S168 35 (v := .agg ((zac ((zaf other (zai m other)).part)) ++ ([.slice A44 ((zaf other (zai m other)).next).length c44, .slice A46 ((zaf other (zai m other)).final).length c46] : List Value)).toArray) ((zac ((zaf other (zai m other)).part)) ++ ([.slice A44 ((zaf other (zai m other)).next).length c44, .slice A46 ((zaf other (zai m other)).final).length c46] : List Value)) rfl
   have S179 := T178
   dsimp only [lAa, lAn, lA0, lAs] at S179
   refine p_v (v := .pointer (some ⟨b178, 0, none⟩)) rfl rfl rfl (zc8 rfl r178) ?_
   obtain ⟨b180, w180, r180, g180, T180⟩ := zb2 (P := Tryd.prog) S179 47 (v := (.agg #[.slice none 0 0, .slice none 0 0, .slice none 0 0])) [.slice none 0 0, .slice none 0 0, .slice none 0 0] rfl
   have S181 := T180
   dsimp only [lAa, lAn, lA0, lAs] at S181
   refine p_v (v := .pointer (some ⟨b180, 0, none⟩)) rfl rfl rfl (zcj ty47 r180) <| zaa <| zab <| zad (l := [0, 1, 2, 3, 4, 5]) rfl <| p_v (v := .pointer (some ⟨b178, 257, none⟩)) rfl rfl rfl (zan zfg ty24 rfl rfl) <| p_v (v := .slice A44 ((zaf other (zai m other)).next).length c44) rfl rfl rfl (zal (seg := [.slice A44 ((zaf other (zai m other)).next).length c44]) ty24 rfl (by simp) rfl (CF.box (m := 1) (S181.box_at (j := 20) rfl) (zbd (a := (zac ((zaf other (zai m other)).part))) (pre := []) (seg := [.slice A44 ((zaf other (zai m other)).next).length c44]) (post := [.slice A46 ((zaf other (zai m other)).final).length c46]) (zae jf79_2) rfl rfl))) <| p_v (v := .pointer (some ⟨b178, 258, none⟩)) rfl rfl rfl (zan ze0 ty25 rfl rfl) <| p_v (v := .slice A46 ((zaf other (zai m other)).final).length c46) rfl rfl rfl (zal (seg := [.slice A46 ((zaf other (zai m other)).final).length c46]) ty25 rfl (by simp) rfl (CF.box (m := 1) (S181.box_at (j := 20) rfl) (zbd (a := (zac ((zaf other (zai m other)).part))) (pre := [.slice A44 ((zaf other (zai m other)).next).length c44]) (seg := [.slice A46 ((zaf other (zai m other)).final).length c46]) (post := []) (zae jf79_2) rfl rfl))) <| p_v (v := .agg #[.slice none 0 0, .slice A44 ((zaf other (zai m other)).next).length c44, .slice A46 ((zaf other (zai m other)).final).length c46]) rfl rfl rfl (zdj (pv := [(1, .slice A44 ((zaf other (zai m other)).next).length c44), (2, .slice A46 ((zaf other (zai m other)).final).length c46)]) rfl (zbg pl47 ty47 rfl (cs := [.slice none 0 0, .slice A44 ((zaf other (zai m other)).next).length c44, .slice A46 ((zaf other (zai m other)).final).length c46]) rfl)) ?_
   obtain ⟨w182, r182, g182, T182⟩ := zcb (P := Tryd.prog) (off := 0) (v := .agg #[.slice none 0 0, .slice A44 ((zaf other (zai m other)).next).length c44, .slice A46 ((zaf other (zai m other)).final).length c46]) (vs := [.slice none 0 0, .slice A44 ((zaf other (zai m other)).next).length c44, .slice A46 ((zaf other (zai m other)).final).length c46]) S181 ty47 rfl rfl (j := 21) rfl (by first | decide | exact Nat.le_of_ble_eq_true rfl) (by simp [Value.oneCell'])
   have S183 := T182.fx 21 (box b180 47 [.slice none 0 0, .slice A44 ((zaf other (zai m other)).next).length c44, .slice A46 ((zaf other (zai m other)).final).length c46]) rfl
   dsimp only [lAa, lAn, lA0, lAs] at S183
   refine p_s rfl rfl (zbh rfl rfl r182) <| zaa <| zar Tryd.func31 (res1 rfl (zcv S183 ty47 rfl (j := 21) rfl rfl (by simp) rfl)) ?_
   refine ⟨_, rfl, ?_⟩
   have hf184 : (zbx (Kd.int .i64).slice A34 ((zaf m (zai m other)).next)).1 w182 := (ld34.mono (lf134_2.trans S183.ghost))
   have hf185 : (zbx Kd.bool A36 ((zaf m (zai m other)).final)).1 w182 := (ld36.mono (lf134_3.trans S183.ghost))
   have hf186 : (zbx (Kd.int .u8) A118 (zam (zai m other))).1 w182 := (ld118.mono (lf134_18.trans S183.ghost))
   have hf187 : (zbx (Kd.int .i64).slice A122 ((refB m (zam (zai m other))).next)).1 w182 := (ld122.mono (lf134_20.trans S183.ghost))
   have hf188 : (zbx Kd.bool A124 ((refB m (zam (zai m other))).final)).1 w182 := (ld124.mono (lf134_21.trans S183.ghost))
   have hf189 : (CFs ⟨b48, 0, none⟩ ((zac ((zaf other (zai m other)).part)) ++ ([.slice A44 ((zaf other (zai m other)).next).length c44, .slice A46 ((zaf other (zai m other)).final).length c46] : List Value))).1 w182 := (CF.box (m := 259) (S183.box_at (j := 4) rfl) (zdo (zbb (zae jf79_2) rfl)))
   have hf190 : (CFs ⟨b136, 0, none⟩ [.slice A118 (zam (zai m other)).length c118, .slice A132 ((refB other (zam (zai m other))).next).length c132, .slice A134 ((refB other (zam (zai m other))).final).length c134]).1 w182 := (CF.box (m := 3) (S183.box_at (j := 17) rfl) rfl)
   have hf191 : (CFs ⟨b38, 0, none⟩ ((zac ((zaf m (zai m other)).part)) ++ ([.slice A34 ((zaf m (zai m other)).next).length c34, .slice A36 ((zaf m (zai m other)).final).length c36] : List Value))).1 w182 := (CF.box (m := 259) (S183.box_at (j := 3) rfl) (zdo (zbb (zae jf79_1) rfl)))
   have hf192 : (CFs ⟨b126, 0, none⟩ [.slice A118 (zam (zai m other)).length c118, .slice A122 ((refB m (zam (zai m other))).next).length c122, .slice A124 ((refB m (zam (zai m other))).final).length c124]).1 w182 := (CF.box (m := 3) (S183.box_at (j := 14) rfl) rfl)
   refine ⟨.inr (zbv hf184 (zbv hf185 (zbv hf186 (zbv hf187 (zbv hf188 (zbv hf189 (zbv hf190 (zbv hf191 (zbv hf192 trivial))))))))), ?_⟩
   have hc194 : (zeo (⟨([] : List Int), (zaf other (zai m other)).next, (zaf other (zai m other)).final⟩ : RefD) (⟨zam (zai m other), (refB other (zam (zai m other))).next, (refB other (zam (zai m other))).final⟩ : RefD)) = true := by
    exact same_b (okPart_pP m other) hb_ _
   have hc195 : ¬ (((zaf m (zai m other)).part) ≠ (zai m other)) := by
    exact fun h => h (build_part ha_)
   have hc196 : ¬ ((errD (zaf m (zai m other))) ≠ 0) := by
    exact fun h => h (errD_yes har_)
   have hf197 : (zbx (Kd.int .i64).slice A44 ((zaf other (zai m other)).next)).1 w182 := (ld44.mono (lf134_5.trans S183.ghost))
   have hf198 : (zbx Kd.bool A46 ((zaf other (zai m other)).final)).1 w182 := (ld46.mono (lf134_6.trans S183.ghost))
   have hf199 : (zbx (Kd.int .u8) A118 (zam (zai m other))).1 w182 := (ld118.mono (lf134_18.trans S183.ghost))
   have hf200 : (zbx (Kd.int .i64).slice A132 ((refB other (zam (zai m other))).next)).1 w182 := (ld132.mono (le134.trans S183.ghost))
   have hf201 : (zbx Kd.bool A134 ((refB other (zam (zai m other))).final)).1 w182 := (ld134.mono ((Le.refl _).trans S183.ghost))
   have hf202 : (CFs ⟨b38, 0, none⟩ ((zac ((zaf m (zai m other)).part)))).1 w182 := (CF.box (m := 257) (S183.box_at (j := 3) rfl) (seg_mid (pre := []) (seg := ((zac ((zaf m (zai m other)).part)))) (post := [.slice A34 ((zaf m (zai m other)).next).length c34, .slice A36 ((zaf m (zai m other)).final).length c36]) rfl (zae jf79_1)))
   have hf203 : (CFs ⟨b28, 0, none⟩ (zac (zai m other))).1 w182 := (CF.box (m := 257) (S183.box_at (j := 2) rfl) (by rw [List.drop_zero, List.take_of_length_le (by rw [zae jf79_0]; exact Nat.le_refl _)]))
   have hf204 : (CFs ⟨b96, 258, none⟩ [.slice A94 ((notD (zaf m (zai m other))).final).length c94]).1 w182 := (CF.box (m := 1) (S183.box_at (j := 10) rfl) (zbd (a := (zac ((notD (zaf m (zai m other))).part))) (pre := [.slice A92 ((notD (zaf m (zai m other))).next).length c92]) (seg := [.slice A94 ((notD (zaf m (zai m other))).final).length c94]) (post := []) (zae ok90_0) rfl rfl))
   have hf205 : (CFs ⟨b38, 258, none⟩ [.slice A36 ((zaf m (zai m other)).final).length c36]).1 w182 := (CF.box (m := 1) (S183.box_at (j := 3) rfl) (zbd (a := (zac ((zaf m (zai m other)).part))) (pre := [.slice A34 ((zaf m (zai m other)).next).length c34]) (seg := [.slice A36 ((zaf m (zai m other)).final).length c36]) (post := []) (zae jf79_1) rfl rfl))
   refine raMo (hkC 9 hf197 (hkC 9 hf198 (hkC 9 hf199 (hkC 9 hf200 (hkC 9 hf201 (hkC 14 hf202 (hkC 15 hf203 (hkC 24 hf204 (hkC 27 hf205 (hkN (w := w182))))))))))) <| d_m (i := 9) (v := .bool (zeo (⟨([] : List Int), (zaf other (zai m other)).next, (zaf other (zai m other)).final⟩ : RefD) (⟨zam (zai m other), (refB other (zam (zai m other))).next, (refB other (zam (zai m other))).final⟩ : RefD))) (fun wf => zbe (Kd.int .i64).slice (hp wf) A44 ((zaf other (zai m other)).next) ∧ zbe Kd.bool (hp wf) A46 ((zaf other (zai m other)).final) ∧ zbe (Kd.int .u8) (hp wf) A118 (zam (zai m other)) ∧ zbe (Kd.int .i64).slice (hp wf) A132 ((refB other (zam (zai m other))).next) ∧ zbe Kd.bool (hp wf) A134 ((refB other (zam (zai m other))).final)) (fun _ ho => ⟨ho _ (List.mem_of_getElem? (i := 0) rfl) rfl, ho _ (List.mem_of_getElem? (i := 1) rfl) rfl, ho _ (List.mem_of_getElem? (i := 2) rfl) rfl, ho _ (List.mem_of_getElem? (i := 3) rfl) rfl, ho _ (List.mem_of_getElem? (i := 4) rfl) rfl⟩) rfl (by decide +kernel) (by decide +kernel) (by decide +kernel) (wo 5 140 rfl rfl (congrArg (fun z => Value.bool (!z)) hc159) rfl) rfl (fun wq => (za6 (args := [.agg #[.slice none 0 0, .slice A44 ((zaf other (zai m other)).next).length c44, .slice A46 ((zaf other (zai m other)).final).length c46], .agg #[.slice A118 (zam (zai m other)).length c118, .slice A132 ((refB other (zam (zai m other))).next).length c132, .slice A134 ((refB other (zam (zai m other))).final).length c134]]) ca30 rfl rfl)) (fun wq hq => (sameR_calls wq (⟨([] : List Int), (zaf other (zai m other)).next, (zaf other (zai m other)).final⟩ : RefD) none 0 (by simp [maxLen]) (leads_nil _ _) A44 c44 (And.intro lc44 cm44) hq.1 A46 c46 (And.intro lc46 cm46) hq.2.1 (⟨zam (zai m other), (refB other (zam (zai m other))).next, (refB other (zam (zai m other))).final⟩ : RefD) A118 c118 (And.intro lc118 cm118) hq.2.2.1 A132 c132 (And.intro lc132 cm132) hq.2.2.2.1 A134 c134 (And.intro lc134 cm134) hq.2.2.2.2).mono fun e w2 he => by obtain ⟨_, rfl, _, T, rfl⟩ := he; exact ⟨rfl, Chg.of_below T.below⟩) (za9 hf197 (za9 hf198 (za9 hf199 (za9 hf200 (za9 hf201 (zaj rfl)))))) <| qd0 (i := 10) (v := .bool (!(zeo (⟨([] : List Int), (zaf other (zai m other)).next, (zaf other (zai m other)).final⟩ : RefD) (⟨zam (zai m other), (refB other (zam (zai m other))).next, (refB other (zam (zai m other))).final⟩ : RefD)))) rfl (by decide +kernel) (wo 5 140 rfl rfl (congrArg (fun z => Value.bool (!z)) hc159) rfl) rfl (ze2 rfl) (zaj rfl) <| qd0 (i := 11) (v := .bool (!(zeo (⟨([] : List Int), (zaf other (zai m other)).next, (zaf other (zai m other)).final⟩ : RefD) (⟨zam (zai m other), (refB other (zam (zai m other))).next, (refB other (zam (zai m other))).final⟩ : RefD)))) rfl (by decide +kernel) rfl rfl (zbk (congrArg (fun z => Value.bool (!z)) hc159) rfl) (zaj rfl) <| qd0 (i := 12) (v := .bool (!(zeo (⟨([] : List Int), (zaf other (zai m other)).next, (zaf other (zai m other)).final⟩ : RefD) (⟨zam (zai m other), (refB other (zam (zai m other))).next, (refB other (zam (zai m other))).final⟩ : RefD)))) rfl (by decide +kernel) rfl rfl (zag rfl) (zaj rfl) <| qd0 (i := 13) (v := .pointer (some ⟨b38, 0, none⟩)) rfl (by decide +kernel) (wo 12 147 rfl rfl (congrArg (fun z => Value.bool (!z)) hc194) rfl) rfl (zan fd35_0 ty32 rfl rj79_10) (zaj rfl) <| qd1 5 (i := 14) (v := .agg (zac ((zaf m (zai m other)).part)).toArray) rfl rfl (by decide +kernel) (wo 12 147 rfl rfl (congrArg (fun z => Value.bool (!z)) hc194) rfl) rfl (fun wq hq => (zal (seg := ((zac ((zaf m (zai m other)).part)))) ty32 (zae jf79_1) (by simp) rfl hq)) (za1 rfl (za1 rfl (za1 rfl (za1 rfl (za1 rfl (za9 hf202 (zaj rfl))))))) <| qd1 6 (i := 15) (v := .agg (zac (zai m other)).toArray) rfl rfl (by decide +kernel) (wo 12 147 rfl rfl (congrArg (fun z => Value.bool (!z)) hc194) rfl) rfl (fun wq hq => (zal (seg := (zac (zai m other))) ty32 (zae jf79_0) (by simp) rj79_9 hq)) (za1 rfl (za1 rfl (za1 rfl (za1 rfl (za1 rfl (za1 rfl (za9 hf203 (zaj rfl)))))))) <| qd0 (i := 16) (v := .bool (decide (((zaf m (zai m other)).part) ≠ (zai m other)))) rfl (by decide +kernel) (wo 12 147 rfl rfl (congrArg (fun z => Value.bool (!z)) hc194) rfl) rfl (x_neq_agg eqk32 jf79_1 jf79_0 q32 rfl rfl) (zaj rfl) <| qd0 (i := 17) (v := .bool (decide (((zaf m (zai m other)).part) ≠ (zai m other)))) rfl (by decide +kernel) rfl rfl (zbk (congrArg (fun z => Value.bool (!z)) hc194) rfl) (zaj rfl) <| qd0 (i := 18) (v := .bool (decide (((zaf m (zai m other)).part) ≠ (zai m other)))) rfl (by decide +kernel) rfl rfl (zag rfl) (zaj rfl) <| qd0 (i := 19) (v := .int .i64 (errD (zaf m (zai m other)))) rfl (by decide +kernel) (wo 18 153 rfl rfl (bF hc195) rfl) rfl (zag rfl) (zaj rfl) ?_
   refine qd0 (i := 20) (v := .bool (decide ((errD (zaf m (zai m other))) ≠ 0))) rfl (by decide +kernel) (wo 18 153 rfl rfl (bF hc195) rfl) rfl (x_neq rfl rfl) (zaj rfl) <| qd0 (i := 21) (v := .bool (decide ((errD (zaf m (zai m other))) ≠ 0))) rfl (by decide +kernel) rfl rfl (zbk (bF hc195) rfl) (zaj rfl) <| qd0 (i := 22) (v := .bool (decide ((errD (zaf m (zai m other))) ≠ 0))) rfl (by decide +kernel) rfl rfl (zag rfl) (zaj rfl) <| qd0 (i := 23) (v := .pointer (some ⟨b96, 258, none⟩)) rfl (by decide +kernel) (wo 22 157 rfl rfl (bF hc196) rfl) rfl (zan ze0 ty25 rfl rfl) (zaj rfl) <| qd1 7 (i := 24) (v := .slice A94 ((notD (zaf m (zai m other))).final).length c94) rfl rfl (by decide +kernel) (wo 22 157 rfl rfl (bF hc196) rfl) rfl (fun wq hq => (zal (seg := [.slice A94 ((notD (zaf m (zai m other))).final).length c94]) ty25 rfl (by simp) rfl hq)) (za1 rfl (za1 rfl (za1 rfl (za1 rfl (za1 rfl (za1 rfl (za1 rfl (za9 hf204 (zaj rfl))))))))) <| qd0 (i := 25) (v := .int .i64 (((notD (zaf m (zai m other))).final).length : Int)) rfl (by decide +kernel) (wo 22 157 rfl rfl (bF hc196) rfl) rfl (za0 u25 rfl) (zaj rfl) <| qd0 (i := 26) (v := .pointer (some ⟨b38, 258, none⟩)) rfl (by decide +kernel) (wo 22 157 rfl rfl (bF hc196) rfl) rfl (zan ze0 ty25 rfl rj79_10) (zaj rfl) <| qd1 8 (i := 27) (v := .slice A36 ((zaf m (zai m other)).final).length c36) rfl rfl (by decide +kernel) (wo 22 157 rfl rfl (bF hc196) rfl) rfl (fun wq hq => (zal (seg := [.slice A36 ((zaf m (zai m other)).final).length c36]) ty25 rfl (by simp) rfl hq)) (za1 rfl (za1 rfl (za1 rfl (za1 rfl (za1 rfl (za1 rfl (za1 rfl (za1 rfl (za9 hf205 (zaj rfl)))))))))) <| qd0 (i := 28) (v := .int .i64 (((zaf m (zai m other)).final).length : Int)) rfl (by decide +kernel) (wo 22 157 rfl rfl (bF hc196) rfl) rfl (za0 u25 rfl) (zaj rfl) <| qd0 (i := 29) (v := .bool (decide ((((notD (zaf m (zai m other))).final).length : Int) ≠ (((zaf m (zai m other)).final).length : Int)))) rfl (by decide +kernel) (wo 22 157 rfl rfl (bF hc196) rfl) rfl (x_neq rfl rfl) (zaj rfl) <| qd0 (i := 30) (v := .bool (decide ((((notD (zaf m (zai m other))).final).length : Int) ≠ (((zaf m (zai m other)).final).length : Int)))) rfl (by decide +kernel) rfl rfl (zbk (bF hc196) rfl) (zaj rfl) <| zb3 (by decide +kernel) ?_
   intro wd206 gd206
   have S207 := S183.keep gd206
   have hc208 : ¬ ((((notD (zaf m (zai m other))).final).length : Int) ≠ (((zaf m (zai m other)).final).length : Int)) := by
    exact fun h => h (not_flen har_)
   refine zb4 (b := false) (bF hc208) ?_
   simp only [if_true, if_false, Bool.false_eq_true]
   refine zau <| zab <| zab <| zad (l := [0]) rfl <| p_v (v := .int .i64 0) rfl rfl rfl (zah rfl) <| zaa <| zas <| zbo (S := Int) (fun (q_ : Int) ρ w' => match q_ with | k => ∃ (h : Ghost), Le h134 h ∧ St w.heap.size w h w' [box b38 35 ((zac ((zaf m (zai m other)).part)) ++ ([.slice A34 ((zaf m (zai m other)).next).length c34, .slice A36 ((zaf m (zai m other)).final).length c36] : List Value)), box b86 35 ((zac ((zbt (zaf m (zai m other)) (zaf other (zai m other)) how).part)) ++ ([.slice A82 ((zbt (zaf m (zai m other)) (zaf other (zai m other)) how).next).length c82, .slice A84 ((zbt (zaf m (zai m other)) (zaf other (zai m other)) how).final).length c84] : List Value)), box b96 35 ((zac ((notD (zaf m (zai m other))).part)) ++ ([.slice A92 ((notD (zaf m (zai m other))).next).length c92, .slice A94 ((notD (zaf m (zai m other))).final).length c94] : List Value)), box b126 47 [.slice A118 (zam (zai m other)).length c118, .slice A122 ((refB m (zam (zai m other))).next).length c122, .slice A124 ((refB m (zam (zai m other))).final).length c124], box b136 47 [.slice A118 (zam (zai m other)).length c118, .slice A132 ((refB other (zam (zai m other))).next).length c132, .slice A134 ((refB other (zam (zai m other))).final).length c134]] ∧ ρ 2 = .int .u8 how ∧ ρ 10 = .pointer (some ⟨b38, 0, none⟩) ∧ ρ 16 = .pointer (some ⟨b86, 0, none⟩) ∧ ρ 17 = .int .i64 (errO (zaf m (zai m other)) (zaf other (zai m other)) how) ∧ ρ 18 = .pointer (some ⟨b96, 0, none⟩) ∧ ρ 21 = .pointer (some ⟨b126, 0, none⟩) ∧ ρ 22 = .pointer (some ⟨b136, 0, none⟩) ∧ ρ 23 = .int .i64 k ∧ inK .i64 k ∧ (0 ≤ k ∧ k ≤ ((notD (zaf m (zai m other))).final.length : Int))) (fun q_ => match q_ with | k => ((notD (zaf m (zai m other))).final.length - k).toNat) (0) ⟨h134, Le.refl _, S207.sub [3, 7, 10, 14, 17] (by decide) rfl _ rfl, rj79_2, rj79_10, rfl, rfl, rfl, rfl, rfl, rfl, (zao (by first|omega|(simp;omega)|assumption|simp) (by first|omega|(simp;omega)|assumption|simp)), (by exact ⟨by omega, by omega⟩)⟩ ?_
   rintro k ih209 ρ209 w209 ⟨h209, le209, S209, r209_2, r209_10, r209_16, r209_17, r209_18, r209_21, r209_22, r209_23, f209_0, hI209⟩
   have lf209_0 := za7 f209_0; have hf209_0 := za8 f209_0
   refine zab <| zab <| zad (l := [0, 1, 2, 3, 4]) rfl <| p_v (v := .int .i64 k) rfl rfl rfl (zag r209_23) <| p_v (v := .pointer (some ⟨b96, 258, none⟩)) rfl rfl rfl (zan ze0 ty25 rfl r209_18) <| p_v (v := .slice A94 ((notD (zaf m (zai m other))).final).length c94) rfl rfl rfl (zal (seg := [.slice A94 ((notD (zaf m (zai m other))).final).length c94]) ty25 rfl (by simp) rfl (CF.box (m := 1) (S209.box_at (j := 2) rfl) (zbd (a := (zac ((notD (zaf m (zai m other))).part))) (pre := [.slice A92 ((notD (zaf m (zai m other))).next).length c92]) (seg := [.slice A94 ((notD (zaf m (zai m other))).final).length c94]) (post := []) (zae ok90_0) rfl rfl))) <| p_v (v := .int .i64 (((notD (zaf m (zai m other))).final).length : Int)) rfl rfl rfl (za0 u25 rfl) <| p_v (v := .bool (decide (k < (((notD (zaf m (zai m other))).final).length : Int)))) rfl rfl rfl (zdc rfl rfl) <| zaa ?_
   refine zap (p := k < (((notD (zaf m (zai m other))).final).length : Int)) rfl (fun hc210 => ?_) (fun hc210 => ?_)
   ·skip
    refine zau <| zab <| zas <| zab ?_
    obtain ⟨ad211, seg211, a211, rp211, ce211⟩ := zaz (q := k) (m := 1) ld94 rfl (by first|omega|(simp;omega)|assumption|simp) (by first|omega|(simp;omega)|assumption|simp)
    obtain ⟨rfl, _⟩ := rp211
    obtain ⟨ad212, seg212, a212, rp212, ce212⟩ := zaz (q := k) (m := 1) ld36 rfl (by first|omega|(simp;omega)|assumption|simp) (by first|omega|(simp;omega)|assumption|simp)
    obtain ⟨rfl, _⟩ := rp212
    have hf213 : (CFs ⟨b96, 258, none⟩ [.slice A94 ((notD (zaf m (zai m other))).final).length c94]).1 w209 := (CF.box (m := 1) (S209.box_at (j := 2) rfl) (zbd (a := (zac ((notD (zaf m (zai m other))).part))) (pre := [.slice A92 ((notD (zaf m (zai m other))).next).length c92]) (seg := [.slice A94 ((notD (zaf m (zai m other))).final).length c94]) (post := []) (zae ok90_0) rfl rfl))
    have hf214 : (CFs ad211 [.bool (at_ ((notD (zaf m (zai m other))).final) k)]).1 w209 := (CF.ghost ce211 (((lf134_16).trans le209).trans S209.ghost))
    have hf215 : (CFs ⟨b38, 258, none⟩ [.slice A36 ((zaf m (zai m other)).final).length c36]).1 w209 := (CF.box (m := 1) (S209.box_at (j := 0) rfl) (zbd (a := (zac ((zaf m (zai m other)).part))) (pre := [.slice A34 ((zaf m (zai m other)).next).length c34]) (seg := [.slice A36 ((zaf m (zai m other)).final).length c36]) (post := []) (zae jf79_1) rfl rfl))
    have hf216 : (CFs ad212 [.bool (at_ ((zaf m (zai m other)).final) k)]).1 w209 := (CF.ghost ce212 (((lf134_3).trans le209).trans S209.ghost))
    refine daS (hkC 1 hf213 (hkC 4 hf214 (hkC 6 hf215 (hkC 9 hf216 (hkN (w := w209)))))) 11 rfl mixed ?_
    intro wd217 gd217 hd217
    have S218 := S209.keep gd217
    have hf219 := spUp gd217 hf213
    have hf220 := spUp gd217 hf214
    have hf221 := spUp gd217 hf215
    have hf222 := spUp gd217 hf216
    refine qd0 (i := 0) (v := .pointer (some ⟨b96, 258, none⟩)) rfl (by decide +kernel) rfl rfl (zan ze0 ty25 rfl r209_18) (zaj rfl) <| qd1 0 (i := 1) (v := .slice A94 ((notD (zaf m (zai m other))).final).length c94) rfl rfl (by decide +kernel) rfl rfl (fun wq hq => (zal (seg := [.slice A94 ((notD (zaf m (zai m other))).final).length c94]) ty25 rfl (by simp) rfl hq)) (za9 hf219 (zaj rfl)) <| qd0 (i := 2) (v := .int .i64 k) rfl (by decide +kernel) rfl rfl (zag r209_23) (zaj rfl) <| qd0 (i := 3) (v := .pointer (some ad211)) rfl (by decide +kernel) rfl rfl (zaw u25 ty4 rfl rfl a211 (by first|omega|(simp;omega)|assumption|simp) (by first|omega|(simp;omega)|assumption|simp)) (zaj rfl) <| qd1 1 (i := 4) (v := .bool (at_ ((notD (zaf m (zai m other))).final) k)) rfl rfl (by decide +kernel) rfl rfl (fun wq hq => (zal (seg := [.bool (at_ ((notD (zaf m (zai m other))).final) k)]) ty4 rfl (by simp) rfl hq)) (za1 rfl (za9 hf220 (zaj rfl))) <| qd0 (i := 5) (v := .pointer (some ⟨b38, 258, none⟩)) rfl (by decide +kernel) rfl rfl (zan ze0 ty25 rfl r209_10) (zaj rfl) <| qd1 2 (i := 6) (v := .slice A36 ((zaf m (zai m other)).final).length c36) rfl rfl (by decide +kernel) rfl rfl (fun wq hq => (zal (seg := [.slice A36 ((zaf m (zai m other)).final).length c36]) ty25 rfl (by simp) rfl hq)) (za1 rfl (za1 rfl (za9 hf221 (zaj rfl)))) <| qd0 (i := 7) (v := .int .i64 k) rfl (by decide +kernel) rfl rfl (zag r209_23) (zaj rfl) <| qd0 (i := 8) (v := .pointer (some ad212)) rfl (by decide +kernel) rfl rfl (zaw u25 ty4 rfl rfl a212 (by first|omega|(simp;omega)|assumption|simp) (by first|omega|(simp;omega)|assumption|simp)) (zaj rfl) <| qd1 3 (i := 9) (v := .bool (at_ ((zaf m (zai m other)).final) k)) rfl rfl (by decide +kernel) rfl rfl (fun wq hq => (zal (seg := [.bool (at_ ((zaf m (zai m other)).final) k)]) ty4 rfl (by simp) rfl hq)) (za1 rfl (za1 rfl (za1 rfl (za9 hf222 (zaj rfl))))) <| qd0 (i := 10) (v := .bool (decide ((at_ ((notD (zaf m (zai m other))).final) k) = (at_ ((zaf m (zai m other)).final) k)))) rfl (by decide +kernel) rfl rfl (x_eql_bool u4 rfl rfl) (zaj rfl) <| zb3 (by decide +kernel) ?_
    intro wd223 gd223
    have S224 := S218.keep gd223
    have hc225 : ¬ ((at_ ((notD (zaf m (zai m other))).final) k) = (at_ ((zaf m (zai m other)).final) k)) := by
     exact not_fat har_ hI209.1 (by omega)
    refine zb4 (b := false) (bF hc225) ?_
    simp only [if_true, if_false, Bool.false_eq_true]
    refine zau <| zat <| zad (l := [0, 1, 2]) rfl <| p_v (v := .int .i64 k) rfl rfl rfl (zag r209_23) <| p_v (v := .int .i64 (k + 1)) rfl rfl rfl (zct rfl rfl (zao (by first|omega|(simp;omega)|assumption|simp) (by first|omega|(simp;omega)|assumption|simp))) <| p_v (v := .int .i64 (k + 1)) rfl rfl rfl (zah rfl) <| zaa ?_
    refine ih209 (k + 1) _ _ (by dsimp only; omega) ⟨h209, le209, S224.sub [0, 1, 2, 3, 4] (by decide) rfl _ rfl, r209_2, r209_10, r209_16, r209_17, r209_18, r209_21, r209_22, rfl, (zao (by first|omega|(simp;omega)|assumption|simp) (by first|omega|(simp;omega)|assumption|simp)), (by exact ⟨by omega, by omega⟩)⟩
   refine zbn rfl <| zab <| zab <| zad (l := [0, 1, 2, 3, 4, 5]) rfl <| p_v (v := .int .u8 how) rfl rfl rfl (zag r209_2) <| p_v (v := .bool (decide (how < 1))) rfl rfl rfl (zdc rfl rfl) <| p_v (v := .bool (decide (how < 1))) rfl rfl rfl (zag rfl) ?_
   by_cases hc226 : how < 1
   ·skip
    refine za2 rfl (wo 2 186 rfl rfl (bT hc226) rfl) rfl <| za2 rfl (wo 2 186 rfl rfl (bT hc226) rfl) rfl <| p_v (v := .bool true) rfl rfl rfl (za5 (bT hc226) rfl) <| zaa <| zb4 (b := true) rfl ?_
    simp only [if_true, if_false, Bool.false_eq_true]
    refine zab <| zad (l := [0, 1, 2, 3, 4, 5]) rfl <| p_v (v := .int .i64 (errO (zaf m (zai m other)) (zaf other (zai m other)) how)) rfl rfl rfl (zag r209_17) <| p_v (v := .bool (decide ((errO (zaf m (zai m other)) (zaf other (zai m other)) how) = 1))) rfl rfl rfl (ze4 rfl rfl) <| p_v (v := .bool (decide ((errO (zaf m (zai m other)) (zaf other (zai m other)) how) = 1))) rfl rfl rfl (zag rfl) ?_
    have hc227 : ((errO (zaf m (zai m other)) (zaf other (zai m other)) how) = 1) := by
     exact errO_no (by first | exact okb_4 (by omega) | exact okb_5 (by omega))
    refine p_c rfl (wo 2 192 rfl rfl (bT hc227) rfl) rfl (za6 (args := []) ca19 rfl rfl) (zei w209  (zex.st S209 tb)) ?_
    rintro _ w228 ⟨h228, T228, rfl⟩
    have S229 := S209.keep (Chg.of_below T228.below)
    refine p_v (v := .bool true) rfl rfl rfl (za5 (bT hc227) rfl) <| p_v (v := .bool true) rfl rfl rfl (zah rfl) <| zaa <| zar Tryd.func4 (res1 rfl (zax (v := .bool true) rfl)) ?_
    have q0 : (true : Bool) = true := rfl
    refine ⟨_, rfl, h209, ?_, ?_⟩
    · exact S229.sub [] (by decide) rfl _ rfl
    · rfl
   refine p_v (v := .int .u8 how) rfl (wo 2 186 rfl rfl (bF hc226) rfl) rfl (zag r209_2) <| p_v (v := .bool (decide (3 < how))) rfl (wo 2 186 rfl rfl (bF hc226) rfl) rfl (x_gtr rfl rfl) <| p_v (v := .bool (decide (3 < how))) rfl rfl rfl (zbk (bF hc226) rfl) <| zaa ?_
   refine zap (p := 3 < how) rfl (fun hc231 => ?_) (fun hc231 => ?_)
   ·skip
    refine zab <| zad (l := [0, 1, 2, 3, 4, 5]) rfl <| p_v (v := .int .i64 (errO (zaf m (zai m other)) (zaf other (zai m other)) how)) rfl rfl rfl (zag r209_17) <| p_v (v := .bool (decide ((errO (zaf m (zai m other)) (zaf other (zai m other)) how) = 1))) rfl rfl rfl (ze4 rfl rfl) <| p_v (v := .bool (decide ((errO (zaf m (zai m other)) (zaf other (zai m other)) how) = 1))) rfl rfl rfl (zag rfl) ?_
    have hc232 : ((errO (zaf m (zai m other)) (zaf other (zai m other)) how) = 1) := by
     exact errO_no (by first | exact okb_4 (by omega) | exact okb_5 (by omega))
    refine p_c rfl (wo 2 192 rfl rfl (bT hc232) rfl) rfl (za6 (args := []) ca19 rfl rfl) (zei w209  (zex.st S209 tb)) ?_
    rintro _ w233 ⟨h233, T233, rfl⟩
    have S234 := S209.keep (Chg.of_below T233.below)
    refine p_v (v := .bool true) rfl rfl rfl (za5 (bT hc232) rfl) <| p_v (v := .bool true) rfl rfl rfl (zah rfl) <| zaa <| zar Tryd.func4 (res1 rfl (zax (v := .bool true) rfl)) ?_
    have q0 : (true : Bool) = true := rfl
    refine ⟨_, rfl, h209, ?_, ?_⟩
    · exact S234.sub [] (by decide) rfl _ rfl
    · rfl
   refine zau <| zab ?_
   have hc236 : ((errO (zaf m (zai m other)) (zaf other (zai m other)) how) = 0) := by
    exact errO_iff.2 (okb_y har_ (build_right (okPart_pP m other) hb_) ((build_part ha_).trans (build_part hb_).symm) (by omega) (by omega))
   have hf237 : (CFs ⟨b86, 0, none⟩ ((zac ((zbt (zaf m (zai m other)) (zaf other (zai m other)) how).part)) ++ ([.slice A82 ((zbt (zaf m (zai m other)) (zaf other (zai m other)) how).next).length c82, .slice A84 ((zbt (zaf m (zai m other)) (zaf other (zai m other)) how).final).length c84] : List Value))).1 w209 := (CF.box (m := 259) (S209.box_at (j := 1) rfl) (zdo (zbb (zae ok80_0) rfl)))
   have hf238 : (CFs ⟨b126, 0, none⟩ [.slice A118 (zam (zai m other)).length c118, .slice A122 ((refB m (zam (zai m other))).next).length c122, .slice A124 ((refB m (zam (zai m other))).final).length c124]).1 w209 := (CF.box (m := 3) (S209.box_at (j := 3) rfl) rfl)
   have hf239 : (CFs ⟨b136, 0, none⟩ [.slice A118 (zam (zai m other)).length c118, .slice A132 ((refB other (zam (zai m other))).next).length c132, .slice A134 ((refB other (zam (zai m other))).final).length c134]).1 w209 := (CF.box (m := 3) (S209.box_at (j := 4) rfl) rfl)
   refine daS (hkC 3 hf237 (hkC 5 hf238 (hkC 6 hf239 (hkN (w := w209))))) 15 rfl mixed ?_
   intro wd240 gd240 hd240
   have S241 := S209.keep gd240
   have hf242 := spUp gd240 hf237
   have hf243 := spUp gd240 hf238
   have hf244 := spUp gd240 hf239
   refine qd0 (i := 0) (v := .int .i64 (errO (zaf m (zai m other)) (zaf other (zai m other)) how)) rfl (by decide +kernel) rfl rfl (zag r209_17) (zaj rfl) <| qd0 (i := 1) (v := .bool (decide ((errO (zaf m (zai m other)) (zaf other (zai m other)) how) = 0))) rfl (by decide +kernel) rfl rfl (ze4 rfl rfl) (zaj rfl) <| qd0 (i := 2) (v := .bool (decide ((errO (zaf m (zai m other)) (zaf other (zai m other)) how) = 0))) rfl (by decide +kernel) rfl rfl (zag rfl) (zaj rfl) <| qd1 0 (i := 3) (v := .agg ((zac ((zbt (zaf m (zai m other)) (zaf other (zai m other)) how).part)) ++ ([.slice A82 ((zbt (zaf m (zai m other)) (zaf other (zai m other)) how).next).length c82, .slice A84 ((zbt (zaf m (zai m other)) (zaf other (zai m other)) how).final).length c84] : List Value)).toArray) rfl rfl (by decide +kernel) (wo 2 197 rfl rfl (bT hc236) rfl) rfl (fun wq hq => (zal (seg := ((zac ((zbt (zaf m (zai m other)) (zaf other (zai m other)) how).part)) ++ ([.slice A82 ((zbt (zaf m (zai m other)) (zaf other (zai m other)) how).next).length c82, .slice A84 ((zbt (zaf m (zai m other)) (zaf other (zai m other)) how).final).length c84] : List Value))) ty35 (zbb (zae ok80_0) rfl) (by simp) r209_16 hq)) (za9 hf242 (zaj rfl)) <| qd1 1 (i := 5) (v := .agg #[.slice A118 (zam (zai m other)).length c118, .slice A122 ((refB m (zam (zai m other))).next).length c122, .slice A124 ((refB m (zam (zai m other))).final).length c124]) rfl rfl (by decide +kernel) (wo 2 197 rfl rfl (bT hc236) rfl) rfl (fun wq hq => (zal (seg := [.slice A118 (zam (zai m other)).length c118, .slice A122 ((refB m (zam (zai m other))).next).length c122, .slice A124 ((refB m (zam (zai m other))).final).length c124]) ty47 rfl (by simp) r209_21 hq)) (za1 rfl (za9 hf243 (zaj rfl))) <| qd1 2 (i := 6) (v := .agg #[.slice A118 (zam (zai m other)).length c118, .slice A132 ((refB other (zam (zai m other))).next).length c132, .slice A134 ((refB other (zam (zai m other))).final).length c134]) rfl rfl (by decide +kernel) (wo 2 197 rfl rfl (bT hc236) rfl) rfl (fun wq hq => (zal (seg := [.slice A118 (zam (zai m other)).length c118, .slice A132 ((refB other (zam (zai m other))).next).length c132, .slice A134 ((refB other (zam (zai m other))).final).length c134]) ty47 rfl (by simp) r209_22 hq)) (za1 rfl (za1 rfl (za9 hf244 (zaj rfl)))) <| qd0 (i := 7) (v := .int .u8 how) rfl (by decide +kernel) (wo 2 197 rfl rfl (bT hc236) rfl) rfl (zag r209_2) (zaj rfl) <| zby (i := 4) (by decide +kernel) ?_
   intro wd245 gd245
   have S246 := S241.keep gd245
   have hf247 := spUp gd245 hf242
   have hf248 := spUp gd245 hf243
   have hf249 := spUp gd245 hf244
   refine d_i rfl (wo 2 197 rfl rfl (bT hc236) rfl) rfl (za6 (args := [.agg ((zac ((zbt (zaf m (zai m other)) (zaf other (zai m other)) how).part)) ++ ([.slice A82 ((zbt (zaf m (zai m other)) (zaf other (zai m other)) how).next).length c82, .slice A84 ((zbt (zaf m (zai m other)) (zaf other (zai m other)) how).final).length c84] : List Value)).toArray]) ca31 rfl rfl) (zaq Tryd.func31 rfl Tryd.ntmps31 rfl ?_)
   refine zab <| zad (l := [0, 1]) rfl ?_
   obtain ⟨b250, w250, r250, g250, T250⟩ := zb2 (P := Tryd.prog) S246 35 (v := .agg ((zac ((zbt (zaf m (zai m other)) (zaf other (zai m other)) how).part)) ++ ([.slice A82 ((zbt (zaf m (zai m other)) (zaf other (zai m other)) how).next).length c82, .slice A84 ((zbt (zaf m (zai m other)) (zaf other (zai m other)) how).final).length c84] : List Value)).toArray) ((zac ((zbt (zaf m (zai m other)) (zaf other (zai m other)) how).part)) ++ ([.slice A82 ((zbt (zaf m (zai m other)) (zaf other (zai m other)) how).next).length c82, .slice A84 ((zbt (zaf m (zai m other)) (zaf other (zai m other)) how).final).length c84] : List Value)) rfl
   have S251 := T250
   dsimp only [lAa, lAn, lA0, lAs] at S251
   refine p_v (v := .pointer (some ⟨b250, 0, none⟩)) rfl rfl rfl (zc8 rfl r250) ?_
   obtain ⟨b252, w252, r252, g252, T252⟩ := zb2 (P := Tryd.prog) S251 47 (v := (.agg #[.slice none 0 0, .slice none 0 0, .slice none 0 0])) [.slice none 0 0, .slice none 0 0, .slice none 0 0] rfl
   have S253 := T252
   dsimp only [lAa, lAn, lA0, lAs] at S253
   refine p_v (v := .pointer (some ⟨b252, 0, none⟩)) rfl rfl rfl (zcj ty47 r252) <| zaa <| zab <| zad (l := [0, 1, 2, 3, 4, 5]) rfl <| p_v (v := .pointer (some ⟨b250, 257, none⟩)) rfl rfl rfl (zan zfg ty24 rfl rfl) <| p_v (v := .slice A82 ((zbt (zaf m (zai m other)) (zaf other (zai m other)) how).next).length c82) rfl rfl rfl (zal (seg := [.slice A82 ((zbt (zaf m (zai m other)) (zaf other (zai m other)) how).next).length c82]) ty24 rfl (by simp) rfl (CF.box (m := 1) (S253.box_at (j := 5) rfl) (zbd (a := (zac ((zbt (zaf m (zai m other)) (zaf other (zai m other)) how).part))) (pre := []) (seg := [.slice A82 ((zbt (zaf m (zai m other)) (zaf other (zai m other)) how).next).length c82]) (post := [.slice A84 ((zbt (zaf m (zai m other)) (zaf other (zai m other)) how).final).length c84]) (zae ok80_0) rfl rfl))) <| p_v (v := .pointer (some ⟨b250, 258, none⟩)) rfl rfl rfl (zan ze0 ty25 rfl rfl) <| p_v (v := .slice A84 ((zbt (zaf m (zai m other)) (zaf other (zai m other)) how).final).length c84) rfl rfl rfl (zal (seg := [.slice A84 ((zbt (zaf m (zai m other)) (zaf other (zai m other)) how).final).length c84]) ty25 rfl (by simp) rfl (CF.box (m := 1) (S253.box_at (j := 5) rfl) (zbd (a := (zac ((zbt (zaf m (zai m other)) (zaf other (zai m other)) how).part))) (pre := [.slice A82 ((zbt (zaf m (zai m other)) (zaf other (zai m other)) how).next).length c82]) (seg := [.slice A84 ((zbt (zaf m (zai m other)) (zaf other (zai m other)) how).final).length c84]) (post := []) (zae ok80_0) rfl rfl))) <| p_v (v := .agg #[.slice none 0 0, .slice A82 ((zbt (zaf m (zai m other)) (zaf other (zai m other)) how).next).length c82, .slice A84 ((zbt (zaf m (zai m other)) (zaf other (zai m other)) how).final).length c84]) rfl rfl rfl (zdj (pv := [(1, .slice A82 ((zbt (zaf m (zai m other)) (zaf other (zai m other)) how).next).length c82), (2, .slice A84 ((zbt (zaf m (zai m other)) (zaf other (zai m other)) how).final).length c84)]) rfl (zbg pl47 ty47 rfl (cs := [.slice none 0 0, .slice A82 ((zbt (zaf m (zai m other)) (zaf other (zai m other)) how).next).length c82, .slice A84 ((zbt (zaf m (zai m other)) (zaf other (zai m other)) how).final).length c84]) rfl)) ?_
   obtain ⟨w254, r254, g254, T254⟩ := zcb (P := Tryd.prog) (off := 0) (v := .agg #[.slice none 0 0, .slice A82 ((zbt (zaf m (zai m other)) (zaf other (zai m other)) how).next).length c82, .slice A84 ((zbt (zaf m (zai m other)) (zaf other (zai m other)) how).final).length c84]) (vs := [.slice none 0 0, .slice A82 ((zbt (zaf m (zai m other)) (zaf other (zai m other)) how).next).length c82, .slice A84 ((zbt (zaf m (zai m other)) (zaf other (zai m other)) how).final).length c84]) S253 ty47 rfl rfl (j := 6) rfl (by first | decide | exact Nat.le_of_ble_eq_true rfl) (by simp [Value.oneCell'])
   have S255 := T254.fx 6 (box b252 47 [.slice none 0 0, .slice A82 ((zbt (zaf m (zai m other)) (zaf other (zai m other)) how).next).length c82, .slice A84 ((zbt (zaf m (zai m other)) (zaf other (zai m other)) how).final).length c84]) rfl
   dsimp only [lAa, lAn, lA0, lAs] at S255
   refine p_s rfl rfl (zbh rfl rfl r254) <| zaa <| zar Tryd.func31 (res1 rfl (zcv S255 ty47 rfl (j := 6) rfl rfl (by simp) rfl)) ?_
   refine ⟨_, rfl, ?_⟩
   have hf256 : (CFs ⟨b86, 0, none⟩ ((zac ((zbt (zaf m (zai m other)) (zaf other (zai m other)) how).part)) ++ ([.slice A82 ((zbt (zaf m (zai m other)) (zaf other (zai m other)) how).next).length c82, .slice A84 ((zbt (zaf m (zai m other)) (zaf other (zai m other)) how).final).length c84] : List Value))).1 w254 := (CF.box (m := 259) (S255.box_at (j := 1) rfl) (zdo (zbb (zae ok80_0) rfl)))
   have hf257 : (CFs ⟨b126, 0, none⟩ [.slice A118 (zam (zai m other)).length c118, .slice A122 ((refB m (zam (zai m other))).next).length c122, .slice A124 ((refB m (zam (zai m other))).final).length c124]).1 w254 := (CF.box (m := 3) (S255.box_at (j := 3) rfl) rfl)
   have hf258 : (CFs ⟨b136, 0, none⟩ [.slice A118 (zam (zai m other)).length c118, .slice A132 ((refB other (zam (zai m other))).next).length c132, .slice A134 ((refB other (zam (zai m other))).final).length c134]).1 w254 := (CF.box (m := 3) (S255.box_at (j := 4) rfl) rfl)
   refine ⟨.inr (zbv hf256 (zbv hf257 (zbv hf258 trivial))), ?_⟩
   refine zby (i := 8) (by decide +kernel) ?_
   intro wd259 gd259
   have S260 := S255.keep gd259
   have hf261 := spUp gd259 hf256
   have hf262 := spUp gd259 hf257
   have hf263 := spUp gd259 hf258
   refine d_c rfl (wo 2 197 rfl rfl (bT hc236) rfl) rfl (za6 (args := [.agg #[.slice A118 (zam (zai m other)).length c118, .slice A122 ((refB m (zam (zai m other))).next).length c122, .slice A124 ((refB m (zam (zai m other))).final).length c124], .agg #[.slice A118 (zam (zai m other)).length c118, .slice A132 ((refB other (zam (zai m other))).next).length c132, .slice A134 ((refB other (zam (zai m other))).final).length c134], .int .u8 how]) ca32 rfl rfl) (refO11_calls wd259 (⟨zam (zai m other), (refB m (zam (zai m other))).next, (refB m (zam (zai m other))).final⟩ : RefD) A118 c118 (And.intro lc118 cm118) (ld118.mono (((lf134_18).trans le209).trans S260.ghost)) A122 c122 (And.intro lc122 cm122) (ld122.mono (((lf134_20).trans le209).trans S260.ghost)) A124 c124 (And.intro lc124 cm124) (ld124.mono (((lf134_21).trans le209).trans S260.ghost)) (⟨zam (zai m other), (refB other (zam (zai m other))).next, (refB other (zam (zai m other))).final⟩ : RefD) A118 c118 (And.intro lc118 cm118) (ld118.mono (((lf134_18).trans le209).trans S260.ghost)) A132 c132 (And.intro lc132 cm132) (ld132.mono (((le134).trans le209).trans S260.ghost)) A134 c134 (And.intro lc134 cm134) (ld134.mono (le209.trans S260.ghost)) how (zec (by first|omega|(simp;omega)|assumption|simp) (by first|omega|(simp;omega)|assumption|simp)) (zaf m (zai m other)) (zaf other (zai m other)) hb2_) ?_
   rintro _ w264 ⟨h264, v264_0, v264_1, T264, rfl⟩
   obtain ⟨k264, lk264, ll264, U264⟩ := zci S260 T264
   have lc264_0 := (((lf134_0).trans le209)).trans lk264
   have lc264_1 := (((lf134_1).trans le209)).trans lk264
   have lc264_2 := (((lf134_2).trans le209)).trans lk264
   have lc264_3 := (((lf134_3).trans le209)).trans lk264
   have lc264_4 := (((lf134_4).trans le209)).trans lk264
   have lc264_5 := (((lf134_5).trans le209)).trans lk264
   have lc264_6 := (((lf134_6).trans le209)).trans lk264
   have lc264_7 := (((lf134_7).trans le209)).trans lk264
   have lc264_8 := (((lf134_8).trans le209)).trans lk264
   have lc264_9 := (((lf134_9).trans le209)).trans lk264
   have lc264_10 := (((lf134_10).trans le209)).trans lk264
   have lc264_11 := (((lf134_11).trans le209)).trans lk264
   have lc264_12 := (((lf134_12).trans le209)).trans lk264
   have lc264_13 := (((lf134_13).trans le209)).trans lk264
   have lc264_14 := (((lf134_14).trans le209)).trans lk264
   have lc264_15 := (((lf134_15).trans le209)).trans lk264
   have lc264_16 := (((lf134_16).trans le209)).trans lk264
   have lc264_17 := (((lf134_17).trans le209)).trans lk264
   have lc264_18 := (((lf134_18).trans le209)).trans lk264
   have lc264_19 := (((lf134_19).trans le209)).trans lk264
   have lc264_20 := (((lf134_20).trans le209)).trans lk264
   have lc264_21 := (((lf134_21).trans le209)).trans lk264
   have lc264_22 := (((lf134_22).trans le209)).trans lk264
   have lc264_23 := (((le134).trans le209)).trans lk264
   have lc264_24 := (le209).trans lk264
   have S265 := U264
   dsimp only [lAa, lAn, lA0, lAs] at S265
   have hf266 := spUp (Chg.of_below T264.below) hf261
   have hf267 := spUp (Chg.of_below T264.below) hf262
   have hf268 := spUp (Chg.of_below T264.below) hf263
   refine ⟨.inl (Chg.of_below T264.below), ?_⟩
   obtain ⟨h269, le269, T269, rp269⟩ := S265.freeze (i := 7) rfl
   have lf269_0 := (lc264_0).trans le269
   have lf269_1 := (lc264_1).trans le269
   have lf269_2 := (lc264_2).trans le269
   have lf269_3 := (lc264_3).trans le269
   have lf269_4 := (lc264_4).trans le269
   have lf269_5 := (lc264_5).trans le269
   have lf269_6 := (lc264_6).trans le269
   have lf269_7 := (lc264_7).trans le269
   have lf269_8 := (lc264_8).trans le269
   have lf269_9 := (lc264_9).trans le269
   have lf269_10 := (lc264_10).trans le269
   have lf269_11 := (lc264_11).trans le269
   have lf269_12 := (lc264_12).trans le269
   have lf269_13 := (lc264_13).trans le269
   have lf269_14 := (lc264_14).trans le269
   have lf269_15 := (lc264_15).trans le269
   have lf269_16 := (lc264_16).trans le269
   have lf269_17 := (lc264_17).trans le269
   have lf269_18 := (lc264_18).trans le269
   have lf269_19 := (lc264_19).trans le269
   have lf269_20 := (lc264_20).trans le269
   have lf269_21 := (lc264_21).trans le269
   have lf269_22 := (lc264_22).trans le269
   have lf269_23 := (lc264_23).trans le269
   have lf269_24 := (lc264_24).trans le269
   have lf269_25 := (lk264).trans le269
   have S270 := T269.fx 7 (emp) rfl
   dsimp only [lAa, lAn, lA0, lAs] at S270
   obtain ⟨A269, c269, e269, lc269, cm269, ld269⟩ := rp269
   injection e269 with e269 _; subst e269
   have cn269 := cm269; simp only [maxLen] at cn269
   obtain ⟨h271, le271, T271, rp271⟩ := S270.freeze (i := 8) rfl
   have lf271_0 := (lf269_0).trans le271
   have lf271_1 := (lf269_1).trans le271
   have lf271_2 := (lf269_2).trans le271
   have lf271_3 := (lf269_3).trans le271
   have lf271_4 := (lf269_4).trans le271
   have lf271_5 := (lf269_5).trans le271
   have lf271_6 := (lf269_6).trans le271
   have lf271_7 := (lf269_7).trans le271
   have lf271_8 := (lf269_8).trans le271
   have lf271_9 := (lf269_9).trans le271
   have lf271_10 := (lf269_10).trans le271
   have lf271_11 := (lf269_11).trans le271
   have lf271_12 := (lf269_12).trans le271
   have lf271_13 := (lf269_13).trans le271
   have lf271_14 := (lf269_14).trans le271
   have lf271_15 := (lf269_15).trans le271
   have lf271_16 := (lf269_16).trans le271
   have lf271_17 := (lf269_17).trans le271
   have lf271_18 := (lf269_18).trans le271
   have lf271_19 := (lf269_19).trans le271
   have lf271_20 := (lf269_20).trans le271
   have lf271_21 := (lf269_21).trans le271
   have lf271_22 := (lf269_22).trans le271
   have lf271_23 := (lf269_23).trans le271
   have lf271_24 := (lf269_24).trans le271
   have lf271_25 := (lf269_25).trans le271
   have lf271_26 := (le269).trans le271
   have S272 := T271.fx 8 (emp) rfl
   dsimp only [lAa, lAn, lA0, lAs] at S272
   obtain ⟨A271, c271, e271, lc271, cm271, ld271⟩ := rp271
   injection e271 with e271 _; subst e271
   have cn271 := cm271; simp only [maxLen] at cn271
   have hc274 : (zeo (⟨([] : List Int), (zbt (zaf m (zai m other)) (zaf other (zai m other)) how).next, (zbt (zaf m (zai m other)) (zaf other (zai m other)) how).final⟩ : RefD) (refO (⟨zam (zai m other), (refB m (zam (zai m other))).next, (refB m (zam (zai m other))).final⟩ : RefD) (⟨zam (zai m other), (refB other (zam (zai m other))).next, (refB other (zam (zai m other))).final⟩ : RefD) how)) = true := by
    exact same_o hb2_ (by omega) (by omega) _
   have hf276 : (zbx (Kd.int .i64).slice A82 ((zbt (zaf m (zai m other)) (zaf other (zai m other)) how).next)).1 w264 := (ld82.mono (lf271_12.trans S272.ghost))
   have hf277 : (zbx Kd.bool A84 ((zbt (zaf m (zai m other)) (zaf other (zai m other)) how).final)).1 w264 := (ld84.mono (lf271_13.trans S272.ghost))
   have hf278 : (zbx (Kd.int .u8) A118 (zam (zai m other))).1 w264 := (ld118.mono (lf271_18.trans S272.ghost))
   have hf279 : (zbx (Kd.int .i64).slice A269 ((refO (⟨zam (zai m other), (refB m (zam (zai m other))).next, (refB m (zam (zai m other))).final⟩ : RefD) (⟨zam (zai m other), (refB other (zam (zai m other))).next, (refB other (zam (zai m other))).final⟩ : RefD) how).next)).1 w264 := (ld269.mono (le271.trans S272.ghost))
   have hf280 : (zbx Kd.bool A271 ((refO (⟨zam (zai m other), (refB m (zam (zai m other))).next, (refB m (zam (zai m other))).final⟩ : RefD) (⟨zam (zai m other), (refB other (zam (zai m other))).next, (refB other (zam (zai m other))).final⟩ : RefD) how).final)).1 w264 := (ld271.mono ((Le.refl _).trans S272.ghost))
   have hf281 : (BlockS 0 tzTab).1 w264 := (zex.st S272 tb)
   refine raMo (hkC 9 hf276 (hkC 9 hf277 (hkC 9 hf278 (hkC 9 hf279 (hkC 9 hf280 (hkC 12 hf281 (hkN (w := w264)))))))) ?_
   refine d_m (i := 9) (v := .bool (zeo (⟨([] : List Int), (zbt (zaf m (zai m other)) (zaf other (zai m other)) how).next, (zbt (zaf m (zai m other)) (zaf other (zai m other)) how).final⟩ : RefD) (refO (⟨zam (zai m other), (refB m (zam (zai m other))).next, (refB m (zam (zai m other))).final⟩ : RefD) (⟨zam (zai m other), (refB other (zam (zai m other))).next, (refB other (zam (zai m other))).final⟩ : RefD) how))) (fun wf => zbe (Kd.int .i64).slice (hp wf) A82 ((zbt (zaf m (zai m other)) (zaf other (zai m other)) how).next) ∧ zbe Kd.bool (hp wf) A84 ((zbt (zaf m (zai m other)) (zaf other (zai m other)) how).final) ∧ zbe (Kd.int .u8) (hp wf) A118 (zam (zai m other)) ∧ zbe (Kd.int .i64).slice (hp wf) A269 ((refO (⟨zam (zai m other), (refB m (zam (zai m other))).next, (refB m (zam (zai m other))).final⟩ : RefD) (⟨zam (zai m other), (refB other (zam (zai m other))).next, (refB other (zam (zai m other))).final⟩ : RefD) how).next) ∧ zbe Kd.bool (hp wf) A271 ((refO (⟨zam (zai m other), (refB m (zam (zai m other))).next, (refB m (zam (zai m other))).final⟩ : RefD) (⟨zam (zai m other), (refB other (zam (zai m other))).next, (refB other (zam (zai m other))).final⟩ : RefD) how).final)) (fun _ ho => ⟨ho _ (List.mem_of_getElem? (i := 0) rfl) rfl, ho _ (List.mem_of_getElem? (i := 1) rfl) rfl, ho _ (List.mem_of_getElem? (i := 2) rfl) rfl, ho _ (List.mem_of_getElem? (i := 3) rfl) rfl, ho _ (List.mem_of_getElem? (i := 4) rfl) rfl⟩) rfl (by decide +kernel) (by decide +kernel) (by decide +kernel) (wo 2 197 rfl rfl (bT hc236) rfl) rfl (fun wq => (za6 (args := [.agg #[.slice none 0 0, .slice A82 ((zbt (zaf m (zai m other)) (zaf other (zai m other)) how).next).length c82, .slice A84 ((zbt (zaf m (zai m other)) (zaf other (zai m other)) how).final).length c84], .agg #[.slice A118 (zam (zai m other)).length c118, .slice A269 ((refO (⟨zam (zai m other), (refB m (zam (zai m other))).next, (refB m (zam (zai m other))).final⟩ : RefD) (⟨zam (zai m other), (refB other (zam (zai m other))).next, (refB other (zam (zai m other))).final⟩ : RefD) how).next).length c269, .slice A271 ((refO (⟨zam (zai m other), (refB m (zam (zai m other))).next, (refB m (zam (zai m other))).final⟩ : RefD) (⟨zam (zai m other), (refB other (zam (zai m other))).next, (refB other (zam (zai m other))).final⟩ : RefD) how).final).length c271]]) ca30 rfl rfl)) (fun wq hq => (sameR_calls wq (⟨([] : List Int), (zbt (zaf m (zai m other)) (zaf other (zai m other)) how).next, (zbt (zaf m (zai m other)) (zaf other (zai m other)) how).final⟩ : RefD) none 0 (by simp [maxLen]) (leads_nil _ _) A82 c82 (And.intro lc82 cm82) hq.1 A84 c84 (And.intro lc84 cm84) hq.2.1 (refO (⟨zam (zai m other), (refB m (zam (zai m other))).next, (refB m (zam (zai m other))).final⟩ : RefD) (⟨zam (zai m other), (refB other (zam (zai m other))).next, (refB other (zam (zai m other))).final⟩ : RefD) how) A118 c118 (And.intro lc118 cm118) hq.2.2.1 A269 c269 (And.intro lc269 cm269) hq.2.2.2.1 A271 c271 (And.intro lc271 cm271) hq.2.2.2.2).mono fun e w2 he => by obtain ⟨_, rfl, _, T, rfl⟩ := he; exact ⟨rfl, Chg.of_below T.below⟩) (za9 hf276 (za9 hf277 (za9 hf278 (za9 hf279 (za9 hf280 (zaj rfl)))))) ?_
   refine qd0 (i := 10) (v := .bool (zeo (⟨([] : List Int), (zbt (zaf m (zai m other)) (zaf other (zai m other)) how).next, (zbt (zaf m (zai m other)) (zaf other (zai m other)) how).final⟩ : RefD) (refO (⟨zam (zai m other), (refB m (zam (zai m other))).next, (refB m (zam (zai m other))).final⟩ : RefD) (⟨zam (zai m other), (refB other (zam (zai m other))).next, (refB other (zam (zai m other))).final⟩ : RefD) how))) rfl (by decide +kernel) rfl rfl (za5 (bT hc236) rfl) (zaj rfl) <| qd0 (i := 11) (v := .bool (zeo (⟨([] : List Int), (zbt (zaf m (zai m other)) (zaf other (zai m other)) how).next, (zbt (zaf m (zai m other)) (zaf other (zai m other)) how).final⟩ : RefD) (refO (⟨zam (zai m other), (refB m (zam (zai m other))).next, (refB m (zam (zai m other))).final⟩ : RefD) (⟨zam (zai m other), (refB other (zam (zai m other))).next, (refB other (zam (zai m other))).final⟩ : RefD) how))) rfl (by decide +kernel) rfl rfl (zag rfl) (zaj rfl) <| d_m (i := 12) (v := .bool true) (fun wf => zex 0 tzTab wf) (fun _ ho => ho _ (List.mem_of_getElem? (i := 5) rfl) rfl) rfl (by decide +kernel) (by decide +kernel) (by decide +kernel) (wo 11 206 rfl rfl (congrArg Value.bool hc274) rfl) rfl (fun wq => (za6 (args := []) ca19 rfl rfl)) (fun wq hq => (zei wq hq).mono fun e w2 he => by obtain ⟨_, rfl, _, T, rfl⟩ := he; exact ⟨rfl, Chg.of_below T.below⟩) (za1 rfl (za1 rfl (za1 rfl (za1 rfl (za1 rfl (za9 hf281 (zaj rfl))))))) <| qd0 (i := 13) (v := .bool true) rfl (by decide +kernel) rfl rfl (za5 (congrArg Value.bool hc274) rfl) (zaj rfl) <| qd0 (i := 14) (v := .bool true) rfl (by decide +kernel) rfl rfl (zah rfl) (zaj rfl) <| zb3 (by decide +kernel) ?_
   intro wd282 gd282
   have S283 := S272.keep gd282
   refine zar Tryd.func4 (res1 rfl (zax (v := .bool true) rfl)) ?_
   have q0 : (true : Bool) = true := rfl
   refine ⟨_, rfl, h271, ?_, ?_⟩
   · exact S283.sub [] (by decide) rfl _ rfl
   · rfl
  refine zab <| zad (l := [0, 1, 2, 3, 4, 5, 6, 7, 8, 9, 10, 11, 12, 13, 14, 15, 16, 17, 18, 19, 20, 21, 22, 23, 24, 25, 26, 27, 28]) rfl <| p_v (v := .int .i64 (errB m (zai m other))) rfl rfl rfl (zag rfl) <| p_v (v := .bool (decide ((errB m (zai m other)) = 0))) rfl rfl rfl (ze4 rfl rfl) <| p_v (v := .agg #[.slice A0_0 m.spots.length c0_0, .slice A0_1 m.first.length c0_1, .slice A0_2 m.follow.length c0_2, .slice A0_3 m.last.length c0_3, .bool m.empty]) rfl rfl rfl (zal (seg := [.slice A0_0 m.spots.length c0_0, .slice A0_1 m.first.length c0_1, .slice A0_2 m.follow.length c0_2, .slice A0_3 m.last.length c0_3, .bool m.empty]) ty27 rfl (by simp) rfl (CF.box (m := 5) (S61.box_at (j := 0) rfl) rfl)) <| p_c rfl rfl rfl (za6 (args := [.agg #[.slice A0_0 m.spots.length c0_0, .slice A0_1 m.first.length c0_1, .slice A0_2 m.follow.length c0_2, .slice A0_3 m.last.length c0_3, .bool m.empty]]) ca25 rfl rfl) (right10_calls w60 m A0_0 c0_0 b0_0 (l0_0.mono (St.le0 S61)) A0_1 c0_1 b0_1 (l0_1.mono (St.le0 S61)) A0_2 c0_2 b0_2 (l0_2.mono (St.le0 S61)) A0_3 c0_3 b0_3 (l0_3.mono (St.le0 S61))) ?_
  rintro _ w285 ⟨h285, T285, rfl⟩
  have S286 := S61.keep (Chg.of_below T285.below)
  refine p_v (v := .bool (decide ((decide ((errB m (zai m other)) = 0)) ≠ (zbs m)))) rfl rfl rfl (zfc u4 rfl rfl) <| p_v (v := .bool (decide ((decide ((errB m (zai m other)) = 0)) ≠ (zbs m)))) rfl rfl rfl (zag rfl) ?_
  have hc287 : ¬ ((decide ((errB m (zai m other)) = 0)) ≠ (zbs m)) := by
   first | exact nz (b_1 m other) | exact nz ((b_1 m other).trans (by assumption))
  refine p_v (v := .int .i64 (errB other (zai m other))) rfl (wo 5 59 rfl rfl (bF hc287) rfl) rfl (zag rfl) <| p_v (v := .bool (decide ((errB other (zai m other)) = 0))) rfl (wo 5 59 rfl rfl (bF hc287) rfl) rfl (ze4 rfl rfl) <| p_v (v := .agg #[.slice A1_0 other.spots.length c1_0, .slice A1_1 other.first.length c1_1, .slice A1_2 other.follow.length c1_2, .slice A1_3 other.last.length c1_3, .bool other.empty]) rfl (wo 5 59 rfl rfl (bF hc287) rfl) rfl (zal (seg := [.slice A1_0 other.spots.length c1_0, .slice A1_1 other.first.length c1_1, .slice A1_2 other.follow.length c1_2, .slice A1_3 other.last.length c1_3, .bool other.empty]) ty27 rfl (by simp) rfl (CF.box (m := 5) (S286.box_at (j := 1) rfl) rfl)) <| p_c rfl (wo 5 59 rfl rfl (bF hc287) rfl) rfl (za6 (args := [.agg #[.slice A1_0 other.spots.length c1_0, .slice A1_1 other.first.length c1_1, .slice A1_2 other.follow.length c1_2, .slice A1_3 other.last.length c1_3, .bool other.empty]]) ca25 rfl rfl) (right10_calls w285 other A1_0 c1_0 b1_0 (l1_0.mono (St.le0 S286)) A1_1 c1_1 b1_1 (l1_1.mono (St.le0 S286)) A1_2 c1_2 b1_2 (l1_2.mono (St.le0 S286)) A1_3 c1_3 b1_3 (l1_3.mono (St.le0 S286))) ?_
  rintro _ w288 ⟨h288, T288, rfl⟩
  have S289 := S286.keep (Chg.of_below T288.below)
  refine p_v (v := .bool (decide ((decide ((errB other (zai m other)) = 0)) ≠ (zbs other)))) rfl (wo 5 59 rfl rfl (bF hc287) rfl) rfl (zfc u4 rfl rfl) <| p_v (v := .bool (decide ((decide ((errB other (zai m other)) = 0)) ≠ (zbs other)))) rfl rfl rfl (zbk (bF hc287) rfl) <| p_v (v := .bool (decide ((decide ((errB other (zai m other)) = 0)) ≠ (zbs other)))) rfl rfl rfl (zag rfl) ?_
  have hc290 : ¬ ((decide ((errB other (zai m other)) = 0)) ≠ (zbs other)) := by
   first | exact nz (b_2 m other) | exact nz ((b_2 m other).trans (by assumption))
  refine p_v (v := .int .i64 (errB m p)) rfl (wo 12 66 rfl rfl (bF hc290) rfl) rfl (zag rfl) <| p_v (v := .bool (decide ((errB m p) = 0))) rfl (wo 12 66 rfl rfl (bF hc290) rfl) rfl (ze4 rfl rfl) <| p_v (v := .agg #[.slice A0_0 m.spots.length c0_0, .slice A0_1 m.first.length c0_1, .slice A0_2 m.follow.length c0_2, .slice A0_3 m.last.length c0_3, .bool m.empty]) rfl (wo 12 66 rfl rfl (bF hc290) rfl) rfl (zal (seg := [.slice A0_0 m.spots.length c0_0, .slice A0_1 m.first.length c0_1, .slice A0_2 m.follow.length c0_2, .slice A0_3 m.last.length c0_3, .bool m.empty]) ty27 rfl (by simp) rfl (CF.box (m := 5) (S289.box_at (j := 0) rfl) rfl)) <| p_c rfl (wo 12 66 rfl rfl (bF hc290) rfl) rfl (za6 (args := [.agg #[.slice A0_0 m.spots.length c0_0, .slice A0_1 m.first.length c0_1, .slice A0_2 m.follow.length c0_2, .slice A0_3 m.last.length c0_3, .bool m.empty]]) ca25 rfl rfl) (right10_calls w288 m A0_0 c0_0 b0_0 (l0_0.mono (St.le0 S289)) A0_1 c0_1 b0_1 (l0_1.mono (St.le0 S289)) A0_2 c0_2 b0_2 (l0_2.mono (St.le0 S289)) A0_3 c0_3 b0_3 (l0_3.mono (St.le0 S289))) ?_
  rintro _ w291 ⟨h291, T291, rfl⟩
  have S292 := S289.keep (Chg.of_below T291.below)
  refine p_v (v := .bool (zbs m)) rfl (wo 12 66 rfl rfl (bF hc290) rfl) rfl (zag rfl) ?_
  rcases Bool.eq_false_or_eq_true (zbs m) with hc293 | hc293
  ·skip
   refine p_v (v := .agg (zac p).toArray) rfl (wo 17 71 rfl rfl (congrArg Value.bool hc293) rfl) rfl (zal (seg := (zac p)) ty32 (zae o3) (by simp) rfl (CF.box (m := 257) (S292.box_at (j := 2) rfl) (by rw [List.drop_zero, List.take_of_length_le (by rw [zae o3]; exact Nat.le_refl _)]))) <| p_c rfl (wo 17 71 rfl rfl (congrArg Value.bool hc293) rfl) rfl (za6 (args := [.agg (zac p).toArray]) ca26 rfl rfl) (right_calls w291 p o3) ?_
   rintro _ w294 ⟨h294, T294, rfl⟩
   have S295 := S292.keep (Chg.of_below T294.below)
   refine p_v (v := .bool (zc7 p)) rfl (wo 12 66 rfl rfl (bF hc290) rfl) rfl (za5 (congrArg Value.bool hc293) rfl) <| p_v (v := .bool (zc7 p)) rfl (wo 12 66 rfl rfl (bF hc290) rfl) rfl (zag rfl) ?_
   rcases Bool.eq_false_or_eq_true (zc7 p) with hc296 | hc296
   ·skip
    refine p_v (v := .agg (zac p).toArray) rfl (wo 21 75 rfl rfl (congrArg Value.bool hc296) rfl) rfl (zal (seg := (zac p)) ty32 (zae o3) (by simp) rfl (CF.box (m := 257) (S295.box_at (j := 2) rfl) (by rw [List.drop_zero, List.take_of_length_le (by rw [zae o3]; exact Nat.le_refl _)]))) <| p_v (v := .agg #[.slice A0_0 m.spots.length c0_0, .slice A0_1 m.first.length c0_1, .slice A0_2 m.follow.length c0_2, .slice A0_3 m.last.length c0_3, .bool m.empty]) rfl (wo 21 75 rfl rfl (congrArg Value.bool hc296) rfl) rfl (zal (seg := [.slice A0_0 m.spots.length c0_0, .slice A0_1 m.first.length c0_1, .slice A0_2 m.follow.length c0_2, .slice A0_3 m.last.length c0_3, .bool m.empty]) ty27 rfl (by simp) rfl (CF.box (m := 5) (S295.box_at (j := 0) rfl) rfl)) <| p_c rfl (wo 21 75 rfl rfl (congrArg Value.bool hc296) rfl) rfl (za6 (args := [.agg (zac p).toArray, .agg #[.slice A0_0 m.spots.length c0_0, .slice A0_1 m.first.length c0_1, .slice A0_2 m.follow.length c0_2, .slice A0_3 m.last.length c0_3, .bool m.empty]]) ca27 rfl rfl) (splits11_calls w294 p o3 m A0_0 c0_0 b0_0 (l0_0.mono (St.le0 S295)) A0_1 c0_1 b0_1 (l0_1.mono (St.le0 S295)) A0_2 c0_2 b0_2 (l0_2.mono (St.le0 S295)) A0_3 c0_3 b0_3 (l0_3.mono (St.le0 S295)) (by first | assumption | omega)) ?_
    rintro _ w297 ⟨h297, T297, rfl⟩
    have S298 := S295.keep (Chg.of_below T297.below)
    refine p_v (v := .bool (!((zcw m).any (zc1 p)))) rfl (wo 21 75 rfl rfl (congrArg Value.bool hc296) rfl) rfl (ze2 rfl) <| p_v (v := .bool (!((zcw m).any (zc1 p)))) rfl (wo 12 66 rfl rfl (bF hc290) rfl) rfl (za5 (congrArg Value.bool hc296) rfl) <| p_v (v := .bool (decide ((decide ((errB m p) = 0)) ≠ (!((zcw m).any (zc1 p)))))) rfl (wo 12 66 rfl rfl (bF hc290) rfl) rfl (zfc u4 rfl rfl) <| p_v (v := .bool (decide ((decide ((errB m p) = 0)) ≠ (!((zcw m).any (zc1 p)))))) rfl rfl rfl (zbk (bF hc290) rfl) <| zaa ?_
    have hc299 : ¬ ((decide ((errB m p) = 0)) ≠ (!((zcw m).any (zc1 p)))) := by
     refine nz ?_; rw [b_3]; first | (rw [(by assumption : zbs m = false)]; done) | (rw [(by assumption : zbs m = false)]; rfl) | (rw [(by assumption : zbs m = true), (by assumption : zc7 p = false)]; done) | (rw [(by assumption : zbs m = true), (by assumption : zc7 p = false)]; rfl) | (rw [(by assumption : zbs m = true), (by assumption : zc7 p = true)]; simp)
    refine zb4 (b := false) (bF hc299) ?_
    simp only [if_true, if_false, Bool.false_eq_true]
    refine zau ?_
    exact jn79 _ _ ⟨h56, (Le.refl _), S298.sub [0, 1, 3, 6, 9] (by decide) rfl _ rfl, rfl, rfl, rfl, rfl, rfl, rfl, rfl, rfl, ok26_0, ok32_0, ok42_0, (by trivial)⟩
   refine za2 rfl (wo 21 75 rfl rfl (congrArg Value.bool hc296) rfl) rfl <| za2 rfl (wo 21 75 rfl rfl (congrArg Value.bool hc296) rfl) rfl <| za2 rfl (wo 21 75 rfl rfl (congrArg Value.bool hc296) rfl) rfl <| za2 rfl (wo 21 75 rfl rfl (congrArg Value.bool hc296) rfl) rfl <| p_v (v := .bool false) rfl (wo 12 66 rfl rfl (bF hc290) rfl) rfl (zbk (congrArg Value.bool hc296) rfl) <| p_v (v := .bool (decide ((decide ((errB m p) = 0)) ≠ false))) rfl (wo 12 66 rfl rfl (bF hc290) rfl) rfl (zfc u4 rfl rfl) <| p_v (v := .bool (decide ((decide ((errB m p) = 0)) ≠ false))) rfl rfl rfl (zbk (bF hc290) rfl) <| zaa ?_
   have hc300 : ¬ ((decide ((errB m p) = 0)) ≠ false) := by
    refine nz ?_; rw [b_3]; first | (rw [(by assumption : zbs m = false)]; done) | (rw [(by assumption : zbs m = false)]; rfl) | (rw [(by assumption : zbs m = true), (by assumption : zc7 p = false)]; done) | (rw [(by assumption : zbs m = true), (by assumption : zc7 p = false)]; rfl) | (rw [(by assumption : zbs m = true), (by assumption : zc7 p = true)]; simp)
   refine zb4 (b := false) (bF hc300) ?_
   simp only [if_true, if_false, Bool.false_eq_true]
   refine zau ?_
   exact jn79 _ _ ⟨h56, (Le.refl _), S295.sub [0, 1, 3, 6, 9] (by decide) rfl _ rfl, rfl, rfl, rfl, rfl, rfl, rfl, rfl, rfl, ok26_0, ok32_0, ok42_0, (by trivial)⟩
  refine za2 rfl (wo 17 71 rfl rfl (congrArg Value.bool hc293) rfl) rfl <| za2 rfl (wo 17 71 rfl rfl (congrArg Value.bool hc293) rfl) rfl <| p_v (v := .bool false) rfl (wo 12 66 rfl rfl (bF hc290) rfl) rfl (zbk (congrArg Value.bool hc293) rfl) <| p_v (v := .bool false) rfl (wo 12 66 rfl rfl (bF hc290) rfl) rfl (zag rfl) <| za2 rfl rfl rfl <| za2 rfl rfl rfl <| za2 rfl rfl rfl <| za2 rfl rfl rfl <| p_v (v := .bool false) rfl (wo 12 66 rfl rfl (bF hc290) rfl) rfl (zbk rfl rfl) <| p_v (v := .bool (decide ((decide ((errB m p) = 0)) ≠ false))) rfl (wo 12 66 rfl rfl (bF hc290) rfl) rfl (zfc u4 rfl rfl) <| p_v (v := .bool (decide ((decide ((errB m p) = 0)) ≠ false))) rfl rfl rfl (zbk (bF hc290) rfl) <| zaa ?_
  have hc301 : ¬ ((decide ((errB m p) = 0)) ≠ false) := by
   refine nz ?_; rw [b_3]; first | (rw [(by assumption : zbs m = false)]; done) | (rw [(by assumption : zbs m = false)]; rfl) | (rw [(by assumption : zbs m = true), (by assumption : zc7 p = false)]; done) | (rw [(by assumption : zbs m = true), (by assumption : zc7 p = false)]; rfl) | (rw [(by assumption : zbs m = true), (by assumption : zc7 p = true)]; simp)
  refine zb4 (b := false) (bF hc301) ?_
  simp only [if_true, if_false, Bool.false_eq_true]
  refine zau ?_
  exact jn79 _ _ ⟨h56, (Le.refl _), S292.sub [0, 1, 3, 6, 9] (by decide) rfl _ rfl, rfl, rfl, rfl, rfl, rfl, rfl, rfl, rfl, ok26_0, ok32_0, ok42_0, (by trivial)⟩
 refine za2 rfl (wo 3 27 rfl rfl (congrArg (fun z => Value.bool (!z)) hc19) rfl) rfl <| za2 rfl (wo 3 27 rfl rfl (congrArg (fun z => Value.bool (!z)) hc19) rfl) rfl <| za2 rfl (wo 3 27 rfl rfl (congrArg (fun z => Value.bool (!z)) hc19) rfl) rfl <| p_v (v := .bool true) rfl rfl rfl (za5 (congrArg (fun z => Value.bool (!z)) hc19) rfl) <| zaa <| zb4 (b := true) rfl ?_
 simp only [if_true, if_false, Bool.false_eq_true]
 refine zab <| zad (l := [0, 1]) rfl <| p_c rfl rfl rfl (za6 (args := []) ca19 rfl rfl) (zei w17  (zex.st S18 tb)) ?_
 rintro _ w302 ⟨h302, T302, rfl⟩
 have S303 := S18.keep (Chg.of_below T302.below)
 refine p_v (v := .bool true) rfl rfl rfl (zah rfl) <| zaa <| zar Tryd.func4 (res1 rfl (zax (v := .bool true) rfl)) ?_
 have q0 : (true : Bool) = true := rfl
 refine ⟨_, rfl, (fun _ => none), ?_, ?_⟩
 · exact S303.sub [] (by decide) rfl _ rfl
 · rfl
end Go.Proofs.YtfoemogojbnfhaaDoor
namespace Gx
open Go Go.RowKit
set_option linter.unusedSimpArgs false
set_option linter.unusedSectionVars false
set_option linter.unusedVariables false
def zdg {α : Type} (P : Program) (k : Kd α) (t : TypeId) : Prop :=
  ∀ {H : Type} {enc : TypeId × Value → H} {w : World} {spare : Nat → Bool} {held : Bool} {fuel : Nat} {cs : List Value} {x : DataW H × List MemPlace}, DataW.trod enc P w 0 spare held fuel t cs = some x → ∃ m, k.rep (hp w) m cs
section
variable {P : Program} {t e : TypeId}
theorem inK_wf {k : IntKind} {n : Int} (h : (Lit.int k n).wf = true) : inK k n := by
  simp only [Lit.wf, Bool.and_eq_true, decide_eq_true_eq] at h
  exact h
theorem zdg.int {k : IntKind} (ht : P.underlying t = some (.int k)) : zdg P (Kd.int k) t := fun h => by
  obtain ⟨n, rfl, _, hw⟩ := DataW.trod_int ht h
  exact ⟨n, rfl, inK_wf hw⟩
theorem zdg.bool (ht : P.underlying t = some .bool) : zdg P Kd.bool t := fun h => by
  obtain ⟨b, rfl, _⟩ := DataW.trod_bool ht h
  exact ⟨b, rfl, trivial⟩
theorem exists_list {α : Type} {Q : Nat → α → Prop} : ∀ (n : Nat), (∀ i, i < n → ∃ m, Q i m) → ∃ l : List α, l.length = n ∧ ∀ i m, l[i]? = some m → Q i m
  | 0, _ => ⟨[], rfl, fun i m h => by simp at h⟩
  | n + 1, h => by
    obtain ⟨l, hl, hq⟩ := exists_list n fun i hi => h i (by omega)
    obtain ⟨m, hm⟩ := h n (by omega)
    refine ⟨l ++ [m], by simp [hl], fun i y hy => ?_⟩
    rw [List.getElem?_append] at hy
    split at hy
    · exact hq i y hy
    · rename_i hi
      have e : i - l.length = 0 := by
        rcases Nat.eq_zero_or_pos (i - l.length) with h0 | h0
        · exact h0
        · rw [List.getElem?_eq_none (by simp; omega)] at hy; cases hy
      rw [e] at hy
      simp at hy
      subst hy
      have : i = n := by omega
      rw [this]; exact hm
theorem zdg.ints {k : IntKind} {n : Nat} (hn : 0 < n) (ht : P.underlying t = some (.array n e)) (he : P.underlying e = some (.int k)) (hc : P.cellsOf e = 1) (hct : P.cellsOf t = n) : zdg P (kInts k n hn) t := fun {H enc w spare held fuel cs x} h => by
  obtain ⟨xs, m, _, _, hl, hx, hel⟩ := DataW.trod_array ht h
  rw [hct] at hl
  have h1 : ∀ i, i < n → ∃ z : Int, cs[i]? = some (.int k z) ∧ inK k z := fun i hi => by
    have h2 := hel i hi
    rw [hc, Nat.mul_one, List.getElem?_eq_getElem (by omega)] at h2
    obtain ⟨z, hz, _, hw⟩ := DataW.trod_int he h2
    refine ⟨z, ?_, inK_wf hw⟩
    have h3 := congrArg (fun l : List Value => l[0]?) hz
    simpa [List.getElem?_take, List.getElem?_drop] using h3
  obtain ⟨l, hll, hq⟩ := exists_list n h1
  refine ⟨l, ?_, hll, fun z hz => ?_⟩
  · apply List.ext_getElem?
    intro i
    rw [zbf, List.getElem?_map]
    by_cases hi : i < n
    · have h4 := hq i (l[i]'(by omega)) (List.getElem?_eq_getElem _)
      rw [h4.1, List.getElem?_eq_getElem (by omega)]; rfl
    · rw [List.getElem?_eq_none (by omega), List.getElem?_eq_none (by omega)]; rfl
  · obtain ⟨i, hi⟩ := List.mem_iff_getElem?.1 hz
    exact (hq i z hi).2
theorem zdg.set (ht : P.underlying t = some (.array 4 e)) (he : P.underlying e = some (.int .u64)) (hc : P.cellsOf e = 1) (hct : P.cellsOf t = 4) : zdg P kSet t := fun h => by
  obtain ⟨l, hl, hok⟩ := zdg.ints (n := 4) (by omega) ht he hc hct h
  exact ⟨zck l, by rw [hl, encSet_of hok], trivial⟩
theorem zdg.slice {α : Type} {k : Kd α} (ht : P.underlying t = some (.slice e)) (hc : P.cellsOf e = k.sz) (ho : zdg P k e) : zdg P k.slice t := fun {H enc w spare held fuel cs x} h => by
  rcases DataW.trod_slice ht h with ⟨rfl, _⟩ | ⟨a, len, cap, elems, rest, n, _, rfl, _, _, hl, hm, hlen, hel, _, _⟩
  · exact ⟨[], none, 0, rfl, Nat.le_refl _, by simp [maxLen], fun hne => (hne rfl).elim⟩
  · rw [hc] at hel
    have h1 : ∀ i, i < len → ∃ m, ∃ seg, k.rep (hp w) m seg ∧ ∀ j v, seg[j]? = some v → ze1 (hp w) (a.add (i * k.sz + j)) = some v := fun i hi => by
      have h2 := hel i hi
      rw [List.getElem?_eq_getElem (by omega)] at h2
      obtain ⟨seg, hseg, hd⟩ := Option.bind_eq_some_iff.1 h2
      obtain ⟨m, hr⟩ := ho hd
      refine ⟨m, seg, hr, fun j v hj => ?_⟩
      obtain ⟨_, hlen2, hcell⟩ := World.cells?_some hseg
      have hjl : j < k.sz := by
        have := (List.getElem?_eq_some_iff.1 hj).1
        rw [k.len hr] at this; exact this
      have h5 := hcell j hjl
      rw [hj] at h5
      rw [Addr.add_add] at h5
      show ze1 (hp w) _ = _
      unfold ze1 hp
      unfold World.cell? at h5
      exact h5
    obtain ⟨l, hll, hq⟩ := exists_list len h1
    refine ⟨l, some a, cap, by rw [hll], by omega, hm, fun _ => ⟨a, rfl, hq⟩⟩
end
end Gx
namespace Gx
open Go Go.RowKit
set_option linter.unusedSimpArgs false
set_option linter.unusedSectionVars false
set_option linter.unusedVariables false
section
variable {P : Program} {t : TypeId}
theorem zew {H : Type} {enc : TypeId × Value → H} {w : World} {spare : Nat → Bool} {held : Bool} {fuel : Nat} {cs : List Value} {x : DataW H × List MemPlace} {α : Type} {k : Kd α} {q o ft : Nat} (hf : zb1 P t q = some (o, ft)) (hc : P.cellsOf ft = k.sz) (ho : zdg P k ft) (h : DataW.trod enc P w 0 spare held fuel t cs = some x) : ∃ m, k.rep (hp w) m ((cs.drop o).take k.sz) := by
  obtain ⟨fs, fd, hu, hq, rfl, rfl⟩ := fieldInfo_parts hf
  obtain ⟨xs, n, _, _, _, hl, hp⟩ := DataW.trod_struct hu h
  have h1 := hp q fd hq
  have hlt : q < fs.size := (Array.getElem?_eq_some_iff.1 hq).1
  rw [hc, List.getElem?_eq_getElem (by omega)] at h1
  exact ho h1
theorem trod_len {H : Type} {enc : TypeId × Value → H} {w : World} {spare : Nat → Bool} {held : Bool} {fuel : Nat} {cs : List Value} {x : DataW H × List MemPlace} {q o ft : Nat} (hf : zb1 P t q = some (o, ft)) (h : DataW.trod enc P w 0 spare held fuel t cs = some x) : cs.length = P.cellsOf t := by
  obtain ⟨fs, fd, hu, hq, rfl, rfl⟩ := fieldInfo_parts hf
  obtain ⟨xs, n, _, _, hl, _, _⟩ := DataW.trod_struct hu h
  exact hl
theorem zdg.spot {a b : TypeId} (h0 : zb1 P t 0 = some (0, a)) (h1 : zb1 P t 1 = some (4, b)) (hc : P.cellsOf t = 5) (ha : P.cellsOf a = 4) (hb : P.cellsOf b = 1) (oa : zdg P kSet a) (ob : zdg P (Kd.int .u8) b) : zdg P zel t := fun {H enc w spare held fuel cs x} h => by
  obtain ⟨s, e0, _⟩ := zew h0 ha oa h
  obtain ⟨n, e1, hn⟩ := zew h1 hb ob h
  have hl := trod_len h0 h
  rw [hc] at hl
  refine ⟨⟨s, n⟩, ?_, hn⟩
  have e2 : cs = (cs.drop 0).take 4 ++ (cs.drop 4).take 1 := by
    rw [List.drop_zero, List.take_of_length_le (l := cs.drop 4) (by simp; omega), List.take_append_drop]
  rw [e2]
  show (cs.drop 0).take kSet.sz ++ (cs.drop 4).take (Kd.int .u8).sz = _
  rw [e0, e1]; rfl
def kMach : Kd Mach where
  sz := 5
  pos := by omega
  rep := fun h m cs => ∃ A0 c0 A1 c1 A2 c2 A3 c3, cs = [.slice A0 m.spots.length c0, .slice A1 m.first.length c1, .slice A2 m.follow.length c2, .slice A3 m.last.length c3, .bool m.empty] ∧
    ((m.spots.length ≤ c0 ∧ c0 ≤ maxLen) ∧ zbe zel h A0 m.spots) ∧ ((m.first.length ≤ c1 ∧ c1 ≤ maxLen) ∧ zbe (Kd.int .i64) h A1 m.first) ∧ ((m.follow.length ≤ c2 ∧ c2 ≤ maxLen) ∧ zbe (Kd.int .i64).slice h A2 m.follow) ∧ ((m.last.length ≤ c3 ∧ c3 ≤ maxLen) ∧ zbe Kd.bool h A3 m.last)
  mono := fun hl ⟨A0, c0, A1, c1, A2, c2, A3, c3, e, h0, h1, h2, h3⟩ => ⟨A0, c0, A1, c1, A2, c2, A3, c3, e, ⟨h0.1, h0.2.mono hl⟩, ⟨h1.1, h1.2.mono hl⟩, ⟨h2.1, h2.2.mono hl⟩, ⟨h3.1, h3.2.mono hl⟩⟩
  len := fun ⟨_, _, _, _, _, _, _, _, e, _⟩ => by rw [e]; rfl
  one := fun ⟨_, _, _, _, _, _, _, _, e, _⟩ u hu => by rw [e] at hu; exact zb0 rfl (zb0 rfl (zb0 rfl (zb0 rfl (zb0 rfl zde)))) u hu
theorem list5 {cs : List Value} (h : cs.length = 5) {a b c d e : Value} (h0 : (cs.drop 0).take 1 = [a]) (h1 : (cs.drop 1).take 1 = [b]) (h2 : (cs.drop 2).take 1 = [c]) (h3 : (cs.drop 3).take 1 = [d]) (h4 : (cs.drop 4).take 1 = [e]) : cs = [a, b, c, d, e] := by
  match cs, h with
  | [x0, x1, x2, x3, x4], _ => simp at h0 h1 h2 h3 h4; simp [h0, h1, h2, h3, h4]
theorem zdg.mach {t0 t1 t2 t3 t4 : TypeId} (h0 : zb1 P t 0 = some (0, t0)) (h1 : zb1 P t 1 = some (1, t1)) (h2 : zb1 P t 2 = some (2, t2)) (h3 : zb1 P t 3 = some (3, t3)) (h4 : zb1 P t 4 = some (4, t4)) (hc : P.cellsOf t = 5) (c0 : P.cellsOf t0 = 1) (c1 : P.cellsOf t1 = 1) (c2 : P.cellsOf t2 = 1) (c3 : P.cellsOf t3 = 1) (c4 : P.cellsOf t4 = 1)
    (o0 : zdg P zel.slice t0) (o1 : zdg P (Kd.int .i64).slice t1) (o2 : zdg P (Kd.int .i64).slice.slice t2) (o3 : zdg P Kd.bool.slice t3) (o4 : zdg P Kd.bool t4) : zdg P kMach t := fun h => by
  obtain ⟨m0, A0, d0, e0, b0, b0', l0⟩ := zew h0 c0 o0 h
  obtain ⟨m1, A1, d1, e1, b1, b1', l1⟩ := zew h1 c1 o1 h
  obtain ⟨m2, A2, d2, e2, b2, b2', l2⟩ := zew h2 c2 o2 h
  obtain ⟨m3, A3, d3, e3, b3, b3', l3⟩ := zew h3 c3 o3 h
  obtain ⟨m4, e4, _⟩ := zew h4 c4 o4 h
  have hl := trod_len h0 h
  rw [hc] at hl
  exact ⟨⟨m0, m1, m2, m3, m4⟩, A0, d0, A1, d1, A2, d2, A3, d3, list5 hl e0 e1 e2 e3 e4, ⟨⟨b0, b0'⟩, l0⟩, ⟨⟨b1, b1'⟩, l1⟩, ⟨⟨b2, b2'⟩, l2⟩, ⟨b3, b3'⟩, l3⟩
end
end Gx
namespace Gx
open Go Go.RowKit
set_option linter.unusedSimpArgs false
set_option linter.unusedSectionVars false
set_option linter.unusedVariables false
section
variable {P : Program} {t : TypeId}
theorem parts_of {cs : List Value} {n m : Nat} (h : cs.length = n + m) : cs = (cs.drop 0).take n ++ (cs.drop n).take m := by
  rw [List.drop_zero, List.take_of_length_le (l := cs.drop n) (by simp; omega), List.take_append_drop]
theorem zdg.part {a b : TypeId} (h0 : zb1 P t 0 = some (0, a)) (h1 : zb1 P t 1 = some (256, b)) (hc : P.cellsOf t = 257) (ha : P.cellsOf a = 256) (hb : P.cellsOf b = 1) (oa : zdg P (kInts .u8 256 (by decide)) a) (ob : zdg P (Kd.int .i64) b) : zdg P kPart t := fun {H enc w spare held fuel cs x} h => by
  obtain ⟨l, e0, ok⟩ := zew (k := kInts .u8 256 (by decide)) h0 ha oa h
  obtain ⟨n, e1, hn⟩ := zew h1 hb ob h
  have hl := trod_len h0 h
  rw [hc] at hl
  refine ⟨⟨l, n⟩, ?_, ok, hn⟩
  rw [parts_of (n := 256) (m := 1) hl]
  show (cs.drop 0).take (kInts .u8 256 (by decide)).sz ++ (cs.drop 256).take (Kd.int .i64).sz = _
  rw [e0, e1]; rfl
end
end Gx
namespace Go.Proofs.YtfoemogojbnfhaaDoor
open Go Go.ChangeShapes Go.WideShapes Go.ChangeAt Go.RowKit Gx
set_option linter.unusedVariables false
theorem own : ownKnob Tryd.prog.godebug = none := by kernel_rfl
theorem laidOut : laidOutB Tryd.prog = true := by kernel_rfl
def laid : List (String × DataW Unit) := [("math/bits.deBruijn64tab", Rows.laid_math_bits_deBruijn64tab)]
theorem gTab : Tryd.prog.globalNamed "math/bits.deBruijn64tab" = some 0 := by kernel_rfl
theorem tTab : (Tryd.prog.globals[0]?).map (·.type) = some 222 := by kernel_rfl
theorem door_met (os : Os) (args : Array Value) : laidMetH Tryd.prog laid ((World.doorLaid Tryd.prog 4000 os).forCall (fun _ _ => 0) ⟨#[], args, []⟩).memory :=
  laidMetH_of_parts3 (fuel := 8) (laidMet_of_run' 8 (by kernel_rfl) (by kernel_rfl)) (by kernel_rfl) (by kernel_rfl)
set_option maxRecDepth 20000 in
theorem tab_of_laid {W : World} (h : laidMetH Tryd.prog laid W) : zex 0 tzTab W := by
  rw [MakeChecks.laidMetH_plain _ _ _ (by kernel_rfl)] at h
  obtain ⟨ps, ⟨g0, t0, cs0, f0, p0, q0, hg0, ht0, hv0, hd0, _⟩, _, _⟩ := h
  obtain rfl := Option.some.inj (gTab.symm.trans hg0)
  obtain rfl := Option.some.inj (tTab.symm.trans ht0)
  obtain ⟨xs, m, _, hx, hl, hn, hel⟩ := DataW.trod_array (n := 64) (e := 5) (by kernel_rfl) hd0
  have c5 : Tryd.prog.cellsOf 5 = 1 := by kernel_rfl
  have c70 : Tryd.prog.cellsOf 222 = 64 := by kernel_rfl
  rw [c70] at hl
  intro j hj
  have hj64 : j < 64 := hj
  rw [World.var?_cell hg0 hv0 j]
  have h2 := hel j hj64
  rw [c5, Nat.mul_one, List.getElem?_eq_getElem (by omega)] at h2
  obtain ⟨z, hz, hzx, _⟩ := DataW.trod_int (k := .u8) (by kernel_rfl) h2
  have h3 := congrArg (fun l : List Value => l[0]?) hz
  simp only [List.getElem?_take, List.getElem?_drop, List.getElem?_cons_zero, Nat.add_zero] at h3
  have h4 : cs0[j]? = some (.int .u8 z) := by rw [← Array.getElem?_toList]; simpa using h3
  rw [h4]
  simp only [Prod.mk.injEq] at hx
  have h6 : (xs.map (·.1))[j]? = some (.lit (.int .u8 z)) := by rw [List.getElem?_map, List.getElem?_eq_getElem (by omega), Option.map_some, hzx]
  have h7 : Rows.laid_math_bits_deBruijn64tab (H := Unit) = .agg (tzTab.map fun v => match v with | .int k n => .lit (.int k n) | _ => .nil) := by kernel_rfl
  rw [h7] at hx
  injection hx.1 with h8
  rw [← h8] at h6
  have h9 : ∀ j, j < 64 → ∃ n, tzTab[j]? = some (.int .u8 n) := fun j hj => ⟨_, by unfold tzTab; rw [List.getElem?_map, List.getElem?_eq_getElem (by exact hj)]; rfl⟩
  obtain ⟨n, hn9⟩ := h9 j hj64
  rw [List.getElem?_map, hn9] at h6
  simp at h6
  rw [hn9, h6]
end Go.Proofs.YtfoemogojbnfhaaDoor
