/- My own library for walks through the translated code, and the walks of the functions that the law NfaOwn comes to, part 4; no conditions but those that each contract tells. -/
import Derived.Laws.BytesArg
import Derived.Lib.Bytealg
import Derived.ProofKit
import Derived.OpenShut
import Derived.ShutString
import Derived.ChangeOld
import Derived.Below
import Derived.DataElems
import Derived.Test.YthpdebieagaghaaRows
import Derived.Stop.Joined
import Derived.MakeChecks
import Derived.Test.YthpdebieagaghaaLNfaOwn2
namespace Go.Proofs.Ythpdebieagaghaa
open Go Go.RowKit Gx
set_option maxHeartbeats 1000000
set_option linter.unusedVariables false
set_option linter.unusedSimpArgs false
attribute [local irreducible] listOf count first has zb6 wbits Lib.ctz zcu zbq rowOk tab markP intoP intoTo zcy zcd zct runTo endsIn endTo runM posTo zco greatTo anyTo allTo zc6 numsL numsIn zb3 kept lefts zc0 lastTp zcg za2 errM zdd zao lfp seekN seekB fullS zdb useN trues
theorem copyG_calls (w : World) (m : Mach) (A0_0 : Option Addr) (c0_0 : Nat) (b0_0 : m.spots.length ≤ c0_0 ∧ c0_0 ≤ maxLen) (l0_0 : zbb za8 (hp w) A0_0 m.spots) (A0_1 : Option Addr) (c0_1 : Nat) (b0_1 : m.first.length ≤ c0_1 ∧ c0_1 ≤ maxLen) (l0_1 : zbb (Kd.int .i64) (hp w) A0_1 m.first) (A0_2 : Option Addr) (c0_2 : Nat) (b0_2 : m.follow.length ≤ c0_2 ∧ c0_2 ≤ maxLen) (l0_2 : zbb (Kd.int .i64).slice (hp w) A0_2 m.follow) (A0_3 : Option Addr) (c0_3 : Nat) (b0_3 : m.last.length ≤ c0_3 ∧ c0_3 ≤ maxLen) (l0_3 : zbb Kd.bool (hp w) A0_3 m.last) (pre0 : Small m) :
    Calls Try.prog 7 #[.agg #[.slice A0_0 m.spots.length c0_0, .slice A0_1 m.first.length c0_1, .slice A0_2 m.follow.length c0_2, .slice A0_3 m.last.length c0_3, .bool m.empty]] w fun e w' => ∃ v, e = .returned v ∧ ∃ (hn : Ghost) (r0 : Value) (r1 : Value) (r2 : Value) (us3 : List Value) (r4 : Value), St w.heap.size w hn w' [row 38 za8 r0 m.spots, row 3 (Kd.int .i64) r1 m.first, row 23 kRaw r2 us3, grid 3 (Kd.int .i64) us3 m.follow, row 4 Kd.bool r4 m.last] ∧ v = .agg #[r0, r1, r2, r4, .bool m.empty] := by
 refine zax Try.func7 rfl Try.ntmps7 rfl ?_
 have S0 := St.init w
 have bb0_0 := b0_0.1; have bc0_0 := b0_0.2; simp only [maxLen] at bc0_0
 have bb0_1 := b0_1.1; have bc0_1 := b0_1.2; simp only [maxLen] at bc0_1
 have bb0_2 := b0_2.1; have bc0_2 := b0_2.2; simp only [maxLen] at bc0_2
 have bb0_3 := b0_3.1; have bc0_3 := b0_3.2; simp only [maxLen] at bc0_3
 have hs0_ := pre0.spots; have hs1_ := pre0.first; have hs2_ := pre0.follow; have hs3_ := pre0.last
 refine zab <| zac (l := [0, 1]) rfl ?_
 obtain ⟨b1, w1, r1, g1, T1⟩ := zc1 (P := Try.prog) S0 27 (v := .agg #[.slice A0_0 m.spots.length c0_0, .slice A0_1 m.first.length c0_1, .slice A0_2 m.follow.length c0_2, .slice A0_3 m.last.length c0_3, .bool m.empty]) [.slice A0_0 m.spots.length c0_0, .slice A0_1 m.first.length c0_1, .slice A0_2 m.follow.length c0_2, .slice A0_3 m.last.length c0_3, .bool m.empty] rfl
 have S2 := T1
 dsimp only [lAa, lAn, lA0, lAs] at S2
 refine p_v (v := .pointer (some ⟨b1, 0, none⟩)) rfl rfl rfl (x_box rfl r1) ?_
 obtain ⟨b3, w3, r3, g3, T3⟩ := zc1 (P := Try.prog) S2 27 (v := (.agg #[.slice none 0 0, .slice none 0 0, .slice none 0 0, .slice none 0 0, .bool false])) [.slice none 0 0, .slice none 0 0, .slice none 0 0, .slice none 0 0, .bool false] rfl
 have S4 := T3
 dsimp only [lAa, lAn, lA0, lAs] at S4
 refine p_v (v := .pointer (some ⟨b3, 0, none⟩)) rfl rfl rfl (zck ty27 r3) <| zaa <| zab ?_
 have hf5 : (CFs ⟨b1, 0, none⟩ [.slice A0_0 m.spots.length c0_0]).1 w3 := (CF.box (m := 1) (S4.box_at (j := 0) rfl) rfl)
 have hf6 : (CFs ⟨b1, 1, none⟩ [.slice A0_1 m.first.length c0_1]).1 w3 := (CF.box (m := 1) (S4.box_at (j := 0) rfl) rfl)
 have hf7 : (CFs ⟨b1, 3, none⟩ [.slice A0_3 m.last.length c0_3]).1 w3 := (CF.box (m := 1) (S4.box_at (j := 0) rfl) rfl)
 refine daS (hkC 1 hf5 (hkC 4 hf6 (hkC 7 hf7 (hkN (w := w3))))) 15 rfl mixed ?_
 intro wd8 gd8 hd8
 have S9 := S4.keep gd8
 have hf10 := spUp gd8 hf5
 have hf11 := spUp gd8 hf6
 have hf12 := spUp gd8 hf7
 refine qd0 (i := 0) (v := .pointer (some ⟨b1, 0, none⟩)) rfl (by decide +kernel) rfl rfl (zaf zcp ty22 rfl rfl) (zav rfl) <| qd1 0 (i := 1) (v := .slice A0_0 m.spots.length c0_0) rfl rfl (by decide +kernel) rfl rfl (fun wq hq => (zag (seg := [.slice A0_0 m.spots.length c0_0]) ty22 rfl (by simp) rfl hq)) (zcf hf10 (zav rfl)) <| qd0 (i := 3) (v := .pointer (some ⟨b1, 1, none⟩)) rfl (by decide +kernel) rfl rfl (zaf fd27_1 ty23 rfl rfl) (zav rfl) <| qd1 1 (i := 4) (v := .slice A0_1 m.first.length c0_1) rfl rfl (by decide +kernel) rfl rfl (fun wq hq => (zag (seg := [.slice A0_1 m.first.length c0_1]) ty23 rfl (by simp) rfl hq)) (zbw rfl (zcf hf11 (zav rfl))) <| qd0 (i := 6) (v := .pointer (some ⟨b1, 3, none⟩)) rfl (by decide +kernel) rfl rfl (zaf zc8 ty25 rfl rfl) (zav rfl) <| qd1 2 (i := 7) (v := .slice A0_3 m.last.length c0_3) rfl rfl (by decide +kernel) rfl rfl (fun wq hq => (zag (seg := [.slice A0_3 m.last.length c0_3]) ty25 rfl (by simp) rfl hq)) (zbw rfl (zbw rfl (zcf hf12 (zav rfl)))) <| zbj (i := 2) (by decide +kernel) ?_
 intro wd13 gd13
 have S14 := S9.keep gd13
 have hf15 := spUp gd13 hf10
 have hf16 := spUp gd13 hf11
 have hf17 := spUp gd13 hf12
 refine d_c rfl rfl rfl (zbp (args := [.slice A0_0 m.spots.length c0_0]) ca15 rfl rfl) (cloneS_calls wd13 m.spots A0_0 c0_0 b0_0 (l0_0.mono (St.le0 S14)) (by omega)) ?_
 rintro v18_0 w18 ⟨h18, _, T18, rfl⟩
 obtain ⟨k18, lk18, ll18, U18⟩ := zbg S14 T18
 have S19 := U18
 dsimp only [lAa, lAn, lA0, lAs] at S19
 have hf20 := spUp (Chg.of_below T18.below) hf15
 have hf21 := spUp (Chg.of_below T18.below) hf16
 have hf22 := spUp (Chg.of_below T18.below) hf17
 refine ⟨.inl (Chg.of_below T18.below), ?_⟩
 refine qd0 (i := 9) (v := .pointer (some ⟨b1, 0, none⟩)) rfl (by decide +kernel) rfl rfl (zaf zcp ty22 rfl rfl) (zav rfl) <| zbj (i := 5) (by decide +kernel) ?_
 intro wd23 gd23
 have S24 := S19.keep gd23
 have hf25 := spUp gd23 hf20
 have hf26 := spUp gd23 hf21
 have hf27 := spUp gd23 hf22
 refine d_c rfl rfl rfl (zbp (args := [.slice A0_1 m.first.length c0_1]) ca16 rfl rfl) (cloneI_calls wd23 m.first A0_1 c0_1 b0_1 (l0_1.mono (St.le0 S24)) (by omega)) ?_
 rintro v28_0 w28 ⟨h28, _, T28, rfl⟩
 obtain ⟨k28, lk28, ll28, U28⟩ := zbg S24 T28
 have lc28_0 := (lk18).trans lk28
 have S29 := U28
 dsimp only [lAa, lAn, lA0, lAs] at S29
 have hf30 := spUp (Chg.of_below T28.below) hf25
 have hf31 := spUp (Chg.of_below T28.below) hf26
 have hf32 := spUp (Chg.of_below T28.below) hf27
 refine ⟨.inl (Chg.of_below T28.below), ?_⟩
 refine zbj (i := 8) (by decide +kernel) ?_
 intro wd33 gd33
 have S34 := S29.keep gd33
 have hf35 := spUp gd33 hf30
 have hf36 := spUp gd33 hf31
 have hf37 := spUp gd33 hf32
 refine d_c rfl rfl rfl (zbp (args := [.slice A0_3 m.last.length c0_3]) ca17 rfl rfl) (cloneB_calls wd33 m.last A0_3 c0_3 b0_3 (l0_3.mono (St.le0 S34)) (by omega)) ?_
 rintro v38_0 w38 ⟨h38, _, T38, rfl⟩
 obtain ⟨k38, lk38, ll38, U38⟩ := zbg S34 T38
 have lc38_0 := (lc28_0).trans lk38
 have lc38_1 := (lk28).trans lk38
 have S39 := U38
 dsimp only [lAa, lAn, lA0, lAs] at S39
 have hf40 := spUp (Chg.of_below T38.below) hf35
 have hf41 := spUp (Chg.of_below T38.below) hf36
 have hf42 := spUp (Chg.of_below T38.below) hf37
 refine ⟨.inl (Chg.of_below T38.below), ?_⟩
 refine zbj (i := 10) (by decide +kernel) ?_
 intro wd43 gd43
 have S44 := S39.keep gd43
 have hf45 := spUp gd43 hf40
 have hf46 := spUp gd43 hf41
 have hf47 := spUp gd43 hf42
 have oc49 := za5 S44 (j := 2) rfl
 obtain ⟨w48, r48, g48, T48⟩ := zbf (P := Try.prog) (off := 0) (v := v18_0) (vs := [v18_0]) S44 ty22 (za9 S44 (j := 2) rfl) rfl (j := 0) rfl (by first | decide | exact Nat.le_of_ble_eq_true rfl) (zai oc49 zbt)
 have S50 := T48.fx 0 (box b1 27 [v18_0, .slice A0_1 m.first.length c0_1, .slice A0_2 m.follow.length c0_2, .slice A0_3 m.last.length c0_3, .bool m.empty]) rfl
 dsimp only [lAa, lAn, lA0, lAs] at S50
 refine d_s rfl rfl (za7 rfl rfl r48) (.inr (zau (by decide +kernel) (zau (by decide +kernel) (zau (by decide +kernel) trivial)))) <| qd0 (i := 11) (v := .pointer (some ⟨b1, 1, none⟩)) rfl (by decide +kernel) rfl rfl (zaf fd27_1 ty23 rfl rfl) (zav rfl) <| zbj (i := 12) (by decide +kernel) ?_
 intro wd51 gd51
 have S52 := S50.keep gd51
 have oc54 := za5 S52 (j := 3) rfl
 obtain ⟨w53, r53, g53, T53⟩ := zbf (P := Try.prog) (off := 1) (v := v28_0) (vs := [v28_0]) S52 ty23 (za9 S52 (j := 3) rfl) rfl (j := 0) rfl (by first | decide | exact Nat.le_of_ble_eq_true rfl) (zai oc54 zbt)
 have S55 := T53.fx 0 (box b1 27 [v18_0, v28_0, .slice A0_2 m.follow.length c0_2, .slice A0_3 m.last.length c0_3, .bool m.empty]) rfl
 dsimp only [lAa, lAn, lA0, lAs] at S55
 refine d_s rfl rfl (za7 rfl rfl r53) (.inr (zau (by decide +kernel) (zau (by decide +kernel) (zau (by decide +kernel) trivial)))) <| qd0 (i := 13) (v := .pointer (some ⟨b1, 3, none⟩)) rfl (by decide +kernel) rfl rfl (zaf zc8 ty25 rfl rfl) (zav rfl) <| zbj (i := 14) (by decide +kernel) ?_
 intro wd56 gd56
 have S57 := S55.keep gd56
 have oc59 := za5 S57 (j := 4) rfl
 obtain ⟨w58, r58, g58, T58⟩ := zbf (P := Try.prog) (off := 3) (v := v38_0) (vs := [v38_0]) S57 ty25 (za9 S57 (j := 4) rfl) rfl (j := 0) rfl (by first | decide | exact Nat.le_of_ble_eq_true rfl) (zai oc59 zbt)
 have S60 := T58.fx 0 (box b1 27 [v18_0, v28_0, .slice A0_2 m.follow.length c0_2, v38_0, .bool m.empty]) rfl
 dsimp only [lAa, lAn, lA0, lAs] at S60
 refine d_s rfl rfl (za7 rfl rfl r58) (.inr (zau (by decide +kernel) (zau (by decide +kernel) (zau (by decide +kernel) trivial)))) <| zcv (by decide +kernel) ?_
 intro wd61 gd61
 have S62 := S60.keep gd61
 refine zab <| zac (l := [0, 1, 2, 3, 4]) rfl <| p_v (v := .pointer (some ⟨b1, 2, none⟩)) rfl rfl rfl (zaf zcr ty24 rfl rfl) <| p_v (v := .slice A0_2 m.follow.length c0_2) rfl rfl rfl (zag (seg := [.slice A0_2 m.follow.length c0_2]) ty24 rfl (by simp) rfl (CF.box (m := 1) (S62.box_at (j := 0) rfl) rfl)) <| p_v (v := .int .i64 (m.follow.length : Int)) rfl rfl rfl (zaq u24 rfl) ?_
 obtain ⟨v63, w63, r63, g63, T63⟩ := e_make0 (kk := .i64) (kk' := .i64) (kd := kRaw) (q := (m.follow.length : Int)) S62 u24 ty23 rfl (by first|omega|(simp;omega)|assumption) (by first|omega|(simp;omega)|assumption) (by first|omega|(simp;omega)|assumption)
 have S64 := T63
 dsimp only [lAa, lAn, lA0, lAs] at S64
 have T65 := grid_none S64 3 (Kd.int .i64) 0
 have S66 := T65
 dsimp only [lAa, lAn, lA0, lAs] at S66
 have gl67 := zbn S66 (j := 6) rfl
 refine p_v (v := v63) rfl rfl rfl (x_make rfl rfl r63) <| p_v (v := v63) rfl rfl rfl (zad rfl) <| zaa <| zab <| zab <| zac (l := [0, 1, 2, 3]) rfl <| p_v (v := .pointer (some ⟨b1, 2, none⟩)) rfl rfl rfl (zaf zcr ty24 rfl rfl) <| p_v (v := .slice A0_2 m.follow.length c0_2) rfl rfl rfl (zag (seg := [.slice A0_2 m.follow.length c0_2]) ty24 rfl (by simp) rfl (CF.box (m := 1) (S66.box_at (j := 0) rfl) rfl)) <| p_v (v := .int .i64 (m.follow.length : Int)) rfl rfl rfl (zaq u24 rfl) <| p_v (v := .int .i64 0) rfl rfl rfl (zae rfl) <| zaa <| zal ?_
 refine zbm (S := (List (List Int)) × Int) (fun (q_ : (List (List Int)) × Int) ρ w' => match q_ with | (follow, t25) => ∃ (h : Ghost) (us_follow : List Value) (v_follow : Value), Le k38 h ∧ St w.heap.size w h w' [box b1 27 [v18_0, v28_0, .slice A0_2 m.follow.length c0_2, v38_0, .bool m.empty], box b3 27 [.slice none 0 0, .slice none 0 0, .slice none 0 0, .slice none 0 0, .bool false], row 38 za8 v18_0 m.spots, row 3 (Kd.int .i64) v28_0 m.first, row 4 Kd.bool v38_0 m.last, row 23 kRaw v_follow us_follow, grid 3 (Kd.int .i64) us_follow follow] ∧ ρ 1 = .pointer (some ⟨b1, 0, none⟩) ∧ ρ 2 = .pointer (some ⟨b3, 0, none⟩) ∧ ρ 3 = v_follow ∧ ρ 23 = .slice A0_2 m.follow.length c0_2 ∧ ρ 24 = .int .i64 (m.follow.length : Int) ∧ ρ 25 = .int .i64 t25 ∧ inK .i64 t25 ∧ (0 ≤ t25 ∧ t25 ≤ (m.follow.length : Int) ∧ follow = m.follow.take t25.toNat)) (fun q_ => match q_ with | (follow, t25) => (m.follow.length - t25).toNat) (([] : List (List Int)), 0) ⟨k38, ([] : List Value), v63, Le.refl _, S66.sub [0, 1, 2, 3, 4, 5, 6] (by decide) rfl _ rfl, rfl, rfl, rfl, rfl, rfl, rfl, (zah (by first|omega|(simp;omega)|assumption) (by first|omega|(simp;omega)|assumption)), (by exact ⟨by omega, by omega, by simp⟩)⟩ ?_
 rintro ⟨follow, t25⟩ ih68 ρ68 w68 ⟨h68, us_follow, v_follow, le68, S68, r68_1, r68_2, r68_3, r68_23, r68_24, r68_25, f68_0, hI68⟩
 have lf68_0 := zbk f68_0; have hf68_0 := zbl f68_0
 have rl68_2 := S68.row_le (j := 2) rfl; simp only [maxLen] at rl68_2
 have rl68_3 := S68.row_le (j := 3) rfl; simp only [maxLen] at rl68_3
 have rl68_4 := S68.row_le (j := 4) rfl; simp only [maxLen] at rl68_4
 have rl68_5 := S68.row_le (j := 5) rfl; simp only [maxLen] at rl68_5
 have gl68_6 := zbn S68 (j := 6) rfl
 have hr_ := pre0.row t25 hI68.1
 have hl_ : (follow.length : Int) ≤ 250 := by rw [hI68.2.2, List.length_take]; omega
 refine zab <| zac (l := [0]) rfl <| p_v (v := .bool (decide (t25 < (m.follow.length : Int)))) rfl rfl rfl (x_lss r68_25 r68_24) <| zaa <| zab ?_
 refine zak (p := t25 < (m.follow.length : Int)) rfl (fun hc69 => ?_) (fun hc69 => ?_)
 ·skip
  refine zas <| zab <| zal <| zab <| zac (l := [0, 1, 2]) rfl ?_
  obtain ⟨ad70, seg70, a70, rp70, ce70⟩ := zaz (q := t25) (m := 1) l0_2 rfl (by first|omega|(simp;omega)|assumption) (by first|omega|(simp;omega)|assumption)
  refine p_v (v := .pointer (some ad70)) rfl rfl rfl (zay u24 ty23 r68_23 r68_25 a70 (by first|omega|(simp;omega)|assumption) (by first|omega|(simp;omega)|assumption)) ?_
  obtain ⟨A70, c70, rfl, lc70, cm70, ld70⟩ := rp70
  have cn70 := cm70; simp only [maxLen] at cn70
  refine p_v (v := .slice A70 (at_ m.follow t25).length c70) rfl rfl rfl (zag (seg := [.slice A70 (at_ m.follow t25).length c70]) ty23 rfl (by simp) rfl (CF.ghost ce70 (St.le0 S68))) <| p_v (v := .slice A70 (at_ m.follow t25).length c70) rfl rfl rfl (zad rfl) <| zaa <| zac (l := [0, 1, 2, 3, 4, 5]) rfl <| p_v (v := v_follow) rfl rfl rfl (zae r68_3) <| p_v (v := .slice A70 (at_ m.follow t25).length c70) rfl rfl rfl (zae rfl) <| p_c rfl rfl rfl (zbp (args := [.slice A70 (at_ m.follow t25).length c70]) ca16 rfl rfl) (cloneI_calls w68 (at_ m.follow t25) A70 c70 (And.intro lc70 cm70) (ld70.mono (St.le0 S68)) (by omega)) ?_
  rintro v71_0 w71 ⟨h71, _, T71, rfl⟩
  obtain ⟨k71, lk71, ll71, U71⟩ := zbg S68 T71
  have lc71_0 := (((lc38_0).trans le68)).trans lk71
  have lc71_1 := (((lc38_1).trans le68)).trans lk71
  have lc71_2 := (((lk38).trans le68)).trans lk71
  have lc71_3 := (le68).trans lk71
  have S72 := U71
  dsimp only [lAa, lAn, lA0, lAs] at S72
  obtain ⟨v73, w73, r73, g73, T73⟩ := zba (kd := kRaw) (xs := ([v71_0] : List Value)) (len := 1) [v71_0] S72 u24 ty23 rfl rfl rfl rfl rfl (zbz (za9 S72 (j := 7) rfl) zb8) [v71_0] (zbx.single (k := kRaw) (h := k71) (x := v71_0) (cs := [v71_0]) ⟨rfl, za5 S72 (j := 7) rfl⟩) rfl
  have S74 := T73
  dsimp only [lAa, lAn, lA0, lAs] at S74
  have T75 := grid_one S74 (i := 7) rfl
  have S76 := T75.fx 7 (grid 3 (Kd.int .i64) ([v71_0] : List Value) ([(at_ m.follow t25)] : List (List Int))) rfl
  dsimp only [lAa, lAn, lA0, lAs] at S76
  refine p_v (v := v73) rfl rfl rfl (zaw (pv := [(0, v71_0)]) rfl r73) ?_
  obtain ⟨A78, c78, ev78, lc78, cm78⟩ := S76.row_val (j := 8) rfl
  obtain ⟨v79, w79, r79, g79, T79⟩ := zcc (kd := kRaw) (A := A78) (c := c78) (ys := ([v71_0] : List Value)) (len := ([v71_0] : List Value).length) 24 S76 u24 ty23 rfl rfl (j := 5) rfl rfl (zcs S76 (j := 8) rfl ev78) (by first|omega|(simp;omega)|assumption) (by first|omega|(simp;omega)|assumption)
  have S80 := T79.fx 5 (row 23 kRaw v79 (us_follow ++ ([v71_0] : List Value))) rfl
  dsimp only [lAa, lAn, lA0, lAs] at S80
  have T81 := grid_cat S80 (j := 6) (i := 7) rfl rfl (by decide)
  have S82 : St w.heap.size w k71 w79 [box b1 27 [v18_0, v28_0, .slice A0_2 m.follow.length c0_2, v38_0, .bool m.empty], box b3 27 [.slice none 0 0, .slice none 0 0, .slice none 0 0, .slice none 0 0, .bool false], row 38 za8 v18_0 m.spots, row 3 (Kd.int .i64) v28_0 m.first, row 4 Kd.bool v38_0 m.last, row 23 kRaw v79 (us_follow ++ ([v71_0] : List Value)), grid 3 (Kd.int .i64) (us_follow ++ ([v71_0] : List Value)) (follow ++ ([(at_ m.follow t25)] : List (List Int))), emp, row 23 kRaw v73 ([v71_0] : List Value)] := T81
  have gl83 := zbn S82 (j := 6) rfl
  refine p_v (v := v79) rfl rfl rfl (zca rfl ev78 r79) <| p_v (v := v79) rfl rfl rfl (zad rfl) <| zaa <| zar <| zac (l := [0, 1]) rfl <| p_v (v := .int .i64 (t25 + 1)) rfl rfl rfl (zb9 r68_25 rfl (zah (by first|omega|(simp;omega)|assumption) (by first|omega|(simp;omega)|assumption))) <| p_v (v := .int .i64 (t25 + 1)) rfl rfl rfl (zae rfl) <| zaa ?_
  refine ih68 (follow ++ ([(at_ m.follow t25)] : List (List Int)), t25 + 1) _ _ (by dsimp only; omega) ⟨k71, (us_follow ++ ([v71_0] : List Value)), v79, lc71_3, S82.sub [0, 1, 2, 3, 4, 5, 6] (by decide) rfl _ rfl, r68_1, r68_2, rfl, r68_23, r68_24, rfl, (zah (by first|omega|(simp;omega)|assumption) (by first|omega|(simp;omega)|assumption)), (by exact ⟨by omega, by omega, by rw [hI68.2.2]; exact (take_next _ hI68.1 (by omega)).symm⟩)⟩
 refine zbd rfl <| zab <| zac (l := [0, 1, 2]) rfl <| p_v (v := v_follow) rfl rfl rfl (zae r68_3) <| p_v (v := .pointer (some ⟨b1, 2, none⟩)) rfl rfl rfl (zaf zcr ty24 rfl r68_1) ?_
 have oc85 := za5 S68 (j := 5) rfl
 obtain ⟨w84, r84, g84, T84⟩ := zbf (P := Try.prog) (off := 2) (v := v_follow) (vs := [v_follow]) S68 ty24 (za9 S68 (j := 5) rfl) rfl (j := 0) rfl (by first | decide | exact Nat.le_of_ble_eq_true rfl) (zai oc85 zbt)
 have S86 := T84.fx 0 (box b1 27 [v18_0, v28_0, v_follow, v38_0, .bool m.empty]) rfl
 dsimp only [lAa, lAn, lA0, lAs] at S86
 refine p_s rfl rfl (za7 rfl rfl r84) <| zaa <| zab <| zac (l := [0, 1]) rfl <| p_v (v := .agg #[v18_0, v28_0, v_follow, v38_0, .bool m.empty]) rfl rfl rfl (zag (seg := [v18_0, v28_0, v_follow, v38_0, .bool m.empty]) ty27 rfl (by simp) r68_1 (CF.box (m := 5) (S86.box_at (j := 0) rfl) rfl)) ?_
 have oc88 := za5 S86 (j := 2) rfl
 have oc89 := za5 S86 (j := 3) rfl
 have oc90 := za5 S86 (j := 5) rfl
 have oc91 := za5 S86 (j := 4) rfl
 obtain ⟨w87, r87, g87, T87⟩ := zbf (P := Try.prog) (off := 0) (v := .agg #[v18_0, v28_0, v_follow, v38_0, .bool m.empty]) (vs := [v18_0, v28_0, v_follow, v38_0, .bool m.empty]) S86 ty27 rfl rfl (j := 1) rfl (by first | decide | exact Nat.le_of_ble_eq_true rfl) (zai oc88 (zai oc89 (zai oc90 (zai oc91 (zai rfl zbt)))))
 have S92 := T87.fx 1 (box b3 27 [v18_0, v28_0, v_follow, v38_0, .bool m.empty]) rfl
 dsimp only [lAa, lAn, lA0, lAs] at S92
 refine p_s rfl rfl (za7 r68_2 rfl r87) <| zaa <| za0 Try.func7 (res1 rfl (res_cell S92 ty27 r68_2 (j := 1) rfl rfl (by simp) rfl)) ?_
 have q0 : (m.spots : List Spot) = m.spots := rfl
 have q1 : (m.first : List Int) = m.first := rfl
 have q2 : (m.follow : List (List Int)) = follow := by
  rw [hI68.2.2, List.take_of_length_le (by omega)]
 have q3 : (m.last : List Bool) = m.last := rfl
 have q4 : (m.empty : Bool) = m.empty := rfl
 refine ⟨_, rfl, h68, v18_0, v28_0, v_follow, us_follow, v38_0, ?_, ?_⟩
 · rw [q2]; exact S92.sub [2, 3, 5, 6, 4] (by decide) rfl _ rfl
 · first | rfl | (simp only [q2]; rfl) | (simp only [q2])
theorem trimG_calls (w : World) (m : Mach) (A0_0 : Option Addr) (c0_0 : Nat) (b0_0 : m.spots.length ≤ c0_0 ∧ c0_0 ≤ maxLen) (l0_0 : zbb za8 (hp w) A0_0 m.spots) (A0_1 : Option Addr) (c0_1 : Nat) (b0_1 : m.first.length ≤ c0_1 ∧ c0_1 ≤ maxLen) (l0_1 : zbb (Kd.int .i64) (hp w) A0_1 m.first) (A0_2 : Option Addr) (c0_2 : Nat) (b0_2 : m.follow.length ≤ c0_2 ∧ c0_2 ≤ maxLen) (l0_2 : zbb (Kd.int .i64).slice (hp w) A0_2 m.follow) (A0_3 : Option Addr) (c0_3 : Nat) (b0_3 : m.last.length ≤ c0_3 ∧ c0_3 ≤ maxLen) (l0_3 : zbb Kd.bool (hp w) A0_3 m.last) :
    Calls Try.prog 8 #[.agg #[.slice A0_0 m.spots.length c0_0, .slice A0_1 m.first.length c0_1, .slice A0_2 m.follow.length c0_2, .slice A0_3 m.last.length c0_3, .bool m.empty]] w fun e w' => ∃ v, e = .returned v ∧ ∃ (hn : Ghost) (r0 : Value) (r1 : Value) (r2 : Value) (us3 : List Value) (r4 : Value), St w.heap.size w hn w' [row 38 za8 r0 ((za2 m).spots), row 3 (Kd.int .i64) r1 ((za2 m).first), row 23 kRaw r2 us3, grid 3 (Kd.int .i64) us3 ((za2 m).follow), row 4 Kd.bool r4 ((za2 m).last)] ∧ v = .tuple #[.agg #[r0, r1, r2, r4, .bool ((za2 m).empty)], .int .i64 (errM m)] ∧ inK .i64 (errM m) := by
 refine zax Try.func8 rfl Try.ntmps8 rfl ?_
 have S0 := St.init w
 have bb0_0 := b0_0.1; have bc0_0 := b0_0.2; simp only [maxLen] at bc0_0
 have bb0_1 := b0_1.1; have bc0_1 := b0_1.2; simp only [maxLen] at bc0_1
 have bb0_2 := b0_2.1; have bc0_2 := b0_2.2; simp only [maxLen] at bc0_2
 have bb0_3 := b0_3.1; have bc0_3 := b0_3.2; simp only [maxLen] at bc0_3
 refine zab <| zac (l := [0, 1, 2]) rfl ?_
 obtain ⟨b1, w1, r1, g1, T1⟩ := zc1 (P := Try.prog) S0 27 (v := .agg #[.slice A0_0 m.spots.length c0_0, .slice A0_1 m.first.length c0_1, .slice A0_2 m.follow.length c0_2, .slice A0_3 m.last.length c0_3, .bool m.empty]) [.slice A0_0 m.spots.length c0_0, .slice A0_1 m.first.length c0_1, .slice A0_2 m.follow.length c0_2, .slice A0_3 m.last.length c0_3, .bool m.empty] rfl
 have S2 := T1
 dsimp only [lAa, lAn, lA0, lAs] at S2
 refine p_v (v := .pointer (some ⟨b1, 0, none⟩)) rfl rfl rfl (x_box rfl r1) ?_
 obtain ⟨b3, w3, r3, g3, T3⟩ := zc1 (P := Try.prog) S2 27 (v := (.agg #[.slice none 0 0, .slice none 0 0, .slice none 0 0, .slice none 0 0, .bool false])) [.slice none 0 0, .slice none 0 0, .slice none 0 0, .slice none 0 0, .bool false] rfl
 have S4 := T3
 dsimp only [lAa, lAn, lA0, lAs] at S4
 refine p_v (v := .pointer (some ⟨b3, 0, none⟩)) rfl rfl rfl (zck ty27 r3) <| p_v (v := .int .i64 0) rfl rfl rfl (zad rfl) <| zaa <| zab <| zab <| zac (l := [0, 1, 2]) rfl <| p_v (v := .agg #[.slice A0_0 m.spots.length c0_0, .slice A0_1 m.first.length c0_1, .slice A0_2 m.follow.length c0_2, .slice A0_3 m.last.length c0_3, .bool m.empty]) rfl rfl rfl (zag (seg := [.slice A0_0 m.spots.length c0_0, .slice A0_1 m.first.length c0_1, .slice A0_2 m.follow.length c0_2, .slice A0_3 m.last.length c0_3, .bool m.empty]) ty27 rfl (by simp) rfl (CF.box (m := 5) (S4.box_at (j := 0) rfl) rfl)) <| p_c rfl rfl rfl (zbp (args := [.agg #[.slice A0_0 m.spots.length c0_0, .slice A0_1 m.first.length c0_1, .slice A0_2 m.follow.length c0_2, .slice A0_3 m.last.length c0_3, .bool m.empty]]) ca12 rfl rfl) (rightN_calls w3 m A0_0 c0_0 b0_0 (l0_0.mono (St.le0 S4)) A0_1 c0_1 b0_1 (l0_1.mono (St.le0 S4)) A0_2 c0_2 b0_2 (l0_2.mono (St.le0 S4)) A0_3 c0_3 b0_3 (l0_3.mono (St.le0 S4))) ?_
 rintro _ w5 ⟨h5, T5, rfl⟩
 have S6 := S4.keep (Chg.of_below T5.below)
 refine p_v (v := .bool (!(zbq m))) rfl rfl rfl (x_not rfl) <| zaa ?_
 refine zb0 (b := zbq m) rfl (fun hc7 => ?_) (fun hc7 => ?_)
 ·skip
  refine zab <| zac (l := [0, 1, 2]) rfl <| p_v (v := .agg #[.slice none 0 0, .slice none 0 0, .slice none 0 0, .slice none 0 0, .bool false]) rfl rfl rfl (y_build (pv := []) rfl (zby pl27 ty27 rfl (cs := [.slice none 0 0, .slice none 0 0, .slice none 0 0, .slice none 0 0, .bool false]) rfl)) ?_
  obtain ⟨w8, r8, g8, T8⟩ := zbf (P := Try.prog) (off := 0) (v := .agg #[.slice none 0 0, .slice none 0 0, .slice none 0 0, .slice none 0 0, .bool false]) (vs := [.slice none 0 0, .slice none 0 0, .slice none 0 0, .slice none 0 0, .bool false]) S6 ty27 rfl rfl (j := 1) rfl (by first | decide | exact Nat.le_of_ble_eq_true rfl) (by simp [Value.oneCell'])
  have S9 : St w.heap.size w (fun _ => none) w8 [box b1 27 [.slice A0_0 m.spots.length c0_0, .slice A0_1 m.first.length c0_1, .slice A0_2 m.follow.length c0_2, .slice A0_3 m.last.length c0_3, .bool m.empty], box b3 27 [.slice none 0 0, .slice none 0 0, .slice none 0 0, .slice none 0 0, .bool false]] := T8
  refine p_s rfl rfl (za7 rfl rfl r8) <| p_v (v := .int .i64 1) rfl rfl rfl (zad rfl) <| zaa ?_
  have T10 := S9.row_nil 38 za8
  have S11 := T10
  dsimp only [lAa, lAn, lA0, lAs] at S11
  have T12 := S11.row_nil 3 (Kd.int .i64)
  have S13 := T12
  dsimp only [lAa, lAn, lA0, lAs] at S13
  have T14 := S13.row_nil 23 kRaw
  have S15 := T14
  dsimp only [lAa, lAn, lA0, lAs] at S15
  have T16 := grid_none S15 3 (Kd.int .i64) 0
  have S17 := T16
  dsimp only [lAa, lAn, lA0, lAs] at S17
  have gl18 := zbn S17 (j := 5) rfl
  have T19 := S17.row_nil 4 Kd.bool
  have S20 := T19
  dsimp only [lAa, lAn, lA0, lAs] at S20
  refine za0 Try.func8 (res2 rfl (res_cell S9 ty27 rfl (j := 1) rfl rfl (by simp) rfl) (za3 (v := .int .i64 1) rfl)) ?_
  have q0 : ((za2 m).spots : List Spot) = ([] : List Spot) := by
   first | (rw [zam (by assumption)]; done) | (rw [zam (by assumption)]) | exact zbr (by assumption) | exact zbs (by assumption) | (rw [zan (by assumption)]; done) | (rw [zan (by assumption)]; first | rfl | (rw [hI_.2.2.1, show t47 = (m.spots.length : Int) by omega]; done) | (rw [hI_.2.2.2.1, show t47 = (m.spots.length : Int) by omega]; done) | (rw [hI_.2.2.2.2, show t47 = (m.spots.length : Int) by omega]; done) | (rw [hnum_, zbv]))
  have q1 : ((za2 m).first : List Int) = ([] : List Int) := by
   first | (rw [zam (by assumption)]; done) | (rw [zam (by assumption)]) | exact zbr (by assumption) | exact zbs (by assumption) | (rw [zan (by assumption)]; done) | (rw [zan (by assumption)]; first | rfl | (rw [hI_.2.2.1, show t47 = (m.spots.length : Int) by omega]; done) | (rw [hI_.2.2.2.1, show t47 = (m.spots.length : Int) by omega]; done) | (rw [hI_.2.2.2.2, show t47 = (m.spots.length : Int) by omega]; done) | (rw [hnum_, zbv]))
  have q2 : ((za2 m).follow : List (List Int)) = ([] : List (List Int)) := by
   first | (rw [zam (by assumption)]; done) | (rw [zam (by assumption)]) | exact zbr (by assumption) | exact zbs (by assumption) | (rw [zan (by assumption)]; done) | (rw [zan (by assumption)]; first | rfl | (rw [hI_.2.2.1, show t47 = (m.spots.length : Int) by omega]; done) | (rw [hI_.2.2.2.1, show t47 = (m.spots.length : Int) by omega]; done) | (rw [hI_.2.2.2.2, show t47 = (m.spots.length : Int) by omega]; done) | (rw [hnum_, zbv]))
  have q3 : ((za2 m).last : List Bool) = ([] : List Bool) := by
   first | (rw [zam (by assumption)]; done) | (rw [zam (by assumption)]) | exact zbr (by assumption) | exact zbs (by assumption) | (rw [zan (by assumption)]; done) | (rw [zan (by assumption)]; first | rfl | (rw [hI_.2.2.1, show t47 = (m.spots.length : Int) by omega]; done) | (rw [hI_.2.2.2.1, show t47 = (m.spots.length : Int) by omega]; done) | (rw [hI_.2.2.2.2, show t47 = (m.spots.length : Int) by omega]; done) | (rw [hnum_, zbv]))
  have q4 : ((za2 m).empty : Bool) = false := by
   first | (rw [zam (by assumption)]; done) | (rw [zam (by assumption)]) | exact zbr (by assumption) | exact zbs (by assumption) | (rw [zan (by assumption)]; done) | (rw [zan (by assumption)]; first | rfl | (rw [hI_.2.2.1, show t47 = (m.spots.length : Int) by omega]; done) | (rw [hI_.2.2.2.1, show t47 = (m.spots.length : Int) by omega]; done) | (rw [hI_.2.2.2.2, show t47 = (m.spots.length : Int) by omega]; done) | (rw [hnum_, zbv]))
  have q5 : (errM m : Int) = 1 := by
   first | (rw [zam (by assumption)]; done) | (rw [zam (by assumption)]) | exact zbr (by assumption) | exact zbs (by assumption) | (rw [zan (by assumption)]; done) | (rw [zan (by assumption)]; first | rfl | (rw [hI_.2.2.1, show t47 = (m.spots.length : Int) by omega]; done) | (rw [hI_.2.2.2.1, show t47 = (m.spots.length : Int) by omega]; done) | (rw [hI_.2.2.2.2, show t47 = (m.spots.length : Int) by omega]; done) | (rw [hnum_, zbv]))
  refine ⟨_, rfl, (fun _ => none), (.slice none 0 0), (.slice none 0 0), (.slice none 0 0), ([] : List Value), (.slice none 0 0), ?_, ?_, ?_⟩
  · rw [q0]; rw [q1]; rw [q2]; rw [q3]; exact S20.sub [2, 3, 4, 5, 6] (by decide) rfl _ rfl
  · first | rfl | (simp only [q0, q1, q2, q3, q4, q5]; rfl) | (simp only [q0, q1, q2, q3, q4, q5])
  · rw [q5]; exact (zah (by first|omega|(simp;omega)|assumption) (by first|omega|(simp;omega)|assumption))
 have hR_ := right_iff.1 hc7
 have hsm_ := hR_.small; have hfo_ := hR_.follow; have hla_ := hR_.last; have hkl_ := keepM_len m; have hss_ := hR_.small'; have hfi_ := hss_.first
 refine zas <| zab <| zac (l := [0, 1, 2, 3]) rfl <| p_v (v := .agg #[.slice A0_0 m.spots.length c0_0, .slice A0_1 m.first.length c0_1, .slice A0_2 m.follow.length c0_2, .slice A0_3 m.last.length c0_3, .bool m.empty]) rfl rfl rfl (zag (seg := [.slice A0_0 m.spots.length c0_0, .slice A0_1 m.first.length c0_1, .slice A0_2 m.follow.length c0_2, .slice A0_3 m.last.length c0_3, .bool m.empty]) ty27 rfl (by simp) rfl (CF.box (m := 5) (S6.box_at (j := 0) rfl) rfl)) <| p_c rfl rfl rfl (zbp (args := [.agg #[.slice A0_0 m.spots.length c0_0, .slice A0_1 m.first.length c0_1, .slice A0_2 m.follow.length c0_2, .slice A0_3 m.last.length c0_3, .bool m.empty]]) ca18 rfl rfl) (useful_calls w5 m A0_0 c0_0 b0_0 (l0_0.mono (St.le0 S6)) A0_1 c0_1 b0_1 (l0_1.mono (St.le0 S6)) A0_2 c0_2 b0_2 (l0_2.mono (St.le0 S6)) A0_3 c0_3 b0_3 (l0_3.mono (St.le0 S6)) (by assumption)) ?_
 rintro v21_0 w21 ⟨h21, _, T21, rfl⟩
 obtain ⟨k21, lk21, ll21, U21⟩ := zbg S6 T21
 have S22 := U21
 dsimp only [lAa, lAn, lA0, lAs] at S22
 obtain ⟨b23, w23, r23, g23, T23⟩ := zc1 (P := Try.prog) S22 25 (v := (.slice none 0 0)) [.slice none 0 0] rfl
 have S24 := T23
 dsimp only [lAa, lAn, lA0, lAs] at S24
 refine p_v (v := .pointer (some ⟨b23, 0, none⟩)) rfl rfl rfl (zck ty25 r23) ?_
 have oc26 := za5 S24 (j := 2) rfl
 obtain ⟨w25, r25, g25, T25⟩ := zbf (P := Try.prog) (off := 0) (v := v21_0) (vs := [v21_0]) S24 ty25 (za9 S24 (j := 2) rfl) rfl (j := 3) rfl (by first | decide | exact Nat.le_of_ble_eq_true rfl) (zai oc26 zbt)
 have S27 := T25.fx 3 (box b23 25 [v21_0]) rfl
 dsimp only [lAa, lAn, lA0, lAs] at S27
 refine p_s rfl rfl (za7 rfl rfl r25) <| zaa <| zab <| zac (l := [0, 1, 2, 3, 4]) rfl <| p_v (v := v21_0) rfl rfl rfl (zag (seg := [v21_0]) ty25 rfl (by simp) rfl (CF.box (m := 1) (S27.box_at (j := 3) rfl) rfl)) ?_
 have lb28 := S27.row_le (j := 2) rfl; simp only [maxLen] at lb28
 refine p_v (v := .int .i64 ((zao m).length : Int)) rfl rfl rfl (zcm u25 rfl (zcq S27 (j := 2) rfl)) ?_
 obtain ⟨v29, w29, r29, g29, T29⟩ := e_make (kk := .i64) (kk' := .i64) (kd := (Kd.int .i64)) (q := ((zao m).length : Int)) (z := (0 : Int)) (zc := [.int .i64 0]) S27 u23 ty3 rfl rfl ⟨rfl, by constructor <;> decide⟩ (by first|omega|(simp;omega)|assumption) (by first|omega|(simp;omega)|assumption) (by first|omega|(simp;omega)|assumption)
 have S30 := T29
 dsimp only [lAa, lAn, lA0, lAs] at S30
 refine p_v (v := v29) rfl rfl rfl (x_make rfl rfl r29) ?_
 obtain ⟨b31, w31, r31, g31, T31⟩ := zc1 (P := Try.prog) S30 23 (v := (.slice none 0 0)) [.slice none 0 0] rfl
 have S32 := T31
 dsimp only [lAa, lAn, lA0, lAs] at S32
 refine p_v (v := .pointer (some ⟨b31, 0, none⟩)) rfl rfl rfl (zck ty23 r31) ?_
 have oc34 := za5 S32 (j := 4) rfl
 obtain ⟨w33, r33, g33, T33⟩ := zbf (P := Try.prog) (off := 0) (v := v29) (vs := [v29]) S32 ty23 (za9 S32 (j := 4) rfl) rfl (j := 5) rfl (by first | decide | exact Nat.le_of_ble_eq_true rfl) (zai oc34 zbt)
 have S35 := T33.fx 5 (box b31 23 [v29]) rfl
 dsimp only [lAa, lAn, lA0, lAs] at S35
 refine p_s rfl rfl (za7 rfl rfl r33) <| zaa <| zab <| zac (l := [0]) rfl <| p_v (v := .int .i64 0) rfl rfl rfl (zad rfl) <| zaa <| zab <| zab <| zac (l := [0, 1, 2]) rfl <| p_v (v := v21_0) rfl rfl rfl (zag (seg := [v21_0]) ty25 rfl (by simp) rfl (CF.box (m := 1) (S35.box_at (j := 3) rfl) rfl)) ?_
 have lb36 := S35.row_le (j := 2) rfl; simp only [maxLen] at lb36
 refine p_v (v := .int .i64 ((zao m).length : Int)) rfl rfl rfl (zcm u25 rfl (zcq S35 (j := 2) rfl)) <| p_v (v := .int .i64 0) rfl rfl rfl (zae rfl) <| zaa <| zal <| zbm (S := (List Int) × Int × Int) (fun (q_ : (List Int) × Int × Int) ρ w' => match q_ with | (number, n, t24) => ∃ (h : Ghost) (v_number : Value), Le k21 h ∧ St w.heap.size w h w' [box b1 27 [.slice A0_0 m.spots.length c0_0, .slice A0_1 m.first.length c0_1, .slice A0_2 m.follow.length c0_2, .slice A0_3 m.last.length c0_3, .bool m.empty], box b3 27 [.slice none 0 0, .slice none 0 0, .slice none 0 0, .slice none 0 0, .bool false], row 4 Kd.bool v21_0 (zao m), box b23 25 [v21_0], row 3 (Kd.int .i64) v_number number, box b31 23 [v_number]] ∧ ρ 1 = .pointer (some ⟨b1, 0, none⟩) ∧ ρ 2 = .pointer (some ⟨b3, 0, none⟩) ∧ ρ 4 = .pointer (some ⟨b23, 0, none⟩) ∧ ρ 5 = .pointer (some ⟨b31, 0, none⟩) ∧ ρ 6 = .int .i64 n ∧ ρ 22 = v21_0 ∧ ρ 23 = .int .i64 ((zao m).length : Int) ∧ ρ 24 = .int .i64 t24 ∧ inK .i64 n ∧ inK .i64 t24 ∧ (0 ≤ t24 ∧ t24 ≤ (m.spots.length : Int) ∧ n = zc6 (zao m) t24 ∧ number = numsIn (zao m) m.spots.length t24)) (fun q_ => match q_ with | (number, n, t24) => (m.spots.length - t24).toNat) (List.replicate (((zao m).length : Int)).toNat (0 : Int), 0, 0) ⟨k21, v29, Le.refl _, S35.sub [0, 1, 2, 3, 4, 5] (by decide) rfl _ rfl, rfl, rfl, rfl, rfl, rfl, rfl, rfl, rfl, (zah (by first|omega|(simp;omega)|assumption) (by first|omega|(simp;omega)|assumption)), (zah (by first|omega|(simp;omega)|assumption) (by first|omega|(simp;omega)|assumption)), (by exact ⟨by omega, by omega, (num_at0 _).symm, by rw [hkl_]; exact numsIn_0 _ _⟩)⟩ ?_
 rintro ⟨number, n, t24⟩ ih37 ρ37 w37 ⟨h37, v_number, le37, S37, r37_1, r37_2, r37_4, r37_5, r37_6, r37_22, r37_23, r37_24, f37_0, f37_1, hI37⟩
 have lf37_0 := zbk f37_0; have hf37_0 := zbl f37_0
 have lf37_1 := zbk f37_1; have hf37_1 := zbl f37_1
 have rl37_2 := S37.row_le (j := 2) rfl; simp only [maxLen] at rl37_2
 have rl37_4 := S37.row_le (j := 4) rfl; simp only [maxLen] at rl37_4
 have hn_ := num_at_le (zao m) hI37.1; rw [← hI37.2.2.1] at hn_
 have hnl_ : (number.length : Int) = m.spots.length := by rw [hI37.2.2.2, numsIn_len]
 refine zab <| zac (l := [0]) rfl <| p_v (v := .bool (decide (t24 < ((zao m).length : Int)))) rfl rfl rfl (x_lss r37_24 r37_23) <| zaa <| zab ?_
 refine zak (p := t24 < ((zao m).length : Int)) rfl (fun hc38 => ?_) (fun hc38 => ?_)
 ·skip
  refine zas <| zab <| zal <| zab <| zac (l := [0, 1, 2, 3, 4]) rfl <| p_v (v := .int .i64 t24) rfl rfl rfl (zae r37_24) ?_
  obtain ⟨ad39, a39, at39⟩ := za4 (q := t24) (m := 1) S37 (j := 2) rfl rfl (by first|omega|(simp;omega)|assumption) (by first|omega|(simp;omega)|assumption)
  refine p_v (v := .pointer (some ad39)) rfl rfl rfl (za1 u25 ty4 r37_22 r37_24 a39 (by first|omega|(simp;omega)|assumption) (by first|omega|(simp;omega)|assumption)) ?_
  obtain ⟨seg40, rp40, cf40⟩ := zb4 (q := t24) S37 (j := 2) rfl rfl at39 (by first|omega|(simp;omega)|assumption) (by first|omega|(simp;omega)|assumption)
  obtain ⟨rfl, _⟩ := rp40
  refine p_v (v := .bool (at_ (zao m) t24)) rfl rfl rfl (zag (seg := [.bool (at_ (zao m) t24)]) ty4 rfl (by simp) rfl cf40) <| p_v (v := .int .i64 t24) rfl rfl rfl (zad rfl) <| p_v (v := .bool (at_ (zao m) t24)) rfl rfl rfl (zad rfl) <| zaa <| zab <| zac (l := [0, 1, 2, 3, 4]) rfl <| p_v (v := v_number) rfl rfl rfl (zag (seg := [v_number]) ty23 rfl (by simp) r37_5 (CF.box (m := 1) (S37.box_at (j := 5) rfl) rfl)) <| p_v (v := .int .i64 t24) rfl rfl rfl (zae rfl) <| p_v (v := .int .i64 n) rfl rfl rfl (zae r37_6) ?_
  obtain ⟨ad41, a41, at41⟩ := za4 (q := t24) (m := 1) S37 (j := 4) rfl rfl (by first|omega|(simp;omega)|assumption) (by first|omega|(simp;omega)|assumption)
  refine p_v (v := .pointer (some ad41)) rfl rfl rfl (za1 u23 ty3 rfl rfl a41 (by first|omega|(simp;omega)|assumption) (by first|omega|(simp;omega)|assumption)) ?_
  obtain ⟨w42, r42, g42, T42⟩ := zb7 (u := .int .i64 n) (q := t24) n (vs := [.int .i64 n]) S37 ty3 rfl (j := 4) rfl rfl ⟨rfl, f37_0⟩ at41 (by first|omega|(simp;omega)|assumption) (by first|omega|(simp;omega)|assumption)
  have S43 := T42.fx 4 (row 3 (Kd.int .i64) v_number (number.set (t24).toNat n)) rfl
  dsimp only [lAa, lAn, lA0, lAs] at S43
  refine p_s rfl rfl (za7 rfl rfl r42) <| zaa <| zab <| zac (l := [0]) rfl <| p_v (v := .bool (at_ (zao m) t24)) rfl rfl rfl (zae rfl) <| zaa ?_
  refine zbe (b := at_ (zao m) t24) rfl (fun hc44 => ?_) (fun hc44 => ?_)
  ·skip
   refine zac (l := [0, 1, 2]) rfl <| p_v (v := .int .i64 n) rfl rfl rfl (zae r37_6) <| p_v (v := .int .i64 (n + 1)) rfl rfl rfl (zb9 rfl rfl (zah (by first|omega|(simp;omega)|assumption) (by first|omega|(simp;omega)|assumption))) <| p_v (v := .int .i64 (n + 1)) rfl rfl rfl (zad rfl) <| zaa <| zar <| zac (l := [0, 1]) rfl <| p_v (v := .int .i64 (t24 + 1)) rfl rfl rfl (zb9 r37_24 rfl (zah (by first|omega|(simp;omega)|assumption) (by first|omega|(simp;omega)|assumption))) <| p_v (v := .int .i64 (t24 + 1)) rfl rfl rfl (zae rfl) <| zaa ?_
   refine ih37 (number.set (t24).toNat n, n + 1, t24 + 1) _ _ (by dsimp only; omega) ⟨h37, v_number, le37, S43.sub [0, 1, 2, 3, 4, 5] (by decide) rfl _ rfl, r37_1, r37_2, r37_4, r37_5, rfl, r37_22, r37_23, rfl, (zah (by first|omega|(simp;omega)|assumption) (by first|omega|(simp;omega)|assumption)), (zah (by first|omega|(simp;omega)|assumption) (by first|omega|(simp;omega)|assumption)), (by first | exact ⟨by omega, by omega, by rw [hI37.2.2.1, num_at1 _ hI37.1 (by assumption)], by rw [hI37.2.2.1, hI37.2.2.2]; exact zc5 _ _ hI37.1 (by omega)⟩ | exact ⟨by omega, by omega, by rw [hI37.2.2.1, num_at2 _ hI37.1 (by assumption)], by rw [hI37.2.2.1, hI37.2.2.2]; exact zc5 _ _ hI37.1 (by omega)⟩)⟩
  refine zas <| zar <| zac (l := [0, 1]) rfl <| p_v (v := .int .i64 (t24 + 1)) rfl rfl rfl (zb9 r37_24 rfl (zah (by first|omega|(simp;omega)|assumption) (by first|omega|(simp;omega)|assumption))) <| p_v (v := .int .i64 (t24 + 1)) rfl rfl rfl (zae rfl) <| zaa ?_
  refine ih37 (number.set (t24).toNat n, n, t24 + 1) _ _ (by dsimp only; omega) ⟨h37, v_number, le37, S43.sub [0, 1, 2, 3, 4, 5] (by decide) rfl _ rfl, r37_1, r37_2, r37_4, r37_5, r37_6, r37_22, r37_23, rfl, f37_0, (zah (by first|omega|(simp;omega)|assumption) (by first|omega|(simp;omega)|assumption)), (by first | exact ⟨by omega, by omega, by rw [hI37.2.2.1, num_at1 _ hI37.1 (by assumption)], by rw [hI37.2.2.1, hI37.2.2.2]; exact zc5 _ _ hI37.1 (by omega)⟩ | exact ⟨by omega, by omega, by rw [hI37.2.2.1, num_at2 _ hI37.1 (by assumption)], by rw [hI37.2.2.1, hI37.2.2.2]; exact zc5 _ _ hI37.1 (by omega)⟩)⟩
 have hnl2_ : (number.length : Int) = m.spots.length := hnl_
 have leftPre_ : ∀ l : List Int, ((l.length : Int) ≤ 250 ∧ ∀ x ∈ l, 0 ≤ x ∧ x < (m.spots.length : Int)) → ((l.length : Int) ≤ 250 ∧ ∀ x ∈ l, 0 ≤ x ∧ x < ((zao m).length : Int) ∧ x < (number.length : Int)) := fun l h => ⟨h.1, fun x hx => by have := h.2 x hx; omega⟩
 have hnum_ : number = numsL (zao m) m.spots.length := by rw [hI37.2.2.2]; exact numsIn_end _ (by omega)
 refine zbd rfl <| zab <| zac (l := [0, 1]) rfl ?_
 obtain ⟨h45, le45, T45, rp45⟩ := S37.freeze (i := 2) rfl
 have lf45_0 := (((lk21).trans le37)).trans le45
 have lf45_1 := (le37).trans le45
 have S46 := T45.fx 2 (emp) rfl
 dsimp only [lAa, lAn, lA0, lAs] at S46
 obtain ⟨A45, c45, e45, lc45, cm45, ld45⟩ := rp45
 injection e45 with e45 _; subst e45
 have cn45 := cm45; simp only [maxLen] at cn45
 obtain ⟨h47, le47, T47, rp47⟩ := S46.freeze (i := 4) rfl
 have lf47_0 := (lf45_0).trans le47
 have lf47_1 := (lf45_1).trans le47
 have lf47_2 := (le45).trans le47
 have S48 : St w.heap.size w h47 w37 [box b1 27 [.slice A0_0 m.spots.length c0_0, .slice A0_1 m.first.length c0_1, .slice A0_2 m.follow.length c0_2, .slice A0_3 m.last.length c0_3, .bool m.empty], box b3 27 [.slice none 0 0, .slice none 0 0, .slice none 0 0, .slice none 0 0, .bool false], emp, box b23 25 [.slice A45 (zao m).length c45], emp, box b31 23 [v_number]] := T47
 obtain ⟨A47, c47, e47, lc47, cm47, ld47⟩ := rp47
 injection e47 with e47 _; subst e47
 have cn47 := cm47; simp only [maxLen] at cn47
 refine p_v (v := .func (.func 19) #[] #[.pointer (some ⟨b23, 0, none⟩), .pointer (some ⟨b31, 0, none⟩)]) rfl rfl rfl (y_makeFunc (fv := []) (cv := [.pointer (some ⟨b23, 0, none⟩), .pointer (some ⟨b31, 0, none⟩)]) rfl (zcw r37_4 (zcw r37_5 rfl))) <| p_v (v := .func (.func 19) #[] #[.pointer (some ⟨b23, 0, none⟩), .pointer (some ⟨b31, 0, none⟩)]) rfl rfl rfl (zad rfl) <| zaa <| zab ?_
 have hf49 : (CFs ⟨b1, 1, none⟩ [.slice A0_1 m.first.length c0_1]).1 w37 := (CF.box (m := 1) (S48.box_at (j := 0) rfl) rfl)
 have hf50 : (CFs ⟨b1, 4, none⟩ [.bool m.empty]).1 w37 := (CF.box (m := 1) (S48.box_at (j := 0) rfl) rfl)
 refine daS (hkC 2 hf49 (hkC 5 hf50 (hkN (w := w37)))) 9 rfl mixed ?_
 intro wd51 gd51 hd51
 have S52 := S48.keep gd51
 have hf53 := spUp gd51 hf49
 have hf54 := spUp gd51 hf50
 refine qd0 (i := 0) (v := .func (.func 19) #[] #[.pointer (some ⟨b23, 0, none⟩), .pointer (some ⟨b31, 0, none⟩)]) rfl (by decide +kernel) rfl rfl (zae rfl) (zav rfl) <| qd0 (i := 1) (v := .pointer (some ⟨b1, 1, none⟩)) rfl (by decide +kernel) rfl rfl (zaf fd27_1 ty23 rfl r37_1) (zav rfl) <| qd1 0 (i := 2) (v := .slice A0_1 m.first.length c0_1) rfl rfl (by decide +kernel) rfl rfl (fun wq hq => (zag (seg := [.slice A0_1 m.first.length c0_1]) ty23 rfl (by simp) rfl hq)) (zcf hf53 (zav rfl)) <| qd0 (i := 4) (v := .pointer (some ⟨b1, 4, none⟩)) rfl (by decide +kernel) rfl rfl (zaf fd27_4 ty4 rfl r37_1) (zav rfl) <| qd1 1 (i := 5) (v := .bool m.empty) rfl rfl (by decide +kernel) rfl rfl (fun wq hq => (zag (seg := [.bool m.empty]) ty4 rfl (by simp) rfl hq)) (zbw rfl (zcf hf54 (zav rfl))) ?_
 refine ra_join (fun ρ w' => ∃ (h : Ghost) (j82_b67 : Nat) (j82_v59_0 : Value), Le h47 h ∧ St w.heap.size w h w' [box b1 27 [.slice A0_0 m.spots.length c0_0, .slice A0_1 m.first.length c0_1, .slice A0_2 m.follow.length c0_2, .slice A0_3 m.last.length c0_3, .bool m.empty], box b3 27 [.slice none 0 0, .slice none 0 0, .slice none 0 0, .slice none 0 0, .bool false], box b23 25 [.slice A45 (zao m).length c45], box b31 23 [.slice A47 number.length c47], row 3 (Kd.int .i64) j82_v59_0 (zb3 (zao m) number m.first), box j82_b67 27 [.slice none 0 0, j82_v59_0, .slice none 0 0, .slice none 0 0, .bool m.empty]] ∧ ρ 1 = .pointer (some ⟨b1, 0, none⟩) ∧ ρ 2 = .pointer (some ⟨b3, 0, none⟩) ∧ ρ 4 = .pointer (some ⟨b23, 0, none⟩) ∧ ρ 9 = .func (.func 19) #[] #[.pointer (some ⟨b23, 0, none⟩), .pointer (some ⟨b31, 0, none⟩)] ∧ ρ 10 = .pointer (some ⟨j82_b67, 0, none⟩)) ?_ (fun jn82 => ?_)
 ·skip
  rintro ρj82 wj82 ⟨hj82, j82_b67, j82_v59_0, lej82, Sj82, rj82_1, rj82_2, rj82_4, rj82_9, rj82_10⟩
  have jr82_4 := Sj82.row_le (j := 4) rfl; simp only [maxLen] at jr82_4
  refine zab <| zab <| zac (l := [0, 1, 2]) rfl <| p_v (v := .slice A45 (zao m).length c45) rfl rfl rfl (zag (seg := [.slice A45 (zao m).length c45]) ty25 rfl (by simp) rj82_4 (CF.box (m := 1) (Sj82.box_at (j := 2) rfl) rfl)) <| p_v (v := .int .i64 ((zao m).length : Int)) rfl rfl rfl (zaq u25 rfl) <| p_v (v := .int .i64 0) rfl rfl rfl (zae rfl) <| zaa <| zal ?_
  have T83 := Sj82.row_nil 38 za8
  obtain ⟨vn83, ev83, T83⟩ : ∃ v, v = (.slice none 0 0 : Value) ∧ St w.heap.size w hj82 wj82 [box b1 27 [.slice A0_0 m.spots.length c0_0, .slice A0_1 m.first.length c0_1, .slice A0_2 m.follow.length c0_2, .slice A0_3 m.last.length c0_3, .bool m.empty], box b3 27 [.slice none 0 0, .slice none 0 0, .slice none 0 0, .slice none 0 0, .bool false], box b23 25 [.slice A45 (zao m).length c45], box b31 23 [.slice A47 number.length c47], row 3 (Kd.int .i64) j82_v59_0 (zb3 (zao m) number m.first), box j82_b67 27 [v, j82_v59_0, .slice none 0 0, .slice none 0 0, .bool m.empty], row 38 za8 v ([] : List Spot)] := ⟨_, rfl, T83⟩
  have S84 : St w.heap.size w hj82 wj82 [box b1 27 [.slice A0_0 m.spots.length c0_0, .slice A0_1 m.first.length c0_1, .slice A0_2 m.follow.length c0_2, .slice A0_3 m.last.length c0_3, .bool m.empty], box b3 27 [.slice none 0 0, .slice none 0 0, .slice none 0 0, .slice none 0 0, .bool false], box b23 25 [.slice A45 (zao m).length c45], box b31 23 [.slice A47 number.length c47], row 3 (Kd.int .i64) j82_v59_0 (zb3 (zao m) number m.first), box j82_b67 27 [vn83, j82_v59_0, .slice none 0 0, .slice none 0 0, .bool m.empty], row 38 za8 vn83 ([] : List Spot)] := T83
  have T85 := S84.row_nil 23 kRaw
  obtain ⟨vn85, ev85, T85⟩ : ∃ v, v = (.slice none 0 0 : Value) ∧ St w.heap.size w hj82 wj82 [box b1 27 [.slice A0_0 m.spots.length c0_0, .slice A0_1 m.first.length c0_1, .slice A0_2 m.follow.length c0_2, .slice A0_3 m.last.length c0_3, .bool m.empty], box b3 27 [.slice none 0 0, .slice none 0 0, .slice none 0 0, .slice none 0 0, .bool false], box b23 25 [.slice A45 (zao m).length c45], box b31 23 [.slice A47 number.length c47], row 3 (Kd.int .i64) j82_v59_0 (zb3 (zao m) number m.first), box j82_b67 27 [vn83, j82_v59_0, v, .slice none 0 0, .bool m.empty], row 38 za8 vn83 ([] : List Spot), row 23 kRaw v ([] : List Value)] := ⟨_, rfl, T85⟩
  have S86 : St w.heap.size w hj82 wj82 [box b1 27 [.slice A0_0 m.spots.length c0_0, .slice A0_1 m.first.length c0_1, .slice A0_2 m.follow.length c0_2, .slice A0_3 m.last.length c0_3, .bool m.empty], box b3 27 [.slice none 0 0, .slice none 0 0, .slice none 0 0, .slice none 0 0, .bool false], box b23 25 [.slice A45 (zao m).length c45], box b31 23 [.slice A47 number.length c47], row 3 (Kd.int .i64) j82_v59_0 (zb3 (zao m) number m.first), box j82_b67 27 [vn83, j82_v59_0, vn85, .slice none 0 0, .bool m.empty], row 38 za8 vn83 ([] : List Spot), row 23 kRaw vn85 ([] : List Value)] := T85
  have T87 := grid_none S86 3 (Kd.int .i64) 0
  have S88 := T87
  dsimp only [lAa, lAn, lA0, lAs] at S88
  have gl89 := zbn S88 (j := 8) rfl
  have T90 := S88.row_nil 4 Kd.bool
  obtain ⟨vn90, ev90, T90⟩ : ∃ v, v = (.slice none 0 0 : Value) ∧ St w.heap.size w hj82 wj82 [box b1 27 [.slice A0_0 m.spots.length c0_0, .slice A0_1 m.first.length c0_1, .slice A0_2 m.follow.length c0_2, .slice A0_3 m.last.length c0_3, .bool m.empty], box b3 27 [.slice none 0 0, .slice none 0 0, .slice none 0 0, .slice none 0 0, .bool false], box b23 25 [.slice A45 (zao m).length c45], box b31 23 [.slice A47 number.length c47], row 3 (Kd.int .i64) j82_v59_0 (zb3 (zao m) number m.first), box j82_b67 27 [vn83, j82_v59_0, vn85, v, .bool m.empty], row 38 za8 vn83 ([] : List Spot), row 23 kRaw vn85 ([] : List Value), grid 3 (Kd.int .i64) ([] : List Value) ([] : List (List Int)), row 4 Kd.bool v ([] : List Bool)] := ⟨_, rfl, T90⟩
  have S91 : St w.heap.size w hj82 wj82 [box b1 27 [.slice A0_0 m.spots.length c0_0, .slice A0_1 m.first.length c0_1, .slice A0_2 m.follow.length c0_2, .slice A0_3 m.last.length c0_3, .bool m.empty], box b3 27 [.slice none 0 0, .slice none 0 0, .slice none 0 0, .slice none 0 0, .bool false], box b23 25 [.slice A45 (zao m).length c45], box b31 23 [.slice A47 number.length c47], row 3 (Kd.int .i64) j82_v59_0 (zb3 (zao m) number m.first), box j82_b67 27 [vn83, j82_v59_0, vn85, vn90, .bool m.empty], row 38 za8 vn83 ([] : List Spot), row 23 kRaw vn85 ([] : List Value), grid 3 (Kd.int .i64) ([] : List Value) ([] : List (List Int)), row 4 Kd.bool vn90 ([] : List Bool)] := T90
  refine zbm (S := (List Spot) × (List Bool) × (List (List Int)) × Int) (fun (q_ : (List Spot) × (List Bool) × (List (List Int)) × Int) ρ w' => match q_ with | (t_0, t_3, t_2, t47) => ∃ (h : Ghost) (v_t_0 : Value) (us_t_2 : List Value) (v_t_2 : Value) (v_t_3 : Value), Le hj82 h ∧ St w.heap.size w h w' [box b1 27 [.slice A0_0 m.spots.length c0_0, .slice A0_1 m.first.length c0_1, .slice A0_2 m.follow.length c0_2, .slice A0_3 m.last.length c0_3, .bool m.empty], box b3 27 [.slice none 0 0, .slice none 0 0, .slice none 0 0, .slice none 0 0, .bool false], box b23 25 [.slice A45 (zao m).length c45], box b31 23 [.slice A47 number.length c47], row 3 (Kd.int .i64) j82_v59_0 (zb3 (zao m) number m.first), box j82_b67 27 [v_t_0, j82_v59_0, v_t_2, v_t_3, .bool m.empty], row 38 za8 v_t_0 t_0, row 23 kRaw v_t_2 us_t_2, grid 3 (Kd.int .i64) us_t_2 t_2, row 4 Kd.bool v_t_3 t_3] ∧ ρ 1 = .pointer (some ⟨b1, 0, none⟩) ∧ ρ 2 = .pointer (some ⟨b3, 0, none⟩) ∧ ρ 9 = .func (.func 19) #[] #[.pointer (some ⟨b23, 0, none⟩), .pointer (some ⟨b31, 0, none⟩)] ∧ ρ 10 = .pointer (some ⟨j82_b67, 0, none⟩) ∧ ρ 45 = .slice A45 (zao m).length c45 ∧ ρ 46 = .int .i64 ((zao m).length : Int) ∧ ρ 47 = .int .i64 t47 ∧ inK .i64 t47 ∧ (0 ≤ t47 ∧ t47 ≤ (m.spots.length : Int) ∧ t_0 = zc0 m t47 ∧ t_2 = zcg m t47 ∧ t_3 = lastTp m t47)) (fun q_ => match q_ with | (t_0, t_3, t_2, t47) => (m.spots.length - t47).toNat) (([] : List Spot), ([] : List Bool), ([] : List (List Int)), 0) ⟨hj82, vn83, ([] : List Value), vn85, vn90, Le.refl _, S91.sub [0, 1, 2, 3, 4, 5, 6, 7, 8, 9] (by decide) rfl _ rfl, rj82_1, rj82_2, rj82_9, rj82_10, rfl, rfl, rfl, (zah (by first|omega|(simp;omega)|assumption) (by first|omega|(simp;omega)|assumption)), (by exact ⟨by omega, by omega, spotsTo_0 m, followTo_0 m, lastTo_0 m⟩)⟩ ?_
  rintro ⟨t_0, t_3, t_2, t47⟩ ih92 ρ92 w92 ⟨h92, v_t_0, us_t_2, v_t_2, v_t_3, le92, S92, r92_1, r92_2, r92_9, r92_10, r92_45, r92_46, r92_47, f92_0, hI92⟩
  have lf92_0 := zbk f92_0; have hf92_0 := zbl f92_0
  have rl92_4 := S92.row_le (j := 4) rfl; simp only [maxLen] at rl92_4
  have rl92_6 := S92.row_le (j := 6) rfl; simp only [maxLen] at rl92_6
  have rl92_7 := S92.row_le (j := 7) rfl; simp only [maxLen] at rl92_7
  have gl92_8 := zbn S92 (j := 8) rfl
  have rl92_9 := S92.row_le (j := 9) rfl; simp only [maxLen] at rl92_9
  have hq0_ : (t_0.length : Int) ≤ t47 := by rw [hI92.2.2.1]; exact spotsTo_len m hI92.1
  have hq2_ : (t_2.length : Int) ≤ t47 := by rw [hI92.2.2.2.1]; exact followTo_len m hI92.1
  have hq3_ : (t_3.length : Int) ≤ t47 := by rw [hI92.2.2.2.2]; exact lastTo_len m hI92.1
  have hi47_ := hI92.1
  refine zab <| zac (l := [0]) rfl <| p_v (v := .bool (decide (t47 < ((zao m).length : Int)))) rfl rfl rfl (x_lss r92_47 r92_46) <| zaa <| zab ?_
  refine zak (p := t47 < ((zao m).length : Int)) rfl (fun hc93 => ?_) (fun hc93 => ?_)
  ·skip
   refine zas <| zab <| zal <| zab <| zac (l := [0, 1, 2, 3, 4]) rfl <| p_v (v := .int .i64 t47) rfl rfl rfl (zae r92_47) ?_
   obtain ⟨ad94, seg94, a94, rp94, ce94⟩ := zaz (q := t47) (m := 1) ld45 rfl (by first|omega|(simp;omega)|assumption) (by first|omega|(simp;omega)|assumption)
   refine p_v (v := .pointer (some ad94)) rfl rfl rfl (zay u25 ty4 r92_45 r92_47 a94 (by first|omega|(simp;omega)|assumption) (by first|omega|(simp;omega)|assumption)) ?_
   obtain ⟨rfl, _⟩ := rp94
   refine p_v (v := .bool (at_ (zao m) t47)) rfl rfl rfl (zag (seg := [.bool (at_ (zao m) t47)]) ty4 rfl (by simp) rfl (CF.ghost ce94 (((((le47).trans lej82)).trans le92).trans S92.ghost))) <| p_v (v := .int .i64 t47) rfl rfl rfl (zad rfl) <| p_v (v := .bool (at_ (zao m) t47)) rfl rfl rfl (zad rfl) <| zaa <| zab <| zac (l := [0]) rfl <| p_v (v := .bool (at_ (zao m) t47)) rfl rfl rfl (zae rfl) <| zaa ?_
   refine zbe (b := at_ (zao m) t47) rfl (fun hc95 => ?_) (fun hc95 => ?_)
   ·skip
    refine zab ?_
    obtain ⟨ad96, seg96, a96, rp96, ce96⟩ := zaz (q := t47) (m := 5) l0_0 rfl (by first|omega|(simp;omega)|assumption) (by first|omega|(simp;omega)|assumption)
    obtain ⟨rfl, ok96⟩ := rp96
    have slook96 := u8_lo ok96; have shiok96 := u8_hi ok96
    obtain ⟨ad97, seg97, a97, rp97, ce97⟩ := zaz (q := t47) (m := 1) l0_3 rfl (by first|omega|(simp;omega)|assumption) (by first|omega|(simp;omega)|assumption)
    obtain ⟨rfl, _⟩ := rp97
    have hf98 : (CFs ⟨j82_b67, 0, none⟩ [v_t_0]).1 w92 := (CF.box (m := 1) (S92.box_at (j := 5) rfl) rfl)
    have hf99 : (CFs ⟨b1, 0, none⟩ [.slice A0_0 m.spots.length c0_0]).1 w92 := (CF.box (m := 1) (S92.box_at (j := 0) rfl) rfl)
    have hf100 : (CFs ad96 (zaj (at_ m.spots t47))).1 w92 := (CF.ghost ce96 (St.le0 S92))
    have hf101 : (CFs ⟨j82_b67, 3, none⟩ [v_t_3]).1 w92 := (CF.box (m := 1) (S92.box_at (j := 5) rfl) rfl)
    have hf102 : (CFs ⟨b1, 3, none⟩ [.slice A0_3 m.last.length c0_3]).1 w92 := (CF.box (m := 1) (S92.box_at (j := 0) rfl) rfl)
    have hf103 : (CFs ad97 [.bool (at_ m.last t47)]).1 w92 := (CF.ghost ce97 (St.le0 S92))
    refine daS (hkC 1 hf98 (hkC 3 hf99 (hkC 6 hf100 (hkC 10 hf101 (hkC 12 hf102 (hkC 15 hf103 (hkN (w := w92)))))))) 22 rfl mixed ?_
    intro wd104 gd104 hd104
    have S105 := S92.keep gd104
    have hf106 := spUp gd104 hf98
    have hf107 := spUp gd104 hf99
    have hf108 := spUp gd104 hf100
    have hf109 := spUp gd104 hf101
    have hf110 := spUp gd104 hf102
    have hf111 := spUp gd104 hf103
    refine qd0 (i := 0) (v := .pointer (some ⟨j82_b67, 0, none⟩)) rfl (by decide +kernel) rfl rfl (zaf zcp ty22 rfl r92_10) (zav rfl) <| qd1 0 (i := 1) (v := v_t_0) rfl rfl (by decide +kernel) rfl rfl (fun wq hq => (zag (seg := [v_t_0]) ty22 rfl (by simp) rfl hq)) (zcf hf106 (zav rfl)) <| qd0 (i := 2) (v := .pointer (some ⟨b1, 0, none⟩)) rfl (by decide +kernel) rfl rfl (zaf zcp ty22 rfl r92_1) (zav rfl) <| qd1 1 (i := 3) (v := .slice A0_0 m.spots.length c0_0) rfl rfl (by decide +kernel) rfl rfl (fun wq hq => (zag (seg := [.slice A0_0 m.spots.length c0_0]) ty22 rfl (by simp) rfl hq)) (zbw rfl (zcf hf107 (zav rfl))) <| qd0 (i := 4) (v := .int .i64 t47) rfl (by decide +kernel) rfl rfl (zae rfl) (zav rfl) <| qd0 (i := 5) (v := .pointer (some ad96)) rfl (by decide +kernel) rfl rfl (zay u22 ty38 rfl rfl a96 (by first|omega|(simp;omega)|assumption) (by first|omega|(simp;omega)|assumption)) (zav rfl) <| qd1 2 (i := 6) (v := .agg (zaj (at_ m.spots t47)).toArray) rfl rfl (by decide +kernel) rfl rfl (fun wq hq => (zag (seg := (zaj (at_ m.spots t47))) ty38 rfl (by simp) rfl hq)) (zbw rfl (zbw rfl (zcf hf108 (zav rfl)))) <| qd0 (i := 9) (v := .pointer (some ⟨j82_b67, 3, none⟩)) rfl (by decide +kernel) rfl rfl (zaf zc8 ty25 rfl r92_10) (zav rfl) <| qd1 3 (i := 10) (v := v_t_3) rfl rfl (by decide +kernel) rfl rfl (fun wq hq => (zag (seg := [v_t_3]) ty25 rfl (by simp) rfl hq)) (zbw rfl (zbw rfl (zbw rfl (zcf hf109 (zav rfl))))) <| qd0 (i := 11) (v := .pointer (some ⟨b1, 3, none⟩)) rfl (by decide +kernel) rfl rfl (zaf zc8 ty25 rfl r92_1) (zav rfl) <| qd1 4 (i := 12) (v := .slice A0_3 m.last.length c0_3) rfl rfl (by decide +kernel) rfl rfl (fun wq hq => (zag (seg := [.slice A0_3 m.last.length c0_3]) ty25 rfl (by simp) rfl hq)) (zbw rfl (zbw rfl (zbw rfl (zbw rfl (zcf hf110 (zav rfl)))))) <| qd0 (i := 13) (v := .int .i64 t47) rfl (by decide +kernel) rfl rfl (zae rfl) (zav rfl) ?_
    refine qd0 (i := 14) (v := .pointer (some ad97)) rfl (by decide +kernel) rfl rfl (zay u25 ty4 rfl rfl a97 (by first|omega|(simp;omega)|assumption) (by first|omega|(simp;omega)|assumption)) (zav rfl) <| qd1 5 (i := 15) (v := .bool (at_ m.last t47)) rfl rfl (by decide +kernel) rfl rfl (fun wq hq => (zag (seg := [.bool (at_ m.last t47)]) ty4 rfl (by simp) rfl hq)) (zbw rfl (zbw rfl (zbw rfl (zbw rfl (zbw rfl (zcf hf111 (zav rfl))))))) ?_
    refine ra_join (fun ρ w' => ∃ (h : Ghost) (j210_v138 : Value) (j210_v172 : Value), Le h92 h ∧ St w.heap.size w h w' [box b1 27 [.slice A0_0 m.spots.length c0_0, .slice A0_1 m.first.length c0_1, .slice A0_2 m.follow.length c0_2, .slice A0_3 m.last.length c0_3, .bool m.empty], box b3 27 [.slice none 0 0, .slice none 0 0, .slice none 0 0, .slice none 0 0, .bool false], box b23 25 [.slice A45 (zao m).length c45], box b31 23 [.slice A47 number.length c47], row 3 (Kd.int .i64) j82_v59_0 (zb3 (zao m) number m.first), box j82_b67 27 [j210_v138, j82_v59_0, v_t_2, j210_v172, .bool m.empty], row 38 za8 j210_v138 (t_0 ++ ([at_ m.spots t47] : List Spot)), row 23 kRaw v_t_2 us_t_2, grid 3 (Kd.int .i64) us_t_2 t_2, row 4 Kd.bool j210_v172 (t_3 ++ ([at_ m.last t47] : List Bool))] ∧ ρ 1 = .pointer (some ⟨b1, 0, none⟩) ∧ ρ 2 = .pointer (some ⟨b3, 0, none⟩) ∧ ρ 9 = .func (.func 19) #[] #[.pointer (some ⟨b23, 0, none⟩), .pointer (some ⟨b31, 0, none⟩)] ∧ ρ 10 = .pointer (some ⟨j82_b67, 0, none⟩) ∧ ρ 11 = .int .i64 t47 ∧ ρ 45 = .slice A45 (zao m).length c45 ∧ ρ 46 = .int .i64 ((zao m).length : Int) ∧ ρ 47 = .int .i64 t47) ?_ (fun jn210 => ?_)
    ·skip
     rintro ρj210 wj210 ⟨hj210, j210_v138, j210_v172, lej210, Sj210, rj210_1, rj210_2, rj210_9, rj210_10, rj210_11, rj210_45, rj210_46, rj210_47⟩
     have jr210_4 := Sj210.row_le (j := 4) rfl; simp only [maxLen] at jr210_4
     have jr210_6 := Sj210.row_le (j := 6) rfl; simp only [maxLen] at jr210_6
     have jr210_7 := Sj210.row_le (j := 7) rfl; simp only [maxLen] at jr210_7
     have jg210_8 := zbn Sj210 (j := 8) rfl
     have jr210_9 := Sj210.row_le (j := 9) rfl; simp only [maxLen] at jr210_9
     obtain ⟨ad211, seg211, a211, rp211, ce211⟩ := zaz (q := t47) (m := 1) l0_2 rfl (by first|omega|(simp;omega)|assumption) (by first|omega|(simp;omega)|assumption)
     obtain ⟨A211, c211, rfl, lc211, cm211, ld211⟩ := rp211
     have cn211 := cm211; simp only [maxLen] at cn211
     have hf212 : (CFs ⟨j82_b67, 2, none⟩ [v_t_2]).1 wj210 := (CF.box (m := 1) (Sj210.box_at (j := 5) rfl) rfl)
     have hf213 : (CFs ⟨b1, 2, none⟩ [.slice A0_2 m.follow.length c0_2]).1 wj210 := (CF.box (m := 1) (Sj210.box_at (j := 0) rfl) rfl)
     have hf214 : (CFs ad211 [.slice A211 (at_ m.follow t47).length c211]).1 wj210 := (CF.ghost ce211 (St.le0 Sj210))
     refine daS (hkC 1 hf212 (hkC 4 hf213 (hkC 7 hf214 (hkN (w := wj210))))) 13 rfl mixed ?_
     intro wd215 gd215 hd215
     have S216 := Sj210.keep gd215
     have hf217 := spUp gd215 hf212
     have hf218 := spUp gd215 hf213
     have hf219 := spUp gd215 hf214
     refine qd0 (i := 0) (v := .pointer (some ⟨j82_b67, 2, none⟩)) rfl (by decide +kernel) rfl rfl (zaf zcr ty24 rfl rj210_10) (zav rfl) <| qd1 0 (i := 1) (v := v_t_2) rfl rfl (by decide +kernel) rfl rfl (fun wq hq => (zag (seg := [v_t_2]) ty24 rfl (by simp) rfl hq)) (zcf hf217 (zav rfl)) <| qd0 (i := 2) (v := .func (.func 19) #[] #[.pointer (some ⟨b23, 0, none⟩), .pointer (some ⟨b31, 0, none⟩)]) rfl (by decide +kernel) rfl rfl (zae rj210_9) (zav rfl) <| qd0 (i := 3) (v := .pointer (some ⟨b1, 2, none⟩)) rfl (by decide +kernel) rfl rfl (zaf zcr ty24 rfl rj210_1) (zav rfl) <| qd1 1 (i := 4) (v := .slice A0_2 m.follow.length c0_2) rfl rfl (by decide +kernel) rfl rfl (fun wq hq => (zag (seg := [.slice A0_2 m.follow.length c0_2]) ty24 rfl (by simp) rfl hq)) (zbw rfl (zcf hf218 (zav rfl))) <| qd0 (i := 5) (v := .int .i64 t47) rfl (by decide +kernel) rfl rfl (zae rj210_11) (zav rfl) <| qd0 (i := 6) (v := .pointer (some ad211)) rfl (by decide +kernel) rfl rfl (zay u24 ty23 rfl rfl a211 (by first|omega|(simp;omega)|assumption) (by first|omega|(simp;omega)|assumption)) (zav rfl) <| qd1 2 (i := 7) (v := .slice A211 (at_ m.follow t47).length c211) rfl rfl (by decide +kernel) rfl rfl (fun wq hq => (zag (seg := [.slice A211 (at_ m.follow t47).length c211]) ty23 rfl (by simp) rfl hq)) (zbw rfl (zbw rfl (zcf hf219 (zav rfl)))) <| zbj (i := 8) (by decide +kernel) ?_
     intro wd220 gd220
     have S221 := S216.keep gd220
     have hf222 := spUp gd220 hf217
     have hf223 := spUp gd220 hf218
     have hf224 := spUp gd220 hf219
     refine d_c rfl rfl rfl (zbp (args := [.slice A211 (at_ m.follow t47).length c211, .pointer (some ⟨b23, 0, none⟩), .pointer (some ⟨b31, 0, none⟩)]) ca19 rfl rfl) (left_calls wd220 (at_ m.follow t47) A211 c211 (And.intro lc211 cm211) (ld211.mono (St.le0 S221)) (zao m) A45 c45 (And.intro lc45 cm45) (ld45.mono (((((((le47).trans lej82)).trans le92)).trans lej210).trans S221.ghost)) ⟨b23, 0, none⟩ (zcx (S221.box_at (j := 2) rfl)) number A47 c47 (And.intro lc47 cm47) (ld47.mono (((((lej82).trans le92)).trans lej210).trans S221.ghost)) ⟨b31, 0, none⟩ (zcx (S221.box_at (j := 3) rfl)) (by first | assumption | exact leftPre_ _ ⟨by omega, hR_.firsts⟩ | exact leftPre_ _ ⟨hss_.row _ (by assumption) (by omega), hR_.rows (by assumption) (by omega)⟩)) ?_
     rintro v225_0 w225 ⟨h225, _, T225, rfl⟩
     obtain ⟨k225, lk225, ll225, U225⟩ := zbg S221 T225
     have lc225_0 := (((((((lf47_0).trans lej82)).trans le92)).trans lej210)).trans lk225
     have lc225_1 := (((((((lf47_1).trans lej82)).trans le92)).trans lej210)).trans lk225
     have lc225_2 := (((((((lf47_2).trans lej82)).trans le92)).trans lej210)).trans lk225
     have lc225_3 := (((((((le47).trans lej82)).trans le92)).trans lej210)).trans lk225
     have lc225_4 := (((((lej82).trans le92)).trans lej210)).trans lk225
     have lc225_5 := (((le92).trans lej210)).trans lk225
     have lc225_6 := (lej210).trans lk225
     have S226 := U225
     dsimp only [lAa, lAn, lA0, lAs] at S226
     have hf227 := spUp (Chg.of_below T225.below) hf222
     have hf228 := spUp (Chg.of_below T225.below) hf223
     have hf229 := spUp (Chg.of_below T225.below) hf224
     refine ⟨.inl (Chg.of_below T225.below), ?_⟩
     refine zbj (i := 9) (by decide +kernel) ?_
     intro wd230 gd230
     have S231 := S226.keep gd230
     have hf232 := spUp gd230 hf227
     have hf233 := spUp gd230 hf228
     have hf234 := spUp gd230 hf229
     obtain ⟨v235, w235, r235, g235, T235⟩ := zba (kd := kRaw) (xs := ([v225_0] : List Value)) (len := 1) [v225_0] S231 u24 ty23 rfl rfl rfl rfl rfl (zbz (za9 S231 (j := 10) rfl) zb8) [v225_0] (zbx.single (k := kRaw) (h := k225) (x := v225_0) (cs := [v225_0]) ⟨rfl, za5 S231 (j := 10) rfl⟩) rfl
     have S236 := T235
     dsimp only [lAa, lAn, lA0, lAs] at S236
     have T237 := grid_one S236 (i := 10) rfl
     have S238 := T237.fx 10 (grid 3 (Kd.int .i64) ([v225_0] : List Value) ([zb3 (zao m) number (at_ m.follow t47)] : List (List Int))) rfl
     dsimp only [lAa, lAn, lA0, lAs] at S238
     have hf239 := spUp g235 hf232
     have hf240 := spUp g235 hf233
     have hf241 := spUp g235 hf234
     refine d_v (v := v235) rfl rfl rfl (zaw (pv := [(0, v225_0)]) rfl r235) (.inl g235) <| zbj (i := 10) (by decide +kernel) ?_
     intro wd242 gd242
     have S243 := S238.keep gd242
     have hf244 := spUp gd242 hf239
     have hf245 := spUp gd242 hf240
     have hf246 := spUp gd242 hf241
     obtain ⟨A248, c248, ev248, lc248, cm248⟩ := S243.row_val (j := 11) rfl
     obtain ⟨v249, w249, r249, g249, T249⟩ := zcc (kd := kRaw) (A := A248) (c := c248) (ys := ([v225_0] : List Value)) (len := ([v225_0] : List Value).length) 24 S243 u24 ty23 rfl rfl (j := 7) rfl rfl (zcs S243 (j := 11) rfl ev248) (by first|omega|(simp;omega)|assumption) (by first|omega|(simp;omega)|assumption)
     have S250 := T249.fx 7 (row 23 kRaw v249 (us_t_2 ++ ([v225_0] : List Value))) rfl
     dsimp only [lAa, lAn, lA0, lAs] at S250
     have T251 := grid_cat S250 (j := 8) (i := 10) rfl rfl (by decide)
     have S252 : St w.heap.size w k225 w249 [box b1 27 [.slice A0_0 m.spots.length c0_0, .slice A0_1 m.first.length c0_1, .slice A0_2 m.follow.length c0_2, .slice A0_3 m.last.length c0_3, .bool m.empty], box b3 27 [.slice none 0 0, .slice none 0 0, .slice none 0 0, .slice none 0 0, .bool false], box b23 25 [.slice A45 (zao m).length c45], box b31 23 [.slice A47 number.length c47], row 3 (Kd.int .i64) j82_v59_0 (zb3 (zao m) number m.first), box j82_b67 27 [j210_v138, j82_v59_0, v_t_2, j210_v172, .bool m.empty], row 38 za8 j210_v138 (t_0 ++ ([at_ m.spots t47] : List Spot)), row 23 kRaw v249 (us_t_2 ++ ([v225_0] : List Value)), grid 3 (Kd.int .i64) (us_t_2 ++ ([v225_0] : List Value)) (t_2 ++ ([zb3 (zao m) number (at_ m.follow t47)] : List (List Int))), row 4 Kd.bool j210_v172 (t_3 ++ ([at_ m.last t47] : List Bool)), emp, row 23 kRaw v235 ([v225_0] : List Value)] := T251
     have gl253 := zbn S252 (j := 8) rfl
     have hf254 : (CFs ⟨j82_b67, 2, none⟩ [v_t_2]).1 w249 := (CF.box (m := 1) (S252.box_at (j := 5) rfl) rfl)
     have hf255 : (CFs ⟨b1, 2, none⟩ [.slice A0_2 m.follow.length c0_2]).1 w249 := (CF.box (m := 1) (S252.box_at (j := 0) rfl) rfl)
     have hf256 : (CFs ad211 [.slice A211 (at_ m.follow t47).length c211]).1 w249 := (CF.ghost ce211 (St.le0 S252))
     refine d_v (v := v249) rfl rfl rfl (zca rfl ev248 r249) (.inr (zau (by decide +kernel) (za6 hf255 (za6 hf256 trivial)))) <| qd0 (i := 11) (v := .pointer (some ⟨j82_b67, 2, none⟩)) rfl (by decide +kernel) rfl rfl (zaf zcr ty24 rfl rj210_10) (zav rfl) <| zbj (i := 12) (by decide +kernel) ?_
     intro wd257 gd257
     have S258 := S252.keep gd257
     have hf259 := spUp gd257 hf254
     have hf260 := spUp gd257 hf255
     have hf261 := spUp gd257 hf256
     have oc263 := za5 S258 (j := 7) rfl
     obtain ⟨w262, r262, g262, T262⟩ := zbf (P := Try.prog) (off := 2) (v := v249) (vs := [v249]) S258 ty24 (za9 S258 (j := 7) rfl) rfl (j := 5) rfl (by first | decide | exact Nat.le_of_ble_eq_true rfl) (zai oc263 zbt)
     have S264 := T262.fx 5 (box j82_b67 27 [j210_v138, j82_v59_0, v249, j210_v172, .bool m.empty]) rfl
     dsimp only [lAa, lAn, lA0, lAs] at S264
     have hf265 : (CFs ⟨b1, 2, none⟩ [.slice A0_2 m.follow.length c0_2]).1 w262 := (CF.box (m := 1) (S264.box_at (j := 0) rfl) rfl)
     have hf266 : (CFs ad211 [.slice A211 (at_ m.follow t47).length c211]).1 w262 := (CF.ghost ce211 (St.le0 S264))
     refine d_s rfl rfl (za7 rfl rfl r262) (.inr (zau (by decide +kernel) (zau (by decide +kernel) (zau (by decide +kernel) trivial)))) <| zcv (by decide +kernel) ?_
     intro wd267 gd267
     have S268 := S264.keep gd267
     refine zar <| zac (l := [0, 1]) rfl <| p_v (v := .int .i64 (t47 + 1)) rfl rfl rfl (zb9 rj210_47 rfl (zah (by first|omega|(simp;omega)|assumption) (by first|omega|(simp;omega)|assumption))) <| p_v (v := .int .i64 (t47 + 1)) rfl rfl rfl (zae rfl) <| zaa ?_
     refine ih92 (t_0 ++ ([at_ m.spots t47] : List Spot), t_3 ++ ([at_ m.last t47] : List Bool), t_2 ++ ([zb3 (zao m) number (at_ m.follow t47)] : List (List Int)), t47 + 1) _ _ (by dsimp only; omega) ⟨k225, j210_v138, (us_t_2 ++ ([v225_0] : List Value)), v249, j210_v172, lc225_5, S268.sub [0, 1, 2, 3, 4, 5, 6, 7, 8, 9] (by decide) rfl _ rfl, rj210_1, rj210_2, rj210_9, rj210_10, rj210_45, rj210_46, rfl, (zah (by first|omega|(simp;omega)|assumption) (by first|omega|(simp;omega)|assumption)), (by first | exact ⟨by omega, by omega, by rw [hI92.2.2.1]; exact spotsTo_yes m hI92.1 (by assumption), by rw [hI92.2.2.2.1, hnum_, zbv]; exact followTo_yes m hI92.1 (by assumption), by rw [hI92.2.2.2.2]; exact lastTo_yes m hI92.1 (by assumption)⟩ | exact ⟨by omega, by omega, by rw [hI92.2.2.1]; exact spotsTo_no m hI92.1 (by assumption), by rw [hI92.2.2.2.1]; exact followTo_no m hI92.1 (by assumption), by rw [hI92.2.2.2.2]; exact lastTo_no m hI92.1 (by assumption)⟩)⟩
    refine ra_two (i := 7) (i2 := 16) (by decide +kernel) ?_ ?_
    ·skip
     intro wd269 gd269
     have S270 := S105.keep gd269
     have hf271 := spUp gd269 hf106
     have hf272 := spUp gd269 hf107
     have hf273 := spUp gd269 hf108
     have hf274 := spUp gd269 hf109
     have hf275 := spUp gd269 hf110
     have hf276 := spUp gd269 hf111
     obtain ⟨v277, w277, r277, g277, T277⟩ := zdf (kd := za8) (xs := ([at_ m.spots t47] : List Spot)) (len := 1) (m := 5) [(.agg (zaj (at_ m.spots t47)).toArray, (zaj (at_ m.spots t47)))] S270 u22 ty38 rfl rfl rfl rfl (segs_cons rfl rfl segs_nil) (cs := (zaj (at_ m.spots t47))) (zbx.single (k := za8) (h := h92) (x := at_ m.spots t47) (cs := (zaj (at_ m.spots t47))) ⟨rfl, ok96⟩) (by simp)
     have S278 := T277
     dsimp only [lAa, lAn, lA0, lAs] at S278
     have hf279 := spUp g277 hf271
     have hf280 := spUp g277 hf272
     have hf281 := spUp g277 hf273
     have hf282 := spUp g277 hf274
     have hf283 := spUp g277 hf275
     have hf284 := spUp g277 hf276
     refine d_v (v := v277) rfl rfl rfl (zaw (pv := [(0, .agg (zaj (at_ m.spots t47)).toArray)]) rfl r277) (.inl g277) ?_
     refine ra_two (i := 8) (i2 := 16) (by decide +kernel) ?_ ?_
     ·skip
      intro wd285 gd285
      have S286 := S278.keep gd285
      have hf287 := spUp gd285 hf279
      have hf288 := spUp gd285 hf280
      have hf289 := spUp gd285 hf281
      have hf290 := spUp gd285 hf282
      have hf291 := spUp gd285 hf283
      have hf292 := spUp gd285 hf284
      obtain ⟨A294, c294, ev294, lc294, cm294⟩ := S286.row_val (j := 10) rfl
      obtain ⟨v295, w295, r295, g295, T295⟩ := zcc (kd := za8) (A := A294) (c := c294) (ys := ([at_ m.spots t47] : List Spot)) (len := ([at_ m.spots t47] : List Spot).length) 22 S286 u22 ty38 rfl rfl (j := 6) rfl rfl (zcs S286 (j := 10) rfl ev294) (by first|omega|(simp;omega)|assumption) (by first|omega|(simp;omega)|assumption)
      have S296 := T295.fx 6 (row 38 za8 v295 (t_0 ++ ([at_ m.spots t47] : List Spot))) rfl
      dsimp only [lAa, lAn, lA0, lAs] at S296
      have hf297 : (CFs ⟨j82_b67, 0, none⟩ [v_t_0]).1 w295 := (CF.box (m := 1) (S296.box_at (j := 5) rfl) rfl)
      have hf298 : (CFs ⟨b1, 0, none⟩ [.slice A0_0 m.spots.length c0_0]).1 w295 := (CF.box (m := 1) (S296.box_at (j := 0) rfl) rfl)
      have hf299 : (CFs ad96 (zaj (at_ m.spots t47))).1 w295 := (CF.ghost ce96 (St.le0 S296))
      have hf300 : (CFs ⟨j82_b67, 3, none⟩ [v_t_3]).1 w295 := (CF.box (m := 1) (S296.box_at (j := 5) rfl) rfl)
      have hf301 : (CFs ⟨b1, 3, none⟩ [.slice A0_3 m.last.length c0_3]).1 w295 := (CF.box (m := 1) (S296.box_at (j := 0) rfl) rfl)
      have hf302 : (CFs ad97 [.bool (at_ m.last t47)]).1 w295 := (CF.ghost ce97 (St.le0 S296))
      refine d_v (v := v295) rfl rfl rfl (zca rfl ev294 r295) (.inr (zau (by decide +kernel) (za6 hf298 (za6 hf299 (za6 hf300 (za6 hf301 (za6 hf302 trivial))))))) <| qd0 (i := 18) (v := .pointer (some ⟨j82_b67, 0, none⟩)) rfl (by decide +kernel) rfl rfl (zaf zcp ty22 rfl r92_10) (zav rfl) <| zbj (i := 16) (by decide +kernel) ?_
      intro wd303 gd303
      have S304 := S296.keep gd303
      have hf305 := spUp gd303 hf297
      have hf306 := spUp gd303 hf298
      have hf307 := spUp gd303 hf299
      have hf308 := spUp gd303 hf300
      have hf309 := spUp gd303 hf301
      have hf310 := spUp gd303 hf302
      obtain ⟨v311, w311, r311, g311, T311⟩ := zba (kd := Kd.bool) (xs := ([at_ m.last t47] : List Bool)) (len := 1) [.bool (at_ m.last t47)] S304 u25 ty4 rfl rfl rfl rfl rfl (zbz rfl zb8) [.bool (at_ m.last t47)] (zbx.single (k := Kd.bool) (h := h92) (x := at_ m.last t47) (cs := [.bool (at_ m.last t47)]) ⟨rfl, trivial⟩) rfl
      have S312 := T311
      dsimp only [lAa, lAn, lA0, lAs] at S312
      have hf313 := spUp g311 hf305
      have hf314 := spUp g311 hf306
      have hf315 := spUp g311 hf307
      have hf316 := spUp g311 hf308
      have hf317 := spUp g311 hf309
      have hf318 := spUp g311 hf310
      refine d_v (v := v311) rfl rfl rfl (zaw (pv := [(0, .bool (at_ m.last t47))]) rfl r311) (.inl g311) <| zbj (i := 17) (by decide +kernel) ?_
      intro wd319 gd319
      have S320 := S312.keep gd319
      have hf321 := spUp gd319 hf313
      have hf322 := spUp gd319 hf314
      have hf323 := spUp gd319 hf315
      have hf324 := spUp gd319 hf316
      have hf325 := spUp gd319 hf317
      have hf326 := spUp gd319 hf318
      obtain ⟨A328, c328, ev328, lc328, cm328⟩ := S320.row_val (j := 11) rfl
      obtain ⟨v329, w329, r329, g329, T329⟩ := zcc (kd := Kd.bool) (A := A328) (c := c328) (ys := ([at_ m.last t47] : List Bool)) (len := ([at_ m.last t47] : List Bool).length) 25 S320 u25 ty4 rfl rfl (j := 9) rfl rfl (zcs S320 (j := 11) rfl ev328) (by first|omega|(simp;omega)|assumption) (by first|omega|(simp;omega)|assumption)
      have S330 := T329.fx 9 (row 4 Kd.bool v329 (t_3 ++ ([at_ m.last t47] : List Bool))) rfl
      dsimp only [lAa, lAn, lA0, lAs] at S330
      have hf331 : (CFs ⟨j82_b67, 0, none⟩ [v_t_0]).1 w329 := (CF.box (m := 1) (S330.box_at (j := 5) rfl) rfl)
      have hf332 : (CFs ⟨b1, 0, none⟩ [.slice A0_0 m.spots.length c0_0]).1 w329 := (CF.box (m := 1) (S330.box_at (j := 0) rfl) rfl)
      have hf333 : (CFs ad96 (zaj (at_ m.spots t47))).1 w329 := (CF.ghost ce96 (St.le0 S330))
      have hf334 : (CFs ⟨j82_b67, 3, none⟩ [v_t_3]).1 w329 := (CF.box (m := 1) (S330.box_at (j := 5) rfl) rfl)
      have hf335 : (CFs ⟨b1, 3, none⟩ [.slice A0_3 m.last.length c0_3]).1 w329 := (CF.box (m := 1) (S330.box_at (j := 0) rfl) rfl)
      have hf336 : (CFs ad97 [.bool (at_ m.last t47)]).1 w329 := (CF.ghost ce97 (St.le0 S330))
      refine d_v (v := v329) rfl rfl rfl (zca rfl ev328 r329) (.inr (za6 hf331 (za6 hf332 (za6 hf333 (zau (by decide +kernel) (za6 hf335 (za6 hf336 trivial))))))) <| zbj (i := 19) (by decide +kernel) ?_
      intro wd337 gd337
      have S338 := S330.keep gd337
      have hf339 := spUp gd337 hf331
      have hf340 := spUp gd337 hf332
      have hf341 := spUp gd337 hf333
      have hf342 := spUp gd337 hf334
      have hf343 := spUp gd337 hf335
      have hf344 := spUp gd337 hf336
      have oc346 := za5 S338 (j := 6) rfl
      obtain ⟨w345, r345, g345, T345⟩ := zbf (P := Try.prog) (off := 0) (v := v295) (vs := [v295]) S338 ty22 (za9 S338 (j := 6) rfl) rfl (j := 5) rfl (by first | decide | exact Nat.le_of_ble_eq_true rfl) (zai oc346 zbt)
      have S347 := T345.fx 5 (box j82_b67 27 [v295, j82_v59_0, v_t_2, v_t_3, .bool m.empty]) rfl
      dsimp only [lAa, lAn, lA0, lAs] at S347
      have hf348 : (CFs ⟨b1, 0, none⟩ [.slice A0_0 m.spots.length c0_0]).1 w345 := (CF.box (m := 1) (S347.box_at (j := 0) rfl) rfl)
      have hf349 : (CFs ad96 (zaj (at_ m.spots t47))).1 w345 := (CF.ghost ce96 (St.le0 S347))
      have hf350 : (CFs ⟨b1, 3, none⟩ [.slice A0_3 m.last.length c0_3]).1 w345 := (CF.box (m := 1) (S347.box_at (j := 0) rfl) rfl)
      have hf351 : (CFs ad97 [.bool (at_ m.last t47)]).1 w345 := (CF.ghost ce97 (St.le0 S347))
      refine d_s rfl rfl (za7 rfl rfl r345) (.inr (zau (by decide +kernel) (zau (by decide +kernel) (zau (by decide +kernel) (zau (by decide +kernel) (za6 hf350 (za6 hf351 trivial))))))) <| qd0 (i := 20) (v := .pointer (some ⟨j82_b67, 3, none⟩)) rfl (by decide +kernel) rfl rfl (zaf zc8 ty25 rfl r92_10) (zav rfl) <| zbj (i := 21) (by decide +kernel) ?_
      intro wd352 gd352
      have S353 := S347.keep gd352
      have hf354 := spUp gd352 hf348
      have hf355 := spUp gd352 hf349
      have hf356 := spUp gd352 hf350
      have hf357 := spUp gd352 hf351
      have oc359 := za5 S353 (j := 9) rfl
      obtain ⟨w358, r358, g358, T358⟩ := zbf (P := Try.prog) (off := 3) (v := v329) (vs := [v329]) S353 ty25 (za9 S353 (j := 9) rfl) rfl (j := 5) rfl (by first | decide | exact Nat.le_of_ble_eq_true rfl) (zai oc359 zbt)
      have S360 := T358.fx 5 (box j82_b67 27 [v295, j82_v59_0, v_t_2, v329, .bool m.empty]) rfl
      dsimp only [lAa, lAn, lA0, lAs] at S360
      have hf361 : (CFs ⟨b1, 0, none⟩ [.slice A0_0 m.spots.length c0_0]).1 w358 := (CF.box (m := 1) (S360.box_at (j := 0) rfl) rfl)
      have hf362 : (CFs ad96 (zaj (at_ m.spots t47))).1 w358 := (CF.ghost ce96 (St.le0 S360))
      have hf363 : (CFs ⟨b1, 3, none⟩ [.slice A0_3 m.last.length c0_3]).1 w358 := (CF.box (m := 1) (S360.box_at (j := 0) rfl) rfl)
      have hf364 : (CFs ad97 [.bool (at_ m.last t47)]).1 w358 := (CF.ghost ce97 (St.le0 S360))
      refine d_s rfl rfl (za7 rfl rfl r358) (.inr (zau (by decide +kernel) (zau (by decide +kernel) (zau (by decide +kernel) (zau (by decide +kernel) (zau (by decide +kernel) (zau (by decide +kernel) trivial))))))) <| zcv (by decide +kernel) ?_
      intro wd365 gd365
      have S366 := S360.keep gd365
      exact jn210 _ _ ⟨h92, v295, v329, (Le.refl _), S366.sub [0, 1, 2, 3, 4, 5, 6, 7, 8, 9] (by decide) rfl _ rfl, r92_1, r92_2, r92_9, r92_10, rfl, r92_45, r92_46, r92_47⟩
     intro wd367 gd367
     have S368 := S278.keep gd367
     have hf369 := spUp gd367 hf279
     have hf370 := spUp gd367 hf280
     have hf371 := spUp gd367 hf281
     have hf372 := spUp gd367 hf282
     have hf373 := spUp gd367 hf283
     have hf374 := spUp gd367 hf284
     obtain ⟨v375, w375, r375, g375, T375⟩ := zba (kd := Kd.bool) (xs := ([at_ m.last t47] : List Bool)) (len := 1) [.bool (at_ m.last t47)] S368 u25 ty4 rfl rfl rfl rfl rfl (zbz rfl zb8) [.bool (at_ m.last t47)] (zbx.single (k := Kd.bool) (h := h92) (x := at_ m.last t47) (cs := [.bool (at_ m.last t47)]) ⟨rfl, trivial⟩) rfl
     have S376 := T375
     dsimp only [lAa, lAn, lA0, lAs] at S376
     have hf377 := spUp g375 hf369
     have hf378 := spUp g375 hf370
     have hf379 := spUp g375 hf371
     have hf380 := spUp g375 hf372
     have hf381 := spUp g375 hf373
     have hf382 := spUp g375 hf374
     refine d_v (v := v375) rfl rfl rfl (zaw (pv := [(0, .bool (at_ m.last t47))]) rfl r375) (.inl g375) <| zbj (i := 8) (by decide +kernel) ?_
     intro wd383 gd383
     have S384 := S376.keep gd383
     have hf385 := spUp gd383 hf377
     have hf386 := spUp gd383 hf378
     have hf387 := spUp gd383 hf379
     have hf388 := spUp gd383 hf380
     have hf389 := spUp gd383 hf381
     have hf390 := spUp gd383 hf382
     obtain ⟨A392, c392, ev392, lc392, cm392⟩ := S384.row_val (j := 10) rfl
     obtain ⟨v393, w393, r393, g393, T393⟩ := zcc (kd := za8) (A := A392) (c := c392) (ys := ([at_ m.spots t47] : List Spot)) (len := ([at_ m.spots t47] : List Spot).length) 22 S384 u22 ty38 rfl rfl (j := 6) rfl rfl (zcs S384 (j := 10) rfl ev392) (by first|omega|(simp;omega)|assumption) (by first|omega|(simp;omega)|assumption)
     have S394 := T393.fx 6 (row 38 za8 v393 (t_0 ++ ([at_ m.spots t47] : List Spot))) rfl
     dsimp only [lAa, lAn, lA0, lAs] at S394
     have hf395 : (CFs ⟨j82_b67, 0, none⟩ [v_t_0]).1 w393 := (CF.box (m := 1) (S394.box_at (j := 5) rfl) rfl)
     have hf396 : (CFs ⟨b1, 0, none⟩ [.slice A0_0 m.spots.length c0_0]).1 w393 := (CF.box (m := 1) (S394.box_at (j := 0) rfl) rfl)
     have hf397 : (CFs ad96 (zaj (at_ m.spots t47))).1 w393 := (CF.ghost ce96 (St.le0 S394))
     have hf398 : (CFs ⟨j82_b67, 3, none⟩ [v_t_3]).1 w393 := (CF.box (m := 1) (S394.box_at (j := 5) rfl) rfl)
     have hf399 : (CFs ⟨b1, 3, none⟩ [.slice A0_3 m.last.length c0_3]).1 w393 := (CF.box (m := 1) (S394.box_at (j := 0) rfl) rfl)
     have hf400 : (CFs ad97 [.bool (at_ m.last t47)]).1 w393 := (CF.ghost ce97 (St.le0 S394))
     refine d_v (v := v393) rfl rfl rfl (zca rfl ev392 r393) (.inr (zau (by decide +kernel) (za6 hf396 (za6 hf397 (za6 hf398 (za6 hf399 (za6 hf400 trivial))))))) <| qd0 (i := 18) (v := .pointer (some ⟨j82_b67, 0, none⟩)) rfl (by decide +kernel) rfl rfl (zaf zcp ty22 rfl r92_10) (zav rfl) <| zbj (i := 17) (by decide +kernel) ?_
     intro wd401 gd401
     have S402 := S394.keep gd401
     have hf403 := spUp gd401 hf395
     have hf404 := spUp gd401 hf396
     have hf405 := spUp gd401 hf397
     have hf406 := spUp gd401 hf398
     have hf407 := spUp gd401 hf399
     have hf408 := spUp gd401 hf400
     obtain ⟨A410, c410, ev410, lc410, cm410⟩ := S402.row_val (j := 11) rfl
     obtain ⟨v411, w411, r411, g411, T411⟩ := zcc (kd := Kd.bool) (A := A410) (c := c410) (ys := ([at_ m.last t47] : List Bool)) (len := ([at_ m.last t47] : List Bool).length) 25 S402 u25 ty4 rfl rfl (j := 9) rfl rfl (zcs S402 (j := 11) rfl ev410) (by first|omega|(simp;omega)|assumption) (by first|omega|(simp;omega)|assumption)
     have S412 := T411.fx 9 (row 4 Kd.bool v411 (t_3 ++ ([at_ m.last t47] : List Bool))) rfl
     dsimp only [lAa, lAn, lA0, lAs] at S412
     have hf413 : (CFs ⟨j82_b67, 0, none⟩ [v_t_0]).1 w411 := (CF.box (m := 1) (S412.box_at (j := 5) rfl) rfl)
     have hf414 : (CFs ⟨b1, 0, none⟩ [.slice A0_0 m.spots.length c0_0]).1 w411 := (CF.box (m := 1) (S412.box_at (j := 0) rfl) rfl)
     have hf415 : (CFs ad96 (zaj (at_ m.spots t47))).1 w411 := (CF.ghost ce96 (St.le0 S412))
     have hf416 : (CFs ⟨j82_b67, 3, none⟩ [v_t_3]).1 w411 := (CF.box (m := 1) (S412.box_at (j := 5) rfl) rfl)
     have hf417 : (CFs ⟨b1, 3, none⟩ [.slice A0_3 m.last.length c0_3]).1 w411 := (CF.box (m := 1) (S412.box_at (j := 0) rfl) rfl)
     have hf418 : (CFs ad97 [.bool (at_ m.last t47)]).1 w411 := (CF.ghost ce97 (St.le0 S412))
     refine d_v (v := v411) rfl rfl rfl (zca rfl ev410 r411) (.inr (za6 hf413 (za6 hf414 (za6 hf415 (zau (by decide +kernel) (za6 hf417 (za6 hf418 trivial))))))) <| zbj (i := 19) (by decide +kernel) ?_
     intro wd419 gd419
     have S420 := S412.keep gd419
     have hf421 := spUp gd419 hf413
     have hf422 := spUp gd419 hf414
     have hf423 := spUp gd419 hf415
     have hf424 := spUp gd419 hf416
     have hf425 := spUp gd419 hf417
     have hf426 := spUp gd419 hf418
     have oc428 := za5 S420 (j := 6) rfl
     obtain ⟨w427, r427, g427, T427⟩ := zbf (P := Try.prog) (off := 0) (v := v393) (vs := [v393]) S420 ty22 (za9 S420 (j := 6) rfl) rfl (j := 5) rfl (by first | decide | exact Nat.le_of_ble_eq_true rfl) (zai oc428 zbt)
     have S429 := T427.fx 5 (box j82_b67 27 [v393, j82_v59_0, v_t_2, v_t_3, .bool m.empty]) rfl
     dsimp only [lAa, lAn, lA0, lAs] at S429
     have hf430 : (CFs ⟨b1, 0, none⟩ [.slice A0_0 m.spots.length c0_0]).1 w427 := (CF.box (m := 1) (S429.box_at (j := 0) rfl) rfl)
     have hf431 : (CFs ad96 (zaj (at_ m.spots t47))).1 w427 := (CF.ghost ce96 (St.le0 S429))
     have hf432 : (CFs ⟨b1, 3, none⟩ [.slice A0_3 m.last.length c0_3]).1 w427 := (CF.box (m := 1) (S429.box_at (j := 0) rfl) rfl)
     have hf433 : (CFs ad97 [.bool (at_ m.last t47)]).1 w427 := (CF.ghost ce97 (St.le0 S429))
     refine d_s rfl rfl (za7 rfl rfl r427) (.inr (zau (by decide +kernel) (zau (by decide +kernel) (zau (by decide +kernel) (zau (by decide +kernel) (za6 hf432 (za6 hf433 trivial))))))) <| qd0 (i := 20) (v := .pointer (some ⟨j82_b67, 3, none⟩)) rfl (by decide +kernel) rfl rfl (zaf zc8 ty25 rfl r92_10) (zav rfl) <| zbj (i := 21) (by decide +kernel) ?_
     intro wd434 gd434
     have S435 := S429.keep gd434
     have hf436 := spUp gd434 hf430
     have hf437 := spUp gd434 hf431
     have hf438 := spUp gd434 hf432
     have hf439 := spUp gd434 hf433
     have oc441 := za5 S435 (j := 9) rfl
     obtain ⟨w440, r440, g440, T440⟩ := zbf (P := Try.prog) (off := 3) (v := v411) (vs := [v411]) S435 ty25 (za9 S435 (j := 9) rfl) rfl (j := 5) rfl (by first | decide | exact Nat.le_of_ble_eq_true rfl) (zai oc441 zbt)
     have S442 := T440.fx 5 (box j82_b67 27 [v393, j82_v59_0, v_t_2, v411, .bool m.empty]) rfl
     dsimp only [lAa, lAn, lA0, lAs] at S442
     have hf443 : (CFs ⟨b1, 0, none⟩ [.slice A0_0 m.spots.length c0_0]).1 w440 := (CF.box (m := 1) (S442.box_at (j := 0) rfl) rfl)
     have hf444 : (CFs ad96 (zaj (at_ m.spots t47))).1 w440 := (CF.ghost ce96 (St.le0 S442))
     have hf445 : (CFs ⟨b1, 3, none⟩ [.slice A0_3 m.last.length c0_3]).1 w440 := (CF.box (m := 1) (S442.box_at (j := 0) rfl) rfl)
     have hf446 : (CFs ad97 [.bool (at_ m.last t47)]).1 w440 := (CF.ghost ce97 (St.le0 S442))
     refine d_s rfl rfl (za7 rfl rfl r440) (.inr (zau (by decide +kernel) (zau (by decide +kernel) (zau (by decide +kernel) (zau (by decide +kernel) (zau (by decide +kernel) (zau (by decide +kernel) trivial))))))) <| zcv (by decide +kernel) ?_
     intro wd447 gd447
     have S448 := S442.keep gd447
     exact jn210 _ _ ⟨h92, v393, v411, (Le.refl _), S448.sub [0, 1, 2, 3, 4, 5, 6, 7, 8, 9] (by decide) rfl _ rfl, r92_1, r92_2, r92_9, r92_10, rfl, r92_45, r92_46, r92_47⟩
    intro wd449 gd449
    have S450 := S105.keep gd449
    have hf451 := spUp gd449 hf106
    have hf452 := spUp gd449 hf107
    have hf453 := spUp gd449 hf108
    have hf454 := spUp gd449 hf109
    have hf455 := spUp gd449 hf110
    have hf456 := spUp gd449 hf111
    obtain ⟨v457, w457, r457, g457, T457⟩ := zba (kd := Kd.bool) (xs := ([at_ m.last t47] : List Bool)) (len := 1) [.bool (at_ m.last t47)] S450 u25 ty4 rfl rfl rfl rfl rfl (zbz rfl zb8) [.bool (at_ m.last t47)] (zbx.single (k := Kd.bool) (h := h92) (x := at_ m.last t47) (cs := [.bool (at_ m.last t47)]) ⟨rfl, trivial⟩) rfl
    have S458 := T457
    dsimp only [lAa, lAn, lA0, lAs] at S458
    have hf459 := spUp g457 hf451
    have hf460 := spUp g457 hf452
    have hf461 := spUp g457 hf453
    have hf462 := spUp g457 hf454
    have hf463 := spUp g457 hf455
    have hf464 := spUp g457 hf456
    refine d_v (v := v457) rfl rfl rfl (zaw (pv := [(0, .bool (at_ m.last t47))]) rfl r457) (.inl g457) <| zbj (i := 7) (by decide +kernel) ?_
    intro wd465 gd465
    have S466 := S458.keep gd465
    have hf467 := spUp gd465 hf459
    have hf468 := spUp gd465 hf460
    have hf469 := spUp gd465 hf461
    have hf470 := spUp gd465 hf462
    have hf471 := spUp gd465 hf463
    have hf472 := spUp gd465 hf464
    obtain ⟨v473, w473, r473, g473, T473⟩ := zdf (kd := za8) (xs := ([at_ m.spots t47] : List Spot)) (len := 1) (m := 5) [(.agg (zaj (at_ m.spots t47)).toArray, (zaj (at_ m.spots t47)))] S466 u22 ty38 rfl rfl rfl rfl (segs_cons rfl rfl segs_nil) (cs := (zaj (at_ m.spots t47))) (zbx.single (k := za8) (h := h92) (x := at_ m.spots t47) (cs := (zaj (at_ m.spots t47))) ⟨rfl, ok96⟩) (by simp)
    have S474 := T473
    dsimp only [lAa, lAn, lA0, lAs] at S474
    have hf475 := spUp g473 hf467
    have hf476 := spUp g473 hf468
    have hf477 := spUp g473 hf469
    have hf478 := spUp g473 hf470
    have hf479 := spUp g473 hf471
    have hf480 := spUp g473 hf472
    refine d_v (v := v473) rfl rfl rfl (zaw (pv := [(0, .agg (zaj (at_ m.spots t47)).toArray)]) rfl r473) (.inl g473) <| zbj (i := 8) (by decide +kernel) ?_
    intro wd481 gd481
    have S482 := S474.keep gd481
    have hf483 := spUp gd481 hf475
    have hf484 := spUp gd481 hf476
    have hf485 := spUp gd481 hf477
    have hf486 := spUp gd481 hf478
    have hf487 := spUp gd481 hf479
    have hf488 := spUp gd481 hf480
    obtain ⟨A490, c490, ev490, lc490, cm490⟩ := S482.row_val (j := 11) rfl
    obtain ⟨v491, w491, r491, g491, T491⟩ := zcc (kd := za8) (A := A490) (c := c490) (ys := ([at_ m.spots t47] : List Spot)) (len := ([at_ m.spots t47] : List Spot).length) 22 S482 u22 ty38 rfl rfl (j := 6) rfl rfl (zcs S482 (j := 11) rfl ev490) (by first|omega|(simp;omega)|assumption) (by first|omega|(simp;omega)|assumption)
    have S492 := T491.fx 6 (row 38 za8 v491 (t_0 ++ ([at_ m.spots t47] : List Spot))) rfl
    dsimp only [lAa, lAn, lA0, lAs] at S492
    have hf493 : (CFs ⟨j82_b67, 0, none⟩ [v_t_0]).1 w491 := (CF.box (m := 1) (S492.box_at (j := 5) rfl) rfl)
    have hf494 : (CFs ⟨b1, 0, none⟩ [.slice A0_0 m.spots.length c0_0]).1 w491 := (CF.box (m := 1) (S492.box_at (j := 0) rfl) rfl)
    have hf495 : (CFs ad96 (zaj (at_ m.spots t47))).1 w491 := (CF.ghost ce96 (St.le0 S492))
    have hf496 : (CFs ⟨j82_b67, 3, none⟩ [v_t_3]).1 w491 := (CF.box (m := 1) (S492.box_at (j := 5) rfl) rfl)
    have hf497 : (CFs ⟨b1, 3, none⟩ [.slice A0_3 m.last.length c0_3]).1 w491 := (CF.box (m := 1) (S492.box_at (j := 0) rfl) rfl)
    have hf498 : (CFs ad97 [.bool (at_ m.last t47)]).1 w491 := (CF.ghost ce97 (St.le0 S492))
    refine d_v (v := v491) rfl rfl rfl (zca rfl ev490 r491) (.inr (zau (by decide +kernel) (za6 hf494 (za6 hf495 (za6 hf496 (za6 hf497 (za6 hf498 trivial))))))) <| qd0 (i := 18) (v := .pointer (some ⟨j82_b67, 0, none⟩)) rfl (by decide +kernel) rfl rfl (zaf zcp ty22 rfl r92_10) (zav rfl) <| zbj (i := 17) (by decide +kernel) ?_
    intro wd499 gd499
    have S500 := S492.keep gd499
    have hf501 := spUp gd499 hf493
    have hf502 := spUp gd499 hf494
    have hf503 := spUp gd499 hf495
    have hf504 := spUp gd499 hf496
    have hf505 := spUp gd499 hf497
    have hf506 := spUp gd499 hf498
    obtain ⟨A508, c508, ev508, lc508, cm508⟩ := S500.row_val (j := 10) rfl
    obtain ⟨v509, w509, r509, g509, T509⟩ := zcc (kd := Kd.bool) (A := A508) (c := c508) (ys := ([at_ m.last t47] : List Bool)) (len := ([at_ m.last t47] : List Bool).length) 25 S500 u25 ty4 rfl rfl (j := 9) rfl rfl (zcs S500 (j := 10) rfl ev508) (by first|omega|(simp;omega)|assumption) (by first|omega|(simp;omega)|assumption)
    have S510 := T509.fx 9 (row 4 Kd.bool v509 (t_3 ++ ([at_ m.last t47] : List Bool))) rfl
    dsimp only [lAa, lAn, lA0, lAs] at S510
    have hf511 : (CFs ⟨j82_b67, 0, none⟩ [v_t_0]).1 w509 := (CF.box (m := 1) (S510.box_at (j := 5) rfl) rfl)
    have hf512 : (CFs ⟨b1, 0, none⟩ [.slice A0_0 m.spots.length c0_0]).1 w509 := (CF.box (m := 1) (S510.box_at (j := 0) rfl) rfl)
    have hf513 : (CFs ad96 (zaj (at_ m.spots t47))).1 w509 := (CF.ghost ce96 (St.le0 S510))
    have hf514 : (CFs ⟨j82_b67, 3, none⟩ [v_t_3]).1 w509 := (CF.box (m := 1) (S510.box_at (j := 5) rfl) rfl)
    have hf515 : (CFs ⟨b1, 3, none⟩ [.slice A0_3 m.last.length c0_3]).1 w509 := (CF.box (m := 1) (S510.box_at (j := 0) rfl) rfl)
    have hf516 : (CFs ad97 [.bool (at_ m.last t47)]).1 w509 := (CF.ghost ce97 (St.le0 S510))
    refine d_v (v := v509) rfl rfl rfl (zca rfl ev508 r509) (.inr (za6 hf511 (za6 hf512 (za6 hf513 (zau (by decide +kernel) (za6 hf515 (za6 hf516 trivial))))))) <| zbj (i := 19) (by decide +kernel) ?_
    intro wd517 gd517
    have S518 := S510.keep gd517
    have hf519 := spUp gd517 hf511
    have hf520 := spUp gd517 hf512
    have hf521 := spUp gd517 hf513
    have hf522 := spUp gd517 hf514
    have hf523 := spUp gd517 hf515
    have hf524 := spUp gd517 hf516
    have oc526 := za5 S518 (j := 6) rfl
    obtain ⟨w525, r525, g525, T525⟩ := zbf (P := Try.prog) (off := 0) (v := v491) (vs := [v491]) S518 ty22 (za9 S518 (j := 6) rfl) rfl (j := 5) rfl (by first | decide | exact Nat.le_of_ble_eq_true rfl) (zai oc526 zbt)
    have S527 := T525.fx 5 (box j82_b67 27 [v491, j82_v59_0, v_t_2, v_t_3, .bool m.empty]) rfl
    dsimp only [lAa, lAn, lA0, lAs] at S527
    have hf528 : (CFs ⟨b1, 0, none⟩ [.slice A0_0 m.spots.length c0_0]).1 w525 := (CF.box (m := 1) (S527.box_at (j := 0) rfl) rfl)
    have hf529 : (CFs ad96 (zaj (at_ m.spots t47))).1 w525 := (CF.ghost ce96 (St.le0 S527))
    have hf530 : (CFs ⟨b1, 3, none⟩ [.slice A0_3 m.last.length c0_3]).1 w525 := (CF.box (m := 1) (S527.box_at (j := 0) rfl) rfl)
    have hf531 : (CFs ad97 [.bool (at_ m.last t47)]).1 w525 := (CF.ghost ce97 (St.le0 S527))
    refine d_s rfl rfl (za7 rfl rfl r525) (.inr (zau (by decide +kernel) (zau (by decide +kernel) (zau (by decide +kernel) (zau (by decide +kernel) (za6 hf530 (za6 hf531 trivial))))))) <| qd0 (i := 20) (v := .pointer (some ⟨j82_b67, 3, none⟩)) rfl (by decide +kernel) rfl rfl (zaf zc8 ty25 rfl r92_10) (zav rfl) <| zbj (i := 21) (by decide +kernel) ?_
    intro wd532 gd532
    have S533 := S527.keep gd532
    have hf534 := spUp gd532 hf528
    have hf535 := spUp gd532 hf529
    have hf536 := spUp gd532 hf530
    have hf537 := spUp gd532 hf531
    have oc539 := za5 S533 (j := 9) rfl
    obtain ⟨w538, r538, g538, T538⟩ := zbf (P := Try.prog) (off := 3) (v := v509) (vs := [v509]) S533 ty25 (za9 S533 (j := 9) rfl) rfl (j := 5) rfl (by first | decide | exact Nat.le_of_ble_eq_true rfl) (zai oc539 zbt)
    have S540 := T538.fx 5 (box j82_b67 27 [v491, j82_v59_0, v_t_2, v509, .bool m.empty]) rfl
    dsimp only [lAa, lAn, lA0, lAs] at S540
    have hf541 : (CFs ⟨b1, 0, none⟩ [.slice A0_0 m.spots.length c0_0]).1 w538 := (CF.box (m := 1) (S540.box_at (j := 0) rfl) rfl)
    have hf542 : (CFs ad96 (zaj (at_ m.spots t47))).1 w538 := (CF.ghost ce96 (St.le0 S540))
    have hf543 : (CFs ⟨b1, 3, none⟩ [.slice A0_3 m.last.length c0_3]).1 w538 := (CF.box (m := 1) (S540.box_at (j := 0) rfl) rfl)
    have hf544 : (CFs ad97 [.bool (at_ m.last t47)]).1 w538 := (CF.ghost ce97 (St.le0 S540))
    refine d_s rfl rfl (za7 rfl rfl r538) (.inr (zau (by decide +kernel) (zau (by decide +kernel) (zau (by decide +kernel) (zau (by decide +kernel) (zau (by decide +kernel) (zau (by decide +kernel) trivial))))))) <| zcv (by decide +kernel) ?_
    intro wd545 gd545
    have S546 := S540.keep gd545
    exact jn210 _ _ ⟨h92, v491, v509, (Le.refl _), S546.sub [0, 1, 2, 3, 4, 5, 6, 7, 8, 9] (by decide) rfl _ rfl, r92_1, r92_2, r92_9, r92_10, rfl, r92_45, r92_46, r92_47⟩
   refine zas <| zar <| zac (l := [0, 1]) rfl <| p_v (v := .int .i64 (t47 + 1)) rfl rfl rfl (zb9 r92_47 rfl (zah (by first|omega|(simp;omega)|assumption) (by first|omega|(simp;omega)|assumption))) <| p_v (v := .int .i64 (t47 + 1)) rfl rfl rfl (zae rfl) <| zaa ?_
   refine ih92 (t_0, t_3, t_2, t47 + 1) _ _ (by dsimp only; omega) ⟨h92, v_t_0, us_t_2, v_t_2, v_t_3, le92, S92.sub [0, 1, 2, 3, 4, 5, 6, 7, 8, 9] (by decide) rfl _ rfl, r92_1, r92_2, r92_9, r92_10, r92_45, r92_46, rfl, (zah (by first|omega|(simp;omega)|assumption) (by first|omega|(simp;omega)|assumption)), (by first | exact ⟨by omega, by omega, by rw [hI92.2.2.1]; exact spotsTo_yes m hI92.1 (by assumption), by rw [hI92.2.2.2.1, hnum_, zbv]; exact followTo_yes m hI92.1 (by assumption), by rw [hI92.2.2.2.2]; exact lastTo_yes m hI92.1 (by assumption)⟩ | exact ⟨by omega, by omega, by rw [hI92.2.2.1]; exact spotsTo_no m hI92.1 (by assumption), by rw [hI92.2.2.2.1]; exact followTo_no m hI92.1 (by assumption), by rw [hI92.2.2.2.2]; exact lastTo_no m hI92.1 (by assumption)⟩)⟩
  refine zbd rfl <| zab <| zac (l := [0, 1, 2]) rfl <| p_v (v := .agg #[v_t_0, j82_v59_0, v_t_2, v_t_3, .bool m.empty]) rfl rfl rfl (zag (seg := [v_t_0, j82_v59_0, v_t_2, v_t_3, .bool m.empty]) ty27 rfl (by simp) r92_10 (CF.box (m := 5) (S92.box_at (j := 5) rfl) rfl)) ?_
  have oc548 := za5 S92 (j := 6) rfl
  have oc549 := za5 S92 (j := 4) rfl
  have oc550 := za5 S92 (j := 7) rfl
  have oc551 := za5 S92 (j := 9) rfl
  obtain ⟨w547, r547, g547, T547⟩ := zbf (P := Try.prog) (off := 0) (v := .agg #[v_t_0, j82_v59_0, v_t_2, v_t_3, .bool m.empty]) (vs := [v_t_0, j82_v59_0, v_t_2, v_t_3, .bool m.empty]) S92 ty27 rfl rfl (j := 1) rfl (by first | decide | exact Nat.le_of_ble_eq_true rfl) (zai oc548 (zai oc549 (zai oc550 (zai oc551 (zai rfl zbt)))))
  have S552 := T547.fx 1 (box b3 27 [v_t_0, j82_v59_0, v_t_2, v_t_3, .bool m.empty]) rfl
  dsimp only [lAa, lAn, lA0, lAs] at S552
  refine p_s rfl rfl (za7 r92_2 rfl r547) <| p_v (v := .int .i64 0) rfl rfl rfl (zad rfl) <| zaa <| za0 Try.func8 (res2 rfl (res_cell S552 ty27 r92_2 (j := 1) rfl rfl (by simp) rfl) (za3 (v := .int .i64 0) rfl)) ?_
  have q0 : ((za2 m).spots : List Spot) = t_0 := by
   first | (rw [zam (by assumption)]; done) | (rw [zam (by assumption)]) | exact zbr (by assumption) | exact zbs (by assumption) | (rw [zan (by assumption)]; done) | (rw [zan (by assumption)]; first | rfl | (rw [hI92.2.2.1, show t47 = (m.spots.length : Int) by omega]; done) | (rw [hI92.2.2.2.1, show t47 = (m.spots.length : Int) by omega]; done) | (rw [hI92.2.2.2.2, show t47 = (m.spots.length : Int) by omega]; done) | (rw [hnum_, zbv]))
  have q1 : ((za2 m).first : List Int) = zb3 (zao m) number m.first := by
   first | (rw [zam (by assumption)]; done) | (rw [zam (by assumption)]) | exact zbr (by assumption) | exact zbs (by assumption) | (rw [zan (by assumption)]; done) | (rw [zan (by assumption)]; first | rfl | (rw [hI92.2.2.1, show t47 = (m.spots.length : Int) by omega]; done) | (rw [hI92.2.2.2.1, show t47 = (m.spots.length : Int) by omega]; done) | (rw [hI92.2.2.2.2, show t47 = (m.spots.length : Int) by omega]; done) | (rw [hnum_, zbv]))
  have q2 : ((za2 m).follow : List (List Int)) = t_2 := by
   first | (rw [zam (by assumption)]; done) | (rw [zam (by assumption)]) | exact zbr (by assumption) | exact zbs (by assumption) | (rw [zan (by assumption)]; done) | (rw [zan (by assumption)]; first | rfl | (rw [hI92.2.2.1, show t47 = (m.spots.length : Int) by omega]; done) | (rw [hI92.2.2.2.1, show t47 = (m.spots.length : Int) by omega]; done) | (rw [hI92.2.2.2.2, show t47 = (m.spots.length : Int) by omega]; done) | (rw [hnum_, zbv]))
  have q3 : ((za2 m).last : List Bool) = t_3 := by
   first | (rw [zam (by assumption)]; done) | (rw [zam (by assumption)]) | exact zbr (by assumption) | exact zbs (by assumption) | (rw [zan (by assumption)]; done) | (rw [zan (by assumption)]; first | rfl | (rw [hI92.2.2.1, show t47 = (m.spots.length : Int) by omega]; done) | (rw [hI92.2.2.2.1, show t47 = (m.spots.length : Int) by omega]; done) | (rw [hI92.2.2.2.2, show t47 = (m.spots.length : Int) by omega]; done) | (rw [hnum_, zbv]))
  have q4 : ((za2 m).empty : Bool) = m.empty := by
   first | (rw [zam (by assumption)]; done) | (rw [zam (by assumption)]) | exact zbr (by assumption) | exact zbs (by assumption) | (rw [zan (by assumption)]; done) | (rw [zan (by assumption)]; first | rfl | (rw [hI92.2.2.1, show t47 = (m.spots.length : Int) by omega]; done) | (rw [hI92.2.2.2.1, show t47 = (m.spots.length : Int) by omega]; done) | (rw [hI92.2.2.2.2, show t47 = (m.spots.length : Int) by omega]; done) | (rw [hnum_, zbv]))
  have q5 : (errM m : Int) = 0 := by
   first | (rw [zam (by assumption)]; done) | (rw [zam (by assumption)]) | exact zbr (by assumption) | exact zbs (by assumption) | (rw [zan (by assumption)]; done) | (rw [zan (by assumption)]; first | rfl | (rw [hI92.2.2.1, show t47 = (m.spots.length : Int) by omega]; done) | (rw [hI92.2.2.2.1, show t47 = (m.spots.length : Int) by omega]; done) | (rw [hI92.2.2.2.2, show t47 = (m.spots.length : Int) by omega]; done) | (rw [hnum_, zbv]))
  refine ⟨_, rfl, h92, v_t_0, j82_v59_0, v_t_2, us_t_2, v_t_3, ?_, ?_, ?_⟩
  · rw [q0]; rw [q1]; rw [q2]; rw [q3]; exact S552.sub [6, 4, 7, 8, 9] (by decide) rfl _ rfl
  · first | rfl | (simp only [q0, q1, q2, q3, q4, q5]; rfl) | (simp only [q0, q1, q2, q3, q4, q5])
  · rw [q5]; exact (zah (by first|omega|(simp;omega)|assumption) (by first|omega|(simp;omega)|assumption))
 refine ra_two (i := 3) (i2 := 7) (by decide +kernel) ?_ ?_
 ·skip
  intro wd553 gd553
  have S554 := S52.keep gd553
  have hf555 := spUp gd553 hf53
  have hf556 := spUp gd553 hf54
  refine d_c rfl rfl rfl (zbp (args := [.slice A0_1 m.first.length c0_1, .pointer (some ⟨b23, 0, none⟩), .pointer (some ⟨b31, 0, none⟩)]) ca19 rfl rfl) (left_calls wd553 m.first A0_1 c0_1 b0_1 (l0_1.mono (St.le0 S554)) (zao m) A45 c45 (And.intro lc45 cm45) (ld45.mono (le47.trans S554.ghost)) ⟨b23, 0, none⟩ (zcx (S554.box_at (j := 3) rfl)) number A47 c47 (And.intro lc47 cm47) (ld47.mono ((Le.refl _).trans S554.ghost)) ⟨b31, 0, none⟩ (zcx (S554.box_at (j := 5) rfl)) (by first | assumption | exact leftPre_ _ ⟨by omega, hR_.firsts⟩ | exact leftPre_ _ ⟨hss_.row _ (by assumption) (by omega), hR_.rows (by assumption) (by omega)⟩)) ?_
  rintro v557_0 w557 ⟨h557, _, T557, rfl⟩
  obtain ⟨k557, lk557, ll557, U557⟩ := zbg S554 T557
  have lc557_0 := (lf47_0).trans lk557
  have lc557_1 := (lf47_1).trans lk557
  have lc557_2 := (lf47_2).trans lk557
  have lc557_3 := (le47).trans lk557
  have S558 := U557
  dsimp only [lAa, lAn, lA0, lAs] at S558
  have hf559 := spUp (Chg.of_below T557.below) hf555
  have hf560 := spUp (Chg.of_below T557.below) hf556
  refine ⟨.inl (Chg.of_below T557.below), ?_⟩
  refine qd0 (i := 6) (v := .agg #[.slice none 0 0, v557_0, .slice none 0 0, .slice none 0 0, .bool m.empty]) rfl (by decide +kernel) rfl rfl (y_build (pv := [(1, v557_0), (4, .bool m.empty)]) rfl (zby pl27 ty27 rfl (cs := [.slice none 0 0, v557_0, .slice none 0 0, .slice none 0 0, .bool m.empty]) (zc9 (vc := [v557_0]) rfl (za9 S558 (j := 6) rfl) rfl rfl (zc9 (vc := [.bool m.empty]) rfl rfl rfl rfl (fill_end rfl))))) (zav rfl) <| zbj (i := 7) (by decide +kernel) ?_
  intro wd561 gd561
  have S562 := S558.keep gd561
  have hf563 := spUp gd561 hf559
  have hf564 := spUp gd561 hf560
  obtain ⟨b565, w565, r565, g565, T565⟩ := zc1 (P := Try.prog) S562 27 (v := (.agg #[.slice none 0 0, .slice none 0 0, .slice none 0 0, .slice none 0 0, .bool false])) [.slice none 0 0, .slice none 0 0, .slice none 0 0, .slice none 0 0, .bool false] rfl
  have S566 := T565
  dsimp only [lAa, lAn, lA0, lAs] at S566
  have hf567 := spUp g565 hf563
  have hf568 := spUp g565 hf564
  refine d_v (v := .pointer (some ⟨b565, 0, none⟩)) rfl rfl rfl (zck ty27 r565) (.inl g565) <| zbj (i := 8) (by decide +kernel) ?_
  intro wd569 gd569
  have S570 := S566.keep gd569
  have hf571 := spUp gd569 hf567
  have hf572 := spUp gd569 hf568
  have oc574 := za5 S570 (j := 6) rfl
  obtain ⟨w573, r573, g573, T573⟩ := zbf (P := Try.prog) (off := 0) (v := .agg #[.slice none 0 0, v557_0, .slice none 0 0, .slice none 0 0, .bool m.empty]) (vs := [.slice none 0 0, v557_0, .slice none 0 0, .slice none 0 0, .bool m.empty]) S570 ty27 rfl rfl (j := 7) rfl (by first | decide | exact Nat.le_of_ble_eq_true rfl) (zai rfl (zai oc574 (zai rfl (zai rfl (zai rfl zbt)))))
  have S575 := T573.fx 7 (box b565 27 [.slice none 0 0, v557_0, .slice none 0 0, .slice none 0 0, .bool m.empty]) rfl
  dsimp only [lAa, lAn, lA0, lAs] at S575
  have hf576 : (CFs ⟨b1, 1, none⟩ [.slice A0_1 m.first.length c0_1]).1 w573 := (CF.box (m := 1) (S575.box_at (j := 0) rfl) rfl)
  have hf577 : (CFs ⟨b1, 4, none⟩ [.bool m.empty]).1 w573 := (CF.box (m := 1) (S575.box_at (j := 0) rfl) rfl)
  refine d_s rfl rfl (za7 rfl rfl r573) (.inr (zau (by decide +kernel) (zau (by decide +kernel) trivial))) <| zcv (by decide +kernel) ?_
  intro wd578 gd578
  have S579 := S575.keep gd578
  exact jn82 _ _ ⟨k557, b565, v557_0, lk557, S579.sub [0, 1, 3, 5, 6, 7] (by decide) rfl _ rfl, r37_1, r37_2, r37_4, rfl, rfl⟩
 intro wd580 gd580
 have S581 := S52.keep gd580
 have hf582 := spUp gd580 hf53
 have hf583 := spUp gd580 hf54
 obtain ⟨b584, w584, r584, g584, T584⟩ := zc1 (P := Try.prog) S581 27 (v := (.agg #[.slice none 0 0, .slice none 0 0, .slice none 0 0, .slice none 0 0, .bool false])) [.slice none 0 0, .slice none 0 0, .slice none 0 0, .slice none 0 0, .bool false] rfl
 have S585 := T584
 dsimp only [lAa, lAn, lA0, lAs] at S585
 have hf586 := spUp g584 hf582
 have hf587 := spUp g584 hf583
 refine d_v (v := .pointer (some ⟨b584, 0, none⟩)) rfl rfl rfl (zck ty27 r584) (.inl g584) <| zbj (i := 3) (by decide +kernel) ?_
 intro wd588 gd588
 have S589 := S585.keep gd588
 have hf590 := spUp gd588 hf586
 have hf591 := spUp gd588 hf587
 refine d_c rfl rfl rfl (zbp (args := [.slice A0_1 m.first.length c0_1, .pointer (some ⟨b23, 0, none⟩), .pointer (some ⟨b31, 0, none⟩)]) ca19 rfl rfl) (left_calls wd588 m.first A0_1 c0_1 b0_1 (l0_1.mono (St.le0 S589)) (zao m) A45 c45 (And.intro lc45 cm45) (ld45.mono (le47.trans S589.ghost)) ⟨b23, 0, none⟩ (zcx (S589.box_at (j := 3) rfl)) number A47 c47 (And.intro lc47 cm47) (ld47.mono ((Le.refl _).trans S589.ghost)) ⟨b31, 0, none⟩ (zcx (S589.box_at (j := 5) rfl)) (by first | assumption | exact leftPre_ _ ⟨by omega, hR_.firsts⟩ | exact leftPre_ _ ⟨hss_.row _ (by assumption) (by omega), hR_.rows (by assumption) (by omega)⟩)) ?_
 rintro v592_0 w592 ⟨h592, _, T592, rfl⟩
 obtain ⟨k592, lk592, ll592, U592⟩ := zbg S589 T592
 have lc592_0 := (lf47_0).trans lk592
 have lc592_1 := (lf47_1).trans lk592
 have lc592_2 := (lf47_2).trans lk592
 have lc592_3 := (le47).trans lk592
 have S593 := U592
 dsimp only [lAa, lAn, lA0, lAs] at S593
 have hf594 := spUp (Chg.of_below T592.below) hf590
 have hf595 := spUp (Chg.of_below T592.below) hf591
 refine ⟨.inl (Chg.of_below T592.below), ?_⟩
 refine qd0 (i := 6) (v := .agg #[.slice none 0 0, v592_0, .slice none 0 0, .slice none 0 0, .bool m.empty]) rfl (by decide +kernel) rfl rfl (y_build (pv := [(1, v592_0), (4, .bool m.empty)]) rfl (zby pl27 ty27 rfl (cs := [.slice none 0 0, v592_0, .slice none 0 0, .slice none 0 0, .bool m.empty]) (zc9 (vc := [v592_0]) rfl (za9 S593 (j := 7) rfl) rfl rfl (zc9 (vc := [.bool m.empty]) rfl rfl rfl rfl (fill_end rfl))))) (zav rfl) <| zbj (i := 8) (by decide +kernel) ?_
 intro wd596 gd596
 have S597 := S593.keep gd596
 have hf598 := spUp gd596 hf594
 have hf599 := spUp gd596 hf595
 have oc601 := za5 S597 (j := 7) rfl
 obtain ⟨w600, r600, g600, T600⟩ := zbf (P := Try.prog) (off := 0) (v := .agg #[.slice none 0 0, v592_0, .slice none 0 0, .slice none 0 0, .bool m.empty]) (vs := [.slice none 0 0, v592_0, .slice none 0 0, .slice none 0 0, .bool m.empty]) S597 ty27 rfl rfl (j := 6) rfl (by first | decide | exact Nat.le_of_ble_eq_true rfl) (zai rfl (zai oc601 (zai rfl (zai rfl (zai rfl zbt)))))
 have S602 := T600.fx 6 (box b584 27 [.slice none 0 0, v592_0, .slice none 0 0, .slice none 0 0, .bool m.empty]) rfl
 dsimp only [lAa, lAn, lA0, lAs] at S602
 have hf603 : (CFs ⟨b1, 1, none⟩ [.slice A0_1 m.first.length c0_1]).1 w600 := (CF.box (m := 1) (S602.box_at (j := 0) rfl) rfl)
 have hf604 : (CFs ⟨b1, 4, none⟩ [.bool m.empty]).1 w600 := (CF.box (m := 1) (S602.box_at (j := 0) rfl) rfl)
 refine d_s rfl rfl (za7 rfl rfl r600) (.inr (zau (by decide +kernel) (zau (by decide +kernel) trivial))) <| zcv (by decide +kernel) ?_
 intro wd605 gd605
 have S606 := S602.keep gd605
 exact jn82 _ _ ⟨k592, b584, v592_0, lk592, S606.sub [0, 1, 3, 5, 7, 6] (by decide) rfl _ rfl, r37_1, r37_2, r37_4, rfl, rfl⟩
end Go.Proofs.Ythpdebieagaghaa
namespace Gx
open Go Go.RowKit
set_option linter.unusedSimpArgs false
set_option linter.unusedVariables false
set_option linter.unusedSectionVars false
theorem lput_part {cs vs : List Value} {a n o : Nat} (h1 : a + n ≤ cs.length) (h2 : o + vs.length ≤ n) : lput cs a (lput ((cs.drop a).take n) o vs) = lput cs (a + o) vs := by
  have hs : ((cs.drop a).take n).length = n := by rw [List.length_take, List.length_drop]; omega
  apply List.ext_getElem?
  intro p
  rw [lput_get _ cs a p (by rw [zc7, hs]; exact h1), lput_get vs cs (a + o) p (by omega), zc7, hs]
  by_cases e1 : a ≤ p ∧ p < a + n
  · rw [if_pos e1, lput_get vs _ o (p - a) (by rw [hs]; exact h2)]
    by_cases e2 : o ≤ p - a ∧ p - a < o + vs.length
    · rw [if_pos e2, if_pos (by omega)]; congr 1; omega
    · rw [if_neg e2, if_neg (by omega), List.getElem?_take, if_pos (by omega), List.getElem?_drop]; congr 1; omega
  · rw [if_neg e1, if_neg (by omega)]
section
variable {P : Program} {w : World} {base : Nat} {w0 : World} {h : Ghost} {L : List Asrt}
variable {α : Type} [Inhabited α] {kd : Kd α} {xs : List α}
theorem e_store_part {j : Nat} {v u : Value} {q : Int} {T E : TypeId} {m n o b' : Nat} {gg : Bool} {z : Option Value} {ad : Addr} (e : α) {vs : List Value} (S : St base w0 h w L) (ht : zbu P T = some (m, b', gg, z)) (hm : kd.sz = n)
    (hj : L[j]? = some (row E kd v xs)) (hc : u.cells = vs.toArray) (hv1 : ∀ u ∈ vs, u.oneCell' = true) (hlen : vs.length = m) (hfit0 : o + m ≤ n) (hr : ∀ seg, kd.rep h (at_ xs q) seg → kd.rep h e (lput seg o vs)) (hat : AtOwn v n q ad) (h0 : 0 ≤ q) (hq : q < (xs.length : Int)) :
    ∃ w', (storeVar T (ad.add o) u).run P w = .ok () w' ∧ Chg w w' (fun b => v.ownBlock = some b) ∧ St base w0 h w' (L.set j (row E kd v (xs.set q.toNat e))) := by
  obtain ⟨Fs, hF, _⟩ := S.sep
  obtain ⟨g, hg, rfl⟩ := hat
  subst hm
  have hql : q.toNat < xs.length := by omega
  obtain ⟨⟨cs, hown, hel, hfo⟩, _⟩ := hF j _ hj
  rcases hown.2 with ⟨_, he⟩ | ⟨g', cap, cur, hv, hb, hh, hl, hcap, hcs, htk⟩
  · omega
  have hgg : g' = g := by rw [hv] at hg; simpa [Value.ownBlock] using hg
  subst hgg
  have hlt : g' < w.heap.size := (Array.getElem?_eq_some_iff.1 hh).1
  have hfit : q.toNat * kd.sz + kd.sz ≤ xs.length * kd.sz := by rw [← Nat.succ_mul]; exact Nat.mul_le_mul_right _ hql
  have hcap' : xs.length * kd.sz ≤ cap * kd.sz := Nat.mul_le_mul_right _ hl
  have hh' : w.heap[g']? = some (.cells cur.toList.toArray E (0, 0)) := by rw [hh]
  have hcl : cur.toList.length = cap * kd.sz := by rw [Array.length_toList]; exact hcs
  have hx : xs[q.toNat]? = some (at_ xs q) := zc4 h0 hq
  have hseg := hel.2 _ _ hx
  have hr' := hr _ hseg
  have same : (cur.toList.drop (q.toNat * kd.sz)).take kd.sz = (cs.drop (q.toNat * kd.sz)).take kd.sz := by
    apply List.ext_getElem?
    intro p
    rw [List.getElem?_take, List.getElem?_take]
    split
    · rw [List.getElem?_drop, List.getElem?_drop, ← htk, List.getElem?_take, if_pos (by omega)]
    · rfl
  have hvl := kd.len hr'
  have S' : St base w0 h (zcb w g' E (lput cur.toList (q.toNat * kd.sz) (lput ((cs.drop (q.toNat * kd.sz)).take kd.sz) o vs))) (L.set j (row E kd v (xs.set q.toNat e))) := by
    refine S.upd hj fun F hF' hFU => ?_
    obtain ⟨cs2, hown2, hel2, hfo2⟩ := hF'
    have hFg : F g' := hfo2 g' hg
    refine ⟨(zde w g' E _).mono (fun b hb => by subst hb; exact hFg), F, ⟨lput cs (q.toNat * kd.sz) (lput ((cs.drop (q.toNat * kd.sz)).take kd.sz) o vs), ⟨?_, .inr ⟨g', cap, (lput cur.toList (q.toNat * kd.sz) (lput ((cs.drop (q.toNat * kd.sz)).take kd.sz) o vs)).toArray, ?_, hb, putBlock_at hlt _ _, ?_, hcap, ?_, ?_⟩⟩, drop_take_set hel hql hr', hfo2⟩, fun b hb => .inl hb⟩
    · rw [zc7, hown.1, List.length_set]
    · rw [hv, List.length_set]
    · rw [List.length_set]; exact hl
    · simp [zc7, hcs]
    · rw [List.length_set]
      show (lput cur.toList (q.toNat * kd.sz) _).take _ = _
      apply List.ext_getElem?
      intro p
      rw [List.getElem?_take, lput_get _ cur.toList _ _ (by omega), lput_get _ cs _ _ (by rw [hown.1]; omega)]
      split
      · split
        · rfl
        · rw [← htk, List.getElem?_take, if_pos (by assumption)]
      · rw [if_neg (by omega), List.getElem?_eq_none (by rw [hown.1]; omega)]
  have hrun := run_storeVar_box (P := P) (v := u) (off := q.toNat * kd.sz + o) ht hh' (by rw [hc]; simpa using hlen) (by omega) (by rw [hc]; simpa using hv1)
  rw [hc] at hrun
  have e2 : lput cur.toList (q.toNat * kd.sz + o) vs = lput cur.toList (q.toNat * kd.sz) (lput ((cs.drop (q.toNat * kd.sz)).take kd.sz) o vs) := by
    rw [← same, lput_part (by omega) (by omega)]
  rw [← e2] at S'
  have e3 : (⟨g', q.toNat * kd.sz, none⟩ : Addr).add o = ⟨g', q.toNat * kd.sz + o, none⟩ := by
    unfold Addr.add; split
    · rename_i e; rw [e]; rfl
    · rfl
  rw [e3]
  exact ⟨_, hrun, (zde w g' E _).mono (fun b hb => by subst hb; exact hg), S'⟩
end
end Gx
namespace Gx
open Go Go.RowKit
set_option linter.unusedSimpArgs false
set_option linter.unusedSectionVars false
set_option linter.unusedVariables false
theorem rises_iff {b : Int} : ∀ {last : Int} {l : List Int}, zcu b last l = true ↔ l.Pairwise (· < ·) ∧ ∀ x ∈ l, last < x ∧ x < b
  | last, [] => by simp [zcu]
  | last, n :: r => by
    unfold zcu
    rw [Bool.and_eq_true, Bool.and_eq_true, decide_eq_true_eq, decide_eq_true_eq, rises_iff, List.pairwise_cons]
    constructor
    · rintro ⟨⟨h1, h2⟩, h3, h4⟩
      refine ⟨⟨fun x hx => (h4 x hx).1, h3⟩, fun x hx => ?_⟩
      rcases List.mem_cons.1 hx with e | e
      · subst e; exact ⟨h1, h2⟩
      · have := h4 x e; omega
    · rintro ⟨⟨h1, h2⟩, h3⟩
      have h4 := h3 n (by simp)
      exact ⟨h4, h2, fun x hx => ⟨h1 x hx, (h3 x (List.mem_cons_of_mem _ hx)).2⟩⟩
section
variable {m : Mach} (hR : Right m)
def keptN (m : Mach) : List Int := kept m m.spots.length
theorem kept_pair (m : Mach) (t : Int) : (kept m t).Pairwise (· < ·) := by
  unfold kept posTo ints
  rw [List.pairwise_map]
  exact (List.pairwise_lt_range.filter _).imp fun h => by omega
theorem mem_kept {m : Mach} {t x : Int} : x ∈ kept m t ↔ 0 ≤ x ∧ x < t ∧ at_ (zao m) x = true := by
  unfold kept
  rw [mem_posTo]
  constructor
  · rintro ⟨h0, h1, h2⟩; exact ⟨h0, h1, by rwa [Int.toNat_of_nonneg h0] at h2⟩
  · rintro ⟨h0, h1, h2⟩; exact ⟨h0, h1, by rwa [Int.toNat_of_nonneg h0]⟩
theorem kept_split {m : Mach} {i : Int} (h0 : 0 ≤ i) (h1 : i < (m.spots.length : Int)) (hk : at_ (zao m) i = true) : ∃ r, keptN m = kept m i ++ i :: r := by
  have : ∀ d : Nat, ∃ r, kept m (i + 1 + d) = kept m i ++ i :: r := fun d => by
    induction d with
    | zero => exact ⟨[], by rw [show i + 1 + ((0 : Nat) : Int) = i + 1 by omega, kept_yes m h0 hk]⟩
    | succ d ih =>
      obtain ⟨r, e⟩ := ih
      rw [show i + 1 + ((d + 1 : Nat) : Int) = (i + 1 + d) + 1 by omega]
      cases hb : at_ (zao m) (i + 1 + d) with
      | true => rw [kept_yes m (by omega) hb, e]; exact ⟨r ++ [i + 1 + d], by simp⟩
      | false => rw [kept_no m (by omega) hb, e]; exact ⟨r, rfl⟩
  obtain ⟨r, e⟩ := this ((m.spots.length : Int) - (i + 1)).toNat
  refine ⟨r, ?_⟩
  unfold keptN
  rw [← e, show i + 1 + (((m.spots.length : Int) - (i + 1)).toNat : Int) = m.spots.length by omega]
theorem num_in {m : Mach} {i : Int} (h0 : 0 ≤ i) (h1 : i < (m.spots.length : Int)) (hk : at_ (zao m) i = true) : 0 ≤ zc6 (zao m) i ∧ zc6 (zao m) i < ((keptN m).length : Int) ∧ at_ (keptN m) (zc6 (zao m) i) = i := by
  obtain ⟨r, e⟩ := kept_split h0 h1 hk
  have hn : zc6 (zao m) i = ((kept m i).length : Nat) := rfl
  rw [hn, e]
  refine ⟨by omega, by simp; omega, ?_⟩
  unfold at_
  simp
theorem kept_at {m : Mach} {j : Int} (h0 : 0 ≤ j) (h1 : j < ((keptN m).length : Int)) : (0 ≤ at_ (keptN m) j ∧ at_ (keptN m) j < (m.spots.length : Int)) ∧ at_ (zao m) (at_ (keptN m) j) = true ∧ zc6 (zao m) (at_ (keptN m) j) = j := by
  have hm := at_mem h0 h1
  obtain ⟨a0, a1, a2⟩ := mem_kept.1 hm
  refine ⟨⟨a0, a1⟩, a2, ?_⟩
  obtain ⟨b0, b1, b2⟩ := num_in a0 a1 a2
  have hp : (keptN m).Pairwise (· < ·) := kept_pair m m.spots.length
  have key : ∀ a c : Int, 0 ≤ a → a < c → c < ((keptN m).length : Int) → at_ (keptN m) a < at_ (keptN m) c := fun a c ha hac hc => by
    have := List.pairwise_iff_getElem.1 hp a.toNat c.toNat (by omega) (by omega) (by omega)
    have e1 := zc4 (xs := keptN m) ha (by omega)
    have e2 := zc4 (xs := keptN m) (i := c) (by omega) hc
    rw [List.getElem?_eq_getElem (by omega)] at e1 e2
    injection e1 with e1
    injection e2 with e2
    rwa [e1, e2] at this
  rcases Int.lt_trichotomy (zc6 (zao m) (at_ (keptN m) j)) j with h | h | h
  · have := key _ _ b0 h h1; omega
  · exact h
  · have := key _ _ h0 h b1; omega
theorem num_lt {m : Mach} {i k : Int} (h0 : 0 ≤ i) (hik : i < k) (hk : at_ (zao m) i = true) : zc6 (zao m) i < zc6 (zao m) k := by
  have h1 := num_at1 (zao m) h0 hk
  have : ∀ d : Nat, zc6 (zao m) (i + 1) ≤ zc6 (zao m) (i + 1 + d) := fun d => by
    induction d with
    | zero => rw [show i + 1 + ((0 : Nat) : Int) = i + 1 by omega]; exact Int.le_refl _
    | succ d ih =>
      rw [show i + 1 + ((d + 1 : Nat) : Int) = (i + 1 + d) + 1 by omega]
      cases hb : at_ (zao m) (i + 1 + d) with
      | true => rw [num_at1 _ (by omega) hb]; omega
      | false => rw [num_at2 _ (by omega) hb]; exact ih
  have h2 := this (k - (i + 1)).toNat
  rw [show i + 1 + ((k - (i + 1)).toNat : Int) = k by omega] at h2
  omega
theorem mem_lefts {m : Mach} {l : List Int} (hl : ∀ x ∈ l, 0 ≤ x ∧ x < (m.spots.length : Int)) {y : Int} : y ∈ lefts m l ↔ ∃ x ∈ l, at_ (zao m) x = true ∧ y = zc6 (zao m) x := by
  unfold lefts zb3
  rw [List.mem_map]
  constructor
  · rintro ⟨x, hx, e⟩
    rw [List.mem_filter] at hx
    have := hl x hx.1
    rw [numsL_at _ this.1 this.2] at e
    exact ⟨x, hx.1, hx.2, e.symm⟩
  · rintro ⟨x, hx, hk, e⟩
    have := hl x hx
    exact ⟨x, List.mem_filter.2 ⟨hx, hk⟩, by rw [numsL_at _ this.1 this.2]; exact e.symm⟩
theorem lefts_rises {m : Mach} {l : List Int} (h : zcu m.spots.length (-1) l = true) : zcu (keptN m).length (-1) (lefts m l) = true := by
  obtain ⟨hp, hb⟩ := rises_iff.1 h
  have hl : ∀ x ∈ l, 0 ≤ x ∧ x < (m.spots.length : Int) := fun x hx => by have := hb x hx; omega
  refine rises_iff.2 ⟨?_, fun y hy => ?_⟩
  · unfold lefts zb3
    rw [List.pairwise_map, List.pairwise_filter]
    refine hp.imp_of_mem fun {a b} ha hb2 hab hka hkb => ?_
    rw [numsL_at _ (hl a ha).1 (hl a ha).2, numsL_at _ (hl b hb2).1 (hl b hb2).2]
    exact num_lt (hl a ha).1 hab hka
  · obtain ⟨x, hx, hk, rfl⟩ := (mem_lefts hl).1 hy
    have := num_in (hl x hx).1 (hl x hx).2 hk
    omega
theorem trim_spots {m : Mach} (hR : Right m) : za2 m = ⟨(keptN m).map fun i => at_ m.spots i, lefts m m.first, (keptN m).map fun i => lefts m (at_ m.follow i), (keptN m).map fun i => at_ m.last i, m.empty⟩ := zan (right_iff.2 hR)
theorem trim_len {m : Mach} (hR : Right m) : (za2 m).spots.length = (keptN m).length := by rw [trim_spots hR]; simp
theorem trim_spot {m : Mach} (hR : Right m) {j : Int} (h0 : 0 ≤ j) (h1 : j < ((keptN m).length : Int)) : at_ (za2 m).spots j = at_ m.spots (at_ (keptN m) j) := by rw [trim_spots hR]; exact at_map _ _ h0 h1
theorem trim_follow {m : Mach} (hR : Right m) {j : Int} (h0 : 0 ≤ j) (h1 : j < ((keptN m).length : Int)) : at_ (za2 m).follow j = lefts m (at_ m.follow (at_ (keptN m) j)) := by rw [trim_spots hR]; exact at_map _ _ h0 h1
theorem trim_first {m : Mach} (hR : Right m) : (za2 m).first = lefts m m.first := by rw [trim_spots hR]
theorem trim_Right {m : Mach} (hR : Right m) : Right (za2 m) where
  small := by rw [trim_len hR]; have := kept_len m (t := m.spots.length) (by omega); have := hR.small; unfold keptN; omega
  follow := by rw [trim_spots hR]; simp
  last := by rw [trim_spots hR]; simp
  first := by rw [trim_len hR, trim_first hR]; exact lefts_rises hR.first
  tag := fun i h0 h1 => by
    rw [trim_len hR] at h1
    rw [trim_spot hR h0 h1]
    have := (kept_at h0 h1).1
    exact hR.tag _ this.1 this.2
  row := fun i h0 h1 => by
    rw [trim_len hR] at h1
    rw [trim_len hR, trim_follow hR h0 h1]
    have := (kept_at h0 h1).1
    exact lefts_rises (hR.row _ this.1 this.2)
end
end Gx
namespace Gx
open Go Go.RowKit
set_option linter.unusedSimpArgs false
set_option linter.unusedVariables false
theorem spot_tag {h : Ghost} {x : Spot} {seg : List Value} {n : Int} (hs : za8.rep h x seg) (hn : inK .u8 n) : za8.rep h (⟨x.set, n⟩ : Spot) (lput seg 4 [.int .u8 n]) := by
  obtain ⟨rfl, _⟩ := hs
  exact ⟨rfl, hn⟩
theorem wrap_k64 (x : Int) : inK .i64 (IntKind.i64.wrap x) := by
  unfold IntKind.wrap inK
  simp only [IntKind.min, IntKind.max, IntKind.bits, IntKind.signed]
  simp; omega
section
variable {P : Program} {w : World} {ρ : Env} {d : Option Tmp} {ty : TypeId} {pos : String} {af : Array Edge} {g : Option (Nat × Bool)} {x y : Operand}
theorem x_addw {k : IntKind} {a b : Int} {t t2 : TypeId} (hx : ev ρ x = .int k a) (hy : ev ρ y = .int k b) : (execOp (ev ρ) ⟨d, .binOp .add t x y t2, ty, pos, af, g⟩).run P w = .ok (.value (.int k (k.wrap (a + b)))) w := by
  simp [execOp, hx, hy, eqGuard, binOp, Op.intArith, go_sem]
end
def From {α : Type} [Inhabited α] (i : Int) (a b : List α) : Prop := a.length = b.length ∧ ∀ j : Int, i ≤ j → at_ a j = at_ b j
section
variable {α : Type} [Inhabited α] {a b : List α} {i : Int}
theorem from_0 (i : Int) (a : List α) : From i a a := ⟨rfl, fun _ _ => rfl⟩
theorem at_set_far (a : List α) {i j : Int} (h0 : 0 ≤ i) (h : i < j) (v : α) : at_ (a.set i.toNat v) j = at_ a j := by
  unfold at_
  rw [List.getD_eq_getElem?_getD, List.getD_eq_getElem?_getD, List.getElem?_set_ne (by omega)]
theorem from_set (h : From i a b) (h0 : 0 ≤ i) {v : α} : From (i + 1) (a.set i.toNat v) b :=
  ⟨by rw [List.length_set]; exact h.1, fun j hj => by rw [at_set_far a h0 (by omega)]; exact h.2 j (by omega)⟩
def GridI (t t2 : List (List α)) (i k : Int) : Prop := ∃ ys, t2 = t.set i.toNat ys ∧ From k ys (at_ t i)
variable {t t2 : List (List α)} {k : Int}
theorem gi_0 (t : List (List α)) (i k : Int) : GridI t t i k := ⟨at_ t i, (set_at_self t i).symm, from_0 _ _⟩
theorem gi_len (G : GridI t t2 i k) : t2.length = t.length := by obtain ⟨ys, rfl, _⟩ := G; rw [List.length_set]
theorem gi_at (G : GridI t t2 i k) (h0 : 0 ≤ i) (h1 : i < (t.length : Int)) : From k (at_ t2 i) (at_ t i) := by
  obtain ⟨ys, rfl, h⟩ := G
  rw [at_set_self h0 h1]; exact h
theorem gi_step (G : GridI t t2 i k) (h0 : 0 ≤ i) (h1 : i < (t.length : Int)) (k0 : 0 ≤ k) {v : α} : GridI t (t2.set i.toNat ((at_ t2 i).set k.toNat v)) i (k + 1) := by
  obtain ⟨ys, rfl, h⟩ := G
  refine ⟨ys.set k.toNat v, ?_, from_set h k0⟩
  rw [at_set_self h0 h1, List.set_set]
theorem gi_end {b : List (List α)} (F : From i t b) (G : GridI t t2 i k) (h0 : 0 ≤ i) : From (i + 1) t2 b := by
  obtain ⟨ys, rfl, _⟩ := G
  exact from_set F h0
end
theorem trim_any (m : Mach) : Right (za2 m) := by
  cases h : zbq m with
  | true => exact trim_Right (right_iff.1 h)
  | false =>
    rw [zam h]
    exact ⟨by decide, rfl, rfl, rfl, fun i h0 h1 => by simp at h1; omega, fun i h0 h1 => by simp at h1; omega⟩
end Gx
namespace Gx
open Go Go.RowKit
set_option linter.unusedSimpArgs false
set_option linter.unusedSectionVars false
set_option linter.unusedVariables false
def bytesL (w : ByteArray) : List Int := w.data.toList.map fun b => ((b.toNat : Nat) : Int)
end Gx
namespace Gx
open Go Go.RowKit
set_option linter.unusedSimpArgs false
set_option linter.unusedSectionVars false
set_option linter.unusedVariables false
inductive Path (m : Mach) (src : List Int) : List Int → Int → Prop
  | one {i c : Int} : i ∈ src → 0 ≤ c → c < 256 → has (at_ m.spots i).set c = true → Path m src [c] i
  | snoc {l : List Int} {j i c : Int} : Path m src l j → i ∈ at_ m.follow j → 0 ≤ c → c < 256 → has (at_ m.spots i).set c = true → Path m src (l ++ [c]) i
theorem Path.some {m : Mach} {src l : List Int} {i : Int} (h : Path m src l i) : 0 < l.length := by cases h <;> simp
theorem Path.inn {m : Mach} (hR : Right m) {src l : List Int} {i : Int} (hs : ∀ x ∈ src, 0 ≤ x ∧ x < (m.spots.length : Int)) (h : Path m src l i) : 0 ≤ i ∧ i < (m.spots.length : Int) := by
  induction h with
  | one h3 => exact hs _ h3
  | snoc h3 h4 h5 h6 h7 ih => exact hR.rows ih.1 ih.2 _ h4
theorem Path.run {m : Mach} (hR : Right m) {l : List Int} {i : Int} (h : Path m m.first l i) : ∀ s : ByteArray, (∀ k : Nat, k < l.length → byt s ((k : Nat) : Int) = at_ l ((k : Nat) : Int)) → at_ (runTo m s (l.length - 1)) i = true := by
  induction h with
  | one h3 h4 h5 h6 =>
    intro s hb
    have hi := hR.firsts _ h3
    have h0 := hb 0 (by simp)
    show at_ (intoP m (markP m.spots.length m.first) (byt s 0)) _ = true
    unfold intoP
    rw [tab_at hi.1 hi.2]
    unfold markP
    rw [tab_at (by omega) (by omega), Int.toNat_natCast, Int.toNat_of_nonneg hi.1, decide_eq_true h3, Bool.true_and]
    have e : byt s 0 = _ := h0
    rw [e]; exact h6
  | snoc h3 h4 h5 h6 h7 ih =>
    rename_i l j i c
    intro s hb
    have hj := Path.inn hR hR.firsts h3
    have hi := hR.rows hj.1 hj.2 _ h4
    have hl := h3.some
    have h8 := ih s fun k hk => by
      rw [hb k (by simp; omega)]
      unfold at_
      rw [List.getD_eq_getElem?_getD, List.getD_eq_getElem?_getD, List.getElem?_append_left (by omega)]
    have h9 := hb l.length (by simp)
    have e1 : at_ (l ++ [c]) ((l.length : Nat) : Int) = c := by unfold at_; simp
    rw [e1] at h9
    rw [show (l ++ [c]).length - 1 = (l.length - 1) + 1 by simp; omega]
    show at_ (intoP m (zcy m (runTo m s (l.length - 1))) (byt s ((l.length - 1 + 1 : Nat) : Int))) i = true
    rw [show l.length - 1 + 1 = l.length by omega, h9]
    unfold intoP
    rw [tab_at hi.1 hi.2]
    unfold zcy
    rw [tab_at (by omega) (by omega), Int.toNat_natCast, Int.toNat_of_nonneg hi.1, h7, Bool.and_true, anyTo_iff]
    exact ⟨j.toNat, by omega, by rw [Int.toNat_of_nonneg hj.1, h8, decide_eq_true h4]; rfl⟩
end Gx
namespace Gx
open Go Go.RowKit
set_option linter.unusedSimpArgs false
set_option linter.unusedSectionVars false
set_option linter.unusedVariables false
def ltL : List Int → List Int → Bool
  | _, [] => false
  | [], _ :: _ => true
  | a :: x, b :: y => decide (a < b) || (decide (a = b) && ltL x y)
def lessL (x y : List Int) : Bool := decide (x.length < y.length) || (decide (x.length = y.length) && ltL x y)
def leL (x y : List Int) : Prop := x = y ∨ lessL x y = true
end Gx
namespace Gx
open Go Go.RowKit
set_option linter.unusedSimpArgs false
set_option linter.unusedSectionVars false
set_option linter.unusedVariables false
structure Dfa where
  part : PartM
  next : List (List Int)
  final : List Bool
deriving DecidableEq
instance : Inhabited Dfa := ⟨⟨⟨[], 0⟩, [], []⟩⟩
section
variable {S : Type} [DecidableEq S]
variable {next : S → Int → S} {n : Int} {first : S} {fin : S → Bool} {all all2 : List S} {mp mp2 : List (S × Int)} {nx : List (List Int)} {fl : List Bool} {l : List Int} {i k : Int} {s : S}
end
end Gx
namespace Gx
open Go Go.RowKit
set_option linter.unusedSimpArgs false
set_option linter.unusedSectionVars false
set_option linter.unusedVariables false
structure StepM where
  st : Int
  fr : Int
  by_ : Int
deriving DecidableEq
instance : Inhabited StepM := ⟨⟨0, 0, 0⟩⟩
end Gx
namespace Gx
open Go Go.RowKit
set_option linter.unusedSimpArgs false
set_option linter.unusedSectionVars false
set_option linter.unusedVariables false
section
variable {α β : Type} [DecidableEq α]
def KN (kvs : List (α × β)) : Prop := (kvs.map (·.1)).Nodup
end
structure Off (t : Int) (O : Int → List Int → Prop) (kvs : List (Int × ByteArray)) : Prop where
  kn : KN kvs
  len : ∀ i u, O i u → (u.length : Int) = t
  yes : ∀ p ∈ kvs, O p.1 (bytesL p.2) ∧ ∀ u, O p.1 u → leL (bytesL p.2) u
  all : ∀ i u, O i u → ∃ s, (i, s) ∈ kvs
theorem Off.congr {t : Int} {O O' : Int → List Int → Prop} {kvs : List (Int × ByteArray)} (h : Off t O kvs) (e : ∀ i u, O' i u ↔ O i u) : Off t O' kvs :=
  ⟨h.kn, fun i u hO => h.len i u ((e i u).1 hO), fun p hp => ⟨(e _ _).2 (h.yes p hp).1, fun u hu => (h.yes p hp).2 u ((e _ _).1 hu)⟩, fun i u hO => h.all i u ((e i u).1 hO)⟩
end Gx
namespace Gx
open Go Go.RowKit
set_option linter.unusedSimpArgs false
set_option linter.unusedSectionVars false
set_option linter.unusedVariables false
section
variable {P : Program} {ρ : Env} {w : World} {d : Option Tmp} {ty : TypeId} {pos : String} {af : Array Edge} {g : Option (Nat × Bool)} {x y : Operand}
end
theorem CF.sub {w : World} {ad : Addr} {cs ds : List Value} {o m : Nat} (hc : CF ad cs w) (hs : (cs.drop o).take m = ds) : CF (ad.add o) ds w := fun j v hj => by
  rw [add_add]
  refine hc _ _ ?_
  rw [← hs, List.getElem?_take] at hj
  split at hj
  · rwa [List.getElem?_drop] at hj
  · cases hj
end Gx
namespace Go.Proofs.Ythpdebieagaghaa
open Go Go.RowKit Gx
set_option maxHeartbeats 1000000
set_option linter.unusedVariables false
set_option linter.unusedSimpArgs false
attribute [local irreducible] listOf count first has zb6 wbits Lib.ctz zcu zbq rowOk tab markP intoP intoTo zcy zcd zct runTo endsIn endTo runM posTo zco greatTo anyTo allTo zc6 numsL numsIn zb3 kept lefts zc0 lastTp zcg za2 errM zdd zao lfp seekN seekB fullS zdb useN trues
theorem nfaOwn_calls (w : World) (m : Mach) (A0_0 : Option Addr) (c0_0 : Nat) (b0_0 : m.spots.length ≤ c0_0 ∧ c0_0 ≤ maxLen) (l0_0 : zbb za8 (hp w) A0_0 m.spots) (A0_1 : Option Addr) (c0_1 : Nat) (b0_1 : m.first.length ≤ c0_1 ∧ c0_1 ≤ maxLen) (l0_1 : zbb (Kd.int .i64) (hp w) A0_1 m.first) (A0_2 : Option Addr) (c0_2 : Nat) (b0_2 : m.follow.length ≤ c0_2 ∧ c0_2 ≤ maxLen) (l0_2 : zbb (Kd.int .i64).slice (hp w) A0_2 m.follow) (A0_3 : Option Addr) (c0_3 : Nat) (b0_3 : m.last.length ≤ c0_3 ∧ c0_3 ≤ maxLen) (l0_3 : zbb Kd.bool (hp w) A0_3 m.last) :
    Calls Try.prog 3 #[.agg #[.slice A0_0 m.spots.length c0_0, .slice A0_1 m.first.length c0_1, .slice A0_2 m.follow.length c0_2, .slice A0_3 m.last.length c0_3, .bool m.empty]] w fun e w' => ∃ v, e = .returned v ∧ ∃ (hn : Ghost), St w.heap.size w hn w' [] ∧ v = .bool true := by
 refine zax Try.func3 rfl Try.ntmps3 rfl ?_
 have S0 := St.init w
 have bb0_0 := b0_0.1; have bc0_0 := b0_0.2; simp only [maxLen] at bc0_0
 have bb0_1 := b0_1.1; have bc0_1 := b0_1.2; simp only [maxLen] at bc0_1
 have bb0_2 := b0_2.1; have bc0_2 := b0_2.2; simp only [maxLen] at bc0_2
 have bb0_3 := b0_3.1; have bc0_3 := b0_3.2; simp only [maxLen] at bc0_3
 have hT_ := trim_any m; have hts_ := hT_.small; have htf_ := hT_.follow; have htl_ := hT_.last
 refine zab <| zac (l := [0, 1]) rfl ?_
 obtain ⟨b1, w1, r1, g1, T1⟩ := zc1 (P := Try.prog) S0 27 (v := .agg #[.slice A0_0 m.spots.length c0_0, .slice A0_1 m.first.length c0_1, .slice A0_2 m.follow.length c0_2, .slice A0_3 m.last.length c0_3, .bool m.empty]) [.slice A0_0 m.spots.length c0_0, .slice A0_1 m.first.length c0_1, .slice A0_2 m.follow.length c0_2, .slice A0_3 m.last.length c0_3, .bool m.empty] rfl
 have S2 := T1
 dsimp only [lAa, lAn, lA0, lAs] at S2
 refine p_v (v := .pointer (some ⟨b1, 0, none⟩)) rfl rfl rfl (x_box rfl r1) <| p_v (v := .bool false) rfl rfl rfl (zad rfl) <| zaa <| zab <| zab <| zac (l := [0, 1]) rfl <| p_v (v := .agg #[.slice A0_0 m.spots.length c0_0, .slice A0_1 m.first.length c0_1, .slice A0_2 m.follow.length c0_2, .slice A0_3 m.last.length c0_3, .bool m.empty]) rfl rfl rfl (zag (seg := [.slice A0_0 m.spots.length c0_0, .slice A0_1 m.first.length c0_1, .slice A0_2 m.follow.length c0_2, .slice A0_3 m.last.length c0_3, .bool m.empty]) ty27 rfl (by simp) rfl (CF.box (m := 5) (S2.box_at (j := 0) rfl) rfl)) <| p_c rfl rfl rfl (zbp (args := [.agg #[.slice A0_0 m.spots.length c0_0, .slice A0_1 m.first.length c0_1, .slice A0_2 m.follow.length c0_2, .slice A0_3 m.last.length c0_3, .bool m.empty]]) ca5 rfl rfl) (great_calls w1 m A0_0 c0_0 b0_0 (l0_0.mono (St.le0 S2)) A0_1 c0_1 b0_1 (l0_1.mono (St.le0 S2)) A0_2 c0_2 b0_2 (l0_2.mono (St.le0 S2)) A0_3 c0_3 b0_3 (l0_3.mono (St.le0 S2))) ?_
 rintro _ w3 ⟨h3, T3, rfl⟩
 have S4 := S2.keep (Chg.of_below T3.below)
 refine zaa ?_
 refine zbe (b := zco m) rfl (fun hc5 => ?_) (fun hc5 => ?_)
 ·skip
  refine zab <| zac (l := [0, 1]) rfl <| p_c rfl rfl rfl (zbp (args := []) ca6 rfl rfl) (awake10_calls w3 ) ?_
  rintro _ w6 ⟨h6, T6, rfl⟩
  have S7 := S4.keep (Chg.of_below T6.below)
  refine p_v (v := .bool true) rfl rfl rfl (zad rfl) <| zaa <| za0 Try.func3 (res1 rfl (za3 (v := .bool true) rfl)) ?_
  have q0 : (true : Bool) = true := rfl
  refine ⟨_, rfl, (fun _ => none), ?_, ?_⟩
  · exact S7.sub [] (by decide) rfl _ rfl
  · rfl
 have hsm_ := small_of hc5
 refine zas <| zab <| zac (l := [0, 1, 2, 3]) rfl <| p_v (v := .agg #[.slice A0_0 m.spots.length c0_0, .slice A0_1 m.first.length c0_1, .slice A0_2 m.follow.length c0_2, .slice A0_3 m.last.length c0_3, .bool m.empty]) rfl rfl rfl (zag (seg := [.slice A0_0 m.spots.length c0_0, .slice A0_1 m.first.length c0_1, .slice A0_2 m.follow.length c0_2, .slice A0_3 m.last.length c0_3, .bool m.empty]) ty27 rfl (by simp) rfl (CF.box (m := 5) (S4.box_at (j := 0) rfl) rfl)) <| p_c rfl rfl rfl (zbp (args := [.agg #[.slice A0_0 m.spots.length c0_0, .slice A0_1 m.first.length c0_1, .slice A0_2 m.follow.length c0_2, .slice A0_3 m.last.length c0_3, .bool m.empty]]) ca7 rfl rfl) (copyG_calls w3 m A0_0 c0_0 b0_0 (l0_0.mono (St.le0 S4)) A0_1 c0_1 b0_1 (l0_1.mono (St.le0 S4)) A0_2 c0_2 b0_2 (l0_2.mono (St.le0 S4)) A0_3 c0_3 b0_3 (l0_3.mono (St.le0 S4)) (by assumption)) ?_
 rintro _ w9 ⟨h9, v9_0, v9_1, v9_2, us9_3, v9_4, T9, rfl⟩
 obtain ⟨k9, lk9, ll9, U9⟩ := zbg S4 T9
 have S10 := U9
 dsimp only [lAa, lAn, lA0, lAs] at S10
 have gl11 := zbn S10 (j := 4) rfl
 obtain ⟨b12, w12, r12, g12, T12⟩ := zc1 (P := Try.prog) S10 27 (v := (.agg #[.slice none 0 0, .slice none 0 0, .slice none 0 0, .slice none 0 0, .bool false])) [.slice none 0 0, .slice none 0 0, .slice none 0 0, .slice none 0 0, .bool false] rfl
 have S13 := T12
 dsimp only [lAa, lAn, lA0, lAs] at S13
 refine p_v (v := .pointer (some ⟨b12, 0, none⟩)) rfl rfl rfl (zck ty27 r12) ?_
 have oc15 := za5 S13 (j := 1) rfl
 have oc16 := za5 S13 (j := 2) rfl
 have oc17 := za5 S13 (j := 3) rfl
 have oc18 := za5 S13 (j := 5) rfl
 obtain ⟨w14, r14, g14, T14⟩ := zbf (P := Try.prog) (off := 0) (v := .agg #[v9_0, v9_1, v9_2, v9_4, .bool m.empty]) (vs := [v9_0, v9_1, v9_2, v9_4, .bool m.empty]) S13 ty27 rfl rfl (j := 6) rfl (by first | decide | exact Nat.le_of_ble_eq_true rfl) (zai oc15 (zai oc16 (zai oc17 (zai oc18 (zai rfl zbt)))))
 have S19 := T14.fx 6 (box b12 27 [v9_0, v9_1, v9_2, v9_4, .bool m.empty]) rfl
 dsimp only [lAa, lAn, lA0, lAs] at S19
 refine p_s rfl rfl (za7 rfl rfl r14) <| zaa <| zab <| zac (l := [0, 1, 2, 3]) rfl <| p_v (v := .agg #[v9_0, v9_1, v9_2, v9_4, .bool m.empty]) rfl rfl rfl (zag (seg := [v9_0, v9_1, v9_2, v9_4, .bool m.empty]) ty27 rfl (by simp) rfl (CF.box (m := 5) (S19.box_at (j := 6) rfl) rfl)) ?_
 obtain ⟨A20, c20, ev20, lc20, cm20⟩ := S19.row_val (j := 1) rfl
 obtain ⟨A21, c21, ev21, lc21, cm21⟩ := S19.row_val (j := 2) rfl
 obtain ⟨A22, c22, ev22, lc22, cm22⟩ := grid_val S19 (i := 3) (j := 4) rfl rfl
 obtain ⟨A23, c23, ev23, lc23, cm23⟩ := S19.row_val (j := 5) rfl
 refine p_c rfl rfl rfl (zbp (args := [.agg #[.slice A20 m.spots.length c20, .slice A21 m.first.length c21, .slice A22 m.follow.length c22, .slice A23 m.last.length c23, .bool m.empty]]) ca7 rfl (zcw (Eq.trans (b := .agg #[v9_0, v9_1, v9_2, v9_4, .bool m.empty]) rfl (by rw [ev20, ev21, ev22, ev23])) rfl)) (copyG_calls w14 m A20 c20 (And.intro lc20 cm20) (zbi S19 (j := 1) rfl ev20) A21 c21 (And.intro lc21 cm21) (zbi S19 (j := 2) rfl ev21) A22 c22 (And.intro lc22 cm22) (grid_leads S19 (i := 3) (j := 4) rfl rfl (by decide) ev22) A23 c23 (And.intro lc23 cm23) (zbi S19 (j := 5) rfl ev23) (by assumption)) ?_
 rintro _ w24 ⟨h24, v24_0, v24_1, v24_2, us24_3, v24_4, T24, rfl⟩
 obtain ⟨k24, lk24, ll24, U24⟩ := zbg S19 T24
 have lc24_0 := (lk9).trans lk24
 have S25 := U24
 dsimp only [lAa, lAn, lA0, lAs] at S25
 have gl26 := zbn S25 (j := 10) rfl
 obtain ⟨b27, w27, r27, g27, T27⟩ := zc1 (P := Try.prog) S25 27 (v := (.agg #[.slice none 0 0, .slice none 0 0, .slice none 0 0, .slice none 0 0, .bool false])) [.slice none 0 0, .slice none 0 0, .slice none 0 0, .slice none 0 0, .bool false] rfl
 have S28 := T27
 dsimp only [lAa, lAn, lA0, lAs] at S28
 refine p_v (v := .pointer (some ⟨b27, 0, none⟩)) rfl rfl rfl (zck ty27 r27) ?_
 have oc30 := za5 S28 (j := 7) rfl
 have oc31 := za5 S28 (j := 8) rfl
 have oc32 := za5 S28 (j := 9) rfl
 have oc33 := za5 S28 (j := 11) rfl
 obtain ⟨w29, r29, g29, T29⟩ := zbf (P := Try.prog) (off := 0) (v := .agg #[v24_0, v24_1, v24_2, v24_4, .bool m.empty]) (vs := [v24_0, v24_1, v24_2, v24_4, .bool m.empty]) S28 ty27 rfl rfl (j := 12) rfl (by first | decide | exact Nat.le_of_ble_eq_true rfl) (zai oc30 (zai oc31 (zai oc32 (zai oc33 (zai rfl zbt)))))
 have S34 := T29.fx 12 (box b27 27 [v24_0, v24_1, v24_2, v24_4, .bool m.empty]) rfl
 dsimp only [lAa, lAn, lA0, lAs] at S34
 refine p_s rfl rfl (za7 rfl rfl r29) <| zaa <| zab <| zac (l := [0, 1, 2, 3, 4, 5, 6, 7]) rfl <| p_v (v := .agg #[v9_0, v9_1, v9_2, v9_4, .bool m.empty]) rfl rfl rfl (zag (seg := [v9_0, v9_1, v9_2, v9_4, .bool m.empty]) ty27 rfl (by simp) rfl (CF.box (m := 5) (S34.box_at (j := 6) rfl) rfl)) ?_
 obtain ⟨A35, c35, ev35, lc35, cm35⟩ := S34.row_val (j := 1) rfl
 obtain ⟨A36, c36, ev36, lc36, cm36⟩ := S34.row_val (j := 2) rfl
 obtain ⟨A37, c37, ev37, lc37, cm37⟩ := grid_val S34 (i := 3) (j := 4) rfl rfl
 obtain ⟨A38, c38, ev38, lc38, cm38⟩ := S34.row_val (j := 5) rfl
 refine p_c rfl rfl rfl (zbp (args := [.agg #[.slice A35 m.spots.length c35, .slice A36 m.first.length c36, .slice A37 m.follow.length c37, .slice A38 m.last.length c38, .bool m.empty]]) ca8 rfl (zcw (Eq.trans (b := .agg #[v9_0, v9_1, v9_2, v9_4, .bool m.empty]) rfl (by rw [ev35, ev36, ev37, ev38])) rfl)) (trimG_calls w29 m A35 c35 (And.intro lc35 cm35) (zbi S34 (j := 1) rfl ev35) A36 c36 (And.intro lc36 cm36) (zbi S34 (j := 2) rfl ev36) A37 c37 (And.intro lc37 cm37) (grid_leads S34 (i := 3) (j := 4) rfl rfl (by decide) ev37) A38 c38 (And.intro lc38 cm38) (zbi S34 (j := 5) rfl ev38)) ?_
 rintro _ w39 ⟨h39, v39_0, v39_1, v39_2, us39_3, v39_4, T39, rfl, in39_0⟩
 obtain ⟨k39, lk39, ll39, U39⟩ := zbg S34 T39
 have lc39_0 := (lc24_0).trans lk39
 have lc39_1 := (lk24).trans lk39
 have S40 := U39
 dsimp only [lAa, lAn, lA0, lAs] at S40
 have lo_in39_0 := zbk in39_0; have hi_in39_0 := zbl in39_0
 have gl41 := zbn S40 (j := 16) rfl
 refine p_v (v := .tuple #[.agg #[v39_0, v39_1, v39_2, v39_4, .bool ((za2 m).empty)], .int .i64 (errM m)]) rfl rfl rfl (zae rfl) <| p_v (v := .agg #[v39_0, v39_1, v39_2, v39_4, .bool ((za2 m).empty)]) rfl rfl rfl (x_extract (vs := [.agg #[v39_0, v39_1, v39_2, v39_4, .bool ((za2 m).empty)], .int .i64 (errM m)]) rfl rfl) <| p_v (v := .int .i64 (errM m)) rfl rfl rfl (x_extract (vs := [.agg #[v39_0, v39_1, v39_2, v39_4, .bool ((za2 m).empty)], .int .i64 (errM m)]) rfl rfl) ?_
 obtain ⟨b42, w42, r42, g42, T42⟩ := zc1 (P := Try.prog) S40 27 (v := (.agg #[.slice none 0 0, .slice none 0 0, .slice none 0 0, .slice none 0 0, .bool false])) [.slice none 0 0, .slice none 0 0, .slice none 0 0, .slice none 0 0, .bool false] rfl
 have S43 := T42
 dsimp only [lAa, lAn, lA0, lAs] at S43
 refine p_v (v := .pointer (some ⟨b42, 0, none⟩)) rfl rfl rfl (zck ty27 r42) ?_
 have oc45 := za5 S43 (j := 13) rfl
 have oc46 := za5 S43 (j := 14) rfl
 have oc47 := za5 S43 (j := 15) rfl
 have oc48 := za5 S43 (j := 17) rfl
 obtain ⟨w44, r44, g44, T44⟩ := zbf (P := Try.prog) (off := 0) (v := .agg #[v39_0, v39_1, v39_2, v39_4, .bool ((za2 m).empty)]) (vs := [v39_0, v39_1, v39_2, v39_4, .bool ((za2 m).empty)]) S43 ty27 rfl rfl (j := 18) rfl (by first | decide | exact Nat.le_of_ble_eq_true rfl) (zai oc45 (zai oc46 (zai oc47 (zai oc48 (zai rfl zbt)))))
 have S49 := T44.fx 18 (box b42 27 [v39_0, v39_1, v39_2, v39_4, .bool ((za2 m).empty)]) rfl
 dsimp only [lAa, lAn, lA0, lAs] at S49
 refine p_s rfl rfl (za7 rfl rfl r44) <| p_v (v := .int .i64 (errM m)) rfl rfl rfl (zad rfl) <| zaa <| zab <| zab <| zac (l := [0]) rfl <| p_v (v := .int .i64 0) rfl rfl rfl (zad rfl) <| zaa <| zal <| zbm (S := (List Int) × Int) (fun (q_ : (List Int) × Int) ρ w' => match q_ with | (t_1, i) => ∃ (h : Ghost) (v_t_1 : Value), Le k39 h ∧ St w.heap.size w h w' [box b1 27 [.slice A0_0 m.spots.length c0_0, .slice A0_1 m.first.length c0_1, .slice A0_2 m.follow.length c0_2, .slice A0_3 m.last.length c0_3, .bool m.empty], row 38 za8 v9_0 m.spots, row 3 (Kd.int .i64) v9_1 m.first, row 23 kRaw v9_2 us9_3, grid 3 (Kd.int .i64) us9_3 m.follow, row 4 Kd.bool v9_4 m.last, box b12 27 [v9_0, v9_1, v9_2, v9_4, .bool m.empty], row 38 za8 v24_0 m.spots, row 3 (Kd.int .i64) v24_1 m.first, row 23 kRaw v24_2 us24_3, grid 3 (Kd.int .i64) us24_3 m.follow, row 4 Kd.bool v24_4 m.last, box b27 27 [v24_0, v24_1, v24_2, v24_4, .bool m.empty], row 38 za8 v39_0 ((za2 m).spots), row 3 (Kd.int .i64) v_t_1 t_1, row 23 kRaw v39_2 us39_3, grid 3 (Kd.int .i64) us39_3 ((za2 m).follow), row 4 Kd.bool v39_4 ((za2 m).last), box b42 27 [v39_0, v_t_1, v39_2, v39_4, .bool ((za2 m).empty)]] ∧ ρ 1 = .pointer (some ⟨b1, 0, none⟩) ∧ ρ 3 = .pointer (some ⟨b12, 0, none⟩) ∧ ρ 4 = .pointer (some ⟨b27, 0, none⟩) ∧ ρ 5 = .pointer (some ⟨b42, 0, none⟩) ∧ ρ 7 = .int .i64 i ∧ inK .i64 i ∧ (0 ≤ i ∧ From i t_1 (za2 m).first)) (fun q_ => match q_ with | (t_1, i) => ((za2 m).first.length - i).toNat) ((za2 m).first, 0) ⟨k39, v39_1, Le.refl _, S49.sub [0, 1, 2, 3, 4, 5, 6, 7, 8, 9, 10, 11, 12, 13, 14, 15, 16, 17, 18] (by decide) rfl _ rfl, rfl, rfl, rfl, rfl, rfl, (zah (by first|omega|(simp;omega)|assumption) (by first|omega|(simp;omega)|assumption)), (by exact ⟨by omega, from_0 _ _⟩)⟩ ?_
 rintro ⟨t_1, i⟩ ih50 ρ50 w50 ⟨h50, v_t_1, le50, S50, r50_1, r50_3, r50_4, r50_5, r50_7, f50_0, hI50⟩
 have lf50_0 := zbk f50_0; have hf50_0 := zbl f50_0
 have rl50_1 := S50.row_le (j := 1) rfl; simp only [maxLen] at rl50_1
 have rl50_2 := S50.row_le (j := 2) rfl; simp only [maxLen] at rl50_2
 have rl50_3 := S50.row_le (j := 3) rfl; simp only [maxLen] at rl50_3
 have gl50_4 := zbn S50 (j := 4) rfl
 have rl50_5 := S50.row_le (j := 5) rfl; simp only [maxLen] at rl50_5
 have rl50_7 := S50.row_le (j := 7) rfl; simp only [maxLen] at rl50_7
 have rl50_8 := S50.row_le (j := 8) rfl; simp only [maxLen] at rl50_8
 have rl50_9 := S50.row_le (j := 9) rfl; simp only [maxLen] at rl50_9
 have gl50_10 := zbn S50 (j := 10) rfl
 have rl50_11 := S50.row_le (j := 11) rfl; simp only [maxLen] at rl50_11
 have rl50_13 := S50.row_le (j := 13) rfl; simp only [maxLen] at rl50_13
 have rl50_14 := S50.row_le (j := 14) rfl; simp only [maxLen] at rl50_14
 have rl50_15 := S50.row_le (j := 15) rfl; simp only [maxLen] at rl50_15
 have gl50_16 := zbn S50 (j := 16) rfl
 have rl50_17 := S50.row_le (j := 17) rfl; simp only [maxLen] at rl50_17
 have hl0_ := hI50.2.1; have hb0_ := fun (h : i < ((za2 m).first.length : Int)) => hT_.firsts _ (at_mem hI50.1 h)
 have he0_ : at_ t_1 i = at_ (za2 m).first i := hI50.2.2 i (by omega)
 refine zab <| zab <| zac (l := [0, 1, 2, 3, 4]) rfl <| p_v (v := .int .i64 i) rfl rfl rfl (zae r50_7) <| p_v (v := .pointer (some ⟨b42, 1, none⟩)) rfl rfl rfl (zaf fd27_1 ty23 rfl r50_5) <| p_v (v := v_t_1) rfl rfl rfl (zag (seg := [v_t_1]) ty23 rfl (by simp) rfl (CF.box (m := 1) (S50.box_at (j := 18) rfl) rfl)) ?_
 have lb51 := S50.row_le (j := 14) rfl; simp only [maxLen] at lb51
 refine p_v (v := .int .i64 (t_1.length : Int)) rfl rfl rfl (zcm u23 rfl (zcq S50 (j := 14) rfl)) <| p_v (v := .bool (decide (i < (t_1.length : Int)))) rfl rfl rfl (x_lss rfl rfl) <| zaa ?_
 refine zak (p := i < (t_1.length : Int)) rfl (fun hc52 => ?_) (fun hc52 => ?_)
 ·skip
  refine zas <| zab <| zal <| zac (l := [0, 1, 2, 3, 4, 5, 6, 7]) rfl <| p_v (v := .pointer (some ⟨b42, 1, none⟩)) rfl rfl rfl (zaf fd27_1 ty23 rfl r50_5) <| p_v (v := v_t_1) rfl rfl rfl (zag (seg := [v_t_1]) ty23 rfl (by simp) rfl (CF.box (m := 1) (S50.box_at (j := 18) rfl) rfl)) <| p_v (v := .int .i64 i) rfl rfl rfl (zae r50_7) ?_
  obtain ⟨ad53, a53, at53⟩ := za4 (q := i) (m := 1) S50 (j := 14) rfl rfl (by first|omega|(simp;omega)|assumption) (by first|omega|(simp;omega)|assumption)
  refine p_v (v := .pointer (some ad53)) rfl rfl rfl (za1 u23 ty3 rfl rfl a53 (by first|omega|(simp;omega)|assumption) (by first|omega|(simp;omega)|assumption)) ?_
  obtain ⟨seg54, rp54, cf54⟩ := zb4 (q := i) S50 (j := 14) rfl rfl at53 (by first|omega|(simp;omega)|assumption) (by first|omega|(simp;omega)|assumption)
  obtain ⟨rfl, in54⟩ := rp54
  have lo54 := zbk in54; have hi54 := zbl in54
  refine p_v (v := .int .i64 (at_ t_1 i)) rfl rfl rfl (zag (seg := [.int .i64 (at_ t_1 i)]) ty3 rfl (by simp) rfl cf54) <| p_v (v := .int .i64 ((at_ t_1 i) + 1)) rfl rfl rfl (zb9 rfl rfl (zah (by first|omega|(simp;omega)|assumption) (by first|omega|(simp;omega)|assumption))) ?_
  obtain ⟨ad55, a55, at55⟩ := za4 (q := i) (m := 1) S50 (j := 14) rfl rfl (by first|omega|(simp;omega)|assumption) (by first|omega|(simp;omega)|assumption)
  refine p_v (v := .pointer (some ad55)) rfl rfl rfl (za1 u23 ty3 rfl rfl a55 (by first|omega|(simp;omega)|assumption) (by first|omega|(simp;omega)|assumption)) ?_
  obtain ⟨w56, r56, g56, T56⟩ := zb7 (u := .int .i64 ((at_ t_1 i) + 1)) (q := i) ((at_ t_1 i) + 1) (vs := [.int .i64 ((at_ t_1 i) + 1)]) S50 ty3 rfl (j := 14) rfl rfl ⟨rfl, (zah (by first|omega|(simp;omega)|assumption) (by first|omega|(simp;omega)|assumption))⟩ at55 (by first|omega|(simp;omega)|assumption) (by first|omega|(simp;omega)|assumption)
  have S57 := T56.fx 14 (row 3 (Kd.int .i64) v_t_1 (t_1.set (i).toNat ((at_ t_1 i) + 1))) rfl
  dsimp only [lAa, lAn, lA0, lAs] at S57
  refine p_s rfl rfl (za7 rfl rfl r56) <| zaa <| zar <| zac (l := [0, 1, 2]) rfl <| p_v (v := .int .i64 i) rfl rfl rfl (zae r50_7) <| p_v (v := .int .i64 (i + 1)) rfl rfl rfl (zb9 rfl rfl (zah (by first|omega|(simp;omega)|assumption) (by first|omega|(simp;omega)|assumption))) <| p_v (v := .int .i64 (i + 1)) rfl rfl rfl (zad rfl) <| zaa ?_
  refine ih50 (t_1.set (i).toNat ((at_ t_1 i) + 1), i + 1) _ _ (by dsimp only; omega) ⟨h50, v_t_1, le50, S57.sub [0, 1, 2, 3, 4, 5, 6, 7, 8, 9, 10, 11, 12, 13, 14, 15, 16, 17, 18] (by decide) rfl _ rfl, r50_1, r50_3, r50_4, r50_5, rfl, (zah (by first|omega|(simp;omega)|assumption) (by first|omega|(simp;omega)|assumption)), (by exact ⟨by omega, from_set hI50.2 hI50.1⟩)⟩
 refine zbd rfl <| zab <| zab <| zac (l := [0]) rfl <| p_v (v := .int .i64 0) rfl rfl rfl (zad rfl) <| zaa <| zal <| zbm (S := (List Spot) × (List Bool) × (List (List Int)) × Int) (fun (q_ : (List Spot) × (List Bool) × (List (List Int)) × Int) ρ w' => match q_ with | (t_0, t_3, t_2, i2) => ∃ (h : Ghost) (v_t_0 : Value) (v_t_3 : Value), Le h50 h ∧ St w.heap.size w h w' [box b1 27 [.slice A0_0 m.spots.length c0_0, .slice A0_1 m.first.length c0_1, .slice A0_2 m.follow.length c0_2, .slice A0_3 m.last.length c0_3, .bool m.empty], row 38 za8 v9_0 m.spots, row 3 (Kd.int .i64) v9_1 m.first, row 23 kRaw v9_2 us9_3, grid 3 (Kd.int .i64) us9_3 m.follow, row 4 Kd.bool v9_4 m.last, box b12 27 [v9_0, v9_1, v9_2, v9_4, .bool m.empty], row 38 za8 v24_0 m.spots, row 3 (Kd.int .i64) v24_1 m.first, row 23 kRaw v24_2 us24_3, grid 3 (Kd.int .i64) us24_3 m.follow, row 4 Kd.bool v24_4 m.last, box b27 27 [v24_0, v24_1, v24_2, v24_4, .bool m.empty], row 38 za8 v_t_0 t_0, row 3 (Kd.int .i64) v_t_1 t_1, row 23 kRaw v39_2 us39_3, grid 3 (Kd.int .i64) us39_3 t_2, row 4 Kd.bool v_t_3 t_3, box b42 27 [v_t_0, v_t_1, v39_2, v_t_3, .bool ((za2 m).empty)]] ∧ ρ 1 = .pointer (some ⟨b1, 0, none⟩) ∧ ρ 3 = .pointer (some ⟨b12, 0, none⟩) ∧ ρ 4 = .pointer (some ⟨b27, 0, none⟩) ∧ ρ 5 = .pointer (some ⟨b42, 0, none⟩) ∧ ρ 8 = .int .i64 i2 ∧ inK .i64 i2 ∧ (0 ≤ i2 ∧ From i2 t_2 (za2 m).follow ∧ From i2 t_0 (za2 m).spots ∧ t_3.length = (za2 m).last.length)) (fun q_ => match q_ with | (t_0, t_3, t_2, i2) => ((za2 m).follow.length - i2).toNat) ((za2 m).spots, (za2 m).last, (za2 m).follow, 0) ⟨h50, v39_0, v39_4, Le.refl _, S50.sub [0, 1, 2, 3, 4, 5, 6, 7, 8, 9, 10, 11, 12, 13, 14, 15, 16, 17, 18] (by decide) rfl _ rfl, r50_1, r50_3, r50_4, r50_5, rfl, (zah (by first|omega|(simp;omega)|assumption) (by first|omega|(simp;omega)|assumption)), (by exact ⟨by omega, from_0 _ _, from_0 _ _, rfl⟩)⟩ ?_
 rintro ⟨t_0, t_3, t_2, i2⟩ ih58 ρ58 w58 ⟨h58, v_t_0, v_t_3, le58, S58, r58_1, r58_3, r58_4, r58_5, r58_8, f58_0, hI58⟩
 have lf58_0 := zbk f58_0; have hf58_0 := zbl f58_0
 have rl58_1 := S58.row_le (j := 1) rfl; simp only [maxLen] at rl58_1
 have rl58_2 := S58.row_le (j := 2) rfl; simp only [maxLen] at rl58_2
 have rl58_3 := S58.row_le (j := 3) rfl; simp only [maxLen] at rl58_3
 have gl58_4 := zbn S58 (j := 4) rfl
 have rl58_5 := S58.row_le (j := 5) rfl; simp only [maxLen] at rl58_5
 have rl58_7 := S58.row_le (j := 7) rfl; simp only [maxLen] at rl58_7
 have rl58_8 := S58.row_le (j := 8) rfl; simp only [maxLen] at rl58_8
 have rl58_9 := S58.row_le (j := 9) rfl; simp only [maxLen] at rl58_9
 have gl58_10 := zbn S58 (j := 10) rfl
 have rl58_11 := S58.row_le (j := 11) rfl; simp only [maxLen] at rl58_11
 have rl58_13 := S58.row_le (j := 13) rfl; simp only [maxLen] at rl58_13
 have rl58_14 := S58.row_le (j := 14) rfl; simp only [maxLen] at rl58_14
 have rl58_15 := S58.row_le (j := 15) rfl; simp only [maxLen] at rl58_15
 have gl58_16 := zbn S58 (j := 16) rfl
 have rl58_17 := S58.row_le (j := 17) rfl; simp only [maxLen] at rl58_17
 have hl1_ := hI58.2.1.1; have hl2_ := hI58.2.2.1.1; have hl3_ := hI58.2.2.2; have ht1_ := fun (h : i2 < ((za2 m).spots.length : Int)) => hT_.tag i2 hI58.1 h
 have he1_ : (at_ t_0 i2).tag = (at_ (za2 m).spots i2).tag := congrArg Spot.tag (hI58.2.2.1.2 i2 (by omega))
 have hgf_ : at_ t_2 i2 = at_ (za2 m).follow i2 := hI58.2.1.2 i2 (by omega)
 have hgn_ : (at_ t_2 i2).length = (at_ (za2 m).follow i2).length := by rw [hgf_]
 refine zab <| zab <| zac (l := [0, 1, 2, 3, 4]) rfl <| p_v (v := .int .i64 i2) rfl rfl rfl (zae r58_8) <| p_v (v := .pointer (some ⟨b42, 2, none⟩)) rfl rfl rfl (zaf zcr ty24 rfl r58_5) <| p_v (v := v39_2) rfl rfl rfl (zag (seg := [v39_2]) ty24 rfl (by simp) rfl (CF.box (m := 1) (S58.box_at (j := 18) rfl) rfl)) ?_
 have lb59 := S58.row_le (j := 15) rfl; simp only [maxLen] at lb59
 refine p_v (v := .int .i64 (us39_3.length : Int)) rfl rfl rfl (zcm u24 rfl (zcq S58 (j := 15) rfl)) <| p_v (v := .bool (decide (i2 < (us39_3.length : Int)))) rfl rfl rfl (x_lss rfl rfl) <| zaa ?_
 refine zak (p := i2 < (us39_3.length : Int)) rfl (fun hc60 => ?_) (fun hc60 => ?_)
 ·skip
  refine zas <| zab <| zal <| zab <| zac (l := [0, 1, 2, 3, 4, 5, 6, 7, 8, 9]) rfl <| p_v (v := .pointer (some ⟨b42, 0, none⟩)) rfl rfl rfl (zaf zcp ty22 rfl r58_5) <| p_v (v := v_t_0) rfl rfl rfl (zag (seg := [v_t_0]) ty22 rfl (by simp) rfl (CF.box (m := 1) (S58.box_at (j := 18) rfl) rfl)) <| p_v (v := .int .i64 i2) rfl rfl rfl (zae r58_8) ?_
  obtain ⟨ad61, a61, at61⟩ := za4 (q := i2) (m := 5) S58 (j := 13) rfl rfl (by first|omega|(simp;omega)|assumption) (by first|omega|(simp;omega)|assumption)
  refine p_v (v := .pointer (some ad61)) rfl rfl rfl (za1 u22 ty38 rfl rfl a61 (by first|omega|(simp;omega)|assumption) (by first|omega|(simp;omega)|assumption)) <| p_v (v := .pointer (some (ad61.add 4))) rfl rfl rfl (x_fieldAd fd38_1 ty5 rfl rfl) ?_
  obtain ⟨seg62, rp62, cf62⟩ := zb4 (q := i2) S58 (j := 13) rfl rfl at61 (by first|omega|(simp;omega)|assumption) (by first|omega|(simp;omega)|assumption)
  obtain ⟨rfl, ok62⟩ := rp62
  have slook62 := u8_lo ok62; have shiok62 := u8_hi ok62
  refine p_v (v := .int .u8 ((at_ t_0 i2).tag)) rfl rfl rfl (zag (seg := [.int .u8 ((at_ t_0 i2).tag)]) ty5 rfl (by simp) rfl (CF.sub (o := 4) (m := 1) (ds := [.int .u8 ((at_ t_0 i2).tag)]) cf62 rfl)) <| p_v (v := .int .u8 (((at_ t_0 i2).tag) + 1)) rfl rfl rfl (zb9 rfl rfl (in_u8 (by first|omega|(simp;omega)|assumption) (by first|omega|(simp;omega)|assumption))) ?_
  obtain ⟨ad63, a63, at63⟩ := za4 (q := i2) (m := 5) S58 (j := 13) rfl rfl (by first|omega|(simp;omega)|assumption) (by first|omega|(simp;omega)|assumption)
  refine p_v (v := .pointer (some ad63)) rfl rfl rfl (za1 u22 ty38 rfl rfl a63 (by first|omega|(simp;omega)|assumption) (by first|omega|(simp;omega)|assumption)) <| p_v (v := .pointer (some (ad63.add 4))) rfl rfl rfl (x_fieldAd fd38_1 ty5 rfl rfl) ?_
  have ok65 : ∀ seg, za8.rep h58 (at_ t_0 i2) seg → za8.rep h58 (⟨(at_ t_0 i2).set, ((at_ t_0 i2).tag) + 1⟩ : Spot) (lput seg 4 [.int .u8 (((at_ t_0 i2).tag) + 1)]) := fun seg hs => spot_tag hs (in_u8 (by first|omega|(simp;omega)|assumption) (by first|omega|(simp;omega)|assumption))
  obtain ⟨w64, r64, g64, T64⟩ := e_store_part (u := .int .u8 (((at_ t_0 i2).tag) + 1)) (q := i2) (m := 1) (n := 5) (o := 4) (⟨(at_ t_0 i2).set, ((at_ t_0 i2).tag) + 1⟩ : Spot) (vs := [.int .u8 (((at_ t_0 i2).tag) + 1)]) S58 ty5 rfl (j := 13) rfl rfl (zai rfl zbt) rfl (by decide) ok65 at63 (by first|omega|(simp;omega)|assumption) (by first|omega|(simp;omega)|assumption)
  have S66 := T64.fx 13 (row 38 za8 v_t_0 (t_0.set (i2).toNat (⟨(at_ t_0 i2).set, ((at_ t_0 i2).tag) + 1⟩ : Spot))) rfl
  dsimp only [lAa, lAn, lA0, lAs] at S66
  refine p_s rfl rfl (za7 rfl rfl r64) <| zaa <| zab ?_
  obtain ⟨ad67, a67, at67⟩ := za4 (q := i2) (m := 1) S66 (j := 17) rfl rfl (by first|omega|(simp;omega)|assumption) (by first|omega|(simp;omega)|assumption)
  obtain ⟨seg68, rp68, cf68⟩ := zb4 (q := i2) S66 (j := 17) rfl rfl at67 (by first|omega|(simp;omega)|assumption) (by first|omega|(simp;omega)|assumption)
  obtain ⟨rfl, _⟩ := rp68
  obtain ⟨ad69, a69, at69⟩ := za4 (q := i2) (m := 1) S66 (j := 17) rfl rfl (by first|omega|(simp;omega)|assumption) (by first|omega|(simp;omega)|assumption)
  have hf70 : (CFs ⟨b42, 3, none⟩ [v_t_3]).1 w64 := (CF.box (m := 1) (S66.box_at (j := 18) rfl) rfl)
  have hf71 : (CFs ⟨b42, 3, none⟩ [v_t_3]).1 w64 := (CF.box (m := 1) (S66.box_at (j := 18) rfl) rfl)
  have hf72 : (CFs ad67 [.bool (at_ t_3 i2)]).1 w64 := cf68
  refine daS (hkC 1 hf70 (hkC 4 hf71 (hkC 7 hf72 (hkN (w := w64))))) 11 rfl mixed ?_
  intro wd73 gd73 hd73
  have S74 := S66.keep gd73
  have hf75 := spUp gd73 hf70
  have hf76 := spUp gd73 hf71
  have hf77 := spUp gd73 hf72
  refine qd0 (i := 0) (v := .pointer (some ⟨b42, 3, none⟩)) rfl (by decide +kernel) rfl rfl (zaf zc8 ty25 rfl r58_5) (zav rfl) <| qd1 0 (i := 1) (v := v_t_3) rfl rfl (by decide +kernel) rfl rfl (fun wq hq => (zag (seg := [v_t_3]) ty25 rfl (by simp) rfl hq)) (zcf hf75 (zav rfl)) <| qd0 (i := 2) (v := .int .i64 i2) rfl (by decide +kernel) rfl rfl (zae r58_8) (zav rfl) <| qd0 (i := 3) (v := .pointer (some ⟨b42, 3, none⟩)) rfl (by decide +kernel) rfl rfl (zaf zc8 ty25 rfl r58_5) (zav rfl) <| qd1 1 (i := 4) (v := v_t_3) rfl rfl (by decide +kernel) rfl rfl (fun wq hq => (zag (seg := [v_t_3]) ty25 rfl (by simp) rfl hq)) (zbw rfl (zcf hf76 (zav rfl))) <| qd0 (i := 5) (v := .int .i64 i2) rfl (by decide +kernel) rfl rfl (zae r58_8) (zav rfl) <| qd0 (i := 6) (v := .pointer (some ad67)) rfl (by decide +kernel) rfl rfl (za1 u25 ty4 rfl rfl a67 (by first|omega|(simp;omega)|assumption) (by first|omega|(simp;omega)|assumption)) (zav rfl) <| qd1 2 (i := 7) (v := .bool (at_ t_3 i2)) rfl rfl (by decide +kernel) rfl rfl (fun wq hq => (zag (seg := [.bool (at_ t_3 i2)]) ty4 rfl (by simp) rfl hq)) (zbw rfl (zbw rfl (zcf hf77 (zav rfl)))) <| qd0 (i := 8) (v := .bool (!(at_ t_3 i2))) rfl (by decide +kernel) rfl rfl (x_not rfl) (zav rfl) <| qd0 (i := 9) (v := .pointer (some ad69)) rfl (by decide +kernel) rfl rfl (za1 u25 ty4 rfl rfl a69 (by first|omega|(simp;omega)|assumption) (by first|omega|(simp;omega)|assumption)) (zav rfl) <| zbj (i := 10) (by decide +kernel) ?_
  intro wd78 gd78
  have S79 := S74.keep gd78
  have hf80 := spUp gd78 hf75
  have hf81 := spUp gd78 hf76
  have hf82 := spUp gd78 hf77
  obtain ⟨w83, r83, g83, T83⟩ := zb7 (u := .bool (!(at_ t_3 i2))) (q := i2) (!(at_ t_3 i2)) (vs := [.bool (!(at_ t_3 i2))]) S79 ty4 rfl (j := 17) rfl rfl ⟨rfl, trivial⟩ at69 (by first|omega|(simp;omega)|assumption) (by first|omega|(simp;omega)|assumption)
  have S84 := T83.fx 17 (row 4 Kd.bool v_t_3 (t_3.set (i2).toNat (!(at_ t_3 i2)))) rfl
  dsimp only [lAa, lAn, lA0, lAs] at S84
  have hf85 : (CFs ⟨b42, 3, none⟩ [v_t_3]).1 w83 := (CF.box (m := 1) (S84.box_at (j := 18) rfl) rfl)
  have hf86 : (CFs ⟨b42, 3, none⟩ [v_t_3]).1 w83 := (CF.box (m := 1) (S84.box_at (j := 18) rfl) rfl)
  refine d_s rfl rfl (za7 rfl rfl r83) (.inr (zau (by decide +kernel) (zau (by decide +kernel) (zau (by decide +kernel) trivial)))) <| zcv (by decide +kernel) ?_
  intro wd87 gd87
  have S88 := S84.keep gd87
  refine zab <| zac (l := [0]) rfl <| p_v (v := .int .i64 0) rfl rfl rfl (zad rfl) <| zaa <| zal <| zbm (S := (List (List Int)) × Int) (fun (q_ : (List (List Int)) × Int) ρ w' => match q_ with | (t_22, k) => ∃ (h : Ghost), Le h58 h ∧ St w.heap.size w h w' [box b1 27 [.slice A0_0 m.spots.length c0_0, .slice A0_1 m.first.length c0_1, .slice A0_2 m.follow.length c0_2, .slice A0_3 m.last.length c0_3, .bool m.empty], row 38 za8 v9_0 m.spots, row 3 (Kd.int .i64) v9_1 m.first, row 23 kRaw v9_2 us9_3, grid 3 (Kd.int .i64) us9_3 m.follow, row 4 Kd.bool v9_4 m.last, box b12 27 [v9_0, v9_1, v9_2, v9_4, .bool m.empty], row 38 za8 v24_0 m.spots, row 3 (Kd.int .i64) v24_1 m.first, row 23 kRaw v24_2 us24_3, grid 3 (Kd.int .i64) us24_3 m.follow, row 4 Kd.bool v24_4 m.last, box b27 27 [v24_0, v24_1, v24_2, v24_4, .bool m.empty], row 38 za8 v_t_0 (t_0.set (i2).toNat (⟨(at_ t_0 i2).set, ((at_ t_0 i2).tag) + 1⟩ : Spot)), row 3 (Kd.int .i64) v_t_1 t_1, row 23 kRaw v39_2 us39_3, grid 3 (Kd.int .i64) us39_3 t_22, row 4 Kd.bool v_t_3 (t_3.set (i2).toNat (!(at_ t_3 i2))), box b42 27 [v_t_0, v_t_1, v39_2, v_t_3, .bool ((za2 m).empty)]] ∧ ρ 1 = .pointer (some ⟨b1, 0, none⟩) ∧ ρ 3 = .pointer (some ⟨b12, 0, none⟩) ∧ ρ 4 = .pointer (some ⟨b27, 0, none⟩) ∧ ρ 5 = .pointer (some ⟨b42, 0, none⟩) ∧ ρ 8 = .int .i64 i2 ∧ ρ 9 = .int .i64 k ∧ inK .i64 k ∧ (0 ≤ k ∧ GridI t_2 t_22 i2 k)) (fun q_ => match q_ with | (t_22, k) => ((at_ t_2 i2).length - k).toNat) (t_2, 0) ⟨h58, Le.refl _, S88.sub [0, 1, 2, 3, 4, 5, 6, 7, 8, 9, 10, 11, 12, 13, 14, 15, 16, 17, 18] (by decide) rfl _ rfl, r58_1, r58_3, r58_4, r58_5, r58_8, rfl, (zah (by first|omega|(simp;omega)|assumption) (by first|omega|(simp;omega)|assumption)), (by exact ⟨by omega, gi_0 _ _ _⟩)⟩ ?_
  rintro ⟨t_22, k⟩ ih89 ρ89 w89 ⟨h89, le89, S89, r89_1, r89_3, r89_4, r89_5, r89_8, r89_9, f89_0, hI89⟩
  have lf89_0 := zbk f89_0; have hf89_0 := zbl f89_0
  have rl89_1 := S89.row_le (j := 1) rfl; simp only [maxLen] at rl89_1
  have rl89_2 := S89.row_le (j := 2) rfl; simp only [maxLen] at rl89_2
  have rl89_3 := S89.row_le (j := 3) rfl; simp only [maxLen] at rl89_3
  have gl89_4 := zbn S89 (j := 4) rfl
  have rl89_5 := S89.row_le (j := 5) rfl; simp only [maxLen] at rl89_5
  have rl89_7 := S89.row_le (j := 7) rfl; simp only [maxLen] at rl89_7
  have rl89_8 := S89.row_le (j := 8) rfl; simp only [maxLen] at rl89_8
  have rl89_9 := S89.row_le (j := 9) rfl; simp only [maxLen] at rl89_9
  have gl89_10 := zbn S89 (j := 10) rfl
  have rl89_11 := S89.row_le (j := 11) rfl; simp only [maxLen] at rl89_11
  have rl89_13 := S89.row_le (j := 13) rfl; simp only [maxLen] at rl89_13
  have rl89_14 := S89.row_le (j := 14) rfl; simp only [maxLen] at rl89_14
  have rl89_15 := S89.row_le (j := 15) rfl; simp only [maxLen] at rl89_15
  have gl89_16 := zbn S89 (j := 16) rfl
  have rl89_17 := S89.row_le (j := 17) rfl; simp only [maxLen] at rl89_17
  have hg_ := gi_at hI89.2 hI58.1 (by omega); have hgl_ := gi_len hI89.2; have hg1_ := hg_.1
  have hgr_ := fun (h : k < ((at_ (za2 m).follow i2).length : Int)) => hT_.rows hI58.1 (by omega) _ (at_mem hI89.1 h)
  have hge_ : at_ (at_ t_22 i2) k = at_ (at_ (za2 m).follow i2) k := by rw [hg_.2 k (by omega), hgf_]
  refine zab <| zab <| zac (l := [0, 1, 2, 3, 4, 5, 6, 7]) rfl <| p_v (v := .int .i64 k) rfl rfl rfl (zae r89_9) <| p_v (v := .pointer (some ⟨b42, 2, none⟩)) rfl rfl rfl (zaf zcr ty24 rfl r89_5) <| p_v (v := v39_2) rfl rfl rfl (zag (seg := [v39_2]) ty24 rfl (by simp) rfl (CF.box (m := 1) (S89.box_at (j := 18) rfl) rfl)) <| p_v (v := .int .i64 i2) rfl rfl rfl (zae r89_8) ?_
  obtain ⟨ad90, a90, at90⟩ := za4 (q := i2) (m := 1) S89 (j := 15) rfl rfl (by first|omega|(simp;omega)|assumption) (by first|omega|(simp;omega)|assumption)
  refine p_v (v := .pointer (some ad90)) rfl rfl rfl (za1 u24 ty23 rfl rfl a90 (by first|omega|(simp;omega)|assumption) (by first|omega|(simp;omega)|assumption)) ?_
  obtain ⟨seg91, rp91, cf91⟩ := zb4 (q := i2) S89 (j := 15) rfl rfl at90 (by first|omega|(simp;omega)|assumption) (by first|omega|(simp;omega)|assumption)
  obtain ⟨rfl, _⟩ := rp91
  have T92 := e_focus (q := i2) S89 (j := 16) rfl (by first|omega|(simp;omega)|assumption) (by first|omega|(simp;omega)|assumption)
  have S93 : St w.heap.size w h89 w89 [box b1 27 [.slice A0_0 m.spots.length c0_0, .slice A0_1 m.first.length c0_1, .slice A0_2 m.follow.length c0_2, .slice A0_3 m.last.length c0_3, .bool m.empty], row 38 za8 v9_0 m.spots, row 3 (Kd.int .i64) v9_1 m.first, row 23 kRaw v9_2 us9_3, grid 3 (Kd.int .i64) us9_3 m.follow, row 4 Kd.bool v9_4 m.last, box b12 27 [v9_0, v9_1, v9_2, v9_4, .bool m.empty], row 38 za8 v24_0 m.spots, row 3 (Kd.int .i64) v24_1 m.first, row 23 kRaw v24_2 us24_3, grid 3 (Kd.int .i64) us24_3 m.follow, row 4 Kd.bool v24_4 m.last, box b27 27 [v24_0, v24_1, v24_2, v24_4, .bool m.empty], row 38 za8 v_t_0 (t_0.set (i2).toNat (⟨(at_ t_0 i2).set, ((at_ t_0 i2).tag) + 1⟩ : Spot)), row 3 (Kd.int .i64) v_t_1 t_1, row 23 kRaw v39_2 us39_3, gridB 3 (Kd.int .i64) us39_3 t_22 i2, row 4 Kd.bool v_t_3 (t_3.set (i2).toNat (!(at_ t_3 i2))), box b42 27 [v_t_0, v_t_1, v39_2, v_t_3, .bool ((za2 m).empty)], row 3 (Kd.int .i64) (at_ us39_3 i2) (at_ t_22 i2)] := T92
  refine p_v (v := (at_ us39_3 i2)) rfl rfl rfl (zag (seg := [(at_ us39_3 i2)]) ty23 rfl (by simp) rfl cf91) ?_
  have lb94 := S93.row_le (j := 19) rfl; simp only [maxLen] at lb94
  refine p_v (v := .int .i64 ((at_ t_22 i2).length : Int)) rfl rfl rfl (zcm u23 rfl (zcq S93 (j := 19) rfl)) <| p_v (v := .bool (decide (k < ((at_ t_22 i2).length : Int)))) rfl rfl rfl (x_lss rfl rfl) <| zaa ?_
  refine zak (p := k < ((at_ t_22 i2).length : Int)) rfl (fun hc95 => ?_) (fun hc95 => ?_)
  ·skip
   refine zas <| zab <| zal <| zac (l := [0, 1, 2, 3, 4, 5, 6, 7, 8, 9, 10]) rfl <| p_v (v := .pointer (some ⟨b42, 2, none⟩)) rfl rfl rfl (zaf zcr ty24 rfl r89_5) <| p_v (v := v39_2) rfl rfl rfl (zag (seg := [v39_2]) ty24 rfl (by simp) rfl (CF.box (m := 1) (S93.box_at (j := 18) rfl) rfl)) <| p_v (v := .int .i64 i2) rfl rfl rfl (zae r89_8) ?_
   obtain ⟨ad96, a96, at96⟩ := za4 (q := i2) (m := 1) S93 (j := 15) rfl rfl (by first|omega|(simp;omega)|assumption) (by first|omega|(simp;omega)|assumption)
   refine p_v (v := .pointer (some ad96)) rfl rfl rfl (za1 u24 ty23 rfl rfl a96 (by first|omega|(simp;omega)|assumption) (by first|omega|(simp;omega)|assumption)) ?_
   obtain ⟨seg97, rp97, cf97⟩ := zb4 (q := i2) S93 (j := 15) rfl rfl at96 (by first|omega|(simp;omega)|assumption) (by first|omega|(simp;omega)|assumption)
   obtain ⟨rfl, _⟩ := rp97
   refine p_v (v := (at_ us39_3 i2)) rfl rfl rfl (zag (seg := [(at_ us39_3 i2)]) ty23 rfl (by simp) rfl cf97) <| p_v (v := .int .i64 k) rfl rfl rfl (zae r89_9) ?_
   obtain ⟨ad98, a98, at98⟩ := za4 (q := k) (m := 1) S93 (j := 19) rfl rfl (by first|omega|(simp;omega)|assumption) (by first|omega|(simp;omega)|assumption)
   refine p_v (v := .pointer (some ad98)) rfl rfl rfl (za1 u23 ty3 rfl rfl a98 (by first|omega|(simp;omega)|assumption) (by first|omega|(simp;omega)|assumption)) ?_
   obtain ⟨seg99, rp99, cf99⟩ := zb4 (q := k) S93 (j := 19) rfl rfl at98 (by first|omega|(simp;omega)|assumption) (by first|omega|(simp;omega)|assumption)
   obtain ⟨rfl, in99⟩ := rp99
   have lo99 := zbk in99; have hi99 := zbl in99
   refine p_v (v := .int .i64 (at_ (at_ t_22 i2) k)) rfl rfl rfl (zag (seg := [.int .i64 (at_ (at_ t_22 i2) k)]) ty3 rfl (by simp) rfl cf99) <| p_v (v := .int .i64 ((at_ (at_ t_22 i2) k) + 1)) rfl rfl rfl (zb9 rfl rfl (zah (by first|omega|(simp;omega)|assumption) (by first|omega|(simp;omega)|assumption))) ?_
   obtain ⟨ad100, a100, at100⟩ := za4 (q := k) (m := 1) S93 (j := 19) rfl rfl (by first|omega|(simp;omega)|assumption) (by first|omega|(simp;omega)|assumption)
   refine p_v (v := .pointer (some ad100)) rfl rfl rfl (za1 u23 ty3 rfl rfl a100 (by first|omega|(simp;omega)|assumption) (by first|omega|(simp;omega)|assumption)) ?_
   obtain ⟨w101, r101, g101, T101⟩ := zb7 (u := .int .i64 ((at_ (at_ t_22 i2) k) + 1)) (q := k) ((at_ (at_ t_22 i2) k) + 1) (vs := [.int .i64 ((at_ (at_ t_22 i2) k) + 1)]) S93 ty3 rfl (j := 19) rfl rfl ⟨rfl, (zah (by first|omega|(simp;omega)|assumption) (by first|omega|(simp;omega)|assumption))⟩ at100 (by first|omega|(simp;omega)|assumption) (by first|omega|(simp;omega)|assumption)
   have S102 := T101.fx 19 (row 3 (Kd.int .i64) (at_ us39_3 i2) ((at_ t_22 i2).set (k).toNat ((at_ (at_ t_22 i2) k) + 1))) rfl
   dsimp only [lAa, lAn, lA0, lAs] at S102
   refine p_s rfl rfl (za7 rfl rfl r101) <| zaa <| zar <| zac (l := [0, 1, 2]) rfl <| p_v (v := .int .i64 k) rfl rfl rfl (zae r89_9) <| p_v (v := .int .i64 (k + 1)) rfl rfl rfl (zb9 rfl rfl (zah (by first|omega|(simp;omega)|assumption) (by first|omega|(simp;omega)|assumption))) <| p_v (v := .int .i64 (k + 1)) rfl rfl rfl (zad rfl) <| zaa ?_
   have T103 := e_close (q := i2) S102 (j := 16) (i := 19) rfl rfl (by decide) (by first|omega|(simp;omega)|assumption) (by first|omega|(simp;omega)|assumption)
   have S104 : St w.heap.size w h89 w101 [box b1 27 [.slice A0_0 m.spots.length c0_0, .slice A0_1 m.first.length c0_1, .slice A0_2 m.follow.length c0_2, .slice A0_3 m.last.length c0_3, .bool m.empty], row 38 za8 v9_0 m.spots, row 3 (Kd.int .i64) v9_1 m.first, row 23 kRaw v9_2 us9_3, grid 3 (Kd.int .i64) us9_3 m.follow, row 4 Kd.bool v9_4 m.last, box b12 27 [v9_0, v9_1, v9_2, v9_4, .bool m.empty], row 38 za8 v24_0 m.spots, row 3 (Kd.int .i64) v24_1 m.first, row 23 kRaw v24_2 us24_3, grid 3 (Kd.int .i64) us24_3 m.follow, row 4 Kd.bool v24_4 m.last, box b27 27 [v24_0, v24_1, v24_2, v24_4, .bool m.empty], row 38 za8 v_t_0 (t_0.set (i2).toNat (⟨(at_ t_0 i2).set, ((at_ t_0 i2).tag) + 1⟩ : Spot)), row 3 (Kd.int .i64) v_t_1 t_1, row 23 kRaw v39_2 us39_3, grid 3 (Kd.int .i64) us39_3 (t_22.set (i2).toNat ((at_ t_22 i2).set (k).toNat ((at_ (at_ t_22 i2) k) + 1))), row 4 Kd.bool v_t_3 (t_3.set (i2).toNat (!(at_ t_3 i2))), box b42 27 [v_t_0, v_t_1, v39_2, v_t_3, .bool ((za2 m).empty)], emp] := T103
   have gl105 := zbn S104 (j := 16) rfl
   have gx106 : (t_22.set (i2).toNat ((at_ t_22 i2).set (k).toNat ((at_ (at_ t_22 i2) k) + 1))).length = t_22.length := List.length_set
   have gx106_ : at_ (t_22.set (i2).toNat ((at_ t_22 i2).set (k).toNat ((at_ (at_ t_22 i2) k) + 1))) i2 = ((at_ t_22 i2).set (k).toNat ((at_ (at_ t_22 i2) k) + 1)) := at_set_self (by first|omega|(simp;omega)|assumption) (by skip; first|omega|(simp;omega)|assumption)
   refine ih89 (t_22.set (i2).toNat ((at_ t_22 i2).set (k).toNat ((at_ (at_ t_22 i2) k) + 1)), k + 1) _ _ (by dsimp only; omega) ⟨h89, le89, S104.sub [0, 1, 2, 3, 4, 5, 6, 7, 8, 9, 10, 11, 12, 13, 14, 15, 16, 17, 18] (by decide) rfl _ rfl, r89_1, r89_3, r89_4, r89_5, r89_8, rfl, (zah (by first|omega|(simp;omega)|assumption) (by first|omega|(simp;omega)|assumption)), (by exact ⟨by omega, gi_step hI89.2 hI58.1 (by omega) hI89.1⟩)⟩
  refine zbd rfl <| zar <| zac (l := [0, 1, 2]) rfl <| p_v (v := .int .i64 i2) rfl rfl rfl (zae r89_8) <| p_v (v := .int .i64 (i2 + 1)) rfl rfl rfl (zb9 rfl rfl (zah (by first|omega|(simp;omega)|assumption) (by first|omega|(simp;omega)|assumption))) <| p_v (v := .int .i64 (i2 + 1)) rfl rfl rfl (zad rfl) <| zaa ?_
  have T107 := e_close0 (q := i2) S93 (j := 16) (i := 19) rfl rfl (by decide) (by first|omega|(simp;omega)|assumption) (by first|omega|(simp;omega)|assumption)
  have S108 : St w.heap.size w h89 w89 [box b1 27 [.slice A0_0 m.spots.length c0_0, .slice A0_1 m.first.length c0_1, .slice A0_2 m.follow.length c0_2, .slice A0_3 m.last.length c0_3, .bool m.empty], row 38 za8 v9_0 m.spots, row 3 (Kd.int .i64) v9_1 m.first, row 23 kRaw v9_2 us9_3, grid 3 (Kd.int .i64) us9_3 m.follow, row 4 Kd.bool v9_4 m.last, box b12 27 [v9_0, v9_1, v9_2, v9_4, .bool m.empty], row 38 za8 v24_0 m.spots, row 3 (Kd.int .i64) v24_1 m.first, row 23 kRaw v24_2 us24_3, grid 3 (Kd.int .i64) us24_3 m.follow, row 4 Kd.bool v24_4 m.last, box b27 27 [v24_0, v24_1, v24_2, v24_4, .bool m.empty], row 38 za8 v_t_0 (t_0.set (i2).toNat (⟨(at_ t_0 i2).set, ((at_ t_0 i2).tag) + 1⟩ : Spot)), row 3 (Kd.int .i64) v_t_1 t_1, row 23 kRaw v39_2 us39_3, grid 3 (Kd.int .i64) us39_3 t_22, row 4 Kd.bool v_t_3 (t_3.set (i2).toNat (!(at_ t_3 i2))), box b42 27 [v_t_0, v_t_1, v39_2, v_t_3, .bool ((za2 m).empty)], emp] := T107
  have gl109 := zbn S108 (j := 16) rfl
  refine ih58 (t_0.set (i2).toNat (⟨(at_ t_0 i2).set, ((at_ t_0 i2).tag) + 1⟩ : Spot), t_3.set (i2).toNat (!(at_ t_3 i2)), t_22, i2 + 1) _ _ (by dsimp only; omega) ⟨h89, v_t_0, v_t_3, ((le58).trans le89), S108.sub [0, 1, 2, 3, 4, 5, 6, 7, 8, 9, 10, 11, 12, 13, 14, 15, 16, 17, 18] (by decide) rfl _ rfl, r89_1, r89_3, r89_4, r89_5, rfl, (zah (by first|omega|(simp;omega)|assumption) (by first|omega|(simp;omega)|assumption)), (by exact ⟨by omega, gi_end hI58.2.1 hI89.2 hI58.1, from_set hI58.2.2.1 hI58.1, by rw [List.length_set]; exact hI58.2.2.2⟩)⟩
 refine zbd rfl <| zab <| zab <| zac (l := [0]) rfl <| p_v (v := .int .i64 0) rfl rfl rfl (zad rfl) <| zaa <| zal <| zbm (S := (List (List Int)) × Int) (fun (q_ : (List (List Int)) × Int) ρ w' => match q_ with | (d_2, i3) => ∃ (h : Ghost), Le h58 h ∧ St w.heap.size w h w' [box b1 27 [.slice A0_0 m.spots.length c0_0, .slice A0_1 m.first.length c0_1, .slice A0_2 m.follow.length c0_2, .slice A0_3 m.last.length c0_3, .bool m.empty], row 38 za8 v9_0 m.spots, row 3 (Kd.int .i64) v9_1 m.first, row 23 kRaw v9_2 us9_3, grid 3 (Kd.int .i64) us9_3 m.follow, row 4 Kd.bool v9_4 m.last, box b12 27 [v9_0, v9_1, v9_2, v9_4, .bool m.empty], row 38 za8 v24_0 m.spots, row 3 (Kd.int .i64) v24_1 m.first, row 23 kRaw v24_2 us24_3, grid 3 (Kd.int .i64) us24_3 d_2, row 4 Kd.bool v24_4 m.last, box b27 27 [v24_0, v24_1, v24_2, v24_4, .bool m.empty]] ∧ ρ 1 = .pointer (some ⟨b1, 0, none⟩) ∧ ρ 3 = .pointer (some ⟨b12, 0, none⟩) ∧ ρ 4 = .pointer (some ⟨b27, 0, none⟩) ∧ ρ 10 = .int .i64 i3 ∧ inK .i64 i3 ∧ (0 ≤ i3 ∧ d_2.length = m.follow.length)) (fun q_ => match q_ with | (d_2, i3) => (m.follow.length - i3).toNat) (m.follow, 0) ⟨h58, Le.refl _, S58.sub [0, 1, 2, 3, 4, 5, 6, 7, 8, 9, 10, 11, 12] (by decide) rfl _ rfl, r58_1, r58_3, r58_4, rfl, (zah (by first|omega|(simp;omega)|assumption) (by first|omega|(simp;omega)|assumption)), (by exact ⟨by omega, rfl⟩)⟩ ?_
 rintro ⟨d_2, i3⟩ ih110 ρ110 w110 ⟨h110, le110, S110, r110_1, r110_3, r110_4, r110_10, f110_0, hI110⟩
 have lf110_0 := zbk f110_0; have hf110_0 := zbl f110_0
 have rl110_1 := S110.row_le (j := 1) rfl; simp only [maxLen] at rl110_1
 have rl110_2 := S110.row_le (j := 2) rfl; simp only [maxLen] at rl110_2
 have rl110_3 := S110.row_le (j := 3) rfl; simp only [maxLen] at rl110_3
 have gl110_4 := zbn S110 (j := 4) rfl
 have rl110_5 := S110.row_le (j := 5) rfl; simp only [maxLen] at rl110_5
 have rl110_7 := S110.row_le (j := 7) rfl; simp only [maxLen] at rl110_7
 have rl110_8 := S110.row_le (j := 8) rfl; simp only [maxLen] at rl110_8
 have rl110_9 := S110.row_le (j := 9) rfl; simp only [maxLen] at rl110_9
 have gl110_10 := zbn S110 (j := 10) rfl
 have rl110_11 := S110.row_le (j := 11) rfl; simp only [maxLen] at rl110_11
 have hl4_ := hI110.2
 refine zab <| zab <| zac (l := [0, 1, 2, 3, 4]) rfl <| p_v (v := .int .i64 i3) rfl rfl rfl (zae r110_10) <| p_v (v := .pointer (some ⟨b27, 2, none⟩)) rfl rfl rfl (zaf zcr ty24 rfl r110_4) <| p_v (v := v24_2) rfl rfl rfl (zag (seg := [v24_2]) ty24 rfl (by simp) rfl (CF.box (m := 1) (S110.box_at (j := 12) rfl) rfl)) ?_
 have lb111 := S110.row_le (j := 9) rfl; simp only [maxLen] at lb111
 refine p_v (v := .int .i64 (us24_3.length : Int)) rfl rfl rfl (zcm u24 rfl (zcq S110 (j := 9) rfl)) <| p_v (v := .bool (decide (i3 < (us24_3.length : Int)))) rfl rfl rfl (x_lss rfl rfl) <| zaa ?_
 refine zak (p := i3 < (us24_3.length : Int)) rfl (fun hc112 => ?_) (fun hc112 => ?_)
 ·skip
  refine zas <| zab <| zal <| zab <| zac (l := [0]) rfl <| p_v (v := .int .i64 0) rfl rfl rfl (zad rfl) <| zaa <| zal <| zbm (S := (List (List Int)) × Int) (fun (q_ : (List (List Int)) × Int) ρ w' => match q_ with | (d_22, k) => ∃ (h : Ghost), Le h110 h ∧ St w.heap.size w h w' [box b1 27 [.slice A0_0 m.spots.length c0_0, .slice A0_1 m.first.length c0_1, .slice A0_2 m.follow.length c0_2, .slice A0_3 m.last.length c0_3, .bool m.empty], row 38 za8 v9_0 m.spots, row 3 (Kd.int .i64) v9_1 m.first, row 23 kRaw v9_2 us9_3, grid 3 (Kd.int .i64) us9_3 m.follow, row 4 Kd.bool v9_4 m.last, box b12 27 [v9_0, v9_1, v9_2, v9_4, .bool m.empty], row 38 za8 v24_0 m.spots, row 3 (Kd.int .i64) v24_1 m.first, row 23 kRaw v24_2 us24_3, grid 3 (Kd.int .i64) us24_3 d_22, row 4 Kd.bool v24_4 m.last, box b27 27 [v24_0, v24_1, v24_2, v24_4, .bool m.empty]] ∧ ρ 1 = .pointer (some ⟨b1, 0, none⟩) ∧ ρ 3 = .pointer (some ⟨b12, 0, none⟩) ∧ ρ 4 = .pointer (some ⟨b27, 0, none⟩) ∧ ρ 10 = .int .i64 i3 ∧ ρ 11 = .int .i64 k ∧ inK .i64 k ∧ (0 ≤ k ∧ GridI d_2 d_22 i3 k)) (fun q_ => match q_ with | (d_22, k) => ((at_ d_2 i3).length - k).toNat) (d_2, 0) ⟨h110, Le.refl _, S110.sub [0, 1, 2, 3, 4, 5, 6, 7, 8, 9, 10, 11, 12] (by decide) rfl _ rfl, r110_1, r110_3, r110_4, r110_10, rfl, (zah (by first|omega|(simp;omega)|assumption) (by first|omega|(simp;omega)|assumption)), (by exact ⟨by omega, gi_0 _ _ _⟩)⟩ ?_
  rintro ⟨d_22, k⟩ ih113 ρ113 w113 ⟨h113, le113, S113, r113_1, r113_3, r113_4, r113_10, r113_11, f113_0, hI113⟩
  have lf113_0 := zbk f113_0; have hf113_0 := zbl f113_0
  have rl113_1 := S113.row_le (j := 1) rfl; simp only [maxLen] at rl113_1
  have rl113_2 := S113.row_le (j := 2) rfl; simp only [maxLen] at rl113_2
  have rl113_3 := S113.row_le (j := 3) rfl; simp only [maxLen] at rl113_3
  have gl113_4 := zbn S113 (j := 4) rfl
  have rl113_5 := S113.row_le (j := 5) rfl; simp only [maxLen] at rl113_5
  have rl113_7 := S113.row_le (j := 7) rfl; simp only [maxLen] at rl113_7
  have rl113_8 := S113.row_le (j := 8) rfl; simp only [maxLen] at rl113_8
  have rl113_9 := S113.row_le (j := 9) rfl; simp only [maxLen] at rl113_9
  have gl113_10 := zbn S113 (j := 10) rfl
  have rl113_11 := S113.row_le (j := 11) rfl; simp only [maxLen] at rl113_11
  have hg_ := gi_at hI113.2 hI110.1 (by omega); have hgl_ := gi_len hI113.2; have hg1_ := hg_.1
  refine zab <| zab <| zac (l := [0, 1, 2, 3, 4, 5, 6, 7]) rfl <| p_v (v := .int .i64 k) rfl rfl rfl (zae r113_11) <| p_v (v := .pointer (some ⟨b27, 2, none⟩)) rfl rfl rfl (zaf zcr ty24 rfl r113_4) <| p_v (v := v24_2) rfl rfl rfl (zag (seg := [v24_2]) ty24 rfl (by simp) rfl (CF.box (m := 1) (S113.box_at (j := 12) rfl) rfl)) <| p_v (v := .int .i64 i3) rfl rfl rfl (zae r113_10) ?_
  obtain ⟨ad114, a114, at114⟩ := za4 (q := i3) (m := 1) S113 (j := 9) rfl rfl (by first|omega|(simp;omega)|assumption) (by first|omega|(simp;omega)|assumption)
  refine p_v (v := .pointer (some ad114)) rfl rfl rfl (za1 u24 ty23 rfl rfl a114 (by first|omega|(simp;omega)|assumption) (by first|omega|(simp;omega)|assumption)) ?_
  obtain ⟨seg115, rp115, cf115⟩ := zb4 (q := i3) S113 (j := 9) rfl rfl at114 (by first|omega|(simp;omega)|assumption) (by first|omega|(simp;omega)|assumption)
  obtain ⟨rfl, _⟩ := rp115
  have T116 := e_focus (q := i3) S113 (j := 10) rfl (by first|omega|(simp;omega)|assumption) (by first|omega|(simp;omega)|assumption)
  have S117 : St w.heap.size w h113 w113 [box b1 27 [.slice A0_0 m.spots.length c0_0, .slice A0_1 m.first.length c0_1, .slice A0_2 m.follow.length c0_2, .slice A0_3 m.last.length c0_3, .bool m.empty], row 38 za8 v9_0 m.spots, row 3 (Kd.int .i64) v9_1 m.first, row 23 kRaw v9_2 us9_3, grid 3 (Kd.int .i64) us9_3 m.follow, row 4 Kd.bool v9_4 m.last, box b12 27 [v9_0, v9_1, v9_2, v9_4, .bool m.empty], row 38 za8 v24_0 m.spots, row 3 (Kd.int .i64) v24_1 m.first, row 23 kRaw v24_2 us24_3, gridB 3 (Kd.int .i64) us24_3 d_22 i3, row 4 Kd.bool v24_4 m.last, box b27 27 [v24_0, v24_1, v24_2, v24_4, .bool m.empty], row 3 (Kd.int .i64) (at_ us24_3 i3) (at_ d_22 i3)] := T116
  refine p_v (v := (at_ us24_3 i3)) rfl rfl rfl (zag (seg := [(at_ us24_3 i3)]) ty23 rfl (by simp) rfl cf115) ?_
  have lb118 := S117.row_le (j := 13) rfl; simp only [maxLen] at lb118
  refine p_v (v := .int .i64 ((at_ d_22 i3).length : Int)) rfl rfl rfl (zcm u23 rfl (zcq S117 (j := 13) rfl)) <| p_v (v := .bool (decide (k < ((at_ d_22 i3).length : Int)))) rfl rfl rfl (x_lss rfl rfl) <| zaa ?_
  refine zak (p := k < ((at_ d_22 i3).length : Int)) rfl (fun hc119 => ?_) (fun hc119 => ?_)
  ·skip
   refine zas <| zab <| zal <| zac (l := [0, 1, 2, 3, 4, 5, 6, 7, 8, 9, 10]) rfl <| p_v (v := .pointer (some ⟨b27, 2, none⟩)) rfl rfl rfl (zaf zcr ty24 rfl r113_4) <| p_v (v := v24_2) rfl rfl rfl (zag (seg := [v24_2]) ty24 rfl (by simp) rfl (CF.box (m := 1) (S117.box_at (j := 12) rfl) rfl)) <| p_v (v := .int .i64 i3) rfl rfl rfl (zae r113_10) ?_
   obtain ⟨ad120, a120, at120⟩ := za4 (q := i3) (m := 1) S117 (j := 9) rfl rfl (by first|omega|(simp;omega)|assumption) (by first|omega|(simp;omega)|assumption)
   refine p_v (v := .pointer (some ad120)) rfl rfl rfl (za1 u24 ty23 rfl rfl a120 (by first|omega|(simp;omega)|assumption) (by first|omega|(simp;omega)|assumption)) ?_
   obtain ⟨seg121, rp121, cf121⟩ := zb4 (q := i3) S117 (j := 9) rfl rfl at120 (by first|omega|(simp;omega)|assumption) (by first|omega|(simp;omega)|assumption)
   obtain ⟨rfl, _⟩ := rp121
   refine p_v (v := (at_ us24_3 i3)) rfl rfl rfl (zag (seg := [(at_ us24_3 i3)]) ty23 rfl (by simp) rfl cf121) <| p_v (v := .int .i64 k) rfl rfl rfl (zae r113_11) ?_
   obtain ⟨ad122, a122, at122⟩ := za4 (q := k) (m := 1) S117 (j := 13) rfl rfl (by first|omega|(simp;omega)|assumption) (by first|omega|(simp;omega)|assumption)
   refine p_v (v := .pointer (some ad122)) rfl rfl rfl (za1 u23 ty3 rfl rfl a122 (by first|omega|(simp;omega)|assumption) (by first|omega|(simp;omega)|assumption)) ?_
   obtain ⟨seg123, rp123, cf123⟩ := zb4 (q := k) S117 (j := 13) rfl rfl at122 (by first|omega|(simp;omega)|assumption) (by first|omega|(simp;omega)|assumption)
   obtain ⟨rfl, in123⟩ := rp123
   have lo123 := zbk in123; have hi123 := zbl in123
   refine p_v (v := .int .i64 (at_ (at_ d_22 i3) k)) rfl rfl rfl (zag (seg := [.int .i64 (at_ (at_ d_22 i3) k)]) ty3 rfl (by simp) rfl cf123) <| p_v (v := .int .i64 (IntKind.i64.wrap ((at_ (at_ d_22 i3) k) + 1))) rfl rfl rfl (x_addw rfl rfl) ?_
   obtain ⟨ad124, a124, at124⟩ := za4 (q := k) (m := 1) S117 (j := 13) rfl rfl (by first|omega|(simp;omega)|assumption) (by first|omega|(simp;omega)|assumption)
   refine p_v (v := .pointer (some ad124)) rfl rfl rfl (za1 u23 ty3 rfl rfl a124 (by first|omega|(simp;omega)|assumption) (by first|omega|(simp;omega)|assumption)) ?_
   obtain ⟨w125, r125, g125, T125⟩ := zb7 (u := .int .i64 (IntKind.i64.wrap ((at_ (at_ d_22 i3) k) + 1))) (q := k) (IntKind.i64.wrap ((at_ (at_ d_22 i3) k) + 1)) (vs := [.int .i64 (IntKind.i64.wrap ((at_ (at_ d_22 i3) k) + 1))]) S117 ty3 rfl (j := 13) rfl rfl ⟨rfl, (wrap_k64 _)⟩ at124 (by first|omega|(simp;omega)|assumption) (by first|omega|(simp;omega)|assumption)
   have S126 := T125.fx 13 (row 3 (Kd.int .i64) (at_ us24_3 i3) ((at_ d_22 i3).set (k).toNat (IntKind.i64.wrap ((at_ (at_ d_22 i3) k) + 1)))) rfl
   dsimp only [lAa, lAn, lA0, lAs] at S126
   refine p_s rfl rfl (za7 rfl rfl r125) <| zaa <| zar <| zac (l := [0, 1, 2]) rfl <| p_v (v := .int .i64 k) rfl rfl rfl (zae r113_11) <| p_v (v := .int .i64 (k + 1)) rfl rfl rfl (zb9 rfl rfl (zah (by first|omega|(simp;omega)|assumption) (by first|omega|(simp;omega)|assumption))) <| p_v (v := .int .i64 (k + 1)) rfl rfl rfl (zad rfl) <| zaa ?_
   have T127 := e_close (q := i3) S126 (j := 10) (i := 13) rfl rfl (by decide) (by first|omega|(simp;omega)|assumption) (by first|omega|(simp;omega)|assumption)
   have S128 : St w.heap.size w h113 w125 [box b1 27 [.slice A0_0 m.spots.length c0_0, .slice A0_1 m.first.length c0_1, .slice A0_2 m.follow.length c0_2, .slice A0_3 m.last.length c0_3, .bool m.empty], row 38 za8 v9_0 m.spots, row 3 (Kd.int .i64) v9_1 m.first, row 23 kRaw v9_2 us9_3, grid 3 (Kd.int .i64) us9_3 m.follow, row 4 Kd.bool v9_4 m.last, box b12 27 [v9_0, v9_1, v9_2, v9_4, .bool m.empty], row 38 za8 v24_0 m.spots, row 3 (Kd.int .i64) v24_1 m.first, row 23 kRaw v24_2 us24_3, grid 3 (Kd.int .i64) us24_3 (d_22.set (i3).toNat ((at_ d_22 i3).set (k).toNat (IntKind.i64.wrap ((at_ (at_ d_22 i3) k) + 1)))), row 4 Kd.bool v24_4 m.last, box b27 27 [v24_0, v24_1, v24_2, v24_4, .bool m.empty], emp] := T127
   have gl129 := zbn S128 (j := 10) rfl
   have gx130 : (d_22.set (i3).toNat ((at_ d_22 i3).set (k).toNat (IntKind.i64.wrap ((at_ (at_ d_22 i3) k) + 1)))).length = d_22.length := List.length_set
   have gx130_ : at_ (d_22.set (i3).toNat ((at_ d_22 i3).set (k).toNat (IntKind.i64.wrap ((at_ (at_ d_22 i3) k) + 1)))) i3 = ((at_ d_22 i3).set (k).toNat (IntKind.i64.wrap ((at_ (at_ d_22 i3) k) + 1))) := at_set_self (by first|omega|(simp;omega)|assumption) (by skip; first|omega|(simp;omega)|assumption)
   refine ih113 (d_22.set (i3).toNat ((at_ d_22 i3).set (k).toNat (IntKind.i64.wrap ((at_ (at_ d_22 i3) k) + 1))), k + 1) _ _ (by dsimp only; omega) ⟨h113, le113, S128.sub [0, 1, 2, 3, 4, 5, 6, 7, 8, 9, 10, 11, 12] (by decide) rfl _ rfl, r113_1, r113_3, r113_4, r113_10, rfl, (zah (by first|omega|(simp;omega)|assumption) (by first|omega|(simp;omega)|assumption)), (by exact ⟨by omega, gi_step hI113.2 hI110.1 (by omega) hI113.1⟩)⟩
  refine zbd rfl <| zar <| zac (l := [0, 1, 2]) rfl <| p_v (v := .int .i64 i3) rfl rfl rfl (zae r113_10) <| p_v (v := .int .i64 (i3 + 1)) rfl rfl rfl (zb9 rfl rfl (zah (by first|omega|(simp;omega)|assumption) (by first|omega|(simp;omega)|assumption))) <| p_v (v := .int .i64 (i3 + 1)) rfl rfl rfl (zad rfl) <| zaa ?_
  have T131 := e_close0 (q := i3) S117 (j := 10) (i := 13) rfl rfl (by decide) (by first|omega|(simp;omega)|assumption) (by first|omega|(simp;omega)|assumption)
  have S132 : St w.heap.size w h113 w113 [box b1 27 [.slice A0_0 m.spots.length c0_0, .slice A0_1 m.first.length c0_1, .slice A0_2 m.follow.length c0_2, .slice A0_3 m.last.length c0_3, .bool m.empty], row 38 za8 v9_0 m.spots, row 3 (Kd.int .i64) v9_1 m.first, row 23 kRaw v9_2 us9_3, grid 3 (Kd.int .i64) us9_3 m.follow, row 4 Kd.bool v9_4 m.last, box b12 27 [v9_0, v9_1, v9_2, v9_4, .bool m.empty], row 38 za8 v24_0 m.spots, row 3 (Kd.int .i64) v24_1 m.first, row 23 kRaw v24_2 us24_3, grid 3 (Kd.int .i64) us24_3 d_22, row 4 Kd.bool v24_4 m.last, box b27 27 [v24_0, v24_1, v24_2, v24_4, .bool m.empty], emp] := T131
  have gl133 := zbn S132 (j := 10) rfl
  refine ih110 (d_22, i3 + 1) _ _ (by dsimp only; omega) ⟨h113, ((le110).trans le113), S132.sub [0, 1, 2, 3, 4, 5, 6, 7, 8, 9, 10, 11, 12] (by decide) rfl _ rfl, r113_1, r113_3, r113_4, rfl, (zah (by first|omega|(simp;omega)|assumption) (by first|omega|(simp;omega)|assumption)), (by exact ⟨by omega, by rw [gi_len hI113.2]; exact hI110.2⟩)⟩
 refine zbd rfl <| zab <| zac (l := [0, 1, 2, 3, 4, 5, 6]) rfl <| p_v (v := .agg #[v9_0, v9_1, v9_2, v9_4, .bool m.empty]) rfl rfl rfl (zag (seg := [v9_0, v9_1, v9_2, v9_4, .bool m.empty]) ty27 rfl (by simp) r110_3 (CF.box (m := 5) (S110.box_at (j := 6) rfl) rfl)) <| p_v (v := .agg #[.slice A0_0 m.spots.length c0_0, .slice A0_1 m.first.length c0_1, .slice A0_2 m.follow.length c0_2, .slice A0_3 m.last.length c0_3, .bool m.empty]) rfl rfl rfl (zag (seg := [.slice A0_0 m.spots.length c0_0, .slice A0_1 m.first.length c0_1, .slice A0_2 m.follow.length c0_2, .slice A0_3 m.last.length c0_3, .bool m.empty]) ty27 rfl (by simp) r110_1 (CF.box (m := 5) (S110.box_at (j := 0) rfl) rfl)) ?_
 obtain ⟨A134, c134, ev134, lc134, cm134⟩ := S110.row_val (j := 1) rfl
 obtain ⟨A135, c135, ev135, lc135, cm135⟩ := S110.row_val (j := 2) rfl
 obtain ⟨A136, c136, ev136, lc136, cm136⟩ := grid_val S110 (i := 3) (j := 4) rfl rfl
 obtain ⟨A137, c137, ev137, lc137, cm137⟩ := S110.row_val (j := 5) rfl
 refine p_c rfl rfl rfl (zbp (args := [.agg #[.slice A134 m.spots.length c134, .slice A135 m.first.length c135, .slice A136 m.follow.length c136, .slice A137 m.last.length c137, .bool m.empty], .agg #[.slice A0_0 m.spots.length c0_0, .slice A0_1 m.first.length c0_1, .slice A0_2 m.follow.length c0_2, .slice A0_3 m.last.length c0_3, .bool m.empty]]) ca9 rfl (zcw (Eq.trans (b := .agg #[v9_0, v9_1, v9_2, v9_4, .bool m.empty]) rfl (by rw [ev134, ev135, ev136, ev137])) (zcw rfl rfl))) (same10_calls w110 m A134 c134 (And.intro lc134 cm134) (zbi S110 (j := 1) rfl ev134) A135 c135 (And.intro lc135 cm135) (zbi S110 (j := 2) rfl ev135) A136 c136 (And.intro lc136 cm136) (grid_leads S110 (i := 3) (j := 4) rfl rfl (by decide) ev136) A137 c137 (And.intro lc137 cm137) (zbi S110 (j := 5) rfl ev137) m A0_0 c0_0 b0_0 (l0_0.mono (St.le0 S110)) A0_1 c0_1 b0_1 (l0_1.mono (St.le0 S110)) A0_2 c0_2 b0_2 (l0_2.mono (St.le0 S110)) A0_3 c0_3 b0_3 (l0_3.mono (St.le0 S110))) ?_
 rintro _ w138 ⟨h138, T138, rfl⟩
 have S139 := S110.keep (Chg.of_below T138.below)
 refine p_v (v := .bool (decide (m = m))) rfl rfl rfl (zae rfl) ?_
 have hc140 : (decide (m = m)) = true := by
  exact decide_eq_true rfl
 refine p_c rfl (wo 3 114 rfl rfl (congrArg Value.bool hc140) rfl) rfl (zbp (args := []) ca6 rfl rfl) (awake10_calls w138 ) ?_
 rintro _ w141 ⟨h141, T141, rfl⟩
 have S142 := S139.keep (Chg.of_below T141.below)
 refine p_v (v := .bool true) rfl rfl rfl (zbc (congrArg Value.bool hc140) rfl) <| p_v (v := .bool true) rfl rfl rfl (zad rfl) <| zaa <| za0 Try.func3 (res1 rfl (za3 (v := .bool true) rfl)) ?_
 have q0 : (true : Bool) = true := rfl
 refine ⟨_, rfl, h110, ?_, ?_⟩
 · exact S142.sub [] (by decide) rfl _ rfl
 · rfl
end Go.Proofs.Ythpdebieagaghaa
namespace Gx
open Go Go.RowKit
set_option linter.unusedSimpArgs false
set_option linter.unusedSectionVars false
set_option linter.unusedVariables false
def zc2 {α : Type} (P : Program) (k : Kd α) (t : TypeId) : Prop :=
  ∀ {H : Type} {enc : TypeId × Value → H} {w : World} {spare : Nat → Bool} {held : Bool} {fuel : Nat} {cs : List Value} {x : DataW H × List MemPlace}, DataW.trod enc P w 0 spare held fuel t cs = some x → ∃ m, k.rep (hp w) m cs
section
variable {P : Program} {t e : TypeId}
theorem inK_wf {k : IntKind} {n : Int} (h : (Lit.int k n).wf = true) : inK k n := by
  simp only [Lit.wf, Bool.and_eq_true, decide_eq_true_eq] at h
  exact h
theorem zc2.int {k : IntKind} (ht : P.underlying t = some (.int k)) : zc2 P (Kd.int k) t := fun h => by
  obtain ⟨n, rfl, _, hw⟩ := DataW.trod_int ht h
  exact ⟨n, rfl, inK_wf hw⟩
theorem zc2.bool (ht : P.underlying t = some .bool) : zc2 P Kd.bool t := fun h => by
  obtain ⟨b, rfl, _⟩ := DataW.trod_bool ht h
  exact ⟨b, rfl, trivial⟩
theorem zc2.string (ht : P.underlying t = some .string) : zc2 P Kd.string t := fun h => by
  obtain ⟨s, rfl, _, hs⟩ := DataW.trod_string ht h
  exact ⟨s, rfl, hs⟩
theorem exists_list {α : Type} {Q : Nat → α → Prop} : ∀ (n : Nat), (∀ i, i < n → ∃ m, Q i m) → ∃ l : List α, l.length = n ∧ ∀ i m, l[i]? = some m → Q i m
  | 0, _ => ⟨[], rfl, fun i m h => by simp at h⟩
  | n + 1, h => by
    obtain ⟨l, hl, hq⟩ := exists_list n fun i hi => h i (by omega)
    obtain ⟨m, hm⟩ := h n (by omega)
    refine ⟨l ++ [m], by simp [hl], fun i y hy => ?_⟩
    rw [List.getElem?_append] at hy
    split at hy
    · exact hq i y hy
    · rename_i hi
      have e : i - l.length = 0 := by
        rcases Nat.eq_zero_or_pos (i - l.length) with h0 | h0
        · exact h0
        · rw [List.getElem?_eq_none (by simp; omega)] at hy; cases hy
      rw [e] at hy
      simp at hy
      subst hy
      have : i = n := by omega
      rw [this]; exact hm
theorem zc2.ints {k : IntKind} {n : Nat} (hn : 0 < n) (ht : P.underlying t = some (.array n e)) (he : P.underlying e = some (.int k)) (hc : P.cellsOf e = 1) (hct : P.cellsOf t = n) : zc2 P (kInts k n hn) t := fun {H enc w spare held fuel cs x} h => by
  obtain ⟨xs, m, _, _, hl, hx, hel⟩ := DataW.trod_array ht h
  rw [hct] at hl
  have h1 : ∀ i, i < n → ∃ z : Int, cs[i]? = some (.int k z) ∧ inK k z := fun i hi => by
    have h2 := hel i hi
    rw [hc, Nat.mul_one, List.getElem?_eq_getElem (by omega)] at h2
    obtain ⟨z, hz, _, hw⟩ := DataW.trod_int he h2
    refine ⟨z, ?_, inK_wf hw⟩
    have h3 := congrArg (fun l : List Value => l[0]?) hz
    simpa [List.getElem?_take, List.getElem?_drop] using h3
  obtain ⟨l, hll, hq⟩ := exists_list n h1
  refine ⟨l, ?_, hll, fun z hz => ?_⟩
  · apply List.ext_getElem?
    intro i
    rw [zb1, List.getElem?_map]
    by_cases hi : i < n
    · have h4 := hq i (l[i]'(by omega)) (List.getElem?_eq_getElem _)
      rw [h4.1, List.getElem?_eq_getElem (by omega)]; rfl
    · rw [List.getElem?_eq_none (by omega), List.getElem?_eq_none (by omega)]; rfl
  · obtain ⟨i, hi⟩ := List.mem_iff_getElem?.1 hz
    exact (hq i z hi).2
theorem zc2.set (ht : P.underlying t = some (.array 4 e)) (he : P.underlying e = some (.int .u64)) (hc : P.cellsOf e = 1) (hct : P.cellsOf t = 4) : zc2 P kSet t := fun h => by
  obtain ⟨l, hl, hok⟩ := zc2.ints (n := 4) (by omega) ht he hc hct h
  exact ⟨ofWords l, by rw [hl, encSet_of hok], trivial⟩
theorem zc2.slice {α : Type} {k : Kd α} (ht : P.underlying t = some (.slice e)) (hc : P.cellsOf e = k.sz) (ho : zc2 P k e) : zc2 P k.slice t := fun {H enc w spare held fuel cs x} h => by
  rcases DataW.trod_slice ht h with ⟨rfl, _⟩ | ⟨a, len, cap, elems, rest, n, _, rfl, _, _, hl, hm, hlen, hel, _, _⟩
  · exact ⟨[], none, 0, rfl, Nat.le_refl _, by simp [maxLen], fun hne => (hne rfl).elim⟩
  · rw [hc] at hel
    have h1 : ∀ i, i < len → ∃ m, ∃ seg, k.rep (hp w) m seg ∧ ∀ j v, seg[j]? = some v → gcell (hp w) (a.add (i * k.sz + j)) = some v := fun i hi => by
      have h2 := hel i hi
      rw [List.getElem?_eq_getElem (by omega)] at h2
      obtain ⟨seg, hseg, hd⟩ := Option.bind_eq_some_iff.1 h2
      obtain ⟨m, hr⟩ := ho hd
      refine ⟨m, seg, hr, fun j v hj => ?_⟩
      obtain ⟨_, hlen2, hcell⟩ := World.cells?_some hseg
      have hjl : j < k.sz := by
        have := (List.getElem?_eq_some_iff.1 hj).1
        rw [k.len hr] at this; exact this
      have h5 := hcell j hjl
      rw [hj] at h5
      rw [Addr.add_add] at h5
      show gcell (hp w) _ = _
      unfold gcell hp
      unfold World.cell? at h5
      exact h5
    obtain ⟨l, hll, hq⟩ := exists_list len h1
    refine ⟨l, some a, cap, by rw [hll], by omega, hm, fun _ => ⟨a, rfl, hq⟩⟩
end
end Gx
namespace Gx
open Go Go.RowKit
set_option linter.unusedSimpArgs false
set_option linter.unusedSectionVars false
set_option linter.unusedVariables false
section
variable {P : Program} {t : TypeId}
theorem trod_field {H : Type} {enc : TypeId × Value → H} {w : World} {spare : Nat → Bool} {held : Bool} {fuel : Nat} {cs : List Value} {x : DataW H × List MemPlace} {α : Type} {k : Kd α} {q o ft : Nat} (hf : zb2 P t q = some (o, ft)) (hc : P.cellsOf ft = k.sz) (ho : zc2 P k ft) (h : DataW.trod enc P w 0 spare held fuel t cs = some x) : ∃ m, k.rep (hp w) m ((cs.drop o).take k.sz) := by
  obtain ⟨fs, fd, hu, hq, rfl, rfl⟩ := fieldInfo_parts hf
  obtain ⟨xs, n, _, _, _, hl, hp⟩ := DataW.trod_struct hu h
  have h1 := hp q fd hq
  have hlt : q < fs.size := (Array.getElem?_eq_some_iff.1 hq).1
  rw [hc, List.getElem?_eq_getElem (by omega)] at h1
  exact ho h1
theorem trod_len {H : Type} {enc : TypeId × Value → H} {w : World} {spare : Nat → Bool} {held : Bool} {fuel : Nat} {cs : List Value} {x : DataW H × List MemPlace} {q o ft : Nat} (hf : zb2 P t q = some (o, ft)) (h : DataW.trod enc P w 0 spare held fuel t cs = some x) : cs.length = P.cellsOf t := by
  obtain ⟨fs, fd, hu, hq, rfl, rfl⟩ := fieldInfo_parts hf
  obtain ⟨xs, n, _, _, hl, _, _⟩ := DataW.trod_struct hu h
  exact hl
theorem zc2.spot {a b : TypeId} (h0 : zb2 P t 0 = some (0, a)) (h1 : zb2 P t 1 = some (4, b)) (hc : P.cellsOf t = 5) (ha : P.cellsOf a = 4) (hb : P.cellsOf b = 1) (oa : zc2 P kSet a) (ob : zc2 P (Kd.int .u8) b) : zc2 P za8 t := fun {H enc w spare held fuel cs x} h => by
  obtain ⟨s, e0, _⟩ := trod_field h0 ha oa h
  obtain ⟨n, e1, hn⟩ := trod_field h1 hb ob h
  have hl := trod_len h0 h
  rw [hc] at hl
  refine ⟨⟨s, n⟩, ?_, hn⟩
  have e2 : cs = (cs.drop 0).take 4 ++ (cs.drop 4).take 1 := by
    rw [List.drop_zero, List.take_of_length_le (l := cs.drop 4) (by simp; omega), List.take_append_drop]
  rw [e2]
  show (cs.drop 0).take kSet.sz ++ (cs.drop 4).take (Kd.int .u8).sz = _
  rw [e0, e1]; rfl
def kMach : Kd Mach where
  sz := 5
  pos := by omega
  rep := fun h m cs => ∃ A0 c0 A1 c1 A2 c2 A3 c3, cs = [.slice A0 m.spots.length c0, .slice A1 m.first.length c1, .slice A2 m.follow.length c2, .slice A3 m.last.length c3, .bool m.empty] ∧
    ((m.spots.length ≤ c0 ∧ c0 ≤ maxLen) ∧ zbb za8 h A0 m.spots) ∧ ((m.first.length ≤ c1 ∧ c1 ≤ maxLen) ∧ zbb (Kd.int .i64) h A1 m.first) ∧ ((m.follow.length ≤ c2 ∧ c2 ≤ maxLen) ∧ zbb (Kd.int .i64).slice h A2 m.follow) ∧ ((m.last.length ≤ c3 ∧ c3 ≤ maxLen) ∧ zbb Kd.bool h A3 m.last)
  mono := fun hl ⟨A0, c0, A1, c1, A2, c2, A3, c3, e, h0, h1, h2, h3⟩ => ⟨A0, c0, A1, c1, A2, c2, A3, c3, e, ⟨h0.1, h0.2.mono hl⟩, ⟨h1.1, h1.2.mono hl⟩, ⟨h2.1, h2.2.mono hl⟩, ⟨h3.1, h3.2.mono hl⟩⟩
  len := fun ⟨_, _, _, _, _, _, _, _, e, _⟩ => by rw [e]; rfl
  one := fun ⟨_, _, _, _, _, _, _, _, e, _⟩ u hu => by rw [e] at hu; exact zai rfl (zai rfl (zai rfl (zai rfl (zai rfl zbt)))) u hu
theorem list5 {cs : List Value} (h : cs.length = 5) {a b c d e : Value} (h0 : (cs.drop 0).take 1 = [a]) (h1 : (cs.drop 1).take 1 = [b]) (h2 : (cs.drop 2).take 1 = [c]) (h3 : (cs.drop 3).take 1 = [d]) (h4 : (cs.drop 4).take 1 = [e]) : cs = [a, b, c, d, e] := by
  match cs, h with
  | [x0, x1, x2, x3, x4], _ => simp at h0 h1 h2 h3 h4; simp [h0, h1, h2, h3, h4]
theorem zc2.mach {t0 t1 t2 t3 t4 : TypeId} (h0 : zb2 P t 0 = some (0, t0)) (h1 : zb2 P t 1 = some (1, t1)) (h2 : zb2 P t 2 = some (2, t2)) (h3 : zb2 P t 3 = some (3, t3)) (h4 : zb2 P t 4 = some (4, t4)) (hc : P.cellsOf t = 5) (c0 : P.cellsOf t0 = 1) (c1 : P.cellsOf t1 = 1) (c2 : P.cellsOf t2 = 1) (c3 : P.cellsOf t3 = 1) (c4 : P.cellsOf t4 = 1)
    (o0 : zc2 P za8.slice t0) (o1 : zc2 P (Kd.int .i64).slice t1) (o2 : zc2 P (Kd.int .i64).slice.slice t2) (o3 : zc2 P Kd.bool.slice t3) (o4 : zc2 P Kd.bool t4) : zc2 P kMach t := fun h => by
  obtain ⟨m0, A0, d0, e0, b0, b0', l0⟩ := trod_field h0 c0 o0 h
  obtain ⟨m1, A1, d1, e1, b1, b1', l1⟩ := trod_field h1 c1 o1 h
  obtain ⟨m2, A2, d2, e2, b2, b2', l2⟩ := trod_field h2 c2 o2 h
  obtain ⟨m3, A3, d3, e3, b3, b3', l3⟩ := trod_field h3 c3 o3 h
  obtain ⟨m4, e4, _⟩ := trod_field h4 c4 o4 h
  have hl := trod_len h0 h
  rw [hc] at hl
  exact ⟨⟨m0, m1, m2, m3, m4⟩, A0, d0, A1, d1, A2, d2, A3, d3, list5 hl e0 e1 e2 e3 e4, ⟨⟨b0, b0'⟩, l0⟩, ⟨⟨b1, b1'⟩, l1⟩, ⟨⟨b2, b2'⟩, l2⟩, ⟨b3, b3'⟩, l3⟩
end
end Gx
namespace Go.Proofs.Ythpdebieagaghaa
open Go Go.ChangeShapes Go.WideShapes Go.ChangeAt Go.RowKit Gx
set_option linter.unusedVariables false
theorem own : ownKnob Try.prog.godebug = none := by kernel_rfl
theorem laidOut : laidOutB Try.prog = true := by kernel_rfl
end Go.Proofs.Ythpdebieagaghaa
