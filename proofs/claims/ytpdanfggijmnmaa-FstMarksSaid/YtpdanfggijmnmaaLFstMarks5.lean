/- My own library for walks through the translated code, and the walks of the functions that the law FstMarks comes to, part 6; no conditions but those that each contract tells. -/
import Derived.ProofKit
import Derived.OpenShut
import Derived.ShutString
import Derived.ChangeOld
import Derived.Below
import Derived.DataElems
import Derived.Test.YtpdanfggijmnmaaRows
import Derived.Stop.Joined
import Derived.MakeChecks
import Derived.Test.YtpdanfggijmnmaaLFstMarks4
namespace Go.Proofs.Ytpdanfggijmnmaa
open Go Go.RowKit Gx
set_option maxHeartbeats 1000000
set_option linter.unusedVariables false
set_option linter.unusedSimpArgs false
set_option maxRecDepth 8000
attribute [local irreducible] count first has zb9 wbits Lib.ctz zcf zbd rowOk tab markP intoP intoTo zcr zb8 zcs runTo endsIn endTo runM zd6 mayP zb5 zcb mayTo atP lastTo zcv zd3 docAt anyTo allTo lfp trues zc7 zcw gIn zdc endL zdg gRowTo za2 markL marksO zaq okMk pickL zdm zdf subB zcl
theorem run14_calls (w : World) (m : Mach) (A0_0 : Option Addr) (c0_0 : Nat) (b0_0 : m.spots.length ≤ c0_0 ∧ c0_0 ≤ maxLen) (l0_0 : za4 zec (hp w) A0_0 m.spots) (A0_1 : Option Addr) (c0_1 : Nat) (b0_1 : m.first.length ≤ c0_1 ∧ c0_1 ≤ maxLen) (l0_1 : za4 (Kd.int .i64) (hp w) A0_1 m.first) (A0_2 : Option Addr) (c0_2 : Nat) (b0_2 : m.follow.length ≤ c0_2 ∧ c0_2 ≤ maxLen) (l0_2 : za4 (Kd.int .i64).slice (hp w) A0_2 m.follow) (A0_3 : Option Addr) (c0_3 : Nat) (b0_3 : m.last.length ≤ c0_3 ∧ c0_3 ≤ maxLen) (l0_3 : za4 Kd.bool (hp w) A0_3 m.last) (xw : ByteArray) (s1 : xw.size ≤ maxLen) (pre0 : (xw.size : Int) ≤ 1000) :
    Calls Try.prog 15 #[.agg #[.slice A0_0 m.spots.length c0_0, .slice A0_1 m.first.length c0_1, .slice A0_2 m.follow.length c0_2, .slice A0_3 m.last.length c0_3, .bool m.empty], .string xw] w fun e w' => ∃ v, e = .returned v ∧ ∃ (hn : Ghost), St w.heap.size w hn w' [] ∧ v = .agg (zby (zdf m xw)).toArray ∧ okPar (zdf m xw) := by
 refine zas Try.func15 rfl Try.ntmps15 rfl ?_
 have S0 := St.init w
 have bb0_0 := b0_0.1; have bc0_0 := b0_0.2; simp only [maxLen] at bc0_0
 have bb0_1 := b0_1.1; have bc0_1 := b0_1.2; simp only [maxLen] at bc0_1
 have bb0_2 := b0_2.1; have bc0_2 := b0_2.2; simp only [maxLen] at bc0_2
 have bb0_3 := b0_3.1; have bc0_3 := b0_3.2; simp only [maxLen] at bc0_3
 have sz1 := s1; simp only [maxLen] at sz1
 have hw_ := pre0; have hmk_ := marks_le m xw
 refine zab <| zac (l := [0, 1]) rfl ?_
 obtain ⟨b1, w1, r1, g1, T1⟩ := zct (P := Try.prog) S0 27 (v := .agg #[.slice A0_0 m.spots.length c0_0, .slice A0_1 m.first.length c0_1, .slice A0_2 m.follow.length c0_2, .slice A0_3 m.last.length c0_3, .bool m.empty]) [.slice A0_0 m.spots.length c0_0, .slice A0_1 m.first.length c0_1, .slice A0_2 m.follow.length c0_2, .slice A0_3 m.last.length c0_3, .bool m.empty] rfl
 have S2 := T1
 dsimp only [lAa, lAn, lA0, lAs] at S2
 refine p_v (v := .pointer (some ⟨b1, 0, none⟩)) rfl rfl rfl (x_box rfl r1) ?_
 obtain ⟨b3, w3, r3, g3, T3⟩ := zct (P := Try.prog) S2 35 (v := (.agg #[.bool false, .string ⟨#[]⟩, .string ⟨#[]⟩])) (zby (⟨false, (⟨#[]⟩ : ByteArray), (⟨#[]⟩ : ByteArray)⟩ : ParM)) rfl
 have S4 := T3
 dsimp only [lAa, lAn, lA0, lAs] at S4
 refine p_v (v := .pointer (some ⟨b3, 0, none⟩)) rfl rfl rfl (zcq ty35 r3) <| zaa <| zab <| zac (l := [0, 1, 2, 3, 4, 5, 6, 7]) rfl <| p_v (v := .agg #[.slice A0_0 m.spots.length c0_0, .slice A0_1 m.first.length c0_1, .slice A0_2 m.follow.length c0_2, .slice A0_3 m.last.length c0_3, .bool m.empty]) rfl rfl rfl (zah (seg := [.slice A0_0 m.spots.length c0_0, .slice A0_1 m.first.length c0_1, .slice A0_2 m.follow.length c0_2, .slice A0_3 m.last.length c0_3, .bool m.empty]) ty27 rfl (by simp) rfl (CF.box (m := 5) (S4.box_at (j := 0) rfl) rfl)) <| p_v (v := .string xw) rfl rfl rfl (zad rfl) <| p_c rfl rfl rfl (zba (args := [.agg #[.slice A0_0 m.spots.length c0_0, .slice A0_1 m.first.length c0_1, .slice A0_2 m.follow.length c0_2, .slice A0_3 m.last.length c0_3, .bool m.empty], .string xw]) ca12 rfl rfl) (marks14_calls w3 m A0_0 c0_0 b0_0 (l0_0.mono (St.le0 S4)) A0_1 c0_1 b0_1 (l0_1.mono (St.le0 S4)) A0_2 c0_2 b0_2 (l0_2.mono (St.le0 S4)) A0_3 c0_3 b0_3 (l0_3.mono (St.le0 S4)) xw s1 (by first | assumption | omega | decide)) ?_
 rintro _ w5 ⟨h5, v5_0, T5, rfl⟩
 obtain ⟨k5, lk5, ll5, U5⟩ := zcd S4 T5
 have S6 := U5
 dsimp only [lAa, lAn, lA0, lAs] at S6
 obtain ⟨h7, le7, T7, rp7⟩ := S6.freeze (i := 2) rfl
 have S8 := T7.fx 2 (emp) rfl
 dsimp only [lAa, lAn, lA0, lAs] at S8
 obtain ⟨A7, c7, e7, lc7, cm7, ld7⟩ := rp7
 injection e7 with e7 _; subst e7
 have cn7 := cm7; simp only [maxLen] at cn7
 refine p_v (v := .tuple #[.slice A7 (zaq m xw).length c7, .bool (okMk m xw)]) rfl rfl rfl (zad rfl) <| p_v (v := .slice A7 (zaq m xw).length c7) rfl rfl rfl (zci (vs := [.slice A7 (zaq m xw).length c7, .bool (okMk m xw)]) rfl rfl) <| p_v (v := .bool (okMk m xw)) rfl rfl rfl (zci (vs := [.slice A7 (zaq m xw).length c7, .bool (okMk m xw)]) rfl rfl) <| p_v (v := .slice A7 (zaq m xw).length c7) rfl rfl rfl (zae rfl) <| p_v (v := .bool (okMk m xw)) rfl rfl rfl (zae rfl) <| zaa <| zab <| zac (l := [0, 1, 2, 3]) rfl <| p_v (v := .bool (okMk m xw)) rfl rfl rfl (zad rfl) <| p_v (v := .agg (zby (⟨okMk m xw, (⟨#[]⟩ : ByteArray), (⟨#[]⟩ : ByteArray)⟩ : ParM)).toArray) rfl rfl rfl (y_build (pv := [(0, .bool (okMk m xw))]) rfl (zbz pl35 ty35 rfl (cs := (zby (⟨okMk m xw, (⟨#[]⟩ : ByteArray), (⟨#[]⟩ : ByteArray)⟩ : ParM))) rfl)) ?_
 obtain ⟨b9, w9, r9, g9, T9⟩ := zct (P := Try.prog) S8 35 (v := (.agg #[.bool false, .string ⟨#[]⟩, .string ⟨#[]⟩])) (zby (⟨false, (⟨#[]⟩ : ByteArray), (⟨#[]⟩ : ByteArray)⟩ : ParM)) rfl
 have S10 := T9
 dsimp only [lAa, lAn, lA0, lAs] at S10
 refine p_v (v := .pointer (some ⟨b9, 0, none⟩)) rfl rfl rfl (zcq ty35 r9) ?_
 obtain ⟨w11, r11, g11, T11⟩ := zb0 (P := Try.prog) (off := 0) (v := .agg (zby (⟨okMk m xw, (⟨#[]⟩ : ByteArray), (⟨#[]⟩ : ByteArray)⟩ : ParM)).toArray) (vs := (zby (⟨okMk m xw, (⟨#[]⟩ : ByteArray), (⟨#[]⟩ : ByteArray)⟩ : ParM))) S10 ty35 rfl rfl (j := 3) rfl (by first | decide | exact Nat.le_of_ble_eq_true rfl) (encPar_one _)
 have S12 := T11.fx 3 (box b9 35 (zby (⟨okMk m xw, (⟨#[]⟩ : ByteArray), (⟨#[]⟩ : ByteArray)⟩ : ParM))) rfl
 dsimp only [lAa, lAn, lA0, lAs] at S12
 refine p_s rfl rfl (zbn rfl rfl r11) <| zaa <| zab <| zab <| zac (l := [0]) rfl <| p_v (v := .int .i64 0) rfl rfl rfl (zae rfl) <| zaa <| zam ?_
 refine za6 (S := ParM × Int) (fun (q_ : ParM × Int) ρ w' => match q_ with | (p, i) => ∃ (h : Ghost), Le h7 h ∧ St w.heap.size w h w' [box b3 35 (zby (⟨false, (⟨#[]⟩ : ByteArray), (⟨#[]⟩ : ByteArray)⟩ : ParM)), box b9 35 (zby p)] ∧ ρ 1 = .string xw ∧ ρ 4 = .pointer (some ⟨b3, 0, none⟩) ∧ ρ 5 = .slice A7 (zaq m xw).length c7 ∧ ρ 7 = .pointer (some ⟨b9, 0, none⟩) ∧ ρ 8 = .int .i64 i ∧ okPar p ∧ inK .i64 i ∧ (0 ≤ i ∧ i ≤ ((zaq m xw).length : Int) ∧ p = ⟨okMk m xw, zcl 1 (zaq m xw) xw i, zcl 2 (zaq m xw) xw i⟩)) (fun q_ => match q_ with | (p, i) => ((zaq m xw).length - i).toNat) ((⟨okMk m xw, (⟨#[]⟩ : ByteArray), (⟨#[]⟩ : ByteArray)⟩ : ParM), 0) ⟨h7, Le.refl _, S12.sub [1, 3] (by decide) rfl _ rfl, rfl, rfl, rfl, rfl, rfl, (by first | assumption | exact zed | exact ⟨by assumption, by assumption⟩ | exact ⟨by decide, by decide⟩ | (refine And.intro ?_ ?_ <;> dsimp only <;> first | assumption | exact (by assumption : okPar _).1 | exact (by assumption : okPar _).2)), (zai (by first|omega|(simp;omega)|assumption|simp) (by first|omega|(simp;omega)|assumption|simp)), (by exact ⟨by omega, by omega, fld_0 m xw⟩)⟩ ?_
 rintro ⟨p, i⟩ ih13 ρ13 w13 ⟨h13, le13, S13, r13_1, r13_4, r13_5, r13_7, r13_8, f13_0, f13_1, hI13⟩
 have lf13_1 := za0 f13_1; have hf13_1 := za1 f13_1
 have hho_ := field_len 1 (zaq m xw) xw hI13.1; have hpa_ := field_len 2 (zaq m xw) xw hI13.1
 have hph_ : (p.host.size : Int) ≤ i := by rw [hI13.2.2]; exact hho_
 have hpp_ : (p.path.size : Int) ≤ i := by rw [hI13.2.2]; exact hpa_
 refine zab <| zab <| zac (l := [0, 1, 2, 3]) rfl <| p_v (v := .int .i64 i) rfl rfl rfl (zad r13_8) <| p_v (v := .slice A7 (zaq m xw).length c7) rfl rfl rfl (zad r13_5) <| p_v (v := .int .i64 ((zaq m xw).length : Int)) rfl rfl rfl (zat u30 rfl) <| p_v (v := .bool (decide (i < ((zaq m xw).length : Int)))) rfl rfl rfl (zcp rfl rfl) <| zaa ?_
 refine zaj (p := i < ((zaq m xw).length : Int)) rfl (fun hc14 => ?_) (fun hc14 => ?_)
 ·skip
  refine zap <| zab <| zam <| zab <| zab <| zac (l := [0, 1, 2, 3, 4]) rfl <| p_v (v := .slice A7 (zaq m xw).length c7) rfl rfl rfl (zad r13_5) <| p_v (v := .int .i64 i) rfl rfl rfl (zad r13_8) ?_
  obtain ⟨ad15, seg15, a15, rp15, ce15⟩ := zao (q := i) (m := 1) ld7 rfl (by first|omega|(simp;omega)|assumption|simp) (by first|omega|(simp;omega)|assumption|simp)
  refine p_v (v := .pointer (some ad15)) rfl rfl rfl (zan u30 ty5 rfl rfl a15 (by first|omega|(simp;omega)|assumption|simp) (by first|omega|(simp;omega)|assumption|simp)) ?_
  obtain ⟨rfl, in15⟩ := rp15
  have lo15 := zd9 in15; have hi15 := zea in15
  refine p_v (v := .int .u8 (at_ (zaq m xw) i)) rfl rfl rfl (zah (seg := [.int .u8 (at_ (zaq m xw) i)]) ty5 rfl (by simp) rfl (CF.ghost ce15 (le13.trans S13.ghost))) <| p_v (v := .bool (decide ((at_ (zaq m xw) i) = 1))) rfl rfl rfl (x_eql rfl rfl) <| zaa ?_
  refine zaj (p := (at_ (zaq m xw) i) = 1) rfl (fun hc16 => ?_) (fun hc16 => ?_)
  ·skip
   have sx17 : ((subB xw i (i + 1)).size : Int) = i + 1 - i := sub_size xw (by first|omega|(simp;omega)|assumption|simp) (by first|omega|(simp;omega)|assumption|simp) (by first|omega|(simp;omega)|assumption|simp)
   have sh17 : (subB xw i (i + 1)).size ≤ maxLen := by have := sx17; unfold maxLen; omega
   have sb18 : p.host.size + (subB xw i (i + 1)).size ≤ 9223372036854775807 := by first | omega | (simp only [str_one]; omega) | (simp only [str_one, size_nil]; omega)
   have sz18 : (p.host ++ (subB xw i (i + 1))).size ≤ maxLen := by rw [size_add]; unfold maxLen; exact sb18
   have st18 := size_add p.host (subB xw i (i + 1))
   have hf19 : (CFs ⟨b9, 1, none⟩ [.string p.host]).1 w13 := (CF.box (m := 1) (S13.box_at (j := 1) rfl) rfl)
   refine daS (hkC 1 hf19 (hkN (w := w13))) 10 rfl zc9 ?_
   intro wd20 gd20 hd20
   have S21 := S13.keep gd20
   have hf22 := spUp gd20 hf19
   refine qd0 (i := 0) (v := .pointer (some ⟨b9, 1, none⟩)) rfl (by decide +kernel) rfl rfl (zal fd35_1 ty9 rfl r13_7) (zaf rfl) <| qd1 0 (i := 1) (v := .string p.host) rfl rfl (by decide +kernel) rfl rfl (fun wq hq => (zah (seg := [.string p.host]) ty9 rfl (by simp) rfl hq)) (zaz hf22 (of_nil _ _)) <| qd0 (i := 2) (v := .string xw) rfl (by decide +kernel) rfl rfl (zad r13_1) (zaf rfl) <| qd0 (i := 3) (v := .int .i64 i) rfl (by decide +kernel) rfl rfl (zad r13_8) (zaf rfl) <| qd0 (i := 4) (v := .int .i64 i) rfl (by decide +kernel) rfl rfl (zad r13_8) (zaf rfl) <| qd0 (i := 5) (v := .int .i64 (i + 1)) rfl (by decide +kernel) rfl rfl (zbm rfl rfl (zai (by first|omega|(simp;omega)|assumption|simp) (by first|omega|(simp;omega)|assumption|simp))) (zaf rfl) <| qd0 (i := 6) (v := .string (subB xw i (i + 1))) rfl (by decide +kernel) rfl rfl (x_slice (lv := some (.int .i64 i)) (hv := some (.int .i64 (i + 1))) rfl rfl rfl (r_sub_both u9 (by first|omega|(simp;omega)|assumption|simp) (by first|omega|(simp;omega)|assumption|simp) (by first|omega|(simp;omega)|assumption|simp))) (zaf rfl) <| qd0 (i := 7) (v := .string (p.host ++ (subB xw i (i + 1)))) rfl (by decide +kernel) rfl rfl (x_add_str rfl rfl sb18) (zaf rfl) <| qd0 (i := 8) (v := .pointer (some ⟨b9, 1, none⟩)) rfl (by decide +kernel) rfl rfl (zal fd35_1 ty9 rfl r13_7) (zaf rfl) <| zc8 (i := 9) (by decide +kernel) ?_
   intro wd23 gd23
   have S24 := S21.keep gd23
   have hf25 := spUp gd23 hf22
   obtain ⟨w26, r26, g26, T26⟩ := zb0 (P := Try.prog) (off := 1) (v := .string (p.host ++ (subB xw i (i + 1)))) (vs := [.string (p.host ++ (subB xw i (i + 1)))]) S24 ty9 rfl rfl (j := 1) rfl (by first | decide | exact Nat.le_of_ble_eq_true rfl) (by simp [Value.oneCell'])
   have S27 := T26.fx 1 (box b9 35 [.bool p.ok, .string (p.host ++ (subB xw i (i + 1))), .string p.path]) rfl
   dsimp only [lAa, lAn, lA0, lAs] at S27
   refine d_s rfl rfl (zbn rfl rfl r26) (.inr (zck (by decide +kernel) trivial)) <| zbh (by decide +kernel) ?_
   intro wd28 gd28
   have S29 := S27.keep gd28
   refine zab <| zac (l := [0, 1, 2, 3, 4]) rfl <| p_v (v := .slice A7 (zaq m xw).length c7) rfl rfl rfl (zad r13_5) <| p_v (v := .int .i64 i) rfl rfl rfl (zad r13_8) ?_
   obtain ⟨ad30, seg30, a30, rp30, ce30⟩ := zao (q := i) (m := 1) ld7 rfl (by first|omega|(simp;omega)|assumption|simp) (by first|omega|(simp;omega)|assumption|simp)
   refine p_v (v := .pointer (some ad30)) rfl rfl rfl (zan u30 ty5 rfl rfl a30 (by first|omega|(simp;omega)|assumption|simp) (by first|omega|(simp;omega)|assumption|simp)) ?_
   obtain ⟨rfl, in30⟩ := rp30
   have lo30 := zd9 in30; have hi30 := zea in30
   refine p_v (v := .int .u8 (at_ (zaq m xw) i)) rfl rfl rfl (zah (seg := [.int .u8 (at_ (zaq m xw) i)]) ty5 rfl (by simp) rfl (CF.ghost ce30 (le13.trans S29.ghost))) <| p_v (v := .bool (decide ((at_ (zaq m xw) i) = 2))) rfl rfl rfl (x_eql rfl rfl) <| zaa ?_
   refine zaj (p := (at_ (zaq m xw) i) = 2) rfl (fun hc31 => ?_) (fun hc31 => ?_)
   ·skip
    have sx32 : ((subB xw i (i + 1)).size : Int) = i + 1 - i := sub_size xw (by first|omega|(simp;omega)|assumption|simp) (by first|omega|(simp;omega)|assumption|simp) (by first|omega|(simp;omega)|assumption|simp)
    have sh32 : (subB xw i (i + 1)).size ≤ maxLen := by have := sx32; unfold maxLen; omega
    have sb33 : p.path.size + (subB xw i (i + 1)).size ≤ 9223372036854775807 := by first | omega | (simp only [str_one]; omega) | (simp only [str_one, size_nil]; omega)
    have sz33 : (p.path ++ (subB xw i (i + 1))).size ≤ maxLen := by rw [size_add]; unfold maxLen; exact sb33
    have st33 := size_add p.path (subB xw i (i + 1))
    have hf34 : (CFs ⟨b9, 2, none⟩ [.string p.path]).1 wd28 := (CF.box (m := 1) (S29.box_at (j := 1) rfl) rfl)
    refine daS (hkC 1 hf34 (hkN (w := wd28))) 10 rfl zc9 ?_
    intro wd35 gd35 hd35
    have S36 := S29.keep gd35
    have hf37 := spUp gd35 hf34
    refine qd0 (i := 0) (v := .pointer (some ⟨b9, 2, none⟩)) rfl (by decide +kernel) rfl rfl (zal fd35_2 ty9 rfl r13_7) (zaf rfl) <| qd1 0 (i := 1) (v := .string p.path) rfl rfl (by decide +kernel) rfl rfl (fun wq hq => (zah (seg := [.string p.path]) ty9 rfl (by simp) rfl hq)) (zaz hf37 (of_nil _ _)) <| qd0 (i := 2) (v := .string xw) rfl (by decide +kernel) rfl rfl (zad r13_1) (zaf rfl) <| qd0 (i := 3) (v := .int .i64 i) rfl (by decide +kernel) rfl rfl (zad r13_8) (zaf rfl) <| qd0 (i := 4) (v := .int .i64 i) rfl (by decide +kernel) rfl rfl (zad r13_8) (zaf rfl) <| qd0 (i := 5) (v := .int .i64 (i + 1)) rfl (by decide +kernel) rfl rfl (zbm rfl rfl (zai (by first|omega|(simp;omega)|assumption|simp) (by first|omega|(simp;omega)|assumption|simp))) (zaf rfl) <| qd0 (i := 6) (v := .string (subB xw i (i + 1))) rfl (by decide +kernel) rfl rfl (x_slice (lv := some (.int .i64 i)) (hv := some (.int .i64 (i + 1))) rfl rfl rfl (r_sub_both u9 (by first|omega|(simp;omega)|assumption|simp) (by first|omega|(simp;omega)|assumption|simp) (by first|omega|(simp;omega)|assumption|simp))) (zaf rfl) <| qd0 (i := 7) (v := .string (p.path ++ (subB xw i (i + 1)))) rfl (by decide +kernel) rfl rfl (x_add_str rfl rfl sb33) (zaf rfl) <| qd0 (i := 8) (v := .pointer (some ⟨b9, 2, none⟩)) rfl (by decide +kernel) rfl rfl (zal fd35_2 ty9 rfl r13_7) (zaf rfl) <| zc8 (i := 9) (by decide +kernel) ?_
    intro wd38 gd38
    have S39 := S36.keep gd38
    have hf40 := spUp gd38 hf37
    obtain ⟨w41, r41, g41, T41⟩ := zb0 (P := Try.prog) (off := 2) (v := .string (p.path ++ (subB xw i (i + 1)))) (vs := [.string (p.path ++ (subB xw i (i + 1)))]) S39 ty9 rfl rfl (j := 1) rfl (by first | decide | exact Nat.le_of_ble_eq_true rfl) (by simp [Value.oneCell'])
    have S42 := T41.fx 1 (box b9 35 [.bool p.ok, .string (p.host ++ (subB xw i (i + 1))), .string (p.path ++ (subB xw i (i + 1)))]) rfl
    dsimp only [lAa, lAn, lA0, lAs] at S42
    refine d_s rfl rfl (zbn rfl rfl r41) (.inr (zck (by decide +kernel) trivial)) <| zbh (by decide +kernel) ?_
    intro wd43 gd43
    have S44 := S42.keep gd43
    refine zak <| zac (l := [0, 1, 2]) rfl <| p_v (v := .int .i64 i) rfl rfl rfl (zad r13_8) <| p_v (v := .int .i64 (i + 1)) rfl rfl rfl (zbm rfl rfl (zai (by first|omega|(simp;omega)|assumption|simp) (by first|omega|(simp;omega)|assumption|simp))) <| p_v (v := .int .i64 (i + 1)) rfl rfl rfl (zae rfl) <| zaa ?_
    refine ih13 ((⟨p.ok, (p.host ++ (subB xw i (i + 1))), (p.path ++ (subB xw i (i + 1)))⟩ : ParM), i + 1) _ _ (by dsimp only; omega) ⟨h13, le13, S44.sub [0, 1] (by decide) rfl _ rfl, r13_1, r13_4, r13_5, r13_7, rfl, (by first | assumption | exact zed | exact ⟨by assumption, by assumption⟩ | exact ⟨by decide, by decide⟩ | (refine And.intro ?_ ?_ <;> dsimp only <;> first | assumption | exact (by assumption : okPar _).1 | exact (by assumption : okPar _).2)), (zai (by first|omega|(simp;omega)|assumption|simp) (by first|omega|(simp;omega)|assumption|simp)), (by exact ⟨by omega, by omega, by rw [hI13.2.2]; first | exact fld_12 hI13.1 (by omega) (by omega) (by assumption) (by assumption) | exact fld_1 hI13.1 (by omega) (by omega) (by assumption) (by omega) | exact fld_2 hI13.1 (by omega) (by omega) (by omega) (by assumption) | exact fld_n hI13.1 (by omega) (by omega) (by omega) (by omega)⟩)⟩
   refine zap <| zak <| zac (l := [0, 1, 2]) rfl <| p_v (v := .int .i64 i) rfl rfl rfl (zad r13_8) <| p_v (v := .int .i64 (i + 1)) rfl rfl rfl (zbm rfl rfl (zai (by first|omega|(simp;omega)|assumption|simp) (by first|omega|(simp;omega)|assumption|simp))) <| p_v (v := .int .i64 (i + 1)) rfl rfl rfl (zae rfl) <| zaa ?_
   refine ih13 ((⟨p.ok, (p.host ++ (subB xw i (i + 1))), p.path⟩ : ParM), i + 1) _ _ (by dsimp only; omega) ⟨h13, le13, S29.sub [0, 1] (by decide) rfl _ rfl, r13_1, r13_4, r13_5, r13_7, rfl, (by first | assumption | exact zed | exact ⟨by assumption, by assumption⟩ | exact ⟨by decide, by decide⟩ | (refine And.intro ?_ ?_ <;> dsimp only <;> first | assumption | exact (by assumption : okPar _).1 | exact (by assumption : okPar _).2)), (zai (by first|omega|(simp;omega)|assumption|simp) (by first|omega|(simp;omega)|assumption|simp)), (by exact ⟨by omega, by omega, by rw [hI13.2.2]; first | exact fld_12 hI13.1 (by omega) (by omega) (by assumption) (by assumption) | exact fld_1 hI13.1 (by omega) (by omega) (by assumption) (by omega) | exact fld_2 hI13.1 (by omega) (by omega) (by omega) (by assumption) | exact fld_n hI13.1 (by omega) (by omega) (by omega) (by omega)⟩)⟩
  refine zap <| zab <| zac (l := [0, 1, 2, 3, 4]) rfl <| p_v (v := .slice A7 (zaq m xw).length c7) rfl rfl rfl (zad r13_5) <| p_v (v := .int .i64 i) rfl rfl rfl (zad r13_8) ?_
  obtain ⟨ad45, seg45, a45, rp45, ce45⟩ := zao (q := i) (m := 1) ld7 rfl (by first|omega|(simp;omega)|assumption|simp) (by first|omega|(simp;omega)|assumption|simp)
  refine p_v (v := .pointer (some ad45)) rfl rfl rfl (zan u30 ty5 rfl rfl a45 (by first|omega|(simp;omega)|assumption|simp) (by first|omega|(simp;omega)|assumption|simp)) ?_
  obtain ⟨rfl, in45⟩ := rp45
  have lo45 := zd9 in45; have hi45 := zea in45
  refine p_v (v := .int .u8 (at_ (zaq m xw) i)) rfl rfl rfl (zah (seg := [.int .u8 (at_ (zaq m xw) i)]) ty5 rfl (by simp) rfl (CF.ghost ce45 (le13.trans S13.ghost))) <| p_v (v := .bool (decide ((at_ (zaq m xw) i) = 2))) rfl rfl rfl (x_eql rfl rfl) <| zaa ?_
  refine zaj (p := (at_ (zaq m xw) i) = 2) rfl (fun hc46 => ?_) (fun hc46 => ?_)
  ·skip
   have sx47 : ((subB xw i (i + 1)).size : Int) = i + 1 - i := sub_size xw (by first|omega|(simp;omega)|assumption|simp) (by first|omega|(simp;omega)|assumption|simp) (by first|omega|(simp;omega)|assumption|simp)
   have sh47 : (subB xw i (i + 1)).size ≤ maxLen := by have := sx47; unfold maxLen; omega
   have sb48 : p.path.size + (subB xw i (i + 1)).size ≤ 9223372036854775807 := by first | omega | (simp only [str_one]; omega) | (simp only [str_one, size_nil]; omega)
   have sz48 : (p.path ++ (subB xw i (i + 1))).size ≤ maxLen := by rw [size_add]; unfold maxLen; exact sb48
   have st48 := size_add p.path (subB xw i (i + 1))
   have hf49 : (CFs ⟨b9, 2, none⟩ [.string p.path]).1 w13 := (CF.box (m := 1) (S13.box_at (j := 1) rfl) rfl)
   refine daS (hkC 1 hf49 (hkN (w := w13))) 10 rfl zc9 ?_
   intro wd50 gd50 hd50
   have S51 := S13.keep gd50
   have hf52 := spUp gd50 hf49
   refine qd0 (i := 0) (v := .pointer (some ⟨b9, 2, none⟩)) rfl (by decide +kernel) rfl rfl (zal fd35_2 ty9 rfl r13_7) (zaf rfl) <| qd1 0 (i := 1) (v := .string p.path) rfl rfl (by decide +kernel) rfl rfl (fun wq hq => (zah (seg := [.string p.path]) ty9 rfl (by simp) rfl hq)) (zaz hf52 (of_nil _ _)) <| qd0 (i := 2) (v := .string xw) rfl (by decide +kernel) rfl rfl (zad r13_1) (zaf rfl) <| qd0 (i := 3) (v := .int .i64 i) rfl (by decide +kernel) rfl rfl (zad r13_8) (zaf rfl) <| qd0 (i := 4) (v := .int .i64 i) rfl (by decide +kernel) rfl rfl (zad r13_8) (zaf rfl) <| qd0 (i := 5) (v := .int .i64 (i + 1)) rfl (by decide +kernel) rfl rfl (zbm rfl rfl (zai (by first|omega|(simp;omega)|assumption|simp) (by first|omega|(simp;omega)|assumption|simp))) (zaf rfl) <| qd0 (i := 6) (v := .string (subB xw i (i + 1))) rfl (by decide +kernel) rfl rfl (x_slice (lv := some (.int .i64 i)) (hv := some (.int .i64 (i + 1))) rfl rfl rfl (r_sub_both u9 (by first|omega|(simp;omega)|assumption|simp) (by first|omega|(simp;omega)|assumption|simp) (by first|omega|(simp;omega)|assumption|simp))) (zaf rfl) <| qd0 (i := 7) (v := .string (p.path ++ (subB xw i (i + 1)))) rfl (by decide +kernel) rfl rfl (x_add_str rfl rfl sb48) (zaf rfl) <| qd0 (i := 8) (v := .pointer (some ⟨b9, 2, none⟩)) rfl (by decide +kernel) rfl rfl (zal fd35_2 ty9 rfl r13_7) (zaf rfl) <| zc8 (i := 9) (by decide +kernel) ?_
   intro wd53 gd53
   have S54 := S51.keep gd53
   have hf55 := spUp gd53 hf52
   obtain ⟨w56, r56, g56, T56⟩ := zb0 (P := Try.prog) (off := 2) (v := .string (p.path ++ (subB xw i (i + 1)))) (vs := [.string (p.path ++ (subB xw i (i + 1)))]) S54 ty9 rfl rfl (j := 1) rfl (by first | decide | exact Nat.le_of_ble_eq_true rfl) (by simp [Value.oneCell'])
   have S57 := T56.fx 1 (box b9 35 [.bool p.ok, .string p.host, .string (p.path ++ (subB xw i (i + 1)))]) rfl
   dsimp only [lAa, lAn, lA0, lAs] at S57
   refine d_s rfl rfl (zbn rfl rfl r56) (.inr (zck (by decide +kernel) trivial)) <| zbh (by decide +kernel) ?_
   intro wd58 gd58
   have S59 := S57.keep gd58
   refine zak <| zac (l := [0, 1, 2]) rfl <| p_v (v := .int .i64 i) rfl rfl rfl (zad r13_8) <| p_v (v := .int .i64 (i + 1)) rfl rfl rfl (zbm rfl rfl (zai (by first|omega|(simp;omega)|assumption|simp) (by first|omega|(simp;omega)|assumption|simp))) <| p_v (v := .int .i64 (i + 1)) rfl rfl rfl (zae rfl) <| zaa ?_
   refine ih13 ((⟨p.ok, p.host, (p.path ++ (subB xw i (i + 1)))⟩ : ParM), i + 1) _ _ (by dsimp only; omega) ⟨h13, le13, S59.sub [0, 1] (by decide) rfl _ rfl, r13_1, r13_4, r13_5, r13_7, rfl, (by first | assumption | exact zed | exact ⟨by assumption, by assumption⟩ | exact ⟨by decide, by decide⟩ | (refine And.intro ?_ ?_ <;> dsimp only <;> first | assumption | exact (by assumption : okPar _).1 | exact (by assumption : okPar _).2)), (zai (by first|omega|(simp;omega)|assumption|simp) (by first|omega|(simp;omega)|assumption|simp)), (by exact ⟨by omega, by omega, by rw [hI13.2.2]; first | exact fld_12 hI13.1 (by omega) (by omega) (by assumption) (by assumption) | exact fld_1 hI13.1 (by omega) (by omega) (by assumption) (by omega) | exact fld_2 hI13.1 (by omega) (by omega) (by omega) (by assumption) | exact fld_n hI13.1 (by omega) (by omega) (by omega) (by omega)⟩)⟩
  refine zap <| zak <| zac (l := [0, 1, 2]) rfl <| p_v (v := .int .i64 i) rfl rfl rfl (zad r13_8) <| p_v (v := .int .i64 (i + 1)) rfl rfl rfl (zbm rfl rfl (zai (by first|omega|(simp;omega)|assumption|simp) (by first|omega|(simp;omega)|assumption|simp))) <| p_v (v := .int .i64 (i + 1)) rfl rfl rfl (zae rfl) <| zaa ?_
  refine ih13 (p, i + 1) _ _ (by dsimp only; omega) ⟨h13, le13, S13.sub [0, 1] (by decide) rfl _ rfl, r13_1, r13_4, r13_5, r13_7, rfl, f13_0, (zai (by first|omega|(simp;omega)|assumption|simp) (by first|omega|(simp;omega)|assumption|simp)), (by exact ⟨by omega, by omega, by rw [hI13.2.2]; first | exact fld_12 hI13.1 (by omega) (by omega) (by assumption) (by assumption) | exact fld_1 hI13.1 (by omega) (by omega) (by assumption) (by omega) | exact fld_2 hI13.1 (by omega) (by omega) (by omega) (by assumption) | exact fld_n hI13.1 (by omega) (by omega) (by omega) (by omega)⟩)⟩
 refine za3 rfl <| zab <| zac (l := [0, 1]) rfl <| p_v (v := .agg (zby p).toArray) rfl rfl rfl (zah (seg := (zby p)) ty35 rfl (by simp) r13_7 (CF.box (m := 3) (S13.box_at (j := 1) rfl) rfl)) ?_
 obtain ⟨w60, r60, g60, T60⟩ := zb0 (P := Try.prog) (off := 0) (v := .agg (zby p).toArray) (vs := (zby p)) S13 ty35 rfl rfl (j := 0) rfl (by first | decide | exact Nat.le_of_ble_eq_true rfl) (encPar_one _)
 have S61 := T60.fx 0 (box b3 35 (zby p)) rfl
 dsimp only [lAa, lAn, lA0, lAs] at S61
 refine p_s rfl rfl (zbn r13_4 rfl r60) <| zaa <| zau Try.func15 (res1 rfl (res_cell S61 ty35 r13_4 (j := 0) rfl rfl (by simp) rfl)) ?_
 have q0 : (zdf m xw : ParM) = p := by
  rw [field_run (i := i) (by omega)]; exact hI13.2.2.symm
 refine ⟨_, rfl, h13, ?_, ?_, ?_⟩
 · exact S61.sub [] (by decide) rfl _ rfl
 · first | rfl | (simp only [q0]; rfl) | (simp only [q0])
 · rw [q0]; first | assumption | exact zed | exact ⟨by assumption, by assumption⟩ | exact ⟨by decide, by decide⟩ | (refine And.intro ?_ ?_ <;> dsimp only <;> first | assumption | exact (by assumption : okPar _).1 | exact (by assumption : okPar _).2)
end Go.Proofs.Ytpdanfggijmnmaa
namespace Go.Proofs.Ytpdanfggijmnmaa
open Go Go.RowKit Gx
set_option maxHeartbeats 1000000
set_option linter.unusedVariables false
set_option linter.unusedSimpArgs false
set_option maxRecDepth 8000
attribute [local irreducible] count first has zb9 wbits Lib.ctz zcf zbd rowOk tab markP intoP intoTo zcr zb8 zcs runTo endsIn endTo runM zd6 mayP zb5 zcb mayTo atP lastTo zcv zd3 docAt anyTo allTo lfp trues zc7 zcw gIn zdc endL zdg gRowTo za2 markL marksO zaq okMk pickL zdm zdf subB zcl
theorem fstMarks_calls (w : World) (m : Mach) (A0_0 : Option Addr) (c0_0 : Nat) (b0_0 : m.spots.length ≤ c0_0 ∧ c0_0 ≤ maxLen) (l0_0 : za4 zec (hp w) A0_0 m.spots) (A0_1 : Option Addr) (c0_1 : Nat) (b0_1 : m.first.length ≤ c0_1 ∧ c0_1 ≤ maxLen) (l0_1 : za4 (Kd.int .i64) (hp w) A0_1 m.first) (A0_2 : Option Addr) (c0_2 : Nat) (b0_2 : m.follow.length ≤ c0_2 ∧ c0_2 ≤ maxLen) (l0_2 : za4 (Kd.int .i64).slice (hp w) A0_2 m.follow) (A0_3 : Option Addr) (c0_3 : Nat) (b0_3 : m.last.length ≤ c0_3 ∧ c0_3 ≤ maxLen) (l0_3 : za4 Kd.bool (hp w) A0_3 m.last) (xw : ByteArray) (s1 : xw.size ≤ maxLen) :
    Calls Try.prog 3 #[.agg #[.slice A0_0 m.spots.length c0_0, .slice A0_1 m.first.length c0_1, .slice A0_2 m.follow.length c0_2, .slice A0_3 m.last.length c0_3, .bool m.empty], .string xw] w fun e w' => ∃ v, e = .returned v ∧ ∃ (hn : Ghost), St w.heap.size w hn w' [] ∧ v = .bool true := by
 refine zas Try.func3 rfl Try.ntmps3 rfl ?_
 have S0 := St.init w
 have bb0_0 := b0_0.1; have bc0_0 := b0_0.2; simp only [maxLen] at bc0_0
 have bb0_1 := b0_1.1; have bc0_1 := b0_1.2; simp only [maxLen] at bc0_1
 have bb0_2 := b0_2.1; have bc0_2 := b0_2.2; simp only [maxLen] at bc0_2
 have bb0_3 := b0_3.1; have bc0_3 := b0_3.2; simp only [maxLen] at bc0_3
 have sz1 := s1; simp only [maxLen] at sz1
 refine zab <| zac (l := [0, 1]) rfl ?_
 obtain ⟨b1, w1, r1, g1, T1⟩ := zct (P := Try.prog) S0 27 (v := .agg #[.slice A0_0 m.spots.length c0_0, .slice A0_1 m.first.length c0_1, .slice A0_2 m.follow.length c0_2, .slice A0_3 m.last.length c0_3, .bool m.empty]) [.slice A0_0 m.spots.length c0_0, .slice A0_1 m.first.length c0_1, .slice A0_2 m.follow.length c0_2, .slice A0_3 m.last.length c0_3, .bool m.empty] rfl
 have S2 := T1
 dsimp only [lAa, lAn, lA0, lAs] at S2
 refine p_v (v := .pointer (some ⟨b1, 0, none⟩)) rfl rfl rfl (x_box rfl r1) <| p_v (v := .bool false) rfl rfl rfl (zae rfl) <| zaa <| zab <| zab <| zac (l := [0, 1, 2, 3, 4, 5, 6]) rfl <| p_v (v := .agg #[.slice A0_0 m.spots.length c0_0, .slice A0_1 m.first.length c0_1, .slice A0_2 m.follow.length c0_2, .slice A0_3 m.last.length c0_3, .bool m.empty]) rfl rfl rfl (zah (seg := [.slice A0_0 m.spots.length c0_0, .slice A0_1 m.first.length c0_1, .slice A0_2 m.follow.length c0_2, .slice A0_3 m.last.length c0_3, .bool m.empty]) ty27 rfl (by simp) rfl (CF.box (m := 5) (S2.box_at (j := 0) rfl) rfl)) <| p_c rfl rfl rfl (zba (args := [.agg #[.slice A0_0 m.spots.length c0_0, .slice A0_1 m.first.length c0_1, .slice A0_2 m.follow.length c0_2, .slice A0_3 m.last.length c0_3, .bool m.empty]]) ca9 rfl rfl) (great_calls w1 m A0_0 c0_0 b0_0 (l0_0.mono (St.le0 S2)) A0_1 c0_1 b0_1 (l0_1.mono (St.le0 S2)) A0_2 c0_2 b0_2 (l0_2.mono (St.le0 S2)) A0_3 c0_3 b0_3 (l0_3.mono (St.le0 S2))) ?_
 rintro _ w3 ⟨h3, T3, rfl⟩
 have S4 := S2.keep (Chg.of_below T3.below)
 refine p_v (v := .bool (zcv m)) rfl rfl rfl (zad rfl) ?_
 rcases Bool.eq_false_or_eq_true (zcv m) with hc5 | hc5
 ·skip
  refine zaw rfl (wo 2 11 rfl rfl (congrArg Value.bool hc5) rfl) rfl <| zaw rfl (wo 2 11 rfl rfl (congrArg Value.bool hc5) rfl) rfl <| zaw rfl (wo 2 11 rfl rfl (congrArg Value.bool hc5) rfl) rfl <| p_v (v := .bool true) rfl rfl rfl (za5 (congrArg Value.bool hc5) rfl) <| zaa <| zbp (b := true) rfl ?_
  simp only [if_true, if_false, Bool.false_eq_true]
  refine zab <| zac (l := [0, 1]) rfl <| p_c rfl rfl rfl (zba (args := []) ca10 rfl rfl) (awake14_calls w3 ) ?_
  rintro _ w6 ⟨h6, T6, rfl⟩
  have S7 := S4.keep (Chg.of_below T6.below)
  refine p_v (v := .bool true) rfl rfl rfl (zae rfl) <| zaa <| zau Try.func3 (res1 rfl (zav (v := .bool true) rfl)) ?_
  have q0 : (true : Bool) = true := rfl
  refine ⟨_, rfl, (fun _ => none), ?_, ?_⟩
  · exact S7.sub [] (by decide) rfl _ rfl
  · rfl
 refine p_v (v := .string xw) rfl (wo 2 11 rfl rfl (congrArg Value.bool hc5) rfl) rfl (zad rfl) <| p_v (v := .int .i64 (xw.size : Int)) rfl (wo 2 11 rfl rfl (congrArg Value.bool hc5) rfl) rfl (zcn u9 rfl) <| p_v (v := .bool (decide (40 < (xw.size : Int)))) rfl (wo 2 11 rfl rfl (congrArg Value.bool hc5) rfl) rfl (x_gtr rfl rfl) <| p_v (v := .bool (decide (40 < (xw.size : Int)))) rfl rfl rfl (zbo (congrArg Value.bool hc5) rfl) <| zaa ?_
 refine zaj (p := 40 < (xw.size : Int)) rfl (fun hc9 => ?_) (fun hc9 => ?_)
 ·skip
  refine zab <| zac (l := [0, 1]) rfl <| p_c rfl rfl rfl (zba (args := []) ca10 rfl rfl) (awake14_calls w3 ) ?_
  rintro _ w10 ⟨h10, T10, rfl⟩
  have S11 := S4.keep (Chg.of_below T10.below)
  refine p_v (v := .bool true) rfl rfl rfl (zae rfl) <| zaa <| zau Try.func3 (res1 rfl (zav (v := .bool true) rfl)) ?_
  have q0 : (true : Bool) = true := rfl
  refine ⟨_, rfl, (fun _ => none), ?_, ?_⟩
  · exact S11.sub [] (by decide) rfl _ rfl
  · rfl
 refine zap <| zab <| zac (l := [0, 1, 2, 3, 4, 5, 6, 7]) rfl <| p_v (v := .agg #[.slice A0_0 m.spots.length c0_0, .slice A0_1 m.first.length c0_1, .slice A0_2 m.follow.length c0_2, .slice A0_3 m.last.length c0_3, .bool m.empty]) rfl rfl rfl (zah (seg := [.slice A0_0 m.spots.length c0_0, .slice A0_1 m.first.length c0_1, .slice A0_2 m.follow.length c0_2, .slice A0_3 m.last.length c0_3, .bool m.empty]) ty27 rfl (by simp) rfl (CF.box (m := 5) (S4.box_at (j := 0) rfl) rfl)) <| p_v (v := .string xw) rfl rfl rfl (zad rfl) <| p_c rfl rfl rfl (zba (args := [.agg #[.slice A0_0 m.spots.length c0_0, .slice A0_1 m.first.length c0_1, .slice A0_2 m.follow.length c0_2, .slice A0_3 m.last.length c0_3, .bool m.empty], .string xw]) ca11 rfl rfl) (marks_calls w3 m A0_0 c0_0 b0_0 (l0_0.mono (St.le0 S4)) A0_1 c0_1 b0_1 (l0_1.mono (St.le0 S4)) A0_2 c0_2 b0_2 (l0_2.mono (St.le0 S4)) A0_3 c0_3 b0_3 (l0_3.mono (St.le0 S4)) xw s1 (by first | assumption | omega | decide)) ?_
 rintro _ w13 ⟨h13, v13_0, T13, rfl⟩
 obtain ⟨k13, lk13, ll13, U13⟩ := zcd S4 T13
 have S14 := U13
 dsimp only [lAa, lAn, lA0, lAs] at S14
 obtain ⟨h15, le15, T15, rp15⟩ := S14.freeze (i := 1) rfl
 have S16 := T15.fx 1 (emp) rfl
 dsimp only [lAa, lAn, lA0, lAs] at S16
 obtain ⟨A15, c15, e15, lc15, cm15, ld15⟩ := rp15
 injection e15 with e15 _; subst e15
 have cn15 := cm15; simp only [maxLen] at cn15
 refine p_v (v := .tuple #[.slice A15 (zaq m xw).length c15, .bool (okMk m xw)]) rfl rfl rfl (zad rfl) <| p_v (v := .slice A15 (zaq m xw).length c15) rfl rfl rfl (zci (vs := [.slice A15 (zaq m xw).length c15, .bool (okMk m xw)]) rfl rfl) <| p_v (v := .bool (okMk m xw)) rfl rfl rfl (zci (vs := [.slice A15 (zaq m xw).length c15, .bool (okMk m xw)]) rfl rfl) <| p_v (v := .slice A15 (zaq m xw).length c15) rfl rfl rfl (zae rfl) <| p_v (v := .bool (okMk m xw)) rfl rfl rfl (zae rfl) <| zaa <| zab <| zac (l := [0, 1, 2, 3, 4, 5, 6, 7]) rfl <| p_v (v := .agg #[.slice A0_0 m.spots.length c0_0, .slice A0_1 m.first.length c0_1, .slice A0_2 m.follow.length c0_2, .slice A0_3 m.last.length c0_3, .bool m.empty]) rfl rfl rfl (zah (seg := [.slice A0_0 m.spots.length c0_0, .slice A0_1 m.first.length c0_1, .slice A0_2 m.follow.length c0_2, .slice A0_3 m.last.length c0_3, .bool m.empty]) ty27 rfl (by simp) rfl (CF.box (m := 5) (S16.box_at (j := 0) rfl) rfl)) <| p_v (v := .string xw) rfl rfl rfl (zad rfl) <| p_c rfl rfl rfl (zba (args := [.agg #[.slice A0_0 m.spots.length c0_0, .slice A0_1 m.first.length c0_1, .slice A0_2 m.follow.length c0_2, .slice A0_3 m.last.length c0_3, .bool m.empty], .string xw]) ca12 rfl rfl) (marks14_calls w13 m A0_0 c0_0 b0_0 (l0_0.mono (St.le0 S16)) A0_1 c0_1 b0_1 (l0_1.mono (St.le0 S16)) A0_2 c0_2 b0_2 (l0_2.mono (St.le0 S16)) A0_3 c0_3 b0_3 (l0_3.mono (St.le0 S16)) xw s1 (by first | assumption | omega | decide)) ?_
 rintro _ w17 ⟨h17, v17_0, T17, rfl⟩
 obtain ⟨k17, lk17, ll17, U17⟩ := zcd S16 T17
 have S18 := U17
 dsimp only [lAa, lAn, lA0, lAs] at S18
 obtain ⟨h19, le19, T19, rp19⟩ := S18.freeze (i := 2) rfl
 have S20 := T19.fx 2 (emp) rfl
 dsimp only [lAa, lAn, lA0, lAs] at S20
 obtain ⟨A19, c19, e19, lc19, cm19, ld19⟩ := rp19
 injection e19 with e19 _; subst e19
 have cn19 := cm19; simp only [maxLen] at cn19
 refine p_v (v := .tuple #[.slice A19 (zaq m xw).length c19, .bool (okMk m xw)]) rfl rfl rfl (zad rfl) <| p_v (v := .slice A19 (zaq m xw).length c19) rfl rfl rfl (zci (vs := [.slice A19 (zaq m xw).length c19, .bool (okMk m xw)]) rfl rfl) <| p_v (v := .bool (okMk m xw)) rfl rfl rfl (zci (vs := [.slice A19 (zaq m xw).length c19, .bool (okMk m xw)]) rfl rfl) <| p_v (v := .slice A19 (zaq m xw).length c19) rfl rfl rfl (zae rfl) <| p_v (v := .bool (okMk m xw)) rfl rfl rfl (zae rfl) <| zaa <| zab ?_
 have hc22 : (decide ((zaq m xw) = (zaq m xw))) = true := by
  first | rfl | exact decide_eq_true rfl
 have hc23 : ((okMk m xw) = (okMk m xw)) := by
  first | rfl | exact decide_eq_true rfl
 obtain ⟨_, _, _, _, _, _, _, ok24_0⟩ := calls_some (runF_calls w17 m A0_0 c0_0 b0_0 (l0_0.mono (St.le0 S20)) A0_1 c0_1 b0_1 (l0_1.mono (St.le0 S20)) A0_2 c0_2 b0_2 (l0_2.mono (St.le0 S20)) A0_3 c0_3 b0_3 (l0_3.mono (St.le0 S20)) xw s1 (by first | assumption | omega | decide))
 obtain ⟨_, _, _, _, _, _, _, ok25_0⟩ := calls_some (run14_calls w17 m A0_0 c0_0 b0_0 (l0_0.mono (St.le0 S20)) A0_1 c0_1 b0_1 (l0_1.mono (St.le0 S20)) A0_2 c0_2 b0_2 (l0_2.mono (St.le0 S20)) A0_3 c0_3 b0_3 (l0_3.mono (St.le0 S20)) xw s1 (by first | assumption | omega | decide))
 have hc26 : ((zdf m xw) = (zdf m xw)) := by
  first | rfl | exact decide_eq_true rfl
 have hf28 : (LeadsS (Kd.int .u8) A15 (zaq m xw)).1 w17 := (ld15.mono ((lk17.trans le19).trans S20.ghost))
 have hf29 : (LeadsS (Kd.int .u8) A19 (zaq m xw)).1 w17 := (ld19.mono ((Le.refl _).trans S20.ghost))
 have hf30 : (CFs ⟨b1, 0, none⟩ [.slice A0_0 m.spots.length c0_0, .slice A0_1 m.first.length c0_1, .slice A0_2 m.follow.length c0_2, .slice A0_3 m.last.length c0_3, .bool m.empty]).1 w17 := (CF.box (m := 5) (S20.box_at (j := 0) rfl) rfl)
 have hf31 : (LeadsS zec A0_0 m.spots).1 w17 := (l0_0.mono (St.le0 S20))
 have hf32 : (LeadsS (Kd.int .i64) A0_1 m.first).1 w17 := (l0_1.mono (St.le0 S20))
 have hf33 : (LeadsS (Kd.int .i64).slice A0_2 m.follow).1 w17 := (l0_2.mono (St.le0 S20))
 have hf34 : (LeadsS Kd.bool A0_3 m.last).1 w17 := (l0_3.mono (St.le0 S20))
 have hf35 : (CFs ⟨b1, 0, none⟩ [.slice A0_0 m.spots.length c0_0, .slice A0_1 m.first.length c0_1, .slice A0_2 m.follow.length c0_2, .slice A0_3 m.last.length c0_3, .bool m.empty]).1 w17 := (CF.box (m := 5) (S20.box_at (j := 0) rfl) rfl)
 have hf36 : (LeadsS zec A0_0 m.spots).1 w17 := (l0_0.mono (St.le0 S20))
 have hf37 : (LeadsS (Kd.int .i64) A0_1 m.first).1 w17 := (l0_1.mono (St.le0 S20))
 have hf38 : (LeadsS (Kd.int .i64).slice A0_2 m.follow).1 w17 := (l0_2.mono (St.le0 S20))
 have hf39 : (LeadsS Kd.bool A0_3 m.last).1 w17 := (l0_3.mono (St.le0 S20))
 refine daS (hkC 2 hf28 (hkC 2 hf29 (hkC 9 hf30 (hkC 11 hf31 (hkC 11 hf32 (hkC 11 hf33 (hkC 11 hf34 (hkC 12 hf35 (hkC 14 hf36 (hkC 14 hf37 (hkC 14 hf38 (hkC 14 hf39 (hkN (w := w17)))))))))))))) 21 rfl zc9 ?_
 intro wd40 gd40 hd40
 have S41 := S20.keep gd40
 have hf42 := spUp gd40 hf28
 have hf43 := spUp gd40 hf29
 have hf44 := spUp gd40 hf30
 have hf45 := spUp gd40 hf31
 have hf46 := spUp gd40 hf32
 have hf47 := spUp gd40 hf33
 have hf48 := spUp gd40 hf34
 have hf49 := spUp gd40 hf35
 have hf50 := spUp gd40 hf36
 have hf51 := spUp gd40 hf37
 have hf52 := spUp gd40 hf38
 have hf53 := spUp gd40 hf39
 refine qd0 (i := 0) (v := .slice A15 (zaq m xw).length c15) rfl (by decide +kernel) rfl rfl (zad rfl) (zaf rfl) <| qd0 (i := 1) (v := .slice A19 (zaq m xw).length c19) rfl (by decide +kernel) rfl rfl (zad rfl) (zaf rfl) <| d_m (i := 2) (v := .bool (decide ((zaq m xw) = (zaq m xw)))) (fun wf => za4 (Kd.int .u8) (hp wf) A15 (zaq m xw) ∧ za4 (Kd.int .u8) (hp wf) A19 (zaq m xw)) (fun _ ho => ⟨ho _ (List.mem_of_getElem? (i := 0) rfl) rfl, ho _ (List.mem_of_getElem? (i := 1) rfl) rfl⟩) rfl (by decide +kernel) (by decide +kernel) (by decide +kernel) rfl rfl (fun wq => (zba (args := [.slice A15 (zaq m xw).length c15, .slice A19 (zaq m xw).length c19]) ca13 rfl rfl)) (fun wq hq => (marked14_calls wq (zaq m xw) A15 c15 (And.intro lc15 cm15) hq.1 (zaq m xw) A19 c19 (And.intro lc19 cm19) hq.2).mono fun e w2 he => by obtain ⟨_, rfl, _, T, rfl⟩ := he; exact ⟨rfl, Chg.of_below T.below⟩) (zaz hf42 (zaz hf43 (zaf rfl))) <| qd0 (i := 3) (v := .bool (decide ((zaq m xw) = (zaq m xw)))) rfl (by decide +kernel) rfl rfl (zad rfl) (zaf rfl) <| qd0 (i := 4) (v := .bool (okMk m xw)) rfl (by decide +kernel) (wo 3 32 rfl rfl (congrArg Value.bool hc22) rfl) rfl (zad rfl) (zaf rfl) <| qd0 (i := 5) (v := .bool (okMk m xw)) rfl (by decide +kernel) (wo 3 32 rfl rfl (congrArg Value.bool hc22) rfl) rfl (zad rfl) (zaf rfl) <| qd0 (i := 6) (v := .bool (decide ((okMk m xw) = (okMk m xw)))) rfl (by decide +kernel) (wo 3 32 rfl rfl (congrArg Value.bool hc22) rfl) rfl (x_eql_bool u4 rfl rfl) (zaf rfl) <| qd0 (i := 7) (v := .bool (decide ((okMk m xw) = (okMk m xw)))) rfl (by decide +kernel) rfl rfl (za5 (congrArg Value.bool hc22) rfl) (zaf rfl) <| qd0 (i := 8) (v := .bool (decide ((okMk m xw) = (okMk m xw)))) rfl (by decide +kernel) rfl rfl (zad rfl) (zaf rfl) <| qd1 2 (i := 9) (v := .agg #[.slice A0_0 m.spots.length c0_0, .slice A0_1 m.first.length c0_1, .slice A0_2 m.follow.length c0_2, .slice A0_3 m.last.length c0_3, .bool m.empty]) rfl rfl (by decide +kernel) (wo 8 37 rfl rfl (bT hc23) rfl) rfl (fun wq hq => (zah (seg := [.slice A0_0 m.spots.length c0_0, .slice A0_1 m.first.length c0_1, .slice A0_2 m.follow.length c0_2, .slice A0_3 m.last.length c0_3, .bool m.empty]) ty27 rfl (by simp) rfl hq)) (zar rfl (zar rfl (zaz hf44 (zaf rfl)))) <| qd0 (i := 10) (v := .string xw) rfl (by decide +kernel) (wo 8 37 rfl rfl (bT hc23) rfl) rfl (zad rfl) (zaf rfl) <| d_m (i := 11) (v := .agg (zby (zdf m xw)).toArray) (fun wf => za4 zec (hp wf) A0_0 m.spots ∧ za4 (Kd.int .i64) (hp wf) A0_1 m.first ∧ za4 (Kd.int .i64).slice (hp wf) A0_2 m.follow ∧ za4 Kd.bool (hp wf) A0_3 m.last) (fun _ ho => ⟨ho _ (List.mem_of_getElem? (i := 3) rfl) rfl, ho _ (List.mem_of_getElem? (i := 4) rfl) rfl, ho _ (List.mem_of_getElem? (i := 5) rfl) rfl, ho _ (List.mem_of_getElem? (i := 6) rfl) rfl⟩) rfl (by decide +kernel) (by decide +kernel) (by decide +kernel) (wo 8 37 rfl rfl (bT hc23) rfl) rfl (fun wq => (zba (args := [.agg #[.slice A0_0 m.spots.length c0_0, .slice A0_1 m.first.length c0_1, .slice A0_2 m.follow.length c0_2, .slice A0_3 m.last.length c0_3, .bool m.empty], .string xw]) ca14 rfl rfl)) (fun wq hq => (runF_calls wq m A0_0 c0_0 b0_0 hq.1 A0_1 c0_1 b0_1 hq.2.1 A0_2 c0_2 b0_2 hq.2.2.1 A0_3 c0_3 b0_3 hq.2.2.2 xw s1 (by first | assumption | omega | decide)).mono fun e w2 he => by obtain ⟨_, rfl, _, T, rfl, _⟩ := he; exact ⟨rfl, Chg.of_below T.below⟩) (zar rfl (zar rfl (zar rfl (zaz hf45 (zaz hf46 (zaz hf47 (zaz hf48 (zaf rfl)))))))) ?_
 refine qd1 7 (i := 12) (v := .agg #[.slice A0_0 m.spots.length c0_0, .slice A0_1 m.first.length c0_1, .slice A0_2 m.follow.length c0_2, .slice A0_3 m.last.length c0_3, .bool m.empty]) rfl rfl (by decide +kernel) (wo 8 37 rfl rfl (bT hc23) rfl) rfl (fun wq hq => (zah (seg := [.slice A0_0 m.spots.length c0_0, .slice A0_1 m.first.length c0_1, .slice A0_2 m.follow.length c0_2, .slice A0_3 m.last.length c0_3, .bool m.empty]) ty27 rfl (by simp) rfl hq)) (zar rfl (zar rfl (zar rfl (zar rfl (zar rfl (zar rfl (zar rfl (zaz hf49 (zaf rfl))))))))) <| qd0 (i := 13) (v := .string xw) rfl (by decide +kernel) (wo 8 37 rfl rfl (bT hc23) rfl) rfl (zad rfl) (zaf rfl) <| d_m (i := 14) (v := .agg (zby (zdf m xw)).toArray) (fun wf => za4 zec (hp wf) A0_0 m.spots ∧ za4 (Kd.int .i64) (hp wf) A0_1 m.first ∧ za4 (Kd.int .i64).slice (hp wf) A0_2 m.follow ∧ za4 Kd.bool (hp wf) A0_3 m.last) (fun _ ho => ⟨ho _ (List.mem_of_getElem? (i := 8) rfl) rfl, ho _ (List.mem_of_getElem? (i := 9) rfl) rfl, ho _ (List.mem_of_getElem? (i := 10) rfl) rfl, ho _ (List.mem_of_getElem? (i := 11) rfl) rfl⟩) rfl (by decide +kernel) (by decide +kernel) (by decide +kernel) (wo 8 37 rfl rfl (bT hc23) rfl) rfl (fun wq => (zba (args := [.agg #[.slice A0_0 m.spots.length c0_0, .slice A0_1 m.first.length c0_1, .slice A0_2 m.follow.length c0_2, .slice A0_3 m.last.length c0_3, .bool m.empty], .string xw]) ca15 rfl rfl)) (fun wq hq => (run14_calls wq m A0_0 c0_0 b0_0 hq.1 A0_1 c0_1 b0_1 hq.2.1 A0_2 c0_2 b0_2 hq.2.2.1 A0_3 c0_3 b0_3 hq.2.2.2 xw s1 (by first | assumption | omega | decide)).mono fun e w2 he => by obtain ⟨_, rfl, _, T, rfl, _⟩ := he; exact ⟨rfl, Chg.of_below T.below⟩) (zar rfl (zar rfl (zar rfl (zar rfl (zar rfl (zar rfl (zar rfl (zar rfl (zaz hf50 (zaz hf51 (zaz hf52 (zaz hf53 (zaf rfl))))))))))))) <| qd0 (i := 15) (v := .bool (decide ((zdf m xw) = (zdf m xw)))) rfl (by decide +kernel) (wo 8 37 rfl rfl (bT hc23) rfl) rfl (x_eql_agg eqk35 ok24_0 ok25_0 q35 rfl rfl) (zaf rfl) <| qd0 (i := 16) (v := .bool (decide ((zdf m xw) = (zdf m xw)))) rfl (by decide +kernel) rfl rfl (za5 (bT hc23) rfl) (zaf rfl) <| qd0 (i := 17) (v := .bool (decide ((zdf m xw) = (zdf m xw)))) rfl (by decide +kernel) rfl rfl (zad rfl) (zaf rfl) <| d_m (i := 18) (v := .bool true) (fun _ => True) (fun _ ho => trivial) rfl (by decide +kernel) (by decide +kernel) (by decide +kernel) (wo 17 46 rfl rfl (bT hc26) rfl) rfl (fun wq => (zba (args := []) ca10 rfl rfl)) (fun wq hq => (awake14_calls wq ).mono fun e w2 he => by obtain ⟨_, rfl, _, T, rfl⟩ := he; exact ⟨rfl, Chg.of_below T.below⟩) (zaf rfl) <| qd0 (i := 19) (v := .bool true) rfl (by decide +kernel) rfl rfl (za5 (bT hc26) rfl) (zaf rfl) <| qd0 (i := 20) (v := .bool true) rfl (by decide +kernel) rfl rfl (zae rfl) (zaf rfl) <| zbh (by decide +kernel) ?_
 intro wd54 gd54
 have S55 := S41.keep gd54
 refine zau Try.func3 (res1 rfl (zav (v := .bool true) rfl)) ?_
 have q0 : (true : Bool) = true := rfl
 refine ⟨_, rfl, h19, ?_, ?_⟩
 · exact S55.sub [] (by decide) rfl _ rfl
 · rfl
end Go.Proofs.Ytpdanfggijmnmaa
namespace Gx
open Go Go.RowKit
set_option linter.unusedSimpArgs false
set_option linter.unusedSectionVars false
set_option linter.unusedVariables false
def zdd {α : Type} (P : Program) (k : Kd α) (t : TypeId) : Prop :=
  ∀ {H : Type} {enc : TypeId × Value → H} {w : World} {spare : Nat → Bool} {held : Bool} {fuel : Nat} {cs : List Value} {x : DataW H × List MemPlace}, DataW.trod enc P w 0 spare held fuel t cs = some x → ∃ m, k.rep (hp w) m cs
section
variable {P : Program} {t e : TypeId}
theorem inK_wf {k : IntKind} {n : Int} (h : (Lit.int k n).wf = true) : inK k n := by
  simp only [Lit.wf, Bool.and_eq_true, decide_eq_true_eq] at h
  exact h
theorem zdd.int {k : IntKind} (ht : P.underlying t = some (.int k)) : zdd P (Kd.int k) t := fun h => by
  obtain ⟨n, rfl, _, hw⟩ := DataW.trod_int ht h
  exact ⟨n, rfl, inK_wf hw⟩
theorem zdd.bool (ht : P.underlying t = some .bool) : zdd P Kd.bool t := fun h => by
  obtain ⟨b, rfl, _⟩ := DataW.trod_bool ht h
  exact ⟨b, rfl, trivial⟩
theorem zdd.string (ht : P.underlying t = some .string) : zdd P Kd.string t := fun h => by
  obtain ⟨s, rfl, _, hs⟩ := DataW.trod_string ht h
  exact ⟨s, rfl, hs⟩
theorem exists_list {α : Type} {Q : Nat → α → Prop} : ∀ (n : Nat), (∀ i, i < n → ∃ m, Q i m) → ∃ l : List α, l.length = n ∧ ∀ i m, l[i]? = some m → Q i m
  | 0, _ => ⟨[], rfl, fun i m h => by simp at h⟩
  | n + 1, h => by
    obtain ⟨l, hl, hq⟩ := exists_list n fun i hi => h i (by omega)
    obtain ⟨m, hm⟩ := h n (by omega)
    refine ⟨l ++ [m], by simp [hl], fun i y hy => ?_⟩
    rw [List.getElem?_append] at hy
    split at hy
    · exact hq i y hy
    · rename_i hi
      have e : i - l.length = 0 := by
        rcases Nat.eq_zero_or_pos (i - l.length) with h0 | h0
        · exact h0
        · rw [List.getElem?_eq_none (by simp; omega)] at hy; cases hy
      rw [e] at hy
      simp at hy
      subst hy
      have : i = n := by omega
      rw [this]; exact hm
theorem zdd.ints {k : IntKind} {n : Nat} (hn : 0 < n) (ht : P.underlying t = some (.array n e)) (he : P.underlying e = some (.int k)) (hc : P.cellsOf e = 1) (hct : P.cellsOf t = n) : zdd P (kInts k n hn) t := fun {H enc w spare held fuel cs x} h => by
  obtain ⟨xs, m, _, _, hl, hx, hel⟩ := DataW.trod_array ht h
  rw [hct] at hl
  have h1 : ∀ i, i < n → ∃ z : Int, cs[i]? = some (.int k z) ∧ inK k z := fun i hi => by
    have h2 := hel i hi
    rw [hc, Nat.mul_one, List.getElem?_eq_getElem (by omega)] at h2
    obtain ⟨z, hz, _, hw⟩ := DataW.trod_int he h2
    refine ⟨z, ?_, inK_wf hw⟩
    have h3 := congrArg (fun l : List Value => l[0]?) hz
    simpa [List.getElem?_take, List.getElem?_drop] using h3
  obtain ⟨l, hll, hq⟩ := exists_list n h1
  refine ⟨l, ?_, hll, fun z hz => ?_⟩
  · apply List.ext_getElem?
    intro i
    rw [zbv, List.getElem?_map]
    by_cases hi : i < n
    · have h4 := hq i (l[i]'(by omega)) (List.getElem?_eq_getElem _)
      rw [h4.1, List.getElem?_eq_getElem (by omega)]; rfl
    · rw [List.getElem?_eq_none (by omega), List.getElem?_eq_none (by omega)]; rfl
  · obtain ⟨i, hi⟩ := List.mem_iff_getElem?.1 hz
    exact (hq i z hi).2
theorem zdd.set (ht : P.underlying t = some (.array 4 e)) (he : P.underlying e = some (.int .u64)) (hc : P.cellsOf e = 1) (hct : P.cellsOf t = 4) : zdd P kSet t := fun h => by
  obtain ⟨l, hl, hok⟩ := zdd.ints (n := 4) (by omega) ht he hc hct h
  exact ⟨zcx l, by rw [hl, encSet_of hok], trivial⟩
theorem zdd.slice {α : Type} {k : Kd α} (ht : P.underlying t = some (.slice e)) (hc : P.cellsOf e = k.sz) (ho : zdd P k e) : zdd P k.slice t := fun {H enc w spare held fuel cs x} h => by
  rcases DataW.trod_slice ht h with ⟨rfl, _⟩ | ⟨a, len, cap, elems, rest, n, _, rfl, _, _, hl, hm, hlen, hel, _, _⟩
  · exact ⟨[], none, 0, rfl, Nat.le_refl _, by simp [maxLen], fun hne => (hne rfl).elim⟩
  · rw [hc] at hel
    have h1 : ∀ i, i < len → ∃ m, ∃ seg, k.rep (hp w) m seg ∧ ∀ j v, seg[j]? = some v → gcell (hp w) (a.add (i * k.sz + j)) = some v := fun i hi => by
      have h2 := hel i hi
      rw [List.getElem?_eq_getElem (by omega)] at h2
      obtain ⟨seg, hseg, hd⟩ := Option.bind_eq_some_iff.1 h2
      obtain ⟨m, hr⟩ := ho hd
      refine ⟨m, seg, hr, fun j v hj => ?_⟩
      obtain ⟨_, hlen2, hcell⟩ := World.cells?_some hseg
      have hjl : j < k.sz := by
        have := (List.getElem?_eq_some_iff.1 hj).1
        rw [k.len hr] at this; exact this
      have h5 := hcell j hjl
      rw [hj] at h5
      rw [Addr.add_add] at h5
      show gcell (hp w) _ = _
      unfold gcell hp
      unfold World.cell? at h5
      exact h5
    obtain ⟨l, hll, hq⟩ := exists_list len h1
    refine ⟨l, some a, cap, by rw [hll], by omega, hm, fun _ => ⟨a, rfl, hq⟩⟩
end
end Gx
namespace Gx
open Go Go.RowKit
set_option linter.unusedSimpArgs false
set_option linter.unusedSectionVars false
set_option linter.unusedVariables false
section
variable {P : Program} {t : TypeId}
theorem trod_field {H : Type} {enc : TypeId × Value → H} {w : World} {spare : Nat → Bool} {held : Bool} {fuel : Nat} {cs : List Value} {x : DataW H × List MemPlace} {α : Type} {k : Kd α} {q o ft : Nat} (hf : zbs P t q = some (o, ft)) (hc : P.cellsOf ft = k.sz) (ho : zdd P k ft) (h : DataW.trod enc P w 0 spare held fuel t cs = some x) : ∃ m, k.rep (hp w) m ((cs.drop o).take k.sz) := by
  obtain ⟨fs, fd, hu, hq, rfl, rfl⟩ := fieldInfo_parts hf
  obtain ⟨xs, n, _, _, _, hl, hp⟩ := DataW.trod_struct hu h
  have h1 := hp q fd hq
  have hlt : q < fs.size := (Array.getElem?_eq_some_iff.1 hq).1
  rw [hc, List.getElem?_eq_getElem (by omega)] at h1
  exact ho h1
theorem trod_len {H : Type} {enc : TypeId × Value → H} {w : World} {spare : Nat → Bool} {held : Bool} {fuel : Nat} {cs : List Value} {x : DataW H × List MemPlace} {q o ft : Nat} (hf : zbs P t q = some (o, ft)) (h : DataW.trod enc P w 0 spare held fuel t cs = some x) : cs.length = P.cellsOf t := by
  obtain ⟨fs, fd, hu, hq, rfl, rfl⟩ := fieldInfo_parts hf
  obtain ⟨xs, n, _, _, hl, _, _⟩ := DataW.trod_struct hu h
  exact hl
theorem zdd.spot {a b : TypeId} (h0 : zbs P t 0 = some (0, a)) (h1 : zbs P t 1 = some (4, b)) (hc : P.cellsOf t = 5) (ha : P.cellsOf a = 4) (hb : P.cellsOf b = 1) (oa : zdd P kSet a) (ob : zdd P (Kd.int .u8) b) : zdd P zec t := fun {H enc w spare held fuel cs x} h => by
  obtain ⟨s, e0, _⟩ := trod_field h0 ha oa h
  obtain ⟨n, e1, hn⟩ := trod_field h1 hb ob h
  have hl := trod_len h0 h
  rw [hc] at hl
  refine ⟨⟨s, n⟩, ?_, hn⟩
  have e2 : cs = (cs.drop 0).take 4 ++ (cs.drop 4).take 1 := by
    rw [List.drop_zero, List.take_of_length_le (l := cs.drop 4) (by simp; omega), List.take_append_drop]
  rw [e2]
  show (cs.drop 0).take kSet.sz ++ (cs.drop 4).take (Kd.int .u8).sz = _
  rw [e0, e1]; rfl
def kMach : Kd Mach where
  sz := 5
  pos := by omega
  rep := fun h m cs => ∃ A0 c0 A1 c1 A2 c2 A3 c3, cs = [.slice A0 m.spots.length c0, .slice A1 m.first.length c1, .slice A2 m.follow.length c2, .slice A3 m.last.length c3, .bool m.empty] ∧
    ((m.spots.length ≤ c0 ∧ c0 ≤ maxLen) ∧ za4 zec h A0 m.spots) ∧ ((m.first.length ≤ c1 ∧ c1 ≤ maxLen) ∧ za4 (Kd.int .i64) h A1 m.first) ∧ ((m.follow.length ≤ c2 ∧ c2 ≤ maxLen) ∧ za4 (Kd.int .i64).slice h A2 m.follow) ∧ ((m.last.length ≤ c3 ∧ c3 ≤ maxLen) ∧ za4 Kd.bool h A3 m.last)
  mono := fun hl ⟨A0, c0, A1, c1, A2, c2, A3, c3, e, h0, h1, h2, h3⟩ => ⟨A0, c0, A1, c1, A2, c2, A3, c3, e, ⟨h0.1, h0.2.mono hl⟩, ⟨h1.1, h1.2.mono hl⟩, ⟨h2.1, h2.2.mono hl⟩, ⟨h3.1, h3.2.mono hl⟩⟩
  len := fun ⟨_, _, _, _, _, _, _, _, e, _⟩ => by rw [e]; rfl
  one := fun ⟨_, _, _, _, _, _, _, _, e, _⟩ u hu => by rw [e] at hu; exact zdx rfl (zdx rfl (zdx rfl (zdx rfl (zdx rfl one_nil)))) u hu
theorem list5 {cs : List Value} (h : cs.length = 5) {a b c d e : Value} (h0 : (cs.drop 0).take 1 = [a]) (h1 : (cs.drop 1).take 1 = [b]) (h2 : (cs.drop 2).take 1 = [c]) (h3 : (cs.drop 3).take 1 = [d]) (h4 : (cs.drop 4).take 1 = [e]) : cs = [a, b, c, d, e] := by
  match cs, h with
  | [x0, x1, x2, x3, x4], _ => simp at h0 h1 h2 h3 h4; simp [h0, h1, h2, h3, h4]
theorem zdd.mach {t0 t1 t2 t3 t4 : TypeId} (h0 : zbs P t 0 = some (0, t0)) (h1 : zbs P t 1 = some (1, t1)) (h2 : zbs P t 2 = some (2, t2)) (h3 : zbs P t 3 = some (3, t3)) (h4 : zbs P t 4 = some (4, t4)) (hc : P.cellsOf t = 5) (c0 : P.cellsOf t0 = 1) (c1 : P.cellsOf t1 = 1) (c2 : P.cellsOf t2 = 1) (c3 : P.cellsOf t3 = 1) (c4 : P.cellsOf t4 = 1)
    (o0 : zdd P zec.slice t0) (o1 : zdd P (Kd.int .i64).slice t1) (o2 : zdd P (Kd.int .i64).slice.slice t2) (o3 : zdd P Kd.bool.slice t3) (o4 : zdd P Kd.bool t4) : zdd P kMach t := fun h => by
  obtain ⟨m0, A0, d0, e0, b0, b0', l0⟩ := trod_field h0 c0 o0 h
  obtain ⟨m1, A1, d1, e1, b1, b1', l1⟩ := trod_field h1 c1 o1 h
  obtain ⟨m2, A2, d2, e2, b2, b2', l2⟩ := trod_field h2 c2 o2 h
  obtain ⟨m3, A3, d3, e3, b3, b3', l3⟩ := trod_field h3 c3 o3 h
  obtain ⟨m4, e4, _⟩ := trod_field h4 c4 o4 h
  have hl := trod_len h0 h
  rw [hc] at hl
  exact ⟨⟨m0, m1, m2, m3, m4⟩, A0, d0, A1, d1, A2, d2, A3, d3, list5 hl e0 e1 e2 e3 e4, ⟨⟨b0, b0'⟩, l0⟩, ⟨⟨b1, b1'⟩, l1⟩, ⟨⟨b2, b2'⟩, l2⟩, ⟨b3, b3'⟩, l3⟩
end
end Gx
namespace Go.Proofs.Ytpdanfggijmnmaa
open Go Go.ChangeShapes Go.WideShapes Go.ChangeAt Go.RowKit Gx
set_option linter.unusedVariables false
theorem own : ownKnob Try.prog.godebug = none := by kernel_rfl
theorem laidOut : laidOutB Try.prog = true := by kernel_rfl
end Go.Proofs.Ytpdanfggijmnmaa
