/- My own library for walks through the translated code, and the walks of the functions that the law DfaKnown comes to, part 5; no conditions but those that each contract tells. -/
import Derived.Lib.Bytealg
import Derived.Laws.Concat
import Derived.Test.YtfoemogojbnfhaaDoorLDfaKnown3
namespace Go.Proofs.YtfoemogojbnfhaaDoor
open Go Go.RowKit Gx
set_option maxHeartbeats 1000000
set_option linter.unusedVariables false
set_option linter.unusedSimpArgs false
set_option maxRecDepth 8000
attribute [local irreducible] zb6 count first someIn has zbx wbits Lib.ctz zd3 zcu rowOk tab markP intoP zej runTo endsIn runM anyTo allTo lfp zel trues addS zdq setsM badQ zd0 zb7 goD runD notD errD notTo zcd zde howB zdv zae errO zb9 nextC outTo zek rowIn zdh lastB zbd zds zaa errB fitsP madeM allM bfs zdf putB beginB okB
theorem notD_calls (w : World) (d : Dfa) (o0_0 : okPart d.part) (A0_1 : Option Addr) (c0_1 : Nat) (b0_1 : d.next.length ≤ c0_1 ∧ c0_1 ≤ maxLen) (l0_1 : zbz (Kd.int .i64).slice (hp w) A0_1 d.next) (A0_2 : Option Addr) (c0_2 : Nat) (b0_2 : d.final.length ≤ c0_2 ∧ c0_2 ≤ maxLen) (l0_2 : zbz Kd.bool (hp w) A0_2 d.final) (pre0 : (d.next.length : Int) ≤ 1048577) :
    Calls Tryd.prog 23 #[.agg ((zad d.part) ++ ([.slice A0_1 d.next.length c0_1, .slice A0_2 d.final.length c0_2] : List Value)).toArray] w fun e w' => ∃ v, e = .returned v ∧ ∃ (hn : Ghost) (r0 : Value) (r1 : Value), St w.heap.size w hn w' [row 23 (Kd.int .i64).slice r0 ((notD d).next), row 4 Kd.bool r1 ((notD d).final)] ∧ v = .tuple #[.agg ((zad ((notD d).part)) ++ ([r0, r1] : List Value)).toArray, .int .i64 (errD d)] ∧ okPart ((notD d).part) ∧ inK .i64 (errD d) := by
 refine zas Tryd.func23 rfl Tryd.ntmps23 rfl ?_
 have S0 := St.init w
 have ploo0_0 := zbf o0_0.2; have phio0_0 := zbg o0_0.2
 have bb0_1 := b0_1.1; have bc0_1 := b0_1.2; simp only [maxLen] at bc0_1
 have bb0_2 := b0_2.1; have bc0_2 := b0_2.2; simp only [maxLen] at bc0_2
 refine zag <| zah (l := [0, 1, 2]) rfl ?_
 obtain ⟨b1, w1, r1, g1, T1⟩ := zb0 (P := Tryd.prog) S0 35 (v := .agg ((zad d.part) ++ ([.slice A0_1 d.next.length c0_1, .slice A0_2 d.final.length c0_2] : List Value)).toArray) ((zad d.part) ++ ([.slice A0_1 d.next.length c0_1, .slice A0_2 d.final.length c0_2] : List Value)) rfl
 have S2 := T1
 dsimp only [lAa, lAn, lA0, lAs] at S2
 refine p_v (v := .pointer (some ⟨b1, 0, none⟩)) rfl rfl rfl (zdi rfl r1) ?_
 obtain ⟨b3, w3, r3, g3, T3⟩ := zb0 (P := Tryd.prog) S2 35 (v := zv35) ((zad zPart) ++ ([.slice none 0 0, .slice none 0 0] : List Value)) (by kernel_rfl)
 have S4 := T3
 dsimp only [lAa, lAn, lA0, lAs] at S4
 refine p_v (v := .pointer (some ⟨b3, 0, none⟩)) rfl rfl rfl (zbr ty35 r3) <| p_v (v := .int .i64 0) rfl rfl rfl (zaj rfl) <| zac <| zag <| zag <| zah (l := [0, 1, 2]) rfl <| p_v (v := .agg ((zad d.part) ++ ([.slice A0_1 d.next.length c0_1, .slice A0_2 d.final.length c0_2] : List Value)).toArray) rfl rfl rfl (zam (seg := ((zad d.part) ++ ([.slice A0_1 d.next.length c0_1, .slice A0_2 d.final.length c0_2] : List Value))) ty35 (zal (zaf o0_0) rfl) (by simp) rfl (CF.box (m := 259) (S4.box_at (j := 0) rfl) (zaw (zal (zaf o0_0) rfl)))) <| p_c rfl rfl rfl (zba (args := [.agg ((zad d.part) ++ ([.slice A0_1 d.next.length c0_1, .slice A0_2 d.final.length c0_2] : List Value)).toArray]) ca48 rfl rfl) (zea w3 d o0_0 A0_1 c0_1 b0_1 (l0_1.mono (St.le0 S4)) A0_2 c0_2 b0_2 (l0_2.mono (St.le0 S4))) ?_
 rintro _ w5 ⟨h5, T5, rfl⟩
 have S6 := S4.keep (Chg.of_below T5.below)
 refine p_v (v := .bool (!(zb7 d))) rfl rfl rfl (x_not rfl) <| zac ?_
 refine zct (b := zb7 d) rfl (fun hc7 => ?_) (fun hc7 => ?_)
 ·skip
  refine zag <| zah (l := [0, 1, 2]) rfl <| p_v (v := .agg ((zad zPart) ++ ([.slice none 0 0, .slice none 0 0] : List Value)).toArray) rfl rfl rfl (zc4 (pv := []) rfl (za9 pl35 ty35 rfl (cs := ((zad zPart) ++ ([.slice none 0 0, .slice none 0 0] : List Value))) (by kernel_rfl))) ?_
  obtain ⟨w8, r8, g8, T8⟩ := za7 (P := Tryd.prog) (v := .agg ((zad zPart) ++ ([.slice none 0 0, .slice none 0 0] : List Value)).toArray) (vs := ((zad zPart) ++ ([.slice none 0 0, .slice none 0 0] : List Value))) (cs := ((zad zPart) ++ ([.slice none 0 0, .slice none 0 0] : List Value))) S6 ty35 rfl (zal (zaf (zao)) rfl) (zal (zaf (zao)) rfl) (j := 1) rfl (zcc (zaz _) (by simp [Value.oneCell']))
  have S9 : St w.heap.size w (fun _ => none) w8 [box b1 35 ((zad d.part) ++ ([.slice A0_1 d.next.length c0_1, .slice A0_2 d.final.length c0_2] : List Value)), box b3 35 ((zad zPart) ++ ([.slice none 0 0, .slice none 0 0] : List Value))] := T8
  refine p_s rfl rfl (za2 rfl rfl r8) <| p_v (v := .int .i64 1) rfl rfl rfl (zaj rfl) <| zac ?_
  have T10 := S9.row_nil 23 (Kd.int .i64).slice
  have S11 := T10
  dsimp only [lAa, lAn, lA0, lAs] at S11
  have T12 := S11.row_nil 4 Kd.bool
  have S13 := T12
  dsimp only [lAa, lAn, lA0, lAs] at S13
  refine zax Tryd.func23 (res2 rfl (zcz S9 ty35 rfl (j := 1) rfl (zal (zaf (zao)) rfl) (by simp) rfl) (za4 (v := .int .i64 1) rfl)) ?_
  have q0 : ((notD d).part : PartM) = zPart := by
   (rw [notD_no (by assumption)]; rfl)
  have q1 : ((notD d).next : List (List Int)) = ([] : List (List Int)) := by
   (rw [notD_no (by assumption)]; rfl)
  have q2 : ((notD d).final : List Bool) = ([] : List Bool) := by
   (rw [notD_no (by assumption)]; rfl)
  have q3 : (errD d : Int) = 1 := by
   exact errD_no (by assumption)
  refine ⟨_, rfl, (fun _ => none), (.slice none 0 0), (.slice none 0 0), ?_, ?_, ?_, ?_⟩
  · rw [q1]; rw [q2]; exact S13.sub [2, 3] (by decide) rfl _ rfl
  · first | rfl | (simp only [q0, q1, q2, q3]; rfl) | (simp only [q0, q1, q2, q3])
  · rw [q0]; first | assumption | exact zao
  · rw [q3]; exact (zar (by omega) (by omega))
 have hD_ := rightD_of o0_0 hc7; have hfl_ := hD_.final; have hsm_ := hD_.some_
 refine za6 <| zag <| zah (l := [0, 1, 2, 3, 4]) rfl <| p_v (v := .pointer (some ⟨b1, 0, none⟩)) rfl rfl rfl (zaq fd35_0 ty32 rfl rfl) <| p_v (v := .agg (zad d.part).toArray) rfl rfl rfl (zam (seg := ((zad d.part))) ty32 (zaf o0_0) (by simp) rfl (CF.box (m := 257) (S6.box_at (j := 0) rfl) (seg_mid (pre := []) (seg := ((zad d.part))) (post := [.slice A0_1 d.next.length c0_1, .slice A0_2 d.final.length c0_2]) rfl (zaf o0_0)))) <| p_v (v := .agg ((zad d.part) ++ ([.slice none 0 0, .slice none 0 0] : List Value)).toArray) rfl rfl rfl (zc4 (pv := [(0, .agg (zad d.part).toArray)]) rfl (za9 pl35 ty35 rfl (cs := ((zad d.part) ++ ([.slice none 0 0, .slice none 0 0] : List Value))) (fill_mid (vc := (zad d.part)) (pre := []) (seg := (zad zPart)) (post := [.slice none 0 0, .slice none 0 0]) rfl rfl (zaf o0_0) (by kernel_rfl) rfl (zaf (zao)) rfl))) ?_
 obtain ⟨b14, w14, r14, g14, T14⟩ := zb0 (P := Tryd.prog) S6 35 (v := zv35) ((zad zPart) ++ ([.slice none 0 0, .slice none 0 0] : List Value)) (by kernel_rfl)
 have S15 := T14
 dsimp only [lAa, lAn, lA0, lAs] at S15
 refine p_v (v := .pointer (some ⟨b14, 0, none⟩)) rfl rfl rfl (zbr ty35 r14) ?_
 obtain ⟨w16, r16, g16, T16⟩ := za7 (P := Tryd.prog) (v := .agg ((zad d.part) ++ ([.slice none 0 0, .slice none 0 0] : List Value)).toArray) (vs := ((zad d.part) ++ ([.slice none 0 0, .slice none 0 0] : List Value))) (cs := ((zad zPart) ++ ([.slice none 0 0, .slice none 0 0] : List Value))) S15 ty35 rfl (zal (zaf o0_0) rfl) (zal (zaf (zao)) rfl) (j := 2) rfl (zcc (zaz _) (by simp [Value.oneCell']))
 have S17 := T16.fx 2 (box b14 35 ((zad d.part) ++ ([.slice none 0 0, .slice none 0 0] : List Value))) rfl
 dsimp only [lAa, lAn, lA0, lAs] at S17
 refine p_s rfl rfl (za2 rfl rfl r16) <| zac <| zag <| zag <| zah (l := [0, 1, 2, 3]) rfl <| p_v (v := .pointer (some ⟨b1, 257, none⟩)) rfl rfl rfl (zaq zef ty24 rfl rfl) <| p_v (v := .slice A0_1 d.next.length c0_1) rfl rfl rfl (zam (seg := [.slice A0_1 d.next.length c0_1]) ty24 rfl (by simp) rfl (CF.box (m := 1) (S17.box_at (j := 0) rfl) (zbc (a := (zad d.part)) (pre := []) (seg := [.slice A0_1 d.next.length c0_1]) (post := [.slice A0_2 d.final.length c0_2]) (zaf o0_0) rfl rfl))) <| p_v (v := .int .i64 (d.next.length : Int)) rfl rfl rfl (zbe u24 rfl) <| p_v (v := .int .i64 0) rfl rfl rfl (zai rfl) <| zac <| zay ?_
 have T18 := S17.row_nil 23 (Kd.int .i64).slice
 obtain ⟨vn18, ev18, T18⟩ : ∃ v, v = (.slice none 0 0 : Value) ∧ St w.heap.size w (fun _ => none) w16 [box b1 35 ((zad d.part) ++ ([.slice A0_1 d.next.length c0_1, .slice A0_2 d.final.length c0_2] : List Value)), box b3 35 ((zad zPart) ++ ([.slice none 0 0, .slice none 0 0] : List Value)), box b14 35 ((zad d.part) ++ ([v, .slice none 0 0] : List Value)), row 23 (Kd.int .i64).slice v ([] : List (List Int))] := ⟨_, rfl, T18⟩
 have S19 : St w.heap.size w (fun _ => none) w16 [box b1 35 ((zad d.part) ++ ([.slice A0_1 d.next.length c0_1, .slice A0_2 d.final.length c0_2] : List Value)), box b3 35 ((zad zPart) ++ ([.slice none 0 0, .slice none 0 0] : List Value)), box b14 35 ((zad d.part) ++ ([vn18, .slice none 0 0] : List Value)), row 23 (Kd.int .i64).slice vn18 ([] : List (List Int))] := T18
 have T20 := S19.row_nil 4 Kd.bool
 obtain ⟨vn20, ev20, T20⟩ : ∃ v, v = (.slice none 0 0 : Value) ∧ St w.heap.size w (fun _ => none) w16 [box b1 35 ((zad d.part) ++ ([.slice A0_1 d.next.length c0_1, .slice A0_2 d.final.length c0_2] : List Value)), box b3 35 ((zad zPart) ++ ([.slice none 0 0, .slice none 0 0] : List Value)), box b14 35 ((zad d.part) ++ ([vn18, v] : List Value)), row 23 (Kd.int .i64).slice vn18 ([] : List (List Int)), row 4 Kd.bool v ([] : List Bool)] := ⟨_, rfl, T20⟩
 have S21 : St w.heap.size w (fun _ => none) w16 [box b1 35 ((zad d.part) ++ ([.slice A0_1 d.next.length c0_1, .slice A0_2 d.final.length c0_2] : List Value)), box b3 35 ((zad zPart) ++ ([.slice none 0 0, .slice none 0 0] : List Value)), box b14 35 ((zad d.part) ++ ([vn18, vn20] : List Value)), row 23 (Kd.int .i64).slice vn18 ([] : List (List Int)), row 4 Kd.bool vn20 ([] : List Bool)] := T20
 refine zce (S := (List (List Int)) × (List Bool) × Int) (fun (q_ : (List (List Int)) × (List Bool) × Int) ρ w' => match q_ with | (out_1, out_2, t17) => ∃ (h : Ghost) (v_out_1 : Value) (v_out_2 : Value), Le (fun _ => none) h ∧ St w.heap.size w h w' [box b1 35 ((zad d.part) ++ ([.slice A0_1 d.next.length c0_1, .slice A0_2 d.final.length c0_2] : List Value)), box b3 35 ((zad zPart) ++ ([.slice none 0 0, .slice none 0 0] : List Value)), box b14 35 ((zad d.part) ++ ([v_out_1, v_out_2] : List Value)), row 23 (Kd.int .i64).slice v_out_1 out_1, row 4 Kd.bool v_out_2 out_2] ∧ ρ 1 = .pointer (some ⟨b1, 0, none⟩) ∧ ρ 2 = .pointer (some ⟨b3, 0, none⟩) ∧ ρ 4 = .pointer (some ⟨b14, 0, none⟩) ∧ ρ 15 = .slice A0_1 d.next.length c0_1 ∧ ρ 16 = .int .i64 (d.next.length : Int) ∧ ρ 17 = .int .i64 t17 ∧ inK .i64 t17 ∧ (0 ≤ t17 ∧ t17 ≤ (d.next.length : Int) ∧ out_1 = d.next.take t17.toNat ∧ out_2 = notTo d t17)) (fun q_ => match q_ with | (out_1, out_2, t17) => (d.next.length - t17).toNat) (([] : List (List Int)), ([] : List Bool), 0) ⟨(fun _ => none), vn18, vn20, Le.refl _, S21.sub [0, 1, 2, 3, 4] (by decide) rfl _ rfl, rfl, rfl, rfl, rfl, rfl, rfl, (zar (by omega) (by omega)), (by exact ⟨by omega, by omega, rfl, not_0 d⟩)⟩ ?_
 rintro ⟨out_1, out_2, t17⟩ ih22 ρ22 w22 ⟨h22, v_out_1, v_out_2, le22, S22, r22_1, r22_2, r22_4, r22_15, r22_16, r22_17, f22_0, hI22⟩
 have lf22_0 := zbf f22_0; have hf22_0 := zbg f22_0
 have rl22_3 := S22.row_le (j := 3) rfl; simp only [maxLen] at rl22_3
 have rl22_4 := S22.row_le (j := 4) rfl; simp only [maxLen] at rl22_4
 have hq_ := hI22.1; have hn_ : (out_1.length : Int) ≤ t17 := (by rw [hI22.2.2.1, List.length_take]; omega); have hf_ : (out_2.length : Int) ≤ t17 := (by rw [hI22.2.2.2]; exact not_len d hI22.1); have hr_ := hD_.row t17 hI22.1; have hpm_ := hD_.part.hi
 refine zag <| zah (l := [0]) rfl <| p_v (v := .bool (decide (t17 < (d.next.length : Int)))) rfl rfl rfl (zd6 r22_17 r22_16) <| zac <| zag ?_
 refine zau (p := t17 < (d.next.length : Int)) rfl (fun hc23 => ?_) (fun hc23 => ?_)
 ·skip
  refine za6 <| zag <| zay <| zag <| zah (l := [0, 1, 2, 3, 4]) rfl <| p_v (v := .int .i64 t17) rfl rfl rfl (zai r22_17) ?_
  obtain ⟨ad24, seg24, a24, rp24, ce24⟩ := zbj (q := t17) (m := 1) l0_1 rfl (by omega) (by omega)
  refine p_v (v := .pointer (some ad24)) rfl rfl rfl (zbi u24 ty23 r22_15 r22_17 a24 (by omega) (by omega)) ?_
  obtain ⟨A24, c24, rfl, lc24, cm24, ld24⟩ := rp24
  have cn24 := cm24; simp only [maxLen] at cn24
  refine p_v (v := .slice A24 (at_ d.next t17).length c24) rfl rfl rfl (zam (seg := [.slice A24 (at_ d.next t17).length c24]) ty23 rfl (by simp) rfl (CF.ghost ce24 (St.le0 S22))) <| p_v (v := .int .i64 t17) rfl rfl rfl (zaj rfl) <| p_v (v := .slice A24 (at_ d.next t17).length c24) rfl rfl rfl (zaj rfl) <| zac ?_
  obtain ⟨ad25, seg25, a25, rp25, ce25⟩ := zbj (q := t17) (m := 1) l0_2 rfl (by omega) (by omega)
  obtain ⟨rfl, _⟩ := rp25
  have hf26 : (CFs ⟨b14, 257, none⟩ [v_out_1]).1 w22 := (CF.box (m := 1) (S22.box_at (j := 2) rfl) (zbc (a := (zad d.part)) (pre := []) (seg := [v_out_1]) (post := [v_out_2]) (zaf o0_0) rfl rfl))
  have hf27 : (CFs ⟨b14, 258, none⟩ [v_out_2]).1 w22 := (CF.box (m := 1) (S22.box_at (j := 2) rfl) (zbc (a := (zad d.part)) (pre := [v_out_1]) (seg := [v_out_2]) (post := []) (zaf o0_0) rfl rfl))
  have hf28 : (CFs ⟨b1, 258, none⟩ [.slice A0_2 d.final.length c0_2]).1 w22 := (CF.box (m := 1) (S22.box_at (j := 0) rfl) (zbc (a := (zad d.part)) (pre := [.slice A0_1 d.next.length c0_1]) (seg := [.slice A0_2 d.final.length c0_2]) (post := []) (zaf o0_0) rfl rfl))
  have hf29 : (CFs ad25 [.bool (at_ d.final t17)]).1 w22 := (CF.ghost ce25 (St.le0 S22))
  refine daS (hkC 1 hf26 (hkC 7 hf27 (hkC 9 hf28 (hkC 12 hf29 (hkN (w := w22)))))) 20 rfl mixed ?_
  intro wd30 gd30 hd30
  have S31 := S22.keep gd30
  have hf32 := spUp gd30 hf26
  have hf33 := spUp gd30 hf27
  have hf34 := spUp gd30 hf28
  have hf35 := spUp gd30 hf29
  refine qd0 (i := 0) (v := .pointer (some ⟨b14, 257, none⟩)) rfl (by decide +kernel) rfl rfl (zaq zef ty24 rfl r22_4) (zan rfl) <| qd1 0 (i := 1) (v := v_out_1) rfl rfl (by decide +kernel) rfl rfl (fun wq hq => (zam (seg := [v_out_1]) ty24 rfl (by simp) rfl hq)) (zbm hf32 (zan rfl)) <| qd0 (i := 2) (v := .slice A24 (at_ d.next t17).length c24) rfl (by decide +kernel) rfl rfl (zai rfl) (zan rfl) <| qd0 (i := 6) (v := .pointer (some ⟨b14, 258, none⟩)) rfl (by decide +kernel) rfl rfl (zaq fd35_2 ty25 rfl r22_4) (zan rfl) <| qd1 1 (i := 7) (v := v_out_2) rfl rfl (by decide +kernel) rfl rfl (fun wq hq => (zam (seg := [v_out_2]) ty25 rfl (by simp) rfl hq)) (za8 rfl (zbm hf33 (zan rfl))) <| qd0 (i := 8) (v := .pointer (some ⟨b1, 258, none⟩)) rfl (by decide +kernel) rfl rfl (zaq fd35_2 ty25 rfl r22_1) (zan rfl) <| qd1 2 (i := 9) (v := .slice A0_2 d.final.length c0_2) rfl rfl (by decide +kernel) rfl rfl (fun wq hq => (zam (seg := [.slice A0_2 d.final.length c0_2]) ty25 rfl (by simp) rfl hq)) (za8 rfl (za8 rfl (zbm hf34 (zan rfl)))) <| qd0 (i := 10) (v := .int .i64 t17) rfl (by decide +kernel) rfl rfl (zai rfl) (zan rfl) <| qd0 (i := 11) (v := .pointer (some ad25)) rfl (by decide +kernel) rfl rfl (zbi u25 ty4 rfl rfl a25 (by omega) (by omega)) (zan rfl) <| qd1 3 (i := 12) (v := .bool (at_ d.final t17)) rfl rfl (by decide +kernel) rfl rfl (fun wq hq => (zam (seg := [.bool (at_ d.final t17)]) ty4 rfl (by simp) rfl hq)) (za8 rfl (za8 rfl (za8 rfl (zbm hf35 (zan rfl))))) <| qd0 (i := 13) (v := .bool (!(at_ d.final t17))) rfl (by decide +kernel) rfl rfl (x_not rfl) (zan rfl) ?_
  refine ra_join (fun ρ w' => ∃ (h : Ghost) (j124_v70 : Value) (j124_v96 : Value), Le h22 h ∧ St w.heap.size w h w' [box b1 35 ((zad d.part) ++ ([.slice A0_1 d.next.length c0_1, .slice A0_2 d.final.length c0_2] : List Value)), box b3 35 ((zad zPart) ++ ([.slice none 0 0, .slice none 0 0] : List Value)), box b14 35 ((zad d.part) ++ ([j124_v70, j124_v96] : List Value)), row 23 (Kd.int .i64).slice j124_v70 (out_1 ++ ([(at_ d.next t17)] : List (List Int))), row 4 Kd.bool j124_v96 (out_2 ++ ([!(at_ d.final t17)] : List Bool))] ∧ ρ 1 = .pointer (some ⟨b1, 0, none⟩) ∧ ρ 2 = .pointer (some ⟨b3, 0, none⟩) ∧ ρ 4 = .pointer (some ⟨b14, 0, none⟩) ∧ ρ 15 = .slice A0_1 d.next.length c0_1 ∧ ρ 16 = .int .i64 (d.next.length : Int) ∧ ρ 17 = .int .i64 t17 ∧ okPart d.part ∧ okPart d.part) ?_ (fun jn124 => ?_)
  ·skip
   rintro ρj124 wj124 ⟨hj124, j124_v70, j124_v96, lej124, Sj124, rj124_1, rj124_2, rj124_4, rj124_15, rj124_16, rj124_17, jf124_0, jf124_1⟩
   have jr124_3 := Sj124.row_le (j := 3) rfl; simp only [maxLen] at jr124_3
   have jr124_4 := Sj124.row_le (j := 4) rfl; simp only [maxLen] at jr124_4
   refine za3 <| zah (l := [0, 1]) rfl <| p_v (v := .int .i64 (t17 + 1)) rfl rfl rfl (zdj rj124_17 rfl (zar (by omega) (by omega))) <| p_v (v := .int .i64 (t17 + 1)) rfl rfl rfl (zai rfl) <| zac ?_
   refine ih22 (out_1 ++ ([(at_ d.next t17)] : List (List Int)), out_2 ++ ([!(at_ d.final t17)] : List Bool), t17 + 1) _ _ (by dsimp only; omega) ⟨hj124, j124_v70, j124_v96, ((le22).trans lej124), Sj124.sub [0, 1, 2, 3, 4] (by decide) rfl _ rfl, rj124_1, rj124_2, rj124_4, rj124_15, rj124_16, rfl, (zar (by omega) (by omega)), (by exact ⟨by omega, by omega, by rw [hI22.2.2.1]; exact (zdp _ hI22.1 (by omega)).symm, by rw [hI22.2.2.2]; exact not_step d hI22.1 (by omega)⟩)⟩
  refine ra_two (i := 3) (i2 := 14) (by decide +kernel) ?_ ?_
  ·skip
   intro wd125 gd125
   have S126 := S31.keep gd125
   have hf127 := spUp gd125 hf32
   have hf128 := spUp gd125 hf33
   have hf129 := spUp gd125 hf34
   have hf130 := spUp gd125 hf35
   refine d_c rfl rfl rfl (zba (args := [.slice A24 (at_ d.next t17).length c24]) ca87 rfl rfl) (cloneI_calls wd125 (at_ d.next t17) A24 c24 (And.intro lc24 cm24) (ld24.mono (St.le0 S126)) (by omega)) ?_
   rintro v131_0 w131 ⟨h131, _, T131, rfl⟩
   obtain ⟨k131, lk131, ll131, U131⟩ := zch S126 T131
   have lc131_0 := (le22).trans lk131
   have S132 := U131
   dsimp only [lAa, lAn, lA0, lAs] at S132
   have hf133 := spUp (Chg.of_below T131.below) hf127
   have hf134 := spUp (Chg.of_below T131.below) hf128
   have hf135 := spUp (Chg.of_below T131.below) hf129
   have hf136 := spUp (Chg.of_below T131.below) hf130
   refine ⟨.inl (Chg.of_below T131.below), ?_⟩
   obtain ⟨h137, le137, T137, rp137⟩ := S132.freeze (i := 5) rfl
   have lf137_0 := (lc131_0).trans le137
   have lf137_1 := (lk131).trans le137
   have S138 := T137.fx 5 (emp) rfl
   dsimp only [lAa, lAn, lA0, lAs] at S138
   obtain ⟨A137, c137, e137, lc137, cm137, ld137⟩ := rp137
   injection e137 with e137 _; subst e137
   have cn137 := cm137; simp only [maxLen] at cn137
   refine ra_two (i := 4) (i2 := 14) (by decide +kernel) ?_ ?_
   ·skip
    intro wd139 gd139
    have S140 := S138.keep gd139
    have hf141 := spUp gd139 hf133
    have hf142 := spUp gd139 hf134
    have hf143 := spUp gd139 hf135
    have hf144 := spUp gd139 hf136
    obtain ⟨v145, w145, r145, g145, T145⟩ := za5 (kd := (Kd.int .i64).slice) (xs := ([(at_ d.next t17)] : List (List Int))) (len := 1) [.slice A137 (at_ d.next t17).length c137] S140 u24 ty23 rfl rfl rfl rfl rfl (za0 rfl zb4) [.slice A137 (at_ d.next t17).length c137] (zbp.single (k := (Kd.int .i64).slice) (h := h137) (x := (at_ d.next t17)) (cs := [.slice A137 (at_ d.next t17).length c137]) ⟨_, _, rfl, (And.intro lc137 cm137).1, (And.intro lc137 cm137).2, ld137.mono (Le.refl _)⟩) rfl
    have S146 := T145
    dsimp only [lAa, lAn, lA0, lAs] at S146
    have hf147 := spUp g145 hf141
    have hf148 := spUp g145 hf142
    have hf149 := spUp g145 hf143
    have hf150 := spUp g145 hf144
    refine d_v (v := v145) rfl rfl rfl (zat (pv := [(0, .slice A137 (at_ d.next t17).length c137)]) rfl r145) (.inl g145) ?_
    refine ra_two (i := 5) (i2 := 14) (by decide +kernel) ?_ ?_
    ·skip
     intro wd151 gd151
     have S152 := S146.keep gd151
     have hf153 := spUp gd151 hf147
     have hf154 := spUp gd151 hf148
     have hf155 := spUp gd151 hf149
     have hf156 := spUp gd151 hf150
     obtain ⟨A158, c158, ev158, lc158, cm158⟩ := S152.row_val (j := 6) rfl
     obtain ⟨v159, w159, r159, g159, T159⟩ := zcs (kd := (Kd.int .i64).slice) (A := A158) (c := c158) (ys := ([(at_ d.next t17)] : List (List Int))) (len := ([(at_ d.next t17)] : List (List Int)).length) 24 S152 u24 ty23 rfl rfl (j := 3) rfl rfl (zc7 S152 (j := 6) rfl ev158) (by first|omega|(simp;omega)|assumption|simp) (by first|omega|(simp;omega)|assumption|simp)
     have S160 := T159.fx 3 (row 23 (Kd.int .i64).slice v159 (out_1 ++ ([(at_ d.next t17)] : List (List Int)))) rfl
     dsimp only [lAa, lAn, lA0, lAs] at S160
     have hf161 : (CFs ⟨b14, 257, none⟩ [v_out_1]).1 w159 := (CF.box (m := 1) (S160.box_at (j := 2) rfl) (zbc (a := (zad d.part)) (pre := []) (seg := [v_out_1]) (post := [v_out_2]) (zaf o0_0) rfl rfl))
     have hf162 : (CFs ⟨b14, 258, none⟩ [v_out_2]).1 w159 := (CF.box (m := 1) (S160.box_at (j := 2) rfl) (zbc (a := (zad d.part)) (pre := [v_out_1]) (seg := [v_out_2]) (post := []) (zaf o0_0) rfl rfl))
     have hf163 : (CFs ⟨b1, 258, none⟩ [.slice A0_2 d.final.length c0_2]).1 w159 := (CF.box (m := 1) (S160.box_at (j := 0) rfl) (zbc (a := (zad d.part)) (pre := [.slice A0_1 d.next.length c0_1]) (seg := [.slice A0_2 d.final.length c0_2]) (post := []) (zaf o0_0) rfl rfl))
     have hf164 : (CFs ad25 [.bool (at_ d.final t17)]).1 w159 := (CF.ghost ce25 (St.le0 S160))
     refine d_v (v := v159) rfl rfl rfl (zcr rfl ev158 r159) (.inr (za1 (by decide +kernel) (zbu hf162 (zbu hf163 (zbu hf164 trivial))))) <| qd0 (i := 16) (v := .pointer (some ⟨b14, 257, none⟩)) rfl (by decide +kernel) rfl rfl (zaq zef ty24 rfl r22_4) (zan rfl) <| zbo (i := 14) (by decide +kernel) ?_
     intro wd165 gd165
     have S166 := S160.keep gd165
     have hf167 := spUp gd165 hf161
     have hf168 := spUp gd165 hf162
     have hf169 := spUp gd165 hf163
     have hf170 := spUp gd165 hf164
     obtain ⟨v171, w171, r171, g171, T171⟩ := za5 (kd := Kd.bool) (xs := ([!(at_ d.final t17)] : List Bool)) (len := 1) [.bool (!(at_ d.final t17))] S166 u25 ty4 rfl rfl rfl rfl rfl (za0 rfl zb4) [.bool (!(at_ d.final t17))] (zbp.single (k := Kd.bool) (h := h137) (x := !(at_ d.final t17)) (cs := [.bool (!(at_ d.final t17))]) ⟨rfl, trivial⟩) rfl
     have S172 := T171
     dsimp only [lAa, lAn, lA0, lAs] at S172
     have hf173 := spUp g171 hf167
     have hf174 := spUp g171 hf168
     have hf175 := spUp g171 hf169
     have hf176 := spUp g171 hf170
     refine d_v (v := v171) rfl rfl rfl (zat (pv := [(0, .bool (!(at_ d.final t17)))]) rfl r171) (.inl g171) <| zbo (i := 15) (by decide +kernel) ?_
     intro wd177 gd177
     have S178 := S172.keep gd177
     have hf179 := spUp gd177 hf173
     have hf180 := spUp gd177 hf174
     have hf181 := spUp gd177 hf175
     have hf182 := spUp gd177 hf176
     obtain ⟨A184, c184, ev184, lc184, cm184⟩ := S178.row_val (j := 7) rfl
     obtain ⟨v185, w185, r185, g185, T185⟩ := zcs (kd := Kd.bool) (A := A184) (c := c184) (ys := ([!(at_ d.final t17)] : List Bool)) (len := ([!(at_ d.final t17)] : List Bool).length) 25 S178 u25 ty4 rfl rfl (j := 4) rfl rfl (zc7 S178 (j := 7) rfl ev184) (by first|omega|(simp;omega)|assumption|simp) (by first|omega|(simp;omega)|assumption|simp)
     have S186 := T185.fx 4 (row 4 Kd.bool v185 (out_2 ++ ([!(at_ d.final t17)] : List Bool))) rfl
     dsimp only [lAa, lAn, lA0, lAs] at S186
     have hf187 : (CFs ⟨b14, 257, none⟩ [v_out_1]).1 w185 := (CF.box (m := 1) (S186.box_at (j := 2) rfl) (zbc (a := (zad d.part)) (pre := []) (seg := [v_out_1]) (post := [v_out_2]) (zaf o0_0) rfl rfl))
     have hf188 : (CFs ⟨b14, 258, none⟩ [v_out_2]).1 w185 := (CF.box (m := 1) (S186.box_at (j := 2) rfl) (zbc (a := (zad d.part)) (pre := [v_out_1]) (seg := [v_out_2]) (post := []) (zaf o0_0) rfl rfl))
     have hf189 : (CFs ⟨b1, 258, none⟩ [.slice A0_2 d.final.length c0_2]).1 w185 := (CF.box (m := 1) (S186.box_at (j := 0) rfl) (zbc (a := (zad d.part)) (pre := [.slice A0_1 d.next.length c0_1]) (seg := [.slice A0_2 d.final.length c0_2]) (post := []) (zaf o0_0) rfl rfl))
     have hf190 : (CFs ad25 [.bool (at_ d.final t17)]).1 w185 := (CF.ghost ce25 (St.le0 S186))
     refine d_v (v := v185) rfl rfl rfl (zcr rfl ev184 r185) (.inr (zbu hf187 (za1 (by decide +kernel) (zbu hf189 (zbu hf190 trivial))))) <| zbo (i := 17) (by decide +kernel) ?_
     intro wd191 gd191
     have S192 := S186.keep gd191
     have hf193 := spUp gd191 hf187
     have hf194 := spUp gd191 hf188
     have hf195 := spUp gd191 hf189
     have hf196 := spUp gd191 hf190
     have oc198 := zcp S192 (j := 3) rfl
     obtain ⟨w197, r197, g197, T197⟩ := zcw (P := Tryd.prog) (off := 257) (v := v159) (vs := [v159]) (a := (zad d.part)) (pre := []) (seg := [v_out_1]) (post := [v_out_2]) S192 ty24 (zcn S192 (j := 3) rfl) rfl (zaf o0_0) rfl rfl (j := 2) rfl (zb8 oc198 zdc)
     have S199 := T197.fx 2 (box b14 35 ((zad d.part) ++ ([v159, v_out_2] : List Value))) rfl
     dsimp only [lAa, lAn, lA0, lAs] at S199
     have hf200 : (CFs ⟨b1, 258, none⟩ [.slice A0_2 d.final.length c0_2]).1 w197 := (CF.box (m := 1) (S199.box_at (j := 0) rfl) (zbc (a := (zad d.part)) (pre := [.slice A0_1 d.next.length c0_1]) (seg := [.slice A0_2 d.final.length c0_2]) (post := []) (zaf o0_0) rfl rfl))
     have hf201 : (CFs ad25 [.bool (at_ d.final t17)]).1 w197 := (CF.ghost ce25 (St.le0 S199))
     refine d_s rfl rfl (za2 rfl rfl r197) (.inr (za1 (by decide +kernel) (za1 (by decide +kernel) (zbu hf200 (zbu hf201 trivial))))) <| qd0 (i := 18) (v := .pointer (some ⟨b14, 258, none⟩)) rfl (by decide +kernel) rfl rfl (zaq fd35_2 ty25 rfl r22_4) (zan rfl) <| zbo (i := 19) (by decide +kernel) ?_
     intro wd202 gd202
     have S203 := S199.keep gd202
     have hf204 := spUp gd202 hf200
     have hf205 := spUp gd202 hf201
     have oc207 := zcp S203 (j := 4) rfl
     obtain ⟨w206, r206, g206, T206⟩ := zcw (P := Tryd.prog) (off := 258) (v := v185) (vs := [v185]) (a := (zad d.part)) (pre := [v159]) (seg := [v_out_2]) (post := []) S203 ty25 (zcn S203 (j := 4) rfl) rfl (zaf o0_0) rfl rfl (j := 2) rfl (zb8 oc207 zdc)
     have S208 := T206.fx 2 (box b14 35 ((zad d.part) ++ ([v159, v185] : List Value))) rfl
     dsimp only [lAa, lAn, lA0, lAs] at S208
     have hf209 : (CFs ⟨b1, 258, none⟩ [.slice A0_2 d.final.length c0_2]).1 w206 := (CF.box (m := 1) (S208.box_at (j := 0) rfl) (zbc (a := (zad d.part)) (pre := [.slice A0_1 d.next.length c0_1]) (seg := [.slice A0_2 d.final.length c0_2]) (post := []) (zaf o0_0) rfl rfl))
     have hf210 : (CFs ad25 [.bool (at_ d.final t17)]).1 w206 := (CF.ghost ce25 (St.le0 S208))
     refine d_s rfl rfl (za2 rfl rfl r206) (.inr (za1 (by decide +kernel) (za1 (by decide +kernel) (za1 (by decide +kernel) (za1 (by decide +kernel) trivial))))) <| zcb (by decide +kernel) ?_
     intro wd211 gd211
     have S212 := S208.keep gd211
     exact jn124 _ _ ⟨h137, v159, v185, lf137_1, S212.sub [0, 1, 2, 3, 4] (by decide) rfl _ rfl, r22_1, r22_2, r22_4, r22_15, r22_16, r22_17, o0_0, o0_0⟩
    intro wd213 gd213
    have S214 := S146.keep gd213
    have hf215 := spUp gd213 hf147
    have hf216 := spUp gd213 hf148
    have hf217 := spUp gd213 hf149
    have hf218 := spUp gd213 hf150
    obtain ⟨v219, w219, r219, g219, T219⟩ := za5 (kd := Kd.bool) (xs := ([!(at_ d.final t17)] : List Bool)) (len := 1) [.bool (!(at_ d.final t17))] S214 u25 ty4 rfl rfl rfl rfl rfl (za0 rfl zb4) [.bool (!(at_ d.final t17))] (zbp.single (k := Kd.bool) (h := h137) (x := !(at_ d.final t17)) (cs := [.bool (!(at_ d.final t17))]) ⟨rfl, trivial⟩) rfl
    have S220 := T219
    dsimp only [lAa, lAn, lA0, lAs] at S220
    have hf221 := spUp g219 hf215
    have hf222 := spUp g219 hf216
    have hf223 := spUp g219 hf217
    have hf224 := spUp g219 hf218
    refine d_v (v := v219) rfl rfl rfl (zat (pv := [(0, .bool (!(at_ d.final t17)))]) rfl r219) (.inl g219) <| zbo (i := 5) (by decide +kernel) ?_
    intro wd225 gd225
    have S226 := S220.keep gd225
    have hf227 := spUp gd225 hf221
    have hf228 := spUp gd225 hf222
    have hf229 := spUp gd225 hf223
    have hf230 := spUp gd225 hf224
    obtain ⟨A232, c232, ev232, lc232, cm232⟩ := S226.row_val (j := 6) rfl
    obtain ⟨v233, w233, r233, g233, T233⟩ := zcs (kd := (Kd.int .i64).slice) (A := A232) (c := c232) (ys := ([(at_ d.next t17)] : List (List Int))) (len := ([(at_ d.next t17)] : List (List Int)).length) 24 S226 u24 ty23 rfl rfl (j := 3) rfl rfl (zc7 S226 (j := 6) rfl ev232) (by first|omega|(simp;omega)|assumption|simp) (by first|omega|(simp;omega)|assumption|simp)
    have S234 := T233.fx 3 (row 23 (Kd.int .i64).slice v233 (out_1 ++ ([(at_ d.next t17)] : List (List Int)))) rfl
    dsimp only [lAa, lAn, lA0, lAs] at S234
    have hf235 : (CFs ⟨b14, 257, none⟩ [v_out_1]).1 w233 := (CF.box (m := 1) (S234.box_at (j := 2) rfl) (zbc (a := (zad d.part)) (pre := []) (seg := [v_out_1]) (post := [v_out_2]) (zaf o0_0) rfl rfl))
    have hf236 : (CFs ⟨b14, 258, none⟩ [v_out_2]).1 w233 := (CF.box (m := 1) (S234.box_at (j := 2) rfl) (zbc (a := (zad d.part)) (pre := [v_out_1]) (seg := [v_out_2]) (post := []) (zaf o0_0) rfl rfl))
    have hf237 : (CFs ⟨b1, 258, none⟩ [.slice A0_2 d.final.length c0_2]).1 w233 := (CF.box (m := 1) (S234.box_at (j := 0) rfl) (zbc (a := (zad d.part)) (pre := [.slice A0_1 d.next.length c0_1]) (seg := [.slice A0_2 d.final.length c0_2]) (post := []) (zaf o0_0) rfl rfl))
    have hf238 : (CFs ad25 [.bool (at_ d.final t17)]).1 w233 := (CF.ghost ce25 (St.le0 S234))
    refine d_v (v := v233) rfl rfl rfl (zcr rfl ev232 r233) (.inr (za1 (by decide +kernel) (zbu hf236 (zbu hf237 (zbu hf238 trivial))))) <| qd0 (i := 16) (v := .pointer (some ⟨b14, 257, none⟩)) rfl (by decide +kernel) rfl rfl (zaq zef ty24 rfl r22_4) (zan rfl) <| zbo (i := 15) (by decide +kernel) ?_
    intro wd239 gd239
    have S240 := S234.keep gd239
    have hf241 := spUp gd239 hf235
    have hf242 := spUp gd239 hf236
    have hf243 := spUp gd239 hf237
    have hf244 := spUp gd239 hf238
    obtain ⟨A246, c246, ev246, lc246, cm246⟩ := S240.row_val (j := 7) rfl
    obtain ⟨v247, w247, r247, g247, T247⟩ := zcs (kd := Kd.bool) (A := A246) (c := c246) (ys := ([!(at_ d.final t17)] : List Bool)) (len := ([!(at_ d.final t17)] : List Bool).length) 25 S240 u25 ty4 rfl rfl (j := 4) rfl rfl (zc7 S240 (j := 7) rfl ev246) (by first|omega|(simp;omega)|assumption|simp) (by first|omega|(simp;omega)|assumption|simp)
    have S248 := T247.fx 4 (row 4 Kd.bool v247 (out_2 ++ ([!(at_ d.final t17)] : List Bool))) rfl
    dsimp only [lAa, lAn, lA0, lAs] at S248
    have hf249 : (CFs ⟨b14, 257, none⟩ [v_out_1]).1 w247 := (CF.box (m := 1) (S248.box_at (j := 2) rfl) (zbc (a := (zad d.part)) (pre := []) (seg := [v_out_1]) (post := [v_out_2]) (zaf o0_0) rfl rfl))
    have hf250 : (CFs ⟨b14, 258, none⟩ [v_out_2]).1 w247 := (CF.box (m := 1) (S248.box_at (j := 2) rfl) (zbc (a := (zad d.part)) (pre := [v_out_1]) (seg := [v_out_2]) (post := []) (zaf o0_0) rfl rfl))
    have hf251 : (CFs ⟨b1, 258, none⟩ [.slice A0_2 d.final.length c0_2]).1 w247 := (CF.box (m := 1) (S248.box_at (j := 0) rfl) (zbc (a := (zad d.part)) (pre := [.slice A0_1 d.next.length c0_1]) (seg := [.slice A0_2 d.final.length c0_2]) (post := []) (zaf o0_0) rfl rfl))
    have hf252 : (CFs ad25 [.bool (at_ d.final t17)]).1 w247 := (CF.ghost ce25 (St.le0 S248))
    refine d_v (v := v247) rfl rfl rfl (zcr rfl ev246 r247) (.inr (zbu hf249 (za1 (by decide +kernel) (zbu hf251 (zbu hf252 trivial))))) <| zbo (i := 17) (by decide +kernel) ?_
    intro wd253 gd253
    have S254 := S248.keep gd253
    have hf255 := spUp gd253 hf249
    have hf256 := spUp gd253 hf250
    have hf257 := spUp gd253 hf251
    have hf258 := spUp gd253 hf252
    have oc260 := zcp S254 (j := 3) rfl
    obtain ⟨w259, r259, g259, T259⟩ := zcw (P := Tryd.prog) (off := 257) (v := v233) (vs := [v233]) (a := (zad d.part)) (pre := []) (seg := [v_out_1]) (post := [v_out_2]) S254 ty24 (zcn S254 (j := 3) rfl) rfl (zaf o0_0) rfl rfl (j := 2) rfl (zb8 oc260 zdc)
    have S261 := T259.fx 2 (box b14 35 ((zad d.part) ++ ([v233, v_out_2] : List Value))) rfl
    dsimp only [lAa, lAn, lA0, lAs] at S261
    have hf262 : (CFs ⟨b1, 258, none⟩ [.slice A0_2 d.final.length c0_2]).1 w259 := (CF.box (m := 1) (S261.box_at (j := 0) rfl) (zbc (a := (zad d.part)) (pre := [.slice A0_1 d.next.length c0_1]) (seg := [.slice A0_2 d.final.length c0_2]) (post := []) (zaf o0_0) rfl rfl))
    have hf263 : (CFs ad25 [.bool (at_ d.final t17)]).1 w259 := (CF.ghost ce25 (St.le0 S261))
    refine d_s rfl rfl (za2 rfl rfl r259) (.inr (za1 (by decide +kernel) (za1 (by decide +kernel) (zbu hf262 (zbu hf263 trivial))))) <| qd0 (i := 18) (v := .pointer (some ⟨b14, 258, none⟩)) rfl (by decide +kernel) rfl rfl (zaq fd35_2 ty25 rfl r22_4) (zan rfl) <| zbo (i := 19) (by decide +kernel) ?_
    intro wd264 gd264
    have S265 := S261.keep gd264
    have hf266 := spUp gd264 hf262
    have hf267 := spUp gd264 hf263
    have oc269 := zcp S265 (j := 4) rfl
    obtain ⟨w268, r268, g268, T268⟩ := zcw (P := Tryd.prog) (off := 258) (v := v247) (vs := [v247]) (a := (zad d.part)) (pre := [v233]) (seg := [v_out_2]) (post := []) S265 ty25 (zcn S265 (j := 4) rfl) rfl (zaf o0_0) rfl rfl (j := 2) rfl (zb8 oc269 zdc)
    have S270 := T268.fx 2 (box b14 35 ((zad d.part) ++ ([v233, v247] : List Value))) rfl
    dsimp only [lAa, lAn, lA0, lAs] at S270
    have hf271 : (CFs ⟨b1, 258, none⟩ [.slice A0_2 d.final.length c0_2]).1 w268 := (CF.box (m := 1) (S270.box_at (j := 0) rfl) (zbc (a := (zad d.part)) (pre := [.slice A0_1 d.next.length c0_1]) (seg := [.slice A0_2 d.final.length c0_2]) (post := []) (zaf o0_0) rfl rfl))
    have hf272 : (CFs ad25 [.bool (at_ d.final t17)]).1 w268 := (CF.ghost ce25 (St.le0 S270))
    refine d_s rfl rfl (za2 rfl rfl r268) (.inr (za1 (by decide +kernel) (za1 (by decide +kernel) (za1 (by decide +kernel) (za1 (by decide +kernel) trivial))))) <| zcb (by decide +kernel) ?_
    intro wd273 gd273
    have S274 := S270.keep gd273
    exact jn124 _ _ ⟨h137, v233, v247, lf137_1, S274.sub [0, 1, 2, 3, 4] (by decide) rfl _ rfl, r22_1, r22_2, r22_4, r22_15, r22_16, r22_17, o0_0, o0_0⟩
   intro wd275 gd275
   have S276 := S138.keep gd275
   have hf277 := spUp gd275 hf133
   have hf278 := spUp gd275 hf134
   have hf279 := spUp gd275 hf135
   have hf280 := spUp gd275 hf136
   obtain ⟨v281, w281, r281, g281, T281⟩ := za5 (kd := Kd.bool) (xs := ([!(at_ d.final t17)] : List Bool)) (len := 1) [.bool (!(at_ d.final t17))] S276 u25 ty4 rfl rfl rfl rfl rfl (za0 rfl zb4) [.bool (!(at_ d.final t17))] (zbp.single (k := Kd.bool) (h := h137) (x := !(at_ d.final t17)) (cs := [.bool (!(at_ d.final t17))]) ⟨rfl, trivial⟩) rfl
   have S282 := T281
   dsimp only [lAa, lAn, lA0, lAs] at S282
   have hf283 := spUp g281 hf277
   have hf284 := spUp g281 hf278
   have hf285 := spUp g281 hf279
   have hf286 := spUp g281 hf280
   refine d_v (v := v281) rfl rfl rfl (zat (pv := [(0, .bool (!(at_ d.final t17)))]) rfl r281) (.inl g281) <| zbo (i := 4) (by decide +kernel) ?_
   intro wd287 gd287
   have S288 := S282.keep gd287
   have hf289 := spUp gd287 hf283
   have hf290 := spUp gd287 hf284
   have hf291 := spUp gd287 hf285
   have hf292 := spUp gd287 hf286
   obtain ⟨v293, w293, r293, g293, T293⟩ := za5 (kd := (Kd.int .i64).slice) (xs := ([(at_ d.next t17)] : List (List Int))) (len := 1) [.slice A137 (at_ d.next t17).length c137] S288 u24 ty23 rfl rfl rfl rfl rfl (za0 rfl zb4) [.slice A137 (at_ d.next t17).length c137] (zbp.single (k := (Kd.int .i64).slice) (h := h137) (x := (at_ d.next t17)) (cs := [.slice A137 (at_ d.next t17).length c137]) ⟨_, _, rfl, (And.intro lc137 cm137).1, (And.intro lc137 cm137).2, ld137.mono (Le.refl _)⟩) rfl
   have S294 := T293
   dsimp only [lAa, lAn, lA0, lAs] at S294
   have hf295 := spUp g293 hf289
   have hf296 := spUp g293 hf290
   have hf297 := spUp g293 hf291
   have hf298 := spUp g293 hf292
   refine d_v (v := v293) rfl rfl rfl (zat (pv := [(0, .slice A137 (at_ d.next t17).length c137)]) rfl r293) (.inl g293) <| zbo (i := 5) (by decide +kernel) ?_
   intro wd299 gd299
   have S300 := S294.keep gd299
   have hf301 := spUp gd299 hf295
   have hf302 := spUp gd299 hf296
   have hf303 := spUp gd299 hf297
   have hf304 := spUp gd299 hf298
   obtain ⟨A306, c306, ev306, lc306, cm306⟩ := S300.row_val (j := 7) rfl
   obtain ⟨v307, w307, r307, g307, T307⟩ := zcs (kd := (Kd.int .i64).slice) (A := A306) (c := c306) (ys := ([(at_ d.next t17)] : List (List Int))) (len := ([(at_ d.next t17)] : List (List Int)).length) 24 S300 u24 ty23 rfl rfl (j := 3) rfl rfl (zc7 S300 (j := 7) rfl ev306) (by first|omega|(simp;omega)|assumption|simp) (by first|omega|(simp;omega)|assumption|simp)
   have S308 := T307.fx 3 (row 23 (Kd.int .i64).slice v307 (out_1 ++ ([(at_ d.next t17)] : List (List Int)))) rfl
   dsimp only [lAa, lAn, lA0, lAs] at S308
   have hf309 : (CFs ⟨b14, 257, none⟩ [v_out_1]).1 w307 := (CF.box (m := 1) (S308.box_at (j := 2) rfl) (zbc (a := (zad d.part)) (pre := []) (seg := [v_out_1]) (post := [v_out_2]) (zaf o0_0) rfl rfl))
   have hf310 : (CFs ⟨b14, 258, none⟩ [v_out_2]).1 w307 := (CF.box (m := 1) (S308.box_at (j := 2) rfl) (zbc (a := (zad d.part)) (pre := [v_out_1]) (seg := [v_out_2]) (post := []) (zaf o0_0) rfl rfl))
   have hf311 : (CFs ⟨b1, 258, none⟩ [.slice A0_2 d.final.length c0_2]).1 w307 := (CF.box (m := 1) (S308.box_at (j := 0) rfl) (zbc (a := (zad d.part)) (pre := [.slice A0_1 d.next.length c0_1]) (seg := [.slice A0_2 d.final.length c0_2]) (post := []) (zaf o0_0) rfl rfl))
   have hf312 : (CFs ad25 [.bool (at_ d.final t17)]).1 w307 := (CF.ghost ce25 (St.le0 S308))
   refine d_v (v := v307) rfl rfl rfl (zcr rfl ev306 r307) (.inr (za1 (by decide +kernel) (zbu hf310 (zbu hf311 (zbu hf312 trivial))))) <| qd0 (i := 16) (v := .pointer (some ⟨b14, 257, none⟩)) rfl (by decide +kernel) rfl rfl (zaq zef ty24 rfl r22_4) (zan rfl) <| zbo (i := 15) (by decide +kernel) ?_
   intro wd313 gd313
   have S314 := S308.keep gd313
   have hf315 := spUp gd313 hf309
   have hf316 := spUp gd313 hf310
   have hf317 := spUp gd313 hf311
   have hf318 := spUp gd313 hf312
   obtain ⟨A320, c320, ev320, lc320, cm320⟩ := S314.row_val (j := 6) rfl
   obtain ⟨v321, w321, r321, g321, T321⟩ := zcs (kd := Kd.bool) (A := A320) (c := c320) (ys := ([!(at_ d.final t17)] : List Bool)) (len := ([!(at_ d.final t17)] : List Bool).length) 25 S314 u25 ty4 rfl rfl (j := 4) rfl rfl (zc7 S314 (j := 6) rfl ev320) (by first|omega|(simp;omega)|assumption|simp) (by first|omega|(simp;omega)|assumption|simp)
   have S322 := T321.fx 4 (row 4 Kd.bool v321 (out_2 ++ ([!(at_ d.final t17)] : List Bool))) rfl
   dsimp only [lAa, lAn, lA0, lAs] at S322
   have hf323 : (CFs ⟨b14, 257, none⟩ [v_out_1]).1 w321 := (CF.box (m := 1) (S322.box_at (j := 2) rfl) (zbc (a := (zad d.part)) (pre := []) (seg := [v_out_1]) (post := [v_out_2]) (zaf o0_0) rfl rfl))
   have hf324 : (CFs ⟨b14, 258, none⟩ [v_out_2]).1 w321 := (CF.box (m := 1) (S322.box_at (j := 2) rfl) (zbc (a := (zad d.part)) (pre := [v_out_1]) (seg := [v_out_2]) (post := []) (zaf o0_0) rfl rfl))
   have hf325 : (CFs ⟨b1, 258, none⟩ [.slice A0_2 d.final.length c0_2]).1 w321 := (CF.box (m := 1) (S322.box_at (j := 0) rfl) (zbc (a := (zad d.part)) (pre := [.slice A0_1 d.next.length c0_1]) (seg := [.slice A0_2 d.final.length c0_2]) (post := []) (zaf o0_0) rfl rfl))
   have hf326 : (CFs ad25 [.bool (at_ d.final t17)]).1 w321 := (CF.ghost ce25 (St.le0 S322))
   refine d_v (v := v321) rfl rfl rfl (zcr rfl ev320 r321) (.inr (zbu hf323 (za1 (by decide +kernel) (zbu hf325 (zbu hf326 trivial))))) <| zbo (i := 17) (by decide +kernel) ?_
   intro wd327 gd327
   have S328 := S322.keep gd327
   have hf329 := spUp gd327 hf323
   have hf330 := spUp gd327 hf324
   have hf331 := spUp gd327 hf325
   have hf332 := spUp gd327 hf326
   have oc334 := zcp S328 (j := 3) rfl
   obtain ⟨w333, r333, g333, T333⟩ := zcw (P := Tryd.prog) (off := 257) (v := v307) (vs := [v307]) (a := (zad d.part)) (pre := []) (seg := [v_out_1]) (post := [v_out_2]) S328 ty24 (zcn S328 (j := 3) rfl) rfl (zaf o0_0) rfl rfl (j := 2) rfl (zb8 oc334 zdc)
   have S335 := T333.fx 2 (box b14 35 ((zad d.part) ++ ([v307, v_out_2] : List Value))) rfl
   dsimp only [lAa, lAn, lA0, lAs] at S335
   have hf336 : (CFs ⟨b1, 258, none⟩ [.slice A0_2 d.final.length c0_2]).1 w333 := (CF.box (m := 1) (S335.box_at (j := 0) rfl) (zbc (a := (zad d.part)) (pre := [.slice A0_1 d.next.length c0_1]) (seg := [.slice A0_2 d.final.length c0_2]) (post := []) (zaf o0_0) rfl rfl))
   have hf337 : (CFs ad25 [.bool (at_ d.final t17)]).1 w333 := (CF.ghost ce25 (St.le0 S335))
   refine d_s rfl rfl (za2 rfl rfl r333) (.inr (za1 (by decide +kernel) (za1 (by decide +kernel) (zbu hf336 (zbu hf337 trivial))))) <| qd0 (i := 18) (v := .pointer (some ⟨b14, 258, none⟩)) rfl (by decide +kernel) rfl rfl (zaq fd35_2 ty25 rfl r22_4) (zan rfl) <| zbo (i := 19) (by decide +kernel) ?_
   intro wd338 gd338
   have S339 := S335.keep gd338
   have hf340 := spUp gd338 hf336
   have hf341 := spUp gd338 hf337
   have oc343 := zcp S339 (j := 4) rfl
   obtain ⟨w342, r342, g342, T342⟩ := zcw (P := Tryd.prog) (off := 258) (v := v321) (vs := [v321]) (a := (zad d.part)) (pre := [v307]) (seg := [v_out_2]) (post := []) S339 ty25 (zcn S339 (j := 4) rfl) rfl (zaf o0_0) rfl rfl (j := 2) rfl (zb8 oc343 zdc)
   have S344 := T342.fx 2 (box b14 35 ((zad d.part) ++ ([v307, v321] : List Value))) rfl
   dsimp only [lAa, lAn, lA0, lAs] at S344
   have hf345 : (CFs ⟨b1, 258, none⟩ [.slice A0_2 d.final.length c0_2]).1 w342 := (CF.box (m := 1) (S344.box_at (j := 0) rfl) (zbc (a := (zad d.part)) (pre := [.slice A0_1 d.next.length c0_1]) (seg := [.slice A0_2 d.final.length c0_2]) (post := []) (zaf o0_0) rfl rfl))
   have hf346 : (CFs ad25 [.bool (at_ d.final t17)]).1 w342 := (CF.ghost ce25 (St.le0 S344))
   refine d_s rfl rfl (za2 rfl rfl r342) (.inr (za1 (by decide +kernel) (za1 (by decide +kernel) (za1 (by decide +kernel) (za1 (by decide +kernel) trivial))))) <| zcb (by decide +kernel) ?_
   intro wd347 gd347
   have S348 := S344.keep gd347
   exact jn124 _ _ ⟨h137, v307, v321, lf137_1, S348.sub [0, 1, 2, 3, 4] (by decide) rfl _ rfl, r22_1, r22_2, r22_4, r22_15, r22_16, r22_17, o0_0, o0_0⟩
  intro wd349 gd349
  have S350 := S31.keep gd349
  have hf351 := spUp gd349 hf32
  have hf352 := spUp gd349 hf33
  have hf353 := spUp gd349 hf34
  have hf354 := spUp gd349 hf35
  obtain ⟨v355, w355, r355, g355, T355⟩ := za5 (kd := Kd.bool) (xs := ([!(at_ d.final t17)] : List Bool)) (len := 1) [.bool (!(at_ d.final t17))] S350 u25 ty4 rfl rfl rfl rfl rfl (za0 rfl zb4) [.bool (!(at_ d.final t17))] (zbp.single (k := Kd.bool) (h := h22) (x := !(at_ d.final t17)) (cs := [.bool (!(at_ d.final t17))]) ⟨rfl, trivial⟩) rfl
  have S356 := T355
  dsimp only [lAa, lAn, lA0, lAs] at S356
  have hf357 := spUp g355 hf351
  have hf358 := spUp g355 hf352
  have hf359 := spUp g355 hf353
  have hf360 := spUp g355 hf354
  refine d_v (v := v355) rfl rfl rfl (zat (pv := [(0, .bool (!(at_ d.final t17)))]) rfl r355) (.inl g355) <| zbo (i := 3) (by decide +kernel) ?_
  intro wd361 gd361
  have S362 := S356.keep gd361
  have hf363 := spUp gd361 hf357
  have hf364 := spUp gd361 hf358
  have hf365 := spUp gd361 hf359
  have hf366 := spUp gd361 hf360
  refine d_c rfl rfl rfl (zba (args := [.slice A24 (at_ d.next t17).length c24]) ca87 rfl rfl) (cloneI_calls wd361 (at_ d.next t17) A24 c24 (And.intro lc24 cm24) (ld24.mono (St.le0 S362)) (by omega)) ?_
  rintro v367_0 w367 ⟨h367, _, T367, rfl⟩
  obtain ⟨k367, lk367, ll367, U367⟩ := zch S362 T367
  have lc367_0 := (le22).trans lk367
  have S368 := U367
  dsimp only [lAa, lAn, lA0, lAs] at S368
  have hf369 := spUp (Chg.of_below T367.below) hf363
  have hf370 := spUp (Chg.of_below T367.below) hf364
  have hf371 := spUp (Chg.of_below T367.below) hf365
  have hf372 := spUp (Chg.of_below T367.below) hf366
  refine ⟨.inl (Chg.of_below T367.below), ?_⟩
  obtain ⟨h373, le373, T373, rp373⟩ := S368.freeze (i := 6) rfl
  have lf373_0 := (lc367_0).trans le373
  have lf373_1 := (lk367).trans le373
  have S374 := T373.fx 6 (emp) rfl
  dsimp only [lAa, lAn, lA0, lAs] at S374
  obtain ⟨A373, c373, e373, lc373, cm373, ld373⟩ := rp373
  injection e373 with e373 _; subst e373
  have cn373 := cm373; simp only [maxLen] at cn373
  refine zbo (i := 4) (by decide +kernel) ?_
  intro wd375 gd375
  have S376 := S374.keep gd375
  have hf377 := spUp gd375 hf369
  have hf378 := spUp gd375 hf370
  have hf379 := spUp gd375 hf371
  have hf380 := spUp gd375 hf372
  obtain ⟨v381, w381, r381, g381, T381⟩ := za5 (kd := (Kd.int .i64).slice) (xs := ([(at_ d.next t17)] : List (List Int))) (len := 1) [.slice A373 (at_ d.next t17).length c373] S376 u24 ty23 rfl rfl rfl rfl rfl (za0 rfl zb4) [.slice A373 (at_ d.next t17).length c373] (zbp.single (k := (Kd.int .i64).slice) (h := h373) (x := (at_ d.next t17)) (cs := [.slice A373 (at_ d.next t17).length c373]) ⟨_, _, rfl, (And.intro lc373 cm373).1, (And.intro lc373 cm373).2, ld373.mono (Le.refl _)⟩) rfl
  have S382 := T381
  dsimp only [lAa, lAn, lA0, lAs] at S382
  have hf383 := spUp g381 hf377
  have hf384 := spUp g381 hf378
  have hf385 := spUp g381 hf379
  have hf386 := spUp g381 hf380
  refine d_v (v := v381) rfl rfl rfl (zat (pv := [(0, .slice A373 (at_ d.next t17).length c373)]) rfl r381) (.inl g381) <| zbo (i := 5) (by decide +kernel) ?_
  intro wd387 gd387
  have S388 := S382.keep gd387
  have hf389 := spUp gd387 hf383
  have hf390 := spUp gd387 hf384
  have hf391 := spUp gd387 hf385
  have hf392 := spUp gd387 hf386
  obtain ⟨A394, c394, ev394, lc394, cm394⟩ := S388.row_val (j := 7) rfl
  obtain ⟨v395, w395, r395, g395, T395⟩ := zcs (kd := (Kd.int .i64).slice) (A := A394) (c := c394) (ys := ([(at_ d.next t17)] : List (List Int))) (len := ([(at_ d.next t17)] : List (List Int)).length) 24 S388 u24 ty23 rfl rfl (j := 3) rfl rfl (zc7 S388 (j := 7) rfl ev394) (by first|omega|(simp;omega)|assumption|simp) (by first|omega|(simp;omega)|assumption|simp)
  have S396 := T395.fx 3 (row 23 (Kd.int .i64).slice v395 (out_1 ++ ([(at_ d.next t17)] : List (List Int)))) rfl
  dsimp only [lAa, lAn, lA0, lAs] at S396
  have hf397 : (CFs ⟨b14, 257, none⟩ [v_out_1]).1 w395 := (CF.box (m := 1) (S396.box_at (j := 2) rfl) (zbc (a := (zad d.part)) (pre := []) (seg := [v_out_1]) (post := [v_out_2]) (zaf o0_0) rfl rfl))
  have hf398 : (CFs ⟨b14, 258, none⟩ [v_out_2]).1 w395 := (CF.box (m := 1) (S396.box_at (j := 2) rfl) (zbc (a := (zad d.part)) (pre := [v_out_1]) (seg := [v_out_2]) (post := []) (zaf o0_0) rfl rfl))
  have hf399 : (CFs ⟨b1, 258, none⟩ [.slice A0_2 d.final.length c0_2]).1 w395 := (CF.box (m := 1) (S396.box_at (j := 0) rfl) (zbc (a := (zad d.part)) (pre := [.slice A0_1 d.next.length c0_1]) (seg := [.slice A0_2 d.final.length c0_2]) (post := []) (zaf o0_0) rfl rfl))
  have hf400 : (CFs ad25 [.bool (at_ d.final t17)]).1 w395 := (CF.ghost ce25 (St.le0 S396))
  refine d_v (v := v395) rfl rfl rfl (zcr rfl ev394 r395) (.inr (za1 (by decide +kernel) (zbu hf398 (zbu hf399 (zbu hf400 trivial))))) <| qd0 (i := 16) (v := .pointer (some ⟨b14, 257, none⟩)) rfl (by decide +kernel) rfl rfl (zaq zef ty24 rfl r22_4) (zan rfl) <| zbo (i := 15) (by decide +kernel) ?_
  intro wd401 gd401
  have S402 := S396.keep gd401
  have hf403 := spUp gd401 hf397
  have hf404 := spUp gd401 hf398
  have hf405 := spUp gd401 hf399
  have hf406 := spUp gd401 hf400
  obtain ⟨A408, c408, ev408, lc408, cm408⟩ := S402.row_val (j := 5) rfl
  obtain ⟨v409, w409, r409, g409, T409⟩ := zcs (kd := Kd.bool) (A := A408) (c := c408) (ys := ([!(at_ d.final t17)] : List Bool)) (len := ([!(at_ d.final t17)] : List Bool).length) 25 S402 u25 ty4 rfl rfl (j := 4) rfl rfl (zc7 S402 (j := 5) rfl ev408) (by first|omega|(simp;omega)|assumption|simp) (by first|omega|(simp;omega)|assumption|simp)
  have S410 := T409.fx 4 (row 4 Kd.bool v409 (out_2 ++ ([!(at_ d.final t17)] : List Bool))) rfl
  dsimp only [lAa, lAn, lA0, lAs] at S410
  have hf411 : (CFs ⟨b14, 257, none⟩ [v_out_1]).1 w409 := (CF.box (m := 1) (S410.box_at (j := 2) rfl) (zbc (a := (zad d.part)) (pre := []) (seg := [v_out_1]) (post := [v_out_2]) (zaf o0_0) rfl rfl))
  have hf412 : (CFs ⟨b14, 258, none⟩ [v_out_2]).1 w409 := (CF.box (m := 1) (S410.box_at (j := 2) rfl) (zbc (a := (zad d.part)) (pre := [v_out_1]) (seg := [v_out_2]) (post := []) (zaf o0_0) rfl rfl))
  have hf413 : (CFs ⟨b1, 258, none⟩ [.slice A0_2 d.final.length c0_2]).1 w409 := (CF.box (m := 1) (S410.box_at (j := 0) rfl) (zbc (a := (zad d.part)) (pre := [.slice A0_1 d.next.length c0_1]) (seg := [.slice A0_2 d.final.length c0_2]) (post := []) (zaf o0_0) rfl rfl))
  have hf414 : (CFs ad25 [.bool (at_ d.final t17)]).1 w409 := (CF.ghost ce25 (St.le0 S410))
  refine d_v (v := v409) rfl rfl rfl (zcr rfl ev408 r409) (.inr (zbu hf411 (za1 (by decide +kernel) (zbu hf413 (zbu hf414 trivial))))) <| zbo (i := 17) (by decide +kernel) ?_
  intro wd415 gd415
  have S416 := S410.keep gd415
  have hf417 := spUp gd415 hf411
  have hf418 := spUp gd415 hf412
  have hf419 := spUp gd415 hf413
  have hf420 := spUp gd415 hf414
  have oc422 := zcp S416 (j := 3) rfl
  obtain ⟨w421, r421, g421, T421⟩ := zcw (P := Tryd.prog) (off := 257) (v := v395) (vs := [v395]) (a := (zad d.part)) (pre := []) (seg := [v_out_1]) (post := [v_out_2]) S416 ty24 (zcn S416 (j := 3) rfl) rfl (zaf o0_0) rfl rfl (j := 2) rfl (zb8 oc422 zdc)
  have S423 := T421.fx 2 (box b14 35 ((zad d.part) ++ ([v395, v_out_2] : List Value))) rfl
  dsimp only [lAa, lAn, lA0, lAs] at S423
  have hf424 : (CFs ⟨b1, 258, none⟩ [.slice A0_2 d.final.length c0_2]).1 w421 := (CF.box (m := 1) (S423.box_at (j := 0) rfl) (zbc (a := (zad d.part)) (pre := [.slice A0_1 d.next.length c0_1]) (seg := [.slice A0_2 d.final.length c0_2]) (post := []) (zaf o0_0) rfl rfl))
  have hf425 : (CFs ad25 [.bool (at_ d.final t17)]).1 w421 := (CF.ghost ce25 (St.le0 S423))
  refine d_s rfl rfl (za2 rfl rfl r421) (.inr (za1 (by decide +kernel) (za1 (by decide +kernel) (zbu hf424 (zbu hf425 trivial))))) <| qd0 (i := 18) (v := .pointer (some ⟨b14, 258, none⟩)) rfl (by decide +kernel) rfl rfl (zaq fd35_2 ty25 rfl r22_4) (zan rfl) <| zbo (i := 19) (by decide +kernel) ?_
  intro wd426 gd426
  have S427 := S423.keep gd426
  have hf428 := spUp gd426 hf424
  have hf429 := spUp gd426 hf425
  have oc431 := zcp S427 (j := 4) rfl
  obtain ⟨w430, r430, g430, T430⟩ := zcw (P := Tryd.prog) (off := 258) (v := v409) (vs := [v409]) (a := (zad d.part)) (pre := [v395]) (seg := [v_out_2]) (post := []) S427 ty25 (zcn S427 (j := 4) rfl) rfl (zaf o0_0) rfl rfl (j := 2) rfl (zb8 oc431 zdc)
  have S432 := T430.fx 2 (box b14 35 ((zad d.part) ++ ([v395, v409] : List Value))) rfl
  dsimp only [lAa, lAn, lA0, lAs] at S432
  have hf433 : (CFs ⟨b1, 258, none⟩ [.slice A0_2 d.final.length c0_2]).1 w430 := (CF.box (m := 1) (S432.box_at (j := 0) rfl) (zbc (a := (zad d.part)) (pre := [.slice A0_1 d.next.length c0_1]) (seg := [.slice A0_2 d.final.length c0_2]) (post := []) (zaf o0_0) rfl rfl))
  have hf434 : (CFs ad25 [.bool (at_ d.final t17)]).1 w430 := (CF.ghost ce25 (St.le0 S432))
  refine d_s rfl rfl (za2 rfl rfl r430) (.inr (za1 (by decide +kernel) (za1 (by decide +kernel) (za1 (by decide +kernel) (za1 (by decide +kernel) trivial))))) <| zcb (by decide +kernel) ?_
  intro wd435 gd435
  have S436 := S432.keep gd435
  exact jn124 _ _ ⟨h373, v395, v409, lf373_1, S436.sub [0, 1, 2, 3, 4] (by decide) rfl _ rfl, r22_1, r22_2, r22_4, r22_15, r22_16, r22_17, o0_0, o0_0⟩
 refine zcf rfl <| zag <| zah (l := [0, 1, 2]) rfl <| p_v (v := .agg ((zad d.part) ++ ([v_out_1, v_out_2] : List Value)).toArray) rfl rfl rfl (zam (seg := ((zad d.part) ++ ([v_out_1, v_out_2] : List Value))) ty35 (zal (zaf o0_0) rfl) (by simp) r22_4 (CF.box (m := 259) (S22.box_at (j := 2) rfl) (zaw (zal (zaf o0_0) rfl)))) ?_
 have oc438 := zcp S22 (j := 3) rfl
 have oc439 := zcp S22 (j := 4) rfl
 obtain ⟨w437, r437, g437, T437⟩ := za7 (P := Tryd.prog) (v := .agg ((zad d.part) ++ ([v_out_1, v_out_2] : List Value)).toArray) (vs := ((zad d.part) ++ ([v_out_1, v_out_2] : List Value))) (cs := ((zad zPart) ++ ([.slice none 0 0, .slice none 0 0] : List Value))) S22 ty35 rfl (zal (zaf o0_0) rfl) (zal (zaf (zao)) rfl) (j := 1) rfl (zcc (zaz _) (zb8 oc438 (zb8 oc439 zdc)))
 have S440 := T437.fx 1 (box b3 35 ((zad d.part) ++ ([v_out_1, v_out_2] : List Value))) rfl
 dsimp only [lAa, lAn, lA0, lAs] at S440
 refine p_s rfl rfl (za2 r22_2 rfl r437) <| p_v (v := .int .i64 0) rfl rfl rfl (zaj rfl) <| zac <| zax Tryd.func23 (res2 rfl (zcz S440 ty35 r22_2 (j := 1) rfl (zal (zaf o0_0) rfl) (by simp) rfl) (za4 (v := .int .i64 0) rfl)) ?_
 have q0 : ((notD d).part : PartM) = d.part := by
  (rw [notD_yes (by assumption)]; done)
 have q1 : ((notD d).next : List (List Int)) = out_1 := by
  (rw [notD_yes (by assumption)]; show d.next = _; rw [hI22.2.2.1, List.take_of_length_le (by omega)])
 have q2 : ((notD d).final : List Bool) = out_2 := by
  (rw [notD_yes (by assumption)]; show d.final.map _ = _; rw [hI22.2.2.2, not_end d (by omega)])
 have q3 : (errD d : Int) = 0 := by
  exact errD_yes (by assumption)
 refine ⟨_, rfl, h22, v_out_1, v_out_2, ?_, ?_, ?_, ?_⟩
 · rw [q1]; rw [q2]; exact S440.sub [3, 4] (by decide) rfl _ rfl
 · first | rfl | (simp only [q0, q1, q2, q3]; rfl) | (simp only [q0, q1, q2, q3])
 · rw [q0]; first | assumption | exact zao
 · rw [q3]; exact (zar (by omega) (by omega))
end Go.Proofs.YtfoemogojbnfhaaDoor
namespace Gx
open Go Go.RowKit
set_option linter.unusedSimpArgs false
set_option linter.unusedSectionVars false
set_option linter.unusedVariables false
section
variable {S : Type} [DecidableEq S]
theorem bfs_none {next : S → Int → S} {n : Int} {first : S} {i : Nat} (h : (bfs next n first i)[i]? = none) : bfs next n first (i + 1) = bfs next n first i := by
  show (match (bfs next n first i)[i]? with | some s => _ | none => _) = _
  rw [h]
theorem bfs_closed (next : S → Int → S) (n : Int) (first : S) : ∀ i, Closed next n (bfs next n first i) i
  | 0 => fun s hs => by simp at hs
  | i + 1 => by
    have ih := bfs_closed next n first i
    cases h : (bfs next n first i)[i]? with
    | none =>
      rw [bfs_none h]
      intro s hs
      have hl : (bfs next n first i).length ≤ i := List.getElem?_eq_none_iff.1 h
      rw [List.take_of_length_le (by omega)] at hs
      exact ih s (by rw [List.take_of_length_le hl]; exact hs)
    | some s =>
      have hlt := (List.getElem?_eq_some_iff.1 h).1
      rw [bfs_step h]
      obtain ⟨q, hq⟩ := fold_pre (rowsOf next n s) (bfs next n first i)
      intro t ht u hu
      rw [hq, List.take_append_of_le_length (by omega), List.take_add_one, h] at ht
      rcases List.mem_append.1 ht with ht | ht
      · rw [hq]; exact List.mem_append_left _ (ih t ht u hu)
      · simp only [Option.toList_some, List.mem_singleton] at ht
        rw [ht] at hu
        exact fold_mem _ _ u hu
theorem bfs_head (next : S → Int → S) (n : Int) (first : S) : ∀ i, (bfs next n first i)[0]? = some first
  | 0 => rfl
  | i + 1 => by
    obtain ⟨q, hq⟩ := bfs_pre next n first i
    have ih := bfs_head next n first i
    rw [hq, List.getElem?_append_left (List.getElem?_eq_some_iff.1 ih).1, ih]
structure AllOk (next : S → Int → S) (n : Int) (first : S) (all : List S) : Prop where
  head : all[0]? = some first
  nodup : all.Nodup
  cl : ∀ s ∈ all, ∀ k : Int, 0 ≤ k → k < n → next s k ∈ all
variable {next : S → Int → S} {n : Int} {first : S}
theorem mem_rows {s : S} {k : Int} (h0 : 0 ≤ k) (h1 : k < n) : next s k ∈ rowsOf next n s := by
  unfold rowsOf
  exact List.mem_map.2 ⟨k.toNat, List.mem_range.2 (by omega), by rw [Int.toNat_of_nonneg h0]⟩
theorem all_found {i : Nat} (h : (bfs next n first i).length ≤ i) : AllOk next n first (allM next n first) := by
  rw [allM_eq h]
  refine ⟨bfs_head _ _ _ _, bfs_nodup _ _ _ _, fun s hs k h0 h1 => ?_⟩
  exact bfs_closed next n first i s (by rw [List.take_of_length_le h]; exact hs) _ (mem_rows h0 h1)
theorem all_ok {P : S → Prop} {f : S → Nat} {N : Nat} (h0 : P first) (h1 : ∀ s k, P s → 0 ≤ k → k < n → P (next s k)) (hf : ∀ a b, P a → P b → f a = f b → a = b) (hN : ∀ a, P a → f a < N) : AllOk next n first (allM next n first) ∧ (allM next n first).length ≤ N ∧ ∀ s ∈ allM next n first, P s := by
  have hb := bfs_bound (P := P) (f := f) (N := N) (next := next) (n := n) (first := first) h0 h1 hf hN
  refine ⟨all_found (hb N), ?_, ?_⟩
  · rw [allM_eq (hb N)]; exact hb N
  · rw [allM_eq (hb N)]; exact bfs_all h0 h1 N
theorem rowsOf_len (s : S) (h : 0 ≤ n) : ((rowsOf next n s).length : Int) = n := by unfold rowsOf; simp; omega
variable {p : PartM} {fin : S → Bool}
theorem made_right (hp : zdu p = true) (hR : RightP p) (A : AllOk next p.n first (allM next p.n first)) : zb7 (madeM p first next fin) = true := by
  have hl : 0 < (allM next p.n first).length := (List.getElem?_eq_some_iff.1 A.head).1
  have hn : (madeM p first next fin).next.length = (allM next p.n first).length := by
    rw [zc8]; unfold nextTo; rw [List.take_length, List.length_map]
  refine rightD_to (by rw [hn]; omega) (by rw [hn, zc1, List.length_map]) hp fun l hl2 => ?_
  rw [hn]
  rw [zc8] at hl2
  unfold nextTo at hl2
  rw [List.take_length] at hl2
  obtain ⟨s, hs, rfl⟩ := List.mem_map.1 hl2
  refine ⟨by rw [List.length_map, zcg]; exact rowsOf_len s hR.lo, fun x hx => ?_⟩
  obtain ⟨t, ht, rfl⟩ := List.mem_map.1 hx
  unfold rowsOf at ht
  obtain ⟨k, hk, rfl⟩ := List.mem_map.1 ht
  rw [List.mem_range] at hk
  have := place_mem (A.cl s hs ((k : Nat) : Int) (by omega) (by omega))
  omega
def goS (next : S → Int → S) (p : PartM) (first : S) (w : ByteArray) : Nat → S
  | 0 => first
  | i + 1 => next (goS next p first w i) (at_ p.of (byt w ((i : Nat) : Int)))
theorem at_get {α : Type} [Inhabited α] {l : List α} {i : Int} {x : α} (h : l[i.toNat]? = some x) : at_ l i = x := by
  unfold at_
  rw [List.getD_eq_getElem?_getD, h]; rfl
theorem made_at {q k : Int} {s : S} (A : AllOk next p.n first (allM next p.n first)) (hq : (allM next p.n first)[q.toNat]? = some s) (h0 : 0 ≤ k) (h1 : k < p.n) : at_ (at_ (madeM p first next fin).next q) k = placeL (next s k) (allM next p.n first) := by
  have hrow : at_ (madeM p first next fin).next q = (rowsOf next p.n s).map fun t => placeL t (allM next p.n first) := by
    refine at_get ?_
    rw [zc8]; unfold nextTo
    rw [List.take_length, List.getElem?_map, hq]; rfl
  rw [hrow]
  refine at_get ?_
  rw [List.getElem?_map]
  unfold rowsOf
  rw [List.getElem?_map, List.getElem?_range (by omega)]
  simp only [Option.map_some, Int.toNat_of_nonneg h0]
theorem made_go (ho : okPart p) (hR : RightP p) (A : AllOk next p.n first (allM next p.n first)) (w : ByteArray) : ∀ i, 0 ≤ goD (madeM p first next fin) w i ∧ (allM next p.n first)[(goD (madeM p first next fin) w i).toNat]? = some (goS next p first w i)
  | 0 => ⟨Int.le_refl _, A.head⟩
  | i + 1 => by
    have ih := made_go ho hR A w i
    have hb := byt_range w ((i : Nat) : Int)
    have c0 : 0 ≤ at_ p.of (byt w ((i : Nat) : Int)) := u8_lo (zcv ho.1 (by omega) (by omega))
    have c1 := hR.of_lt _ hb.1 (by omega : byt w ((i : Nat) : Int) < 256)
    have e : goD (madeM p first next fin) w (i + 1) = placeL (next (goS next p first w i) (at_ p.of (byt w ((i : Nat) : Int)))) (allM next p.n first) := made_at A ih.2 c0 c1
    have hm := A.cl _ (List.mem_of_getElem? ih.2) _ c0 c1
    rw [e]
    have := place_mem hm
    exact ⟨this.1, this.2.2⟩
theorem made_run (ho : okPart p) (hp : zdu p = true) (A : AllOk next p.n first (allM next p.n first)) (w : ByteArray) : runD (madeM p first next fin) w = fin (goS next p first w w.size) := by
  have hR := rightP_of ho hp
  unfold runD
  rw [made_right hp hR A, Bool.true_and]
  refine at_get ?_
  rw [zc1, List.getElem?_map, (made_go ho hR A w w.size).2]; rfl
end
theorem spots_ok {m : Mach} {bs : List Int} {n : Int} (hR : Right m) : AllOk (zb9 m bs) n beginB (allM (zb9 m bs) n beginB) ∧ (allM (zb9 m bs) n beginB).length ≤ 2 ^ m.spots.length + 1 ∧ ∀ s ∈ allM (zb9 m bs) n beginB, InB m s :=
  all_ok (P := InB m) (f := codeB m) (.inl rfl) (fun s k _ _ _ => .inr (nextC_in hR _ s)) (fun a b => code_inj) (fun a h => code_lt h)
theorem splits_same {p : PartM} {s : BSet} (hR : RightP p) (h : zd2 p s = false) {c d : Int} (c0 : 0 ≤ c) (c1 : c < 256) (d0 : 0 ≤ d) (d1 : d < 256) (k0 : 0 ≤ at_ p.of c) (e : at_ p.of c = at_ p.of d) : has s c = has s d := by
  unfold zd2 at h
  have hk := hR.of_lt c c0 c1
  have hl := setsP_len p
  have := List.any_eq_false.1 h (at_ (zcl p) (at_ p.of c)) (at_mem k0 (by have := hR.hi; omega))
  have hc := (cuts_iff _ _).1 (by simpa using this)
  have b1 := setsP_at k0 hk hR.hi c0 c1
  have b2 := setsP_at k0 hk hR.hi d0 d1
  rw [decide_eq_true rfl] at b1
  rw [decide_eq_true e.symm] at b2
  unfold has at b1 b2 ⊢
  rcases hc with hc | hc
  · rw [hc _ (by omega) b1, hc _ (by omega) b2]
  · rw [hc _ (by omega) b1, hc _ (by omega) b2]
theorem next_same {m : Mach} (hR : Right m) {c d : Int} (h : ∀ k : Int, 0 ≤ k → k < (m.spots.length : Int) → has (at_ m.spots k).set c = has (at_ m.spots k).set d) (s : BSet) : nextC m c s = nextC m d s := by
  refine has_ext fun k k0 k1 => ?_
  rw [nextC_has hR c s k0 k1, nextC_has hR d s k0 k1]
  by_cases hk : k < (m.spots.length : Int)
  · rw [h k k0 hk]
  · have h1 : decide (k ∈ m.first) = false := decide_eq_false fun e => hk (hR.firsts k e).2
    have h2 : anyTo (fun i => has s ((i : Nat) : Int) && decide (k ∈ at_ m.follow ((i : Nat) : Int))) m.spots.length = false := by
      refine Bool.eq_false_iff.2 fun e => ?_
      obtain ⟨i, hi, h2⟩ := (anyTo_iff _ _).1 e
      simp only [Bool.and_eq_true, decide_eq_true_eq] at h2
      exact hk (hR.rows (by omega) hi k h2.2).2
    rw [h1, h2]; simp
theorem okB_of {m : Mach} {p : PartM} (ho : okPart p) (h : okB m p = true) : zcu m = true ∧ Right m ∧ zdu p = true ∧ RightP p ∧ ∀ k : Int, 0 ≤ k → k < (m.spots.length : Int) → zd2 p (at_ m.spots k).set = false := by
  unfold okB at h
  rw [Bool.and_eq_true] at h
  have h2 := h.2
  unfold fitsP at h2
  rw [Bool.and_eq_true] at h2
  refine ⟨h.1, right_iff.1 h.1, h2.1, rightP_of ho h2.1, fun k k0 k1 => ?_⟩
  have h3 : ((setsM m).any (zd2 p)) = false := by simpa using h2.2
  have := spot_set m (i := k.toNat) (by omega)
  rw [Int.toNat_of_nonneg k0] at this
  simpa using List.any_eq_false.1 h3 _ this
theorem build_state {m : Mach} {p : PartM} (ho : okPart p) (h : okB m p = true) (w : ByteArray) : ∀ i, goS (zb9 m (zbd p)) p beginB w (i + 1) ≠ beginB ∧ ∀ k : Int, 0 ≤ k → k < (m.spots.length : Int) → has (goS (zb9 m (zbd p)) p beginB w (i + 1)) k = at_ (runTo m w i) k := by
  obtain ⟨hr, hR, hp, hP, hs⟩ := okB_of ho h
  have hsm := hR.small
  have step : ∀ (s : BSet) (i : Nat), zb9 m (zbd p) s (at_ p.of (byt w ((i : Nat) : Int))) = nextC m (byt w ((i : Nat) : Int)) s := fun s i => by
    have hb := byt_range w ((i : Nat) : Int)
    have c0 : 0 ≤ at_ p.of (byt w ((i : Nat) : Int)) := u8_lo (zcv ho.1 (by omega) (by omega))
    have c1 := hP.of_lt _ hb.1 (by omega : byt w ((i : Nat) : Int) < 256)
    have hl := leastB_at hP c0 c1
    exact next_same hR (fun k k0 k1 => (splits_same hP (hs k k0 k1) hb.1 (by omega) hl.1 hl.2.1 c0 hl.2.2.symm).symm) s
  intro i
  refine ⟨next_ne hR _ _, ?_⟩
  induction i with
  | zero =>
    intro k k0 k1
    show has (zb9 m (zbd p) beginB (at_ p.of (byt w ((0 : Nat) : Int)))) k = _
    rw [step, nextC_has hR _ _ k0 (by omega)]
    unfold runTo intoP
    rw [tab_at k0 k1, Int.toNat_of_nonneg k0]
    unfold markP
    rw [tab_at k0 k1, Int.toNat_of_nonneg k0]
    have : anyTo (fun i => has beginB ((i : Nat) : Int) && decide (k ∈ at_ m.follow ((i : Nat) : Int))) m.spots.length = false := by
      refine Bool.eq_false_iff.2 fun e => ?_
      obtain ⟨i, hi, h2⟩ := (anyTo_iff _ _).1 e
      rw [has_begin (by omega) (by omega)] at h2
      simp only [Bool.and_eq_true, decide_eq_true_eq] at h2
      omega
    rw [this]; simp
  | succ i ih =>
    intro k k0 k1
    have hne := next_ne hR (at_ (zbd p) (at_ p.of (byt w ((i : Nat) : Int)))) (goS (zb9 m (zbd p)) p beginB w i)
    show has (zb9 m (zbd p) (goS (zb9 m (zbd p)) p beginB w (i + 1)) (at_ p.of (byt w ((i + 1 : Nat) : Int)))) k = _
    rw [step, nextC_has hR _ _ k0 (by omega)]
    have hne2 : goS (zb9 m (zbd p)) p beginB w (i + 1) ≠ beginB := hne
    rw [decide_eq_false hne2]
    show _ = at_ (intoP m (zej m (runTo m w i)) (byt w ((i + 1 : Nat) : Int))) k
    unfold intoP
    rw [tab_at k0 k1, Int.toNat_of_nonneg k0]
    unfold zej
    rw [tab_at k0 k1, Int.toNat_of_nonneg k0]
    congr 1
    rw [Bool.false_and, Bool.false_or, Bool.eq_iff_iff, anyTo_iff, anyTo_iff]
    refine exists_congr fun d => and_congr_right fun hd => ?_
    rw [ih _ (by omega) hd]
theorem build_run {m : Mach} {p : PartM} (ho : okPart p) (h : okB m p = true) (w : ByteArray) : runD (zaa m p) w = runM m w := by
  obtain ⟨hr, hR, hp, hP, hs⟩ := okB_of ho h
  unfold zaa
  rw [if_pos h, made_run ho hp (spots_ok hR).1]
  unfold runM
  rw [hr, Bool.true_and]
  by_cases hw : w.size = 0
  · rw [hw, if_pos rfl]
    exact finalB_begin rfl
  · rw [if_neg hw]
    obtain ⟨n, hn⟩ : ∃ n, w.size = n + 1 := ⟨w.size - 1, by omega⟩
    rw [hn, Nat.add_sub_cancel]
    have := build_state ho h w n
    unfold zdh lastB endsIn
    rw [if_neg this.1, hR.last, Bool.eq_iff_iff, anyTo_iff, anyTo_iff]
    refine exists_congr fun d => and_congr_right fun hd => ?_
    rw [this.2 _ (by omega) hd, Bool.and_comm]
theorem build_right {m : Mach} {p : PartM} (ho : okPart p) (h : okB m p = true) : zb7 (zaa m p) = true := by
  obtain ⟨hr, hR, hp, hP, hs⟩ := okB_of ho h
  unfold zaa
  rw [if_pos h]
  exact made_right hp hP (spots_ok hR).1
theorem made_len_eq {S : Type} [DecidableEq S] (p : PartM) (first : S) (next : S → Int → S) (fin : S → Bool) : (madeM p first next fin).next.length = (allM next p.n first).length ∧ (madeM p first next fin).final.length = (allM next p.n first).length := by
  rw [zc8, zc1]; unfold nextTo
  exact ⟨by rw [List.take_length, List.length_map], by rw [List.length_map]⟩
theorem errB_iff {m : Mach} {p : PartM} : errB m p = 0 ↔ okB m p = true := by
  unfold errB
  split
  · simp [*]
  · simp [*]
theorem okb_1 {a b : Dfa} {how : Int} (h : zb7 a = false) : zdv a b how = false := by unfold zdv; rw [h]; rfl
theorem okb_2 {a b : Dfa} {how : Int} (h : zb7 b = false) : zdv a b how = false := by unfold zdv; rw [h]; simp
theorem okb_3 {a b : Dfa} {how : Int} (h : a.part ≠ b.part) : zdv a b how = false := by unfold zdv; rw [decide_eq_false h]; simp
theorem okb_4 {a b : Dfa} {how : Int} (h : how < 1) : zdv a b how = false := by unfold zdv; rw [decide_eq_false (by omega : ¬ 1 ≤ how)]; simp
theorem okb_5 {a b : Dfa} {how : Int} (h : 3 < how) : zdv a b how = false := by unfold zdv; rw [decide_eq_false (by omega : ¬ how ≤ 3)]; simp
theorem okb_y {a b : Dfa} {how : Int} (h1 : zb7 a = true) (h2 : zb7 b = true) (h3 : a.part = b.part) (h4 : 1 ≤ how) (h5 : how ≤ 3) : zdv a b how = true := by
  unfold zdv
  rw [h1, h2, decide_eq_true h3, decide_eq_true h4, decide_eq_true h5]; rfl
theorem zen {a b : Dfa} {how : Int} (h : zdv a b how = false) : (zae a b how).part = ⟨List.replicate 256 0, 0⟩ ∧ (zae a b how).next = [] ∧ (zae a b how).final = [] ∧ errO a b how = 1 := by
  unfold zae errO
  rw [if_neg (by rw [h]; simp), if_neg (by rw [h]; simp)]
  exact ⟨rfl, rfl, rfl, rfl⟩
theorem both_y {a b : Dfa} {how : Int} (h : zdv a b how = true) : (zae a b how).part = a.part ∧ (zae a b how).next = nextTo (zcd a b) a.part.n (allM (zcd a b) a.part.n (0, 0)) (allM (zcd a b) a.part.n ((0, 0) : Int × Int)).length ∧ (zae a b how).final = (allM (zcd a b) a.part.n ((0, 0) : Int × Int)).map (zde a b how) ∧ errO a b how = 0 := by
  unfold zae errO
  rw [if_pos h, if_pos h]
  exact ⟨rfl, rfl, rfl, rfl⟩
theorem errO_iff {a b : Dfa} {how : Int} : errO a b how = 0 ↔ zdv a b how = true := by
  unfold errO
  split
  · simp [*]
  · simp [*]
end Gx
namespace Gx
open Go Go.RowKit
set_option linter.unusedSimpArgs false
set_option linter.unusedSectionVars false
set_option linter.unusedVariables false
inductive Path (m : Mach) (src : List Int) : List Int → Int → Prop
  | one {i c : Int} : i ∈ src → 0 ≤ c → c < 256 → has (at_ m.spots i).set c = true → Path m src [c] i
  | snoc {l : List Int} {j i c : Int} : Path m src l j → i ∈ at_ m.follow j → 0 ≤ c → c < 256 → has (at_ m.spots i).set c = true → Path m src (l ++ [c]) i
theorem Path.some {m : Mach} {src l : List Int} {i : Int} (h : Path m src l i) : 0 < l.length := by cases h <;> simp
theorem Path.inn {m : Mach} (hR : Right m) {src l : List Int} {i : Int} (hs : ∀ x ∈ src, 0 ≤ x ∧ x < (m.spots.length : Int)) (h : Path m src l i) : 0 ≤ i ∧ i < (m.spots.length : Int) := by
  induction h with
  | one h3 => exact hs _ h3
  | snoc h3 h4 h5 h6 h7 ih => exact hR.rows ih.1 ih.2 _ h4
theorem Path.run {m : Mach} (hR : Right m) {l : List Int} {i : Int} (h : Path m m.first l i) : ∀ s : ByteArray, (∀ k : Nat, k < l.length → byt s ((k : Nat) : Int) = at_ l ((k : Nat) : Int)) → at_ (runTo m s (l.length - 1)) i = true := by
  induction h with
  | one h3 h4 h5 h6 =>
    intro s hb
    have hi := hR.firsts _ h3
    have h0 := hb 0 (by simp)
    show at_ (intoP m (markP m.spots.length m.first) (byt s 0)) _ = true
    unfold intoP
    rw [tab_at hi.1 hi.2]
    unfold markP
    rw [tab_at (by omega) (by omega), Int.toNat_natCast, Int.toNat_of_nonneg hi.1, decide_eq_true h3, Bool.true_and]
    have e : byt s 0 = _ := h0
    rw [e]; exact h6
  | snoc h3 h4 h5 h6 h7 ih =>
    rename_i l j i c
    intro s hb
    have hj := Path.inn hR hR.firsts h3
    have hi := hR.rows hj.1 hj.2 _ h4
    have hl := h3.some
    have h8 := ih s fun k hk => by
      rw [hb k (by simp; omega)]
      unfold at_
      rw [List.getD_eq_getElem?_getD, List.getD_eq_getElem?_getD, List.getElem?_append_left (by omega)]
    have h9 := hb l.length (by simp)
    have e1 : at_ (l ++ [c]) ((l.length : Nat) : Int) = c := by unfold at_; simp
    rw [e1] at h9
    rw [show (l ++ [c]).length - 1 = (l.length - 1) + 1 by simp; omega]
    show at_ (intoP m (zej m (runTo m s (l.length - 1))) (byt s ((l.length - 1 + 1 : Nat) : Int))) i = true
    rw [show l.length - 1 + 1 = l.length by omega, h9]
    unfold intoP
    rw [tab_at hi.1 hi.2]
    unfold zej
    rw [tab_at (by omega) (by omega), Int.toNat_natCast, Int.toNat_of_nonneg hi.1, h7, Bool.and_true, anyTo_iff]
    exact ⟨j.toNat, by omega, by rw [Int.toNat_of_nonneg hj.1, h8, decide_eq_true h4]; rfl⟩
def reachF (m : Mach) (src : List Int) (l : List Bool) (i : Nat) : Bool := decide (((i : Nat) : Int) ∈ src) || anyTo (fun j => at_ l ((j : Nat) : Int) && decide (((i : Nat) : Int) ∈ at_ m.follow ((j : Nat) : Int))) m.spots.length
def reachM (m : Mach) (src : List Int) : List Bool := lfp m.spots.length (reachF m src)
structure Way (m : Mach) (src : List Int) (texts : List ByteArray) (seen : List Bool) (todo : List Int) : Prop where
  lenT : (texts.length : Int) = m.spots.length
  lenS : (seen.length : Int) = m.spots.length
  inn : ∀ x ∈ todo, 0 ≤ x ∧ x < (m.spots.length : Int)
  nodup : todo.Nodup
  mem : ∀ x : Int, 0 ≤ x → x < (m.spots.length : Int) → (at_ seen x = true ↔ x ∈ todo)
  sound : ∀ x ∈ todo, at_ (reachM m src) x = true
  text : ∀ k : Int, 0 ≤ k → k < (todo.length : Int) → Path m src (bytesL (at_ texts (at_ todo k))) (at_ todo k) ∧ ((at_ texts (at_ todo k)).size : Int) ≤ k + 1
  first : ∀ x ∈ src, x ∈ todo
  cnt : todo.length ≤ trues m.spots.length seen
theorem way_len {m : Mach} {src : List Int} {texts : List ByteArray} {seen : List Bool} {todo : List Int} (W : Way m src texts seen todo) : (todo.length : Int) ≤ m.spots.length := by
  have := W.cnt
  have := trues_le m.spots.length seen
  omega
theorem way_size {m : Mach} {src : List Int} {texts : List ByteArray} {seen : List Bool} {todo : List Int} (W : Way m src texts seen todo) {k : Int} (h0 : 0 ≤ k) (h1 : k < (todo.length : Int)) : ((at_ texts (at_ todo k)).size : Int) ≤ m.spots.length := by
  have := (W.text k h0 h1).2
  have := way_len W
  omega
end Gx
namespace Gx
open Go Go.RowKit
set_option linter.unusedSimpArgs false
set_option linter.unusedSectionVars false
set_option linter.unusedVariables false
def ltL : List Int → List Int → Bool
  | _, [] => false
  | [], _ :: _ => true
  | a :: x, b :: y => decide (a < b) || (decide (a = b) && ltL x y)
def lessL (x y : List Int) : Bool := decide (x.length < y.length) || (decide (x.length = y.length) && ltL x y)
def leL (x y : List Int) : Prop := x = y ∨ lessL x y = true
end Gx
namespace Gx
open Go Go.RowKit
set_option linter.unusedSimpArgs false
set_option linter.unusedSectionVars false
set_option linter.unusedVariables false
structure StepM where
  st : Int
  fr : Int
  by_ : Int
deriving DecidableEq
instance : Inhabited StepM := ⟨⟨0, 0, 0⟩⟩
end Gx
namespace Go.Proofs.YtfoemogojbnfhaaDoor
open Go Go.RowKit Gx
set_option maxHeartbeats 1000000
set_option linter.unusedVariables false
set_option linter.unusedSimpArgs false
set_option maxRecDepth 8000
attribute [local irreducible] zb6 count first someIn has zbx wbits Lib.ctz zd3 zcu rowOk tab markP intoP zej runTo endsIn runM anyTo allTo lfp zel trues addS zdq setsM badQ zd0 zb7 goD runD notD errD notTo zcd zde howB zdv zae errO zb9 nextC outTo zek rowIn zdh lastB zbd zds zaa errB fitsP madeM allM bfs zdf putB beginB okB
theorem bothF_calls (w : World) (s : (Int × Int)) (o0 : okPair s) (a : Dfa) (o1_0 : okPart a.part) (A1_1 : Option Addr) (c1_1 : Nat) (b1_1 : a.next.length ≤ c1_1 ∧ c1_1 ≤ maxLen) (l1_1 : zbz (Kd.int .i64).slice (hp w) A1_1 a.next) (A1_2 : Option Addr) (c1_2 : Nat) (b1_2 : a.final.length ≤ c1_2 ∧ c1_2 ≤ maxLen) (l1_2 : zbz Kd.bool (hp w) A1_2 a.final) (a1 : Addr) (pc1 : ∀ j v, ((zad a.part) ++ ([.slice A1_1 a.next.length c1_1, .slice A1_2 a.final.length c1_2] : List Value))[j]? = some v → zeg (hp w) (a1.add j) = some v) (b : Dfa) (o2_0 : okPart b.part) (A2_1 : Option Addr) (c2_1 : Nat) (b2_1 : b.next.length ≤ c2_1 ∧ c2_1 ≤ maxLen) (l2_1 : zbz (Kd.int .i64).slice (hp w) A2_1 b.next) (A2_2 : Option Addr) (c2_2 : Nat) (b2_2 : b.final.length ≤ c2_2 ∧ c2_2 ≤ maxLen) (l2_2 : zbz Kd.bool (hp w) A2_2 b.final) (a2 : Addr) (pc2 : ∀ j v, ((zad b.part) ++ ([.slice A2_1 b.next.length c2_1, .slice A2_2 b.final.length c2_2] : List Value))[j]? = some v → zeg (hp w) (a2.add j) = some v) (how : Int) (i3 : inK .u8 how) (a3 : Addr) (pc3 : ∀ j v, [.int .u8 how][j]? = some v → zeg (hp w) (a3.add j) = some v) (pre0 : (0 ≤ s.1 ∧ s.1 < (a.final.length : Int)) ∧ 0 ≤ s.2 ∧ s.2 < (b.final.length : Int)) :
    Calls Tryd.prog 90 #[.agg (zav s).toArray, .pointer (some a1), .pointer (some a2), .pointer (some a3)] w fun e w' => ∃ v, e = .returned v ∧ ∃ (hn : Ghost), St w.heap.size w hn w' [] ∧ v = .bool (zde a b how s) := by
 refine zas Tryd.func90 rfl Tryd.ntmps90 rfl ?_
 have S0 := St.init w
 have palo0 := zbf o0.1; have paho0 := zbg o0.1; have pblo0 := zbf o0.2; have pbho0 := zbg o0.2
 have ploo1_0 := zbf o1_0.2; have phio1_0 := zbg o1_0.2
 have bb1_1 := b1_1.1; have bc1_1 := b1_1.2; simp only [maxLen] at bc1_1
 have bb1_2 := b1_2.1; have bc1_2 := b1_2.2; simp only [maxLen] at bc1_2
 have ploo2_0 := zbf o2_0.2; have phio2_0 := zbg o2_0.2
 have bb2_1 := b2_1.1; have bc2_1 := b2_1.2; simp only [maxLen] at bc2_1
 have bb2_2 := b2_2.1; have bc2_2 := b2_2.2; simp only [maxLen] at bc2_2
 have lo3 := u8_lo i3; have hi3 := u8_hi i3
 have hs_ := pre0
 refine zag <| zah (l := [0, 1]) rfl ?_
 obtain ⟨b1, w1, r1, g1, T1⟩ := zb0 (P := Tryd.prog) S0 130 (v := .agg (zav s).toArray) (zav s) rfl
 have S2 := T1
 dsimp only [lAa, lAn, lA0, lAs] at S2
 refine p_v (v := .pointer (some ⟨b1, 0, none⟩)) rfl rfl rfl (zdi rfl r1) <| p_v (v := .bool false) rfl rfl rfl (zaj rfl) <| zac <| zag ?_
 obtain ⟨ad4, seg4, a4, rp4, ce4⟩ := zbj (q := s.1) (m := 1) l1_2 rfl (by omega) (by omega)
 obtain ⟨rfl, _⟩ := rp4
 obtain ⟨ad6, seg6, a6, rp6, ce6⟩ := zbj (q := s.2) (m := 1) l2_2 rfl (by omega) (by omega)
 obtain ⟨rfl, _⟩ := rp6
 have hf7 : (CFs (a1.add 258) [.slice A1_2 a.final.length c1_2]).1 w1 := (CF.ghost (zdt (o := 258) (m := 1) (ds := [.slice A1_2 a.final.length c1_2]) pc1 (zbc (a := (zad a.part)) (pre := [.slice A1_1 a.next.length c1_1]) (seg := [.slice A1_2 a.final.length c1_2]) (post := []) (zaf o1_0) rfl rfl)) (St.le0 S2))
 have hf8 : (CFs ⟨b1, 0, none⟩ [.int .i64 s.1]).1 w1 := (CF.box (m := 1) (S2.box_at (j := 0) rfl) rfl)
 have hf9 : (CFs ad4 [.bool (at_ a.final s.1)]).1 w1 := (CF.ghost ce4 (St.le0 S2))
 have hf10 : (CFs (a2.add 258) [.slice A2_2 b.final.length c2_2]).1 w1 := (CF.ghost (zdt (o := 258) (m := 1) (ds := [.slice A2_2 b.final.length c2_2]) pc2 (zbc (a := (zad b.part)) (pre := [.slice A2_1 b.next.length c2_1]) (seg := [.slice A2_2 b.final.length c2_2]) (post := []) (zaf o2_0) rfl rfl)) (St.le0 S2))
 have hf11 : (CFs ⟨b1, 1, none⟩ [.int .i64 s.2]).1 w1 := (CF.box (m := 1) (S2.box_at (j := 0) rfl) rfl)
 have hf12 : (CFs ad6 [.bool (at_ b.final s.2)]).1 w1 := (CF.ghost ce6 (St.le0 S2))
 refine daS (hkC 1 hf7 (hkC 3 hf8 (hkC 5 hf9 (hkC 7 hf10 (hkC 9 hf11 (hkC 11 hf12 (hkN (w := w1)))))))) 14 rfl mixed ?_
 intro wd13 gd13 hd13
 have S14 := S2.keep gd13
 have hf15 := spUp gd13 hf7
 have hf16 := spUp gd13 hf8
 have hf17 := spUp gd13 hf9
 have hf18 := spUp gd13 hf10
 have hf19 := spUp gd13 hf11
 have hf20 := spUp gd13 hf12
 refine qd0 (i := 0) (v := .pointer (some (a1.add 258))) rfl (by decide +kernel) rfl rfl (zc5 fd35_2 ty25 rfl rfl) (zan rfl) <| qd1 0 (i := 1) (v := .slice A1_2 a.final.length c1_2) rfl rfl (by decide +kernel) rfl rfl (fun wq hq => (zam (seg := [.slice A1_2 a.final.length c1_2]) ty25 rfl (by simp) rfl hq)) (zbm hf15 (zan rfl)) <| qd0 (i := 2) (v := .pointer (some ⟨b1, 0, none⟩)) rfl (by decide +kernel) rfl rfl (zaq fd130_0 ty3 rfl rfl) (zan rfl) <| qd1 1 (i := 3) (v := .int .i64 s.1) rfl rfl (by decide +kernel) rfl rfl (fun wq hq => (zam (seg := [.int .i64 s.1]) ty3 rfl (by simp) rfl hq)) (za8 rfl (zbm hf16 (zan rfl))) <| qd0 (i := 4) (v := .pointer (some ad4)) rfl (by decide +kernel) rfl rfl (zbi u25 ty4 rfl rfl a4 (by omega) (by omega)) (zan rfl) <| qd1 2 (i := 5) (v := .bool (at_ a.final s.1)) rfl rfl (by decide +kernel) rfl rfl (fun wq hq => (zam (seg := [.bool (at_ a.final s.1)]) ty4 rfl (by simp) rfl hq)) (za8 rfl (za8 rfl (zbm hf17 (zan rfl)))) <| qd0 (i := 6) (v := .pointer (some (a2.add 258))) rfl (by decide +kernel) rfl rfl (zc5 fd35_2 ty25 rfl rfl) (zan rfl) <| qd1 3 (i := 7) (v := .slice A2_2 b.final.length c2_2) rfl rfl (by decide +kernel) rfl rfl (fun wq hq => (zam (seg := [.slice A2_2 b.final.length c2_2]) ty25 rfl (by simp) rfl hq)) (za8 rfl (za8 rfl (za8 rfl (zbm hf18 (zan rfl))))) <| qd0 (i := 8) (v := .pointer (some ⟨b1, 1, none⟩)) rfl (by decide +kernel) rfl rfl (zaq fd130_1 ty3 rfl rfl) (zan rfl) <| qd1 4 (i := 9) (v := .int .i64 s.2) rfl rfl (by decide +kernel) rfl rfl (fun wq hq => (zam (seg := [.int .i64 s.2]) ty3 rfl (by simp) rfl hq)) (za8 rfl (za8 rfl (za8 rfl (za8 rfl (zbm hf19 (zan rfl)))))) <| qd0 (i := 10) (v := .pointer (some ad6)) rfl (by decide +kernel) rfl rfl (zbi u25 ty4 rfl rfl a6 (by omega) (by omega)) (zan rfl) <| qd1 5 (i := 11) (v := .bool (at_ b.final s.2)) rfl rfl (by decide +kernel) rfl rfl (fun wq hq => (zam (seg := [.bool (at_ b.final s.2)]) ty4 rfl (by simp) rfl hq)) (za8 rfl (za8 rfl (za8 rfl (za8 rfl (za8 rfl (zbm hf20 (zan rfl))))))) ?_
 refine qd0 (i := 12) (v := .bool (at_ a.final s.1)) rfl (by decide +kernel) rfl rfl (zaj rfl) (zan rfl) <| qd0 (i := 13) (v := .bool (at_ b.final s.2)) rfl (by decide +kernel) rfl rfl (zaj rfl) (zan rfl) <| zcb (by decide +kernel) ?_
 intro wd21 gd21
 have S22 := S14.keep gd21
 refine zag <| zag <| zah (l := [0]) rfl <| p_v (v := .int .u8 how) rfl rfl rfl (zam (seg := [.int .u8 how]) ty5 rfl (by simp) rfl (CF.ghost pc3 (St.le0 S22))) <| zac <| zay <| zag <| zah (l := [0, 1]) rfl <| p_v (v := .bool (decide (how = 1))) rfl rfl rfl (x_eql rfl rfl) <| p_v (v := .bool (decide (how = 1))) rfl rfl rfl (zaj rfl) <| zac ?_
 refine zau (p := how = 1) rfl (fun hc23 => ?_) (fun hc23 => ?_)
 ·skip
  refine zag <| zah (l := [0, 1, 2, 3, 4]) rfl <| p_v (v := .bool (at_ a.final s.1)) rfl rfl rfl (zai rfl) <| p_v (v := .bool (at_ a.final s.1)) rfl rfl rfl (zai rfl) ?_
  rcases Bool.eq_false_or_eq_true (at_ a.final s.1) with hc24 | hc24
  ·skip
   refine p_v (v := .bool (at_ b.final s.2)) rfl (wo 1 24 rfl rfl (congrArg Value.bool hc24) rfl) rfl (zai rfl) <| p_v (v := .bool (at_ b.final s.2)) rfl rfl rfl (zbs (congrArg Value.bool hc24) rfl) <| p_v (v := .bool (at_ b.final s.2)) rfl rfl rfl (zaj rfl) <| zac <| zax Tryd.func90 (res1 rfl (za4 (v := .bool (at_ b.final s.2)) rfl)) ?_
   have q0 : (zde a b how s : Bool) = at_ b.final s.2 := by
    unfold zde howB; simp [*]
   refine ⟨_, rfl, (fun _ => none), ?_, ?_⟩
   · exact S22.sub [] (by decide) rfl _ rfl
   · first | rfl | (simp only [q0]; rfl) | (simp only [q0])
  refine zby rfl (wo 1 24 rfl rfl (congrArg Value.bool hc24) rfl) rfl <| p_v (v := .bool false) rfl rfl rfl (zck (congrArg Value.bool hc24) rfl) <| p_v (v := .bool false) rfl rfl rfl (zaj rfl) <| zac <| zax Tryd.func90 (res1 rfl (za4 (v := .bool false) rfl)) ?_
  have q0 : (zde a b how s : Bool) = false := by
   unfold zde howB; simp [*]
  refine ⟨_, rfl, (fun _ => none), ?_, ?_⟩
  · exact S22.sub [] (by decide) rfl _ rfl
  · first | rfl | (simp only [q0]; rfl) | (simp only [q0])
 refine zag <| zah (l := [0, 1]) rfl <| p_v (v := .bool (decide (how = 2))) rfl rfl rfl (x_eql rfl rfl) <| p_v (v := .bool (decide (how = 2))) rfl rfl rfl (zaj rfl) <| zac ?_
 refine zau (p := how = 2) rfl (fun hc26 => ?_) (fun hc26 => ?_)
 ·skip
  refine zag <| zah (l := [0, 1, 2, 3, 4]) rfl <| p_v (v := .bool (at_ a.final s.1)) rfl rfl rfl (zai rfl) <| p_v (v := .bool (at_ a.final s.1)) rfl rfl rfl (zai rfl) ?_
  rcases Bool.eq_false_or_eq_true (at_ a.final s.1) with hc27 | hc27
  ·skip
   refine zby rfl (wo 1 30 rfl rfl (congrArg Value.bool hc27) rfl) rfl <| p_v (v := .bool true) rfl rfl rfl (zbs (congrArg Value.bool hc27) rfl) <| p_v (v := .bool true) rfl rfl rfl (zaj rfl) <| zac <| zax Tryd.func90 (res1 rfl (za4 (v := .bool true) rfl)) ?_
   have q0 : (zde a b how s : Bool) = true := by
    unfold zde howB; simp [*]
   refine ⟨_, rfl, (fun _ => none), ?_, ?_⟩
   · exact S22.sub [] (by decide) rfl _ rfl
   · first | rfl | (simp only [q0]; rfl) | (simp only [q0])
  refine p_v (v := .bool (at_ b.final s.2)) rfl (wo 1 30 rfl rfl (congrArg Value.bool hc27) rfl) rfl (zai rfl) <| p_v (v := .bool (at_ b.final s.2)) rfl rfl rfl (zck (congrArg Value.bool hc27) rfl) <| p_v (v := .bool (at_ b.final s.2)) rfl rfl rfl (zaj rfl) <| zac <| zax Tryd.func90 (res1 rfl (za4 (v := .bool (at_ b.final s.2)) rfl)) ?_
  have q0 : (zde a b how s : Bool) = at_ b.final s.2 := by
   unfold zde howB; simp [*]
  refine ⟨_, rfl, (fun _ => none), ?_, ?_⟩
  · exact S22.sub [] (by decide) rfl _ rfl
  · first | rfl | (simp only [q0]; rfl) | (simp only [q0])
 refine za6 <| za3 <| zag <| zah (l := [0, 1, 2, 3]) rfl <| p_v (v := .bool (at_ a.final s.1)) rfl rfl rfl (zai rfl) <| p_v (v := .bool (at_ b.final s.2)) rfl rfl rfl (zai rfl) <| p_v (v := .bool (decide ((at_ a.final s.1) ≠ (at_ b.final s.2)))) rfl rfl rfl (x_neq_bool u4 rfl rfl) <| p_v (v := .bool (decide ((at_ a.final s.1) ≠ (at_ b.final s.2)))) rfl rfl rfl (zaj rfl) <| zac <| zax Tryd.func90 (res1 rfl (za4 (v := .bool (decide ((at_ a.final s.1) ≠ (at_ b.final s.2)))) rfl)) ?_
 have q0 : (zde a b how s : Bool) = decide ((at_ a.final s.1) ≠ (at_ b.final s.2)) := by
  unfold zde howB; simp [*]
 refine ⟨_, rfl, (fun _ => none), ?_, ?_⟩
 · exact S22.sub [] (by decide) rfl _ rfl
 · (simp only [q0])
theorem bothN_calls (w : World) (s : (Int × Int)) (o0 : okPair s) (k : Int) (i1 : inK .i64 k) (a : Dfa) (o2_0 : okPart a.part) (A2_1 : Option Addr) (c2_1 : Nat) (b2_1 : a.next.length ≤ c2_1 ∧ c2_1 ≤ maxLen) (l2_1 : zbz (Kd.int .i64).slice (hp w) A2_1 a.next) (A2_2 : Option Addr) (c2_2 : Nat) (b2_2 : a.final.length ≤ c2_2 ∧ c2_2 ≤ maxLen) (l2_2 : zbz Kd.bool (hp w) A2_2 a.final) (a2 : Addr) (pc2 : ∀ j v, ((zad a.part) ++ ([.slice A2_1 a.next.length c2_1, .slice A2_2 a.final.length c2_2] : List Value))[j]? = some v → zeg (hp w) (a2.add j) = some v) (b : Dfa) (o3_0 : okPart b.part) (A3_1 : Option Addr) (c3_1 : Nat) (b3_1 : b.next.length ≤ c3_1 ∧ c3_1 ≤ maxLen) (l3_1 : zbz (Kd.int .i64).slice (hp w) A3_1 b.next) (A3_2 : Option Addr) (c3_2 : Nat) (b3_2 : b.final.length ≤ c3_2 ∧ c3_2 ≤ maxLen) (l3_2 : zbz Kd.bool (hp w) A3_2 b.final) (a3 : Addr) (pc3 : ∀ j v, ((zad b.part) ++ ([.slice A3_1 b.next.length c3_1, .slice A3_2 b.final.length c3_2] : List Value))[j]? = some v → zeg (hp w) (a3.add j) = some v) (pre0 : ((0 ≤ s.1 ∧ s.1 < (a.next.length : Int)) ∧ 0 ≤ s.2 ∧ s.2 < (b.next.length : Int)) ∧ (0 ≤ k ∧ k < ((at_ a.next s.1).length : Int)) ∧ k < ((at_ b.next s.2).length : Int)) :
    Calls Tryd.prog 92 #[.agg (zav s).toArray, .int .i64 k, .pointer (some a2), .pointer (some a3)] w fun e w' => ∃ v, e = .returned v ∧ ∃ (hn : Ghost), St w.heap.size w hn w' [] ∧ v = .agg (zav (zcd a b s k)).toArray ∧ okPair (zcd a b s k) := by
 refine zas Tryd.func92 rfl Tryd.ntmps92 rfl ?_
 have S0 := St.init w
 have palo0 := zbf o0.1; have paho0 := zbg o0.1; have pblo0 := zbf o0.2; have pbho0 := zbg o0.2
 have lo1 := zbf i1; have hi1 := zbg i1
 have ploo2_0 := zbf o2_0.2; have phio2_0 := zbg o2_0.2
 have bb2_1 := b2_1.1; have bc2_1 := b2_1.2; simp only [maxLen] at bc2_1
 have bb2_2 := b2_2.1; have bc2_2 := b2_2.2; simp only [maxLen] at bc2_2
 have ploo3_0 := zbf o3_0.2; have phio3_0 := zbg o3_0.2
 have bb3_1 := b3_1.1; have bc3_1 := b3_1.2; simp only [maxLen] at bc3_1
 have bb3_2 := b3_2.1; have bc3_2 := b3_2.2; simp only [maxLen] at bc3_2
 have hs_ := pre0
 refine zag <| zah (l := [0, 1]) rfl ?_
 obtain ⟨b1, w1, r1, g1, T1⟩ := zb0 (P := Tryd.prog) S0 130 (v := .agg (zav s).toArray) (zav s) rfl
 have S2 := T1
 dsimp only [lAa, lAn, lA0, lAs] at S2
 refine p_v (v := .pointer (some ⟨b1, 0, none⟩)) rfl rfl rfl (zdi rfl r1) ?_
 obtain ⟨b3, w3, r3, g3, T3⟩ := zb0 (P := Tryd.prog) S2 130 (v := (.agg #[.int .i64 0, .int .i64 0])) (zav ((0, 0) : Int × Int)) rfl
 have S4 := T3
 dsimp only [lAa, lAn, lA0, lAs] at S4
 refine p_v (v := .pointer (some ⟨b3, 0, none⟩)) rfl rfl rfl (zbr ty130 r3) <| zac <| zag ?_
 obtain ⟨ad6, seg6, a6, rp6, ce6⟩ := zbj (q := s.1) (m := 1) l2_1 rfl (by omega) (by omega)
 obtain ⟨A6, c6, rfl, lc6, cm6, ld6⟩ := rp6
 have cn6 := cm6; simp only [maxLen] at cn6
 obtain ⟨ad7, seg7, a7, rp7, ce7⟩ := zbj (q := k) (m := 1) ld6 rfl (by omega) (by omega)
 obtain ⟨rfl, in7⟩ := rp7
 have lo7 := zbf in7; have hi7 := zbg in7
 obtain ⟨ad9, seg9, a9, rp9, ce9⟩ := zbj (q := s.2) (m := 1) l3_1 rfl (by omega) (by omega)
 obtain ⟨A9, c9, rfl, lc9, cm9, ld9⟩ := rp9
 have cn9 := cm9; simp only [maxLen] at cn9
 obtain ⟨ad10, seg10, a10, rp10, ce10⟩ := zbj (q := k) (m := 1) ld9 rfl (by omega) (by omega)
 obtain ⟨rfl, in10⟩ := rp10
 have lo10 := zbf in10; have hi10 := zbg in10
 have hf11 : (CFs (a2.add 257) [.slice A2_1 a.next.length c2_1]).1 w3 := (CF.ghost (zdt (o := 257) (m := 1) (ds := [.slice A2_1 a.next.length c2_1]) pc2 (zbc (a := (zad a.part)) (pre := []) (seg := [.slice A2_1 a.next.length c2_1]) (post := [.slice A2_2 a.final.length c2_2]) (zaf o2_0) rfl rfl)) (St.le0 S4))
 have hf12 : (CFs ⟨b1, 0, none⟩ [.int .i64 s.1]).1 w3 := (CF.box (m := 1) (S4.box_at (j := 0) rfl) rfl)
 have hf13 : (CFs ad6 [.slice A6 (at_ a.next s.1).length c6]).1 w3 := (CF.ghost ce6 (St.le0 S4))
 have hf14 : (CFs ad7 [.int .i64 (at_ (at_ a.next s.1) k)]).1 w3 := (CF.ghost ce7 (St.le0 S4))
 have hf15 : (CFs (a3.add 257) [.slice A3_1 b.next.length c3_1]).1 w3 := (CF.ghost (zdt (o := 257) (m := 1) (ds := [.slice A3_1 b.next.length c3_1]) pc3 (zbc (a := (zad b.part)) (pre := []) (seg := [.slice A3_1 b.next.length c3_1]) (post := [.slice A3_2 b.final.length c3_2]) (zaf o3_0) rfl rfl)) (St.le0 S4))
 have hf16 : (CFs ⟨b1, 1, none⟩ [.int .i64 s.2]).1 w3 := (CF.box (m := 1) (S4.box_at (j := 0) rfl) rfl)
 have hf17 : (CFs ad9 [.slice A9 (at_ b.next s.2).length c9]).1 w3 := (CF.ghost ce9 (St.le0 S4))
 have hf18 : (CFs ad10 [.int .i64 (at_ (at_ b.next s.2) k)]).1 w3 := (CF.ghost ce10 (St.le0 S4))
 refine daS (hkC 1 hf11 (hkC 3 hf12 (hkC 5 hf13 (hkC 8 hf14 (hkC 10 hf15 (hkC 12 hf16 (hkC 14 hf17 (hkC 17 hf18 (hkN (w := w3)))))))))) 20 rfl mixed ?_
 intro wd19 gd19 hd19
 have S20 := S4.keep gd19
 have hf21 := spUp gd19 hf11
 have hf22 := spUp gd19 hf12
 have hf23 := spUp gd19 hf13
 have hf24 := spUp gd19 hf14
 have hf25 := spUp gd19 hf15
 have hf26 := spUp gd19 hf16
 have hf27 := spUp gd19 hf17
 have hf28 := spUp gd19 hf18
 refine qd0 (i := 0) (v := .pointer (some (a2.add 257))) rfl (by decide +kernel) rfl rfl (zc5 zef ty24 rfl rfl) (zan rfl) <| qd1 0 (i := 1) (v := .slice A2_1 a.next.length c2_1) rfl rfl (by decide +kernel) rfl rfl (fun wq hq => (zam (seg := [.slice A2_1 a.next.length c2_1]) ty24 rfl (by simp) rfl hq)) (zbm hf21 (zan rfl)) <| qd0 (i := 2) (v := .pointer (some ⟨b1, 0, none⟩)) rfl (by decide +kernel) rfl rfl (zaq fd130_0 ty3 rfl rfl) (zan rfl) <| qd1 1 (i := 3) (v := .int .i64 s.1) rfl rfl (by decide +kernel) rfl rfl (fun wq hq => (zam (seg := [.int .i64 s.1]) ty3 rfl (by simp) rfl hq)) (za8 rfl (zbm hf22 (zan rfl))) <| qd0 (i := 4) (v := .pointer (some ad6)) rfl (by decide +kernel) rfl rfl (zbi u24 ty23 rfl rfl a6 (by omega) (by omega)) (zan rfl) <| qd1 2 (i := 5) (v := .slice A6 (at_ a.next s.1).length c6) rfl rfl (by decide +kernel) rfl rfl (fun wq hq => (zam (seg := [.slice A6 (at_ a.next s.1).length c6]) ty23 rfl (by simp) rfl hq)) (za8 rfl (za8 rfl (zbm hf23 (zan rfl)))) <| qd0 (i := 6) (v := .int .i64 k) rfl (by decide +kernel) rfl rfl (zai rfl) (zan rfl) <| qd0 (i := 7) (v := .pointer (some ad7)) rfl (by decide +kernel) rfl rfl (zbi u23 ty3 rfl rfl a7 (by omega) (by omega)) (zan rfl) <| qd1 3 (i := 8) (v := .int .i64 (at_ (at_ a.next s.1) k)) rfl rfl (by decide +kernel) rfl rfl (fun wq hq => (zam (seg := [.int .i64 (at_ (at_ a.next s.1) k)]) ty3 rfl (by simp) rfl hq)) (za8 rfl (za8 rfl (za8 rfl (zbm hf24 (zan rfl))))) <| qd0 (i := 9) (v := .pointer (some (a3.add 257))) rfl (by decide +kernel) rfl rfl (zc5 zef ty24 rfl rfl) (zan rfl) <| qd1 4 (i := 10) (v := .slice A3_1 b.next.length c3_1) rfl rfl (by decide +kernel) rfl rfl (fun wq hq => (zam (seg := [.slice A3_1 b.next.length c3_1]) ty24 rfl (by simp) rfl hq)) (za8 rfl (za8 rfl (za8 rfl (za8 rfl (zbm hf25 (zan rfl)))))) <| qd0 (i := 11) (v := .pointer (some ⟨b1, 1, none⟩)) rfl (by decide +kernel) rfl rfl (zaq fd130_1 ty3 rfl rfl) (zan rfl) ?_
 refine qd1 5 (i := 12) (v := .int .i64 s.2) rfl rfl (by decide +kernel) rfl rfl (fun wq hq => (zam (seg := [.int .i64 s.2]) ty3 rfl (by simp) rfl hq)) (za8 rfl (za8 rfl (za8 rfl (za8 rfl (za8 rfl (zbm hf26 (zan rfl))))))) <| qd0 (i := 13) (v := .pointer (some ad9)) rfl (by decide +kernel) rfl rfl (zbi u24 ty23 rfl rfl a9 (by omega) (by omega)) (zan rfl) <| qd1 6 (i := 14) (v := .slice A9 (at_ b.next s.2).length c9) rfl rfl (by decide +kernel) rfl rfl (fun wq hq => (zam (seg := [.slice A9 (at_ b.next s.2).length c9]) ty23 rfl (by simp) rfl hq)) (za8 rfl (za8 rfl (za8 rfl (za8 rfl (za8 rfl (za8 rfl (zbm hf27 (zan rfl)))))))) <| qd0 (i := 15) (v := .int .i64 k) rfl (by decide +kernel) rfl rfl (zai rfl) (zan rfl) <| qd0 (i := 16) (v := .pointer (some ad10)) rfl (by decide +kernel) rfl rfl (zbi u23 ty3 rfl rfl a10 (by omega) (by omega)) (zan rfl) <| qd1 7 (i := 17) (v := .int .i64 (at_ (at_ b.next s.2) k)) rfl rfl (by decide +kernel) rfl rfl (fun wq hq => (zam (seg := [.int .i64 (at_ (at_ b.next s.2) k)]) ty3 rfl (by simp) rfl hq)) (za8 rfl (za8 rfl (za8 rfl (za8 rfl (za8 rfl (za8 rfl (za8 rfl (zbm hf28 (zan rfl))))))))) <| qd0 (i := 18) (v := .agg (zav ((at_ (at_ a.next s.1) k, at_ (at_ b.next s.2) k) : Int × Int)).toArray) rfl (by decide +kernel) rfl rfl (zc4 (pv := [(0, .int .i64 (at_ (at_ a.next s.1) k)), (1, .int .i64 (at_ (at_ b.next s.2) k))]) rfl (za9 pl130 ty130 rfl (cs := (zav ((at_ (at_ a.next s.1) k, at_ (at_ b.next s.2) k) : Int × Int))) rfl)) (zan rfl) <| zbo (i := 19) (by decide +kernel) ?_
 intro wd29 gd29
 have S30 := S20.keep gd29
 have hf31 := spUp gd29 hf21
 have hf32 := spUp gd29 hf22
 have hf33 := spUp gd29 hf23
 have hf34 := spUp gd29 hf24
 have hf35 := spUp gd29 hf25
 have hf36 := spUp gd29 hf26
 have hf37 := spUp gd29 hf27
 have hf38 := spUp gd29 hf28
 obtain ⟨w39, r39, g39, T39⟩ := zcj (P := Tryd.prog) (off := 0) (v := .agg (zav ((at_ (at_ a.next s.1) k, at_ (at_ b.next s.2) k) : Int × Int)).toArray) (vs := (zav ((at_ (at_ a.next s.1) k, at_ (at_ b.next s.2) k) : Int × Int))) S30 ty130 rfl rfl (j := 1) rfl (by first | decide | exact Nat.le_of_ble_eq_true rfl) (encPair_one _)
 have S40 := T39.fx 1 (box b3 130 (zav ((at_ (at_ a.next s.1) k, at_ (at_ b.next s.2) k) : Int × Int))) rfl
 dsimp only [lAa, lAn, lA0, lAs] at S40
 have hf41 : (CFs (a2.add 257) [.slice A2_1 a.next.length c2_1]).1 w39 := (CF.ghost (zdt (o := 257) (m := 1) (ds := [.slice A2_1 a.next.length c2_1]) pc2 (zbc (a := (zad a.part)) (pre := []) (seg := [.slice A2_1 a.next.length c2_1]) (post := [.slice A2_2 a.final.length c2_2]) (zaf o2_0) rfl rfl)) (St.le0 S40))
 have hf42 : (CFs ⟨b1, 0, none⟩ [.int .i64 s.1]).1 w39 := (CF.box (m := 1) (S40.box_at (j := 0) rfl) rfl)
 have hf43 : (CFs ad6 [.slice A6 (at_ a.next s.1).length c6]).1 w39 := (CF.ghost ce6 (St.le0 S40))
 have hf44 : (CFs ad7 [.int .i64 (at_ (at_ a.next s.1) k)]).1 w39 := (CF.ghost ce7 (St.le0 S40))
 have hf45 : (CFs (a3.add 257) [.slice A3_1 b.next.length c3_1]).1 w39 := (CF.ghost (zdt (o := 257) (m := 1) (ds := [.slice A3_1 b.next.length c3_1]) pc3 (zbc (a := (zad b.part)) (pre := []) (seg := [.slice A3_1 b.next.length c3_1]) (post := [.slice A3_2 b.final.length c3_2]) (zaf o3_0) rfl rfl)) (St.le0 S40))
 have hf46 : (CFs ⟨b1, 1, none⟩ [.int .i64 s.2]).1 w39 := (CF.box (m := 1) (S40.box_at (j := 0) rfl) rfl)
 have hf47 : (CFs ad9 [.slice A9 (at_ b.next s.2).length c9]).1 w39 := (CF.ghost ce9 (St.le0 S40))
 have hf48 : (CFs ad10 [.int .i64 (at_ (at_ b.next s.2) k)]).1 w39 := (CF.ghost ce10 (St.le0 S40))
 refine d_s rfl rfl (za2 rfl rfl r39) (.inr (za1 (by decide +kernel) (za1 (by decide +kernel) (za1 (by decide +kernel) (za1 (by decide +kernel) (za1 (by decide +kernel) (za1 (by decide +kernel) (za1 (by decide +kernel) (za1 (by decide +kernel) trivial))))))))) <| zcb (by decide +kernel) ?_
 intro wd49 gd49
 have S50 := S40.keep gd49
 refine zax Tryd.func92 (res1 rfl (zcz S50 ty130 rfl (j := 1) rfl rfl (by simp) rfl)) ?_
 have q0 : (zcd a b s k : (Int × Int)) = ((at_ (at_ a.next s.1) k, at_ (at_ b.next s.2) k) : Int × Int) := by
  unfold zcd; rfl
 refine ⟨_, rfl, (fun _ => none), ?_, ?_, ?_⟩
 · exact S50.sub [] (by decide) rfl _ rfl
 · first | rfl | (simp only [q0]; rfl) | (simp only [q0])
 · rw [q0]; first | assumption | exact ⟨zar (by decide) (by decide), zar (by decide) (by decide)⟩ | exact ⟨zar (by omega) (by omega), zar (by omega) (by omega)⟩
theorem both_calls (w : World) (xa : Dfa) (o0_0 : okPart xa.part) (A0_1 : Option Addr) (c0_1 : Nat) (b0_1 : xa.next.length ≤ c0_1 ∧ c0_1 ≤ maxLen) (l0_1 : zbz (Kd.int .i64).slice (hp w) A0_1 xa.next) (A0_2 : Option Addr) (c0_2 : Nat) (b0_2 : xa.final.length ≤ c0_2 ∧ c0_2 ≤ maxLen) (l0_2 : zbz Kd.bool (hp w) A0_2 xa.final) (xb : Dfa) (o1_0 : okPart xb.part) (A1_1 : Option Addr) (c1_1 : Nat) (b1_1 : xb.next.length ≤ c1_1 ∧ c1_1 ≤ maxLen) (l1_1 : zbz (Kd.int .i64).slice (hp w) A1_1 xb.next) (A1_2 : Option Addr) (c1_2 : Nat) (b1_2 : xb.final.length ≤ c1_2 ∧ c1_2 ≤ maxLen) (l1_2 : zbz Kd.bool (hp w) A1_2 xb.final) (how : Int) (i2 : inK .u8 how) (u : Unit) (pre0 : (xa.next.length : Int) ≤ 1048577 ∧ (xb.next.length : Int) ≤ 1048577) :
    Calls Tryd.prog 28 #[.agg ((zad xa.part) ++ ([.slice A0_1 xa.next.length c0_1, .slice A0_2 xa.final.length c0_2] : List Value)).toArray, .agg ((zad xb.part) ++ ([.slice A1_1 xb.next.length c1_1, .slice A1_2 xb.final.length c1_2] : List Value)).toArray, .int .u8 how, .pointer none] w fun e w' => ∃ v, e = .returned v ∧ ∃ (hn : Ghost) (r0 : Value) (r1 : Value), St w.heap.size w hn w' [row 23 (Kd.int .i64).slice r0 ((zae xa xb how).next), row 4 Kd.bool r1 ((zae xa xb how).final)] ∧ v = .tuple #[.agg ((zad ((zae xa xb how).part)) ++ ([r0, r1] : List Value)).toArray, .int .i64 (errO xa xb how)] ∧ okPart ((zae xa xb how).part) ∧ inK .i64 (errO xa xb how) := by
 refine zas Tryd.func28 rfl Tryd.ntmps28 rfl ?_
 have S0 := St.init w
 have ploo0_0 := zbf o0_0.2; have phio0_0 := zbg o0_0.2
 have bb0_1 := b0_1.1; have bc0_1 := b0_1.2; simp only [maxLen] at bc0_1
 have bb0_2 := b0_2.1; have bc0_2 := b0_2.2; simp only [maxLen] at bc0_2
 have ploo1_0 := zbf o1_0.2; have phio1_0 := zbg o1_0.2
 have bb1_1 := b1_1.1; have bc1_1 := b1_1.2; simp only [maxLen] at bc1_1
 have bb1_2 := b1_2.1; have bc1_2 := b1_2.2; simp only [maxLen] at bc1_2
 have lo2 := u8_lo i2; have hi2 := u8_hi i2
 refine zag <| zah (l := [0, 1, 2, 3, 4]) rfl ?_
 obtain ⟨b1, w1, r1, g1, T1⟩ := zb0 (P := Tryd.prog) S0 35 (v := .agg ((zad xa.part) ++ ([.slice A0_1 xa.next.length c0_1, .slice A0_2 xa.final.length c0_2] : List Value)).toArray) ((zad xa.part) ++ ([.slice A0_1 xa.next.length c0_1, .slice A0_2 xa.final.length c0_2] : List Value)) rfl
 have S2 := T1
 dsimp only [lAa, lAn, lA0, lAs] at S2
 refine p_v (v := .pointer (some ⟨b1, 0, none⟩)) rfl rfl rfl (zdi rfl r1) ?_
 obtain ⟨b3, w3, r3, g3, T3⟩ := zb0 (P := Tryd.prog) S2 35 (v := .agg ((zad xb.part) ++ ([.slice A1_1 xb.next.length c1_1, .slice A1_2 xb.final.length c1_2] : List Value)).toArray) ((zad xb.part) ++ ([.slice A1_1 xb.next.length c1_1, .slice A1_2 xb.final.length c1_2] : List Value)) rfl
 have S4 := T3
 dsimp only [lAa, lAn, lA0, lAs] at S4
 refine p_v (v := .pointer (some ⟨b3, 0, none⟩)) rfl rfl rfl (zdi rfl r3) ?_
 obtain ⟨b5, w5, r5, g5, T5⟩ := zb0 (P := Tryd.prog) S4 5 (v := .int .u8 how) [.int .u8 how] rfl
 have S6 := T5
 dsimp only [lAa, lAn, lA0, lAs] at S6
 refine p_v (v := .pointer (some ⟨b5, 0, none⟩)) rfl rfl rfl (zdi rfl r5) ?_
 obtain ⟨b7, w7, r7, g7, T7⟩ := zb0 (P := Tryd.prog) S6 35 (v := zv35) ((zad zPart) ++ ([.slice none 0 0, .slice none 0 0] : List Value)) (by kernel_rfl)
 have S8 := T7
 dsimp only [lAa, lAn, lA0, lAs] at S8
 refine p_v (v := .pointer (some ⟨b7, 0, none⟩)) rfl rfl rfl (zbr ty35 r7) <| p_v (v := .int .i64 0) rfl rfl rfl (zaj rfl) <| zac <| zag <| zag <| zah (l := [0, 1, 2, 3, 4, 5, 6, 7, 8, 9, 10, 11, 12, 13, 14, 15, 16, 17, 18, 19, 20, 21, 22]) rfl <| p_v (v := .agg ((zad xa.part) ++ ([.slice A0_1 xa.next.length c0_1, .slice A0_2 xa.final.length c0_2] : List Value)).toArray) rfl rfl rfl (zam (seg := ((zad xa.part) ++ ([.slice A0_1 xa.next.length c0_1, .slice A0_2 xa.final.length c0_2] : List Value))) ty35 (zal (zaf o0_0) rfl) (by simp) rfl (CF.box (m := 259) (S8.box_at (j := 0) rfl) (zaw (zal (zaf o0_0) rfl)))) <| p_c rfl rfl rfl (zba (args := [.agg ((zad xa.part) ++ ([.slice A0_1 xa.next.length c0_1, .slice A0_2 xa.final.length c0_2] : List Value)).toArray]) ca48 rfl rfl) (zea w7 xa o0_0 A0_1 c0_1 b0_1 (l0_1.mono (St.le0 S8)) A0_2 c0_2 b0_2 (l0_2.mono (St.le0 S8))) ?_
 rintro _ w9 ⟨h9, T9, rfl⟩
 have S10 := S8.keep (Chg.of_below T9.below)
 refine p_v (v := .bool (!(zb7 xa))) rfl rfl rfl (x_not rfl) <| p_v (v := .bool (!(zb7 xa))) rfl rfl rfl (zai rfl) ?_
 rcases Bool.eq_false_or_eq_true (zb7 xa) with hc11 | hc11
 ·skip
  have hA1_ := hc11; have hA_ := rightD_of o0_0 hc11
  refine p_v (v := .agg ((zad xb.part) ++ ([.slice A1_1 xb.next.length c1_1, .slice A1_2 xb.final.length c1_2] : List Value)).toArray) rfl (wo 3 14 rfl rfl (congrArg (fun z => Value.bool (!z)) hc11) rfl) rfl (zam (seg := ((zad xb.part) ++ ([.slice A1_1 xb.next.length c1_1, .slice A1_2 xb.final.length c1_2] : List Value))) ty35 (zal (zaf o1_0) rfl) (by simp) rfl (CF.box (m := 259) (S10.box_at (j := 1) rfl) (zaw (zal (zaf o1_0) rfl)))) <| p_c rfl (wo 3 14 rfl rfl (congrArg (fun z => Value.bool (!z)) hc11) rfl) rfl (zba (args := [.agg ((zad xb.part) ++ ([.slice A1_1 xb.next.length c1_1, .slice A1_2 xb.final.length c1_2] : List Value)).toArray]) ca48 rfl rfl) (zea w9 xb o1_0 A1_1 c1_1 b1_1 (l1_1.mono (St.le0 S10)) A1_2 c1_2 b1_2 (l1_2.mono (St.le0 S10))) ?_
  rintro _ w12 ⟨h12, T12, rfl⟩
  have S13 := S10.keep (Chg.of_below T12.below)
  refine p_v (v := .bool (!(zb7 xb))) rfl (wo 3 14 rfl rfl (congrArg (fun z => Value.bool (!z)) hc11) rfl) rfl (x_not rfl) <| p_v (v := .bool (!(zb7 xb))) rfl rfl rfl (zck (congrArg (fun z => Value.bool (!z)) hc11) rfl) <| p_v (v := .bool (!(zb7 xb))) rfl rfl rfl (zai rfl) ?_
  rcases Bool.eq_false_or_eq_true (zb7 xb) with hc14 | hc14
  ·skip
   have hB1_ := hc14; have hB_ := rightD_of o1_0 hc14
   refine p_v (v := .pointer (some ⟨b1, 0, none⟩)) rfl (wo 8 19 rfl rfl (congrArg (fun z => Value.bool (!z)) hc14) rfl) rfl (zaq fd35_0 ty32 rfl rfl) <| p_v (v := .agg (zad xa.part).toArray) rfl (wo 8 19 rfl rfl (congrArg (fun z => Value.bool (!z)) hc14) rfl) rfl (zam (seg := ((zad xa.part))) ty32 (zaf o0_0) (by simp) rfl (CF.box (m := 257) (S13.box_at (j := 0) rfl) (seg_mid (pre := []) (seg := ((zad xa.part))) (post := [.slice A0_1 xa.next.length c0_1, .slice A0_2 xa.final.length c0_2]) rfl (zaf o0_0)))) <| p_v (v := .pointer (some ⟨b3, 0, none⟩)) rfl (wo 8 19 rfl rfl (congrArg (fun z => Value.bool (!z)) hc14) rfl) rfl (zaq fd35_0 ty32 rfl rfl) <| p_v (v := .agg (zad xb.part).toArray) rfl (wo 8 19 rfl rfl (congrArg (fun z => Value.bool (!z)) hc14) rfl) rfl (zam (seg := ((zad xb.part))) ty32 (zaf o1_0) (by simp) rfl (CF.box (m := 257) (S13.box_at (j := 1) rfl) (seg_mid (pre := []) (seg := ((zad xb.part))) (post := [.slice A1_1 xb.next.length c1_1, .slice A1_2 xb.final.length c1_2]) rfl (zaf o1_0)))) <| p_v (v := .bool (decide (xa.part ≠ xb.part))) rfl (wo 8 19 rfl rfl (congrArg (fun z => Value.bool (!z)) hc14) rfl) rfl (x_neq_agg eqk32 o0_0 o1_0 q32 rfl rfl) <| p_v (v := .bool (decide (xa.part ≠ xb.part))) rfl rfl rfl (zck (congrArg (fun z => Value.bool (!z)) hc14) rfl) <| p_v (v := .bool (decide (xa.part ≠ xb.part))) rfl rfl rfl (zai rfl) ?_
   by_cases hc15 : xa.part ≠ xb.part
   ·skip
    have hz_ := okb_3 (how := how) hc15
    refine zby rfl (wo 15 26 rfl rfl (bT hc15) rfl) rfl <| zby rfl (wo 15 26 rfl rfl (bT hc15) rfl) rfl <| p_v (v := .bool true) rfl rfl rfl (zbs (bT hc15) rfl) <| p_v (v := .bool true) rfl rfl rfl (zai rfl) <| zby rfl rfl rfl <| zby rfl rfl rfl <| p_v (v := .bool true) rfl rfl rfl (zbs rfl rfl) <| zac <| zcy (b := true) rfl ?_
    simp only [if_true, if_false, Bool.false_eq_true]
    refine zag <| zah (l := [0, 1, 2]) rfl <| p_v (v := .agg ((zad zPart) ++ ([.slice none 0 0, .slice none 0 0] : List Value)).toArray) rfl rfl rfl (zc4 (pv := []) rfl (za9 pl35 ty35 rfl (cs := ((zad zPart) ++ ([.slice none 0 0, .slice none 0 0] : List Value))) (by kernel_rfl))) ?_
    obtain ⟨w16, r16, g16, T16⟩ := za7 (P := Tryd.prog) (v := .agg ((zad zPart) ++ ([.slice none 0 0, .slice none 0 0] : List Value)).toArray) (vs := ((zad zPart) ++ ([.slice none 0 0, .slice none 0 0] : List Value))) (cs := ((zad zPart) ++ ([.slice none 0 0, .slice none 0 0] : List Value))) S13 ty35 rfl (zal (zaf (zao)) rfl) (zal (zaf (zao)) rfl) (j := 3) rfl (zcc (zaz _) (by simp [Value.oneCell']))
    have S17 : St w.heap.size w (fun _ => none) w16 [box b1 35 ((zad xa.part) ++ ([.slice A0_1 xa.next.length c0_1, .slice A0_2 xa.final.length c0_2] : List Value)), box b3 35 ((zad xb.part) ++ ([.slice A1_1 xb.next.length c1_1, .slice A1_2 xb.final.length c1_2] : List Value)), box b5 5 [.int .u8 how], box b7 35 ((zad zPart) ++ ([.slice none 0 0, .slice none 0 0] : List Value))] := T16
    refine p_s rfl rfl (za2 rfl rfl r16) <| p_v (v := .int .i64 1) rfl rfl rfl (zaj rfl) <| zac ?_
    have T18 := S17.row_nil 23 (Kd.int .i64).slice
    have S19 := T18
    dsimp only [lAa, lAn, lA0, lAs] at S19
    have T20 := S19.row_nil 4 Kd.bool
    have S21 := T20
    dsimp only [lAa, lAn, lA0, lAs] at S21
    refine zax Tryd.func28 (res2 rfl (zcz S17 ty35 rfl (j := 3) rfl (zal (zaf (zao)) rfl) (by simp) rfl) (za4 (v := .int .i64 1) rfl)) ?_
    have q0 : ((zae xa xb how).part : PartM) = zPart := by
     exact (zen hz_).1
    have q1 : ((zae xa xb how).next : List (List Int)) = ([] : List (List Int)) := by
     exact (zen hz_).2.1
    have q2 : ((zae xa xb how).final : List Bool) = ([] : List Bool) := by
     exact (zen hz_).2.2.1
    have q3 : (errO xa xb how : Int) = 1 := by
     exact (zen hz_).2.2.2
    refine ⟨_, rfl, (fun _ => none), (.slice none 0 0), (.slice none 0 0), ?_, ?_, ?_, ?_⟩
    · rw [q1]; rw [q2]; exact S21.sub [4, 5] (by decide) rfl _ rfl
    · first | rfl | (simp only [q0, q1, q2, q3]; rfl) | (simp only [q0, q1, q2, q3])
    · rw [q0]; first | assumption | exact zao
    · rw [q3]; exact (zar (by omega) (by omega))
   have hE_ := Decidable.not_not.1 hc15; have hN_ : xa.part.n = xb.part.n := by rw [hE_]
   refine p_v (v := .int .u8 how) rfl (wo 15 26 rfl rfl (bF hc15) rfl) rfl (zam (seg := [.int .u8 how]) ty5 rfl (by simp) rfl (CF.box (m := 1) (S13.box_at (j := 2) rfl) rfl)) <| p_v (v := .bool (decide (how < 1))) rfl (wo 15 26 rfl rfl (bF hc15) rfl) rfl (zd6 rfl rfl) <| p_v (v := .bool (decide (how < 1))) rfl rfl rfl (zck (bF hc15) rfl) <| p_v (v := .bool (decide (how < 1))) rfl rfl rfl (zai rfl) ?_
   by_cases hc22 : how < 1
   ·skip
    have hz_ := okb_4 (a := xa) (b := xb) hc22
    refine zby rfl (wo 19 30 rfl rfl (bT hc22) rfl) rfl <| zby rfl (wo 19 30 rfl rfl (bT hc22) rfl) rfl <| p_v (v := .bool true) rfl rfl rfl (zbs (bT hc22) rfl) <| zac <| zcy (b := true) rfl ?_
    simp only [if_true, if_false, Bool.false_eq_true]
    refine zag <| zah (l := [0, 1, 2]) rfl <| p_v (v := .agg ((zad zPart) ++ ([.slice none 0 0, .slice none 0 0] : List Value)).toArray) rfl rfl rfl (zc4 (pv := []) rfl (za9 pl35 ty35 rfl (cs := ((zad zPart) ++ ([.slice none 0 0, .slice none 0 0] : List Value))) (by kernel_rfl))) ?_
    obtain ⟨w23, r23, g23, T23⟩ := za7 (P := Tryd.prog) (v := .agg ((zad zPart) ++ ([.slice none 0 0, .slice none 0 0] : List Value)).toArray) (vs := ((zad zPart) ++ ([.slice none 0 0, .slice none 0 0] : List Value))) (cs := ((zad zPart) ++ ([.slice none 0 0, .slice none 0 0] : List Value))) S13 ty35 rfl (zal (zaf (zao)) rfl) (zal (zaf (zao)) rfl) (j := 3) rfl (zcc (zaz _) (by simp [Value.oneCell']))
    have S24 : St w.heap.size w (fun _ => none) w23 [box b1 35 ((zad xa.part) ++ ([.slice A0_1 xa.next.length c0_1, .slice A0_2 xa.final.length c0_2] : List Value)), box b3 35 ((zad xb.part) ++ ([.slice A1_1 xb.next.length c1_1, .slice A1_2 xb.final.length c1_2] : List Value)), box b5 5 [.int .u8 how], box b7 35 ((zad zPart) ++ ([.slice none 0 0, .slice none 0 0] : List Value))] := T23
    refine p_s rfl rfl (za2 rfl rfl r23) <| p_v (v := .int .i64 1) rfl rfl rfl (zaj rfl) <| zac ?_
    have T25 := S24.row_nil 23 (Kd.int .i64).slice
    have S26 := T25
    dsimp only [lAa, lAn, lA0, lAs] at S26
    have T27 := S26.row_nil 4 Kd.bool
    have S28 := T27
    dsimp only [lAa, lAn, lA0, lAs] at S28
    refine zax Tryd.func28 (res2 rfl (zcz S24 ty35 rfl (j := 3) rfl (zal (zaf (zao)) rfl) (by simp) rfl) (za4 (v := .int .i64 1) rfl)) ?_
    have q0 : ((zae xa xb how).part : PartM) = zPart := by
     exact (zen hz_).1
    have q1 : ((zae xa xb how).next : List (List Int)) = ([] : List (List Int)) := by
     exact (zen hz_).2.1
    have q2 : ((zae xa xb how).final : List Bool) = ([] : List Bool) := by
     exact (zen hz_).2.2.1
    have q3 : (errO xa xb how : Int) = 1 := by
     exact (zen hz_).2.2.2
    refine ⟨_, rfl, (fun _ => none), (.slice none 0 0), (.slice none 0 0), ?_, ?_, ?_, ?_⟩
    · rw [q1]; rw [q2]; exact S28.sub [4, 5] (by decide) rfl _ rfl
    · first | rfl | (simp only [q0, q1, q2, q3]; rfl) | (simp only [q0, q1, q2, q3])
    · rw [q0]; first | assumption | exact zao
    · rw [q3]; exact (zar (by omega) (by omega))
   refine p_v (v := .int .u8 how) rfl (wo 19 30 rfl rfl (bF hc22) rfl) rfl (zam (seg := [.int .u8 how]) ty5 rfl (by simp) rfl (CF.box (m := 1) (S13.box_at (j := 2) rfl) rfl)) <| p_v (v := .bool (decide (3 < how))) rfl (wo 19 30 rfl rfl (bF hc22) rfl) rfl (x_gtr rfl rfl) <| p_v (v := .bool (decide (3 < how))) rfl rfl rfl (zck (bF hc22) rfl) <| zac ?_
   refine zau (p := 3 < how) rfl (fun hc29 => ?_) (fun hc29 => ?_)
   ·skip
    have hz_ := okb_5 (a := xa) (b := xb) hc29
    refine zag <| zah (l := [0, 1, 2]) rfl <| p_v (v := .agg ((zad zPart) ++ ([.slice none 0 0, .slice none 0 0] : List Value)).toArray) rfl rfl rfl (zc4 (pv := []) rfl (za9 pl35 ty35 rfl (cs := ((zad zPart) ++ ([.slice none 0 0, .slice none 0 0] : List Value))) (by kernel_rfl))) ?_
    obtain ⟨w30, r30, g30, T30⟩ := za7 (P := Tryd.prog) (v := .agg ((zad zPart) ++ ([.slice none 0 0, .slice none 0 0] : List Value)).toArray) (vs := ((zad zPart) ++ ([.slice none 0 0, .slice none 0 0] : List Value))) (cs := ((zad zPart) ++ ([.slice none 0 0, .slice none 0 0] : List Value))) S13 ty35 rfl (zal (zaf (zao)) rfl) (zal (zaf (zao)) rfl) (j := 3) rfl (zcc (zaz _) (by simp [Value.oneCell']))
    have S31 : St w.heap.size w (fun _ => none) w30 [box b1 35 ((zad xa.part) ++ ([.slice A0_1 xa.next.length c0_1, .slice A0_2 xa.final.length c0_2] : List Value)), box b3 35 ((zad xb.part) ++ ([.slice A1_1 xb.next.length c1_1, .slice A1_2 xb.final.length c1_2] : List Value)), box b5 5 [.int .u8 how], box b7 35 ((zad zPart) ++ ([.slice none 0 0, .slice none 0 0] : List Value))] := T30
    refine p_s rfl rfl (za2 rfl rfl r30) <| p_v (v := .int .i64 1) rfl rfl rfl (zaj rfl) <| zac ?_
    have T32 := S31.row_nil 23 (Kd.int .i64).slice
    have S33 := T32
    dsimp only [lAa, lAn, lA0, lAs] at S33
    have T34 := S33.row_nil 4 Kd.bool
    have S35 := T34
    dsimp only [lAa, lAn, lA0, lAs] at S35
    refine zax Tryd.func28 (res2 rfl (zcz S31 ty35 rfl (j := 3) rfl (zal (zaf (zao)) rfl) (by simp) rfl) (za4 (v := .int .i64 1) rfl)) ?_
    have q0 : ((zae xa xb how).part : PartM) = zPart := by
     exact (zen hz_).1
    have q1 : ((zae xa xb how).next : List (List Int)) = ([] : List (List Int)) := by
     exact (zen hz_).2.1
    have q2 : ((zae xa xb how).final : List Bool) = ([] : List Bool) := by
     exact (zen hz_).2.2.1
    have q3 : (errO xa xb how : Int) = 1 := by
     exact (zen hz_).2.2.2
    refine ⟨_, rfl, (fun _ => none), (.slice none 0 0), (.slice none 0 0), ?_, ?_, ?_, ?_⟩
    · rw [q1]; rw [q2]; exact S35.sub [4, 5] (by decide) rfl _ rfl
    · first | rfl | (simp only [q0, q1, q2, q3]; rfl) | (simp only [q0, q1, q2, q3])
    · rw [q0]; first | assumption | exact zao
    · rw [q3]; exact (zar (by omega) (by omega))
   have hy_ := okb_y hA1_ hB1_ hE_ (how := how) (by omega) (by omega)
   refine za6 <| zag <| zah (l := [0, 1]) rfl <| p_v (v := .func (.func 90) #[] #[.pointer (some ⟨b1, 0, none⟩), .pointer (some ⟨b3, 0, none⟩), .pointer (some ⟨b5, 0, none⟩)]) rfl rfl rfl (zed (fv := []) (cv := [.pointer (some ⟨b1, 0, none⟩), .pointer (some ⟨b3, 0, none⟩), .pointer (some ⟨b5, 0, none⟩)]) rfl rfl) <| p_v (v := .func (.func 90) #[] #[.pointer (some ⟨b1, 0, none⟩), .pointer (some ⟨b3, 0, none⟩), .pointer (some ⟨b5, 0, none⟩)]) rfl rfl rfl (zaj rfl) <| zac <| zag <| zah (l := [0, 1, 2, 3, 4, 5, 6, 7, 8]) rfl <| p_v (v := .pointer (some ⟨b1, 0, none⟩)) rfl rfl rfl (zaq fd35_0 ty32 rfl rfl) <| p_v (v := .agg (zad xa.part).toArray) rfl rfl rfl (zam (seg := ((zad xa.part))) ty32 (zaf o0_0) (by simp) rfl (CF.box (m := 257) (S13.box_at (j := 0) rfl) (seg_mid (pre := []) (seg := ((zad xa.part))) (post := [.slice A0_1 xa.next.length c0_1, .slice A0_2 xa.final.length c0_2]) rfl (zaf o0_0)))) <| p_v (v := .pointer none) rfl rfl rfl (zai rfl) <| p_v (v := .agg (zav ((0, 0) : Int × Int)).toArray) rfl rfl rfl (zc4 (pv := []) rfl (za9 pl130 ty130 rfl (cs := (zav ((0, 0) : Int × Int))) rfl)) ?_
   refine p_v (v := .func (.func 92) #[] #[.pointer (some ⟨b1, 0, none⟩), .pointer (some ⟨b3, 0, none⟩)]) rfl rfl rfl (zed (fv := []) (cv := [.pointer (some ⟨b1, 0, none⟩), .pointer (some ⟨b3, 0, none⟩)]) rfl rfl) <| p_v (v := .func (.func 90) #[] #[.pointer (some ⟨b1, 0, none⟩), .pointer (some ⟨b3, 0, none⟩), .pointer (some ⟨b5, 0, none⟩)]) rfl rfl rfl (zai rfl) ?_
   refine p_i rfl rfl rfl (zba (args := [.agg (zad xa.part).toArray, .pointer none, .agg (zav ((0, 0) : Int × Int)).toArray, .func (.func 92) #[] #[.pointer (some ⟨b1, 0, none⟩), .pointer (some ⟨b3, 0, none⟩)], .func (.func 90) #[] #[.pointer (some ⟨b1, 0, none⟩), .pointer (some ⟨b3, 0, none⟩), .pointer (some ⟨b5, 0, none⟩)]]) ca91 rfl rfl) (zas Tryd.func91 rfl Tryd.ntmps91 rfl ?_)
   refine zag <| zah (l := [0, 1, 2]) rfl ?_
   obtain ⟨b36, w36, r36, g36, T36⟩ := zb0 (P := Tryd.prog) S13 32 (v := .agg (zad xa.part).toArray) (zad xa.part) rfl
   have S37 := T36
   dsimp only [lAa, lAn, lA0, lAs] at S37
   refine p_v (v := .pointer (some ⟨b36, 0, none⟩)) rfl rfl rfl (zdi rfl r36) ?_
   obtain ⟨b38, w38, r38, g38, T38⟩ := zb0 (P := Tryd.prog) S37 130 (v := .agg (zav ((0, 0) : Int × Int)).toArray) (zav ((0, 0) : Int × Int)) rfl
   have S39 := T38
   dsimp only [lAa, lAn, lA0, lAs] at S39
   refine p_v (v := .pointer (some ⟨b38, 0, none⟩)) rfl rfl rfl (zdi rfl r38) ?_
   obtain ⟨b40, w40, r40, g40, T40⟩ := zb0 (P := Tryd.prog) S39 35 (v := zv35) ((zad zPart) ++ ([.slice none 0 0, .slice none 0 0] : List Value)) (by kernel_rfl)
   have S41 := T40
   dsimp only [lAa, lAn, lA0, lAs] at S41
   refine p_v (v := .pointer (some ⟨b40, 0, none⟩)) rfl rfl rfl (zbr ty35 r40) <| zac <| zag <| zah (l := [0, 1, 2, 3, 4]) rfl <| p_v (v := .pointer none) rfl rfl rfl (zai rfl) ?_
   obtain ⟨b42, w42, r42, g42, T42⟩ := e_makeMap (P := Tryd.prog) S41 190 (fun x : (Int × Int) => Value.agg (zav x).toArray) (fun x : Int => Value.int .i64 x)
   have S43 := T42
   dsimp only [lAa, lAn, lA0, lAs] at S43
   refine p_v (v := .map (some b42)) rfl rfl rfl (x_makeMap r42) <| p_v (v := .agg #[.pointer none, .map (some b42), .slice none 0 0]) rfl rfl rfl (zc4 (pv := [(0, .pointer none), (1, .map (some b42))]) rfl (za9 pl193 ty193 rfl (cs := [.pointer none, .map (some b42), .slice none 0 0]) rfl)) ?_
   obtain ⟨b44, w44, r44, g44, T44⟩ := zb0 (P := Tryd.prog) S43 193 (v := .agg #[.pointer none, .map (some b42), .slice none 0 0]) [.pointer none, .map (some b42), .slice none 0 0] rfl
   have S45 := T44
   dsimp only [lAa, lAn, lA0, lAs] at S45
   refine p_v (v := .pointer (some ⟨b44, 0, none⟩)) rfl rfl rfl (zdi rfl r44) <| p_v (v := .pointer (some ⟨b44, 0, none⟩)) rfl rfl rfl (zaj rfl) <| zac <| zag <| zah (l := [0, 1, 2]) rfl <| p_v (v := .pointer (some ⟨b44, 0, none⟩)) rfl rfl rfl (zai rfl) <| p_v (v := .agg (zav ((0, 0) : Int × Int)).toArray) rfl rfl rfl (zam (seg := (zav ((0, 0) : Int × Int))) ty130 rfl (by simp) rfl (CF.box (m := 2) (S45.box_at (j := 5) rfl) rfl)) ?_
   refine p_i rfl rfl rfl (zba (args := [.pointer (some ⟨b44, 0, none⟩), .agg (zav ((0, 0) : Int × Int)).toArray]) ca138 rfl rfl) (zas Tryd.func138 rfl Tryd.ntmps138 rfl ?_)
   refine zag <| zah (l := [0, 1]) rfl ?_
   obtain ⟨b46, w46, r46, g46, T46⟩ := zb0 (P := Tryd.prog) S45 130 (v := .agg (zav ((0, 0) : Int × Int)).toArray) (zav ((0, 0) : Int × Int)) rfl
   have S47 := T46
   dsimp only [lAa, lAn, lA0, lAs] at S47
   refine p_v (v := .pointer (some ⟨b46, 0, none⟩)) rfl rfl rfl (zdi rfl r46) <| p_v (v := .int .i64 0) rfl rfl rfl (zaj rfl) <| zac <| zag ?_
   have hf48 : (CFs ⟨b44, 1, none⟩ [.map (some b42)]).1 w46 := (CF.box (m := 1) (S47.box_at (j := 8) rfl) rfl)
   have hf49 : (CFs ⟨b46, 0, none⟩ (zav ((0, 0) : Int × Int))).1 w46 := (CF.box (m := 2) (S47.box_at (j := 9) rfl) rfl)
   have hf50 : (MapHs (fun x : (Int × Int) => Value.agg (zav x).toArray) (fun x : Int => Value.int .i64 x) b42 ([] : List ((Int × Int) × Int))).1 w46 := (S47.map_at (j := 7) rfl)
   refine daS (hkC 3 hf48 (hkC 4 hf49 (hkC 5 hf50 (hkN (w := w46))))) 11 rfl mixed ?_
   intro wd51 gd51 hd51
   have S52 := S47.keep gd51
   have hf53 := spUp gd51 hf48
   have hf54 := spUp gd51 hf49
   have hf55 := spUp gd51 hf50
   refine qd0 (i := 0) (v := .pointer (some ⟨b44, 0, none⟩)) rfl (by decide +kernel) rfl rfl (zai rfl) (zan rfl) <| qd0 (i := 1) (v := .pointer (some ⟨b44, 0, none⟩)) rfl (by decide +kernel) rfl rfl (zbt rfl) (zan rfl) <| qd0 (i := 2) (v := .pointer (some ⟨b44, 1, none⟩)) rfl (by decide +kernel) rfl rfl (zaq fd193_1 ty190 rfl rfl) (zan rfl) <| qd1 0 (i := 3) (v := .map (some b42)) rfl rfl (by decide +kernel) rfl rfl (fun wq hq => (zam (seg := [.map (some b42)]) ty190 rfl (by simp) rfl hq)) (zbm hf53 (zan rfl)) <| qd1 1 (i := 4) (v := .agg (zav ((0, 0) : Int × Int)).toArray) rfl rfl (by decide +kernel) rfl rfl (fun wq hq => (zam (seg := (zav ((0, 0) : Int × Int))) ty130 rfl (by simp) rfl hq)) (za8 rfl (zbm hf54 (zan rfl))) <| qdn (i := 5) (v := .tuple #[.int .i64 ((zbn ((0, 0) : Int × Int) ([] : List ((Int × Int) × Int))).getD 0), .bool ((zbn ((0, 0) : Int × Int) ([] : List ((Int × Int) × Int))).isSome)]) (fun wf => MapH (fun x : (Int × Int) => Value.agg (zav x).toArray) (fun x : Int => Value.int .i64 x) b42 ([] : List ((Int × Int) × Int)) wf) (fun _ ho => ho _ (List.mem_of_getElem? (i := 2) rfl) rfl) rfl (by decide +kernel) rfl rfl (fun wq hq => (x_lookup (a := .map (some b42)) (k := .agg (zav ((0, 0) : Int × Int)).toArray) rfl rfl (e_lookup_h (kvs := ([] : List ((Int × Int) × Int))) key130 hq u190 (zec ty3) 0 ((0, 0) : Int × Int)))) (za8 rfl (za8 rfl (zbm hf55 (zan rfl)))) <| qd0 (i := 6) (v := .tuple #[.int .i64 ((zbn ((0, 0) : Int × Int) ([] : List ((Int × Int) × Int))).getD 0), .bool ((zbn ((0, 0) : Int × Int) ([] : List ((Int × Int) × Int))).isSome)]) rfl (by decide +kernel) rfl rfl (zai rfl) (zan rfl) <| qd0 (i := 7) (v := .int .i64 ((zbn ((0, 0) : Int × Int) ([] : List ((Int × Int) × Int))).getD 0)) rfl (by decide +kernel) rfl rfl (zb1 (vs := [.int .i64 ((zbn ((0, 0) : Int × Int) ([] : List ((Int × Int) × Int))).getD 0), .bool ((zbn ((0, 0) : Int × Int) ([] : List ((Int × Int) × Int))).isSome)]) rfl rfl) (zan rfl) <| qd0 (i := 8) (v := .bool ((zbn ((0, 0) : Int × Int) ([] : List ((Int × Int) × Int))).isSome)) rfl (by decide +kernel) rfl rfl (zb1 (vs := [.int .i64 ((zbn ((0, 0) : Int × Int) ([] : List ((Int × Int) × Int))).getD 0), .bool ((zbn ((0, 0) : Int × Int) ([] : List ((Int × Int) × Int))).isSome)]) rfl rfl) (zan rfl) <| qd0 (i := 9) (v := .int .i64 ((zbn ((0, 0) : Int × Int) ([] : List ((Int × Int) × Int))).getD 0)) rfl (by decide +kernel) rfl rfl (zaj rfl) (zan rfl) <| qd0 (i := 10) (v := .bool ((zbn ((0, 0) : Int × Int) ([] : List ((Int × Int) × Int))).isSome)) rfl (by decide +kernel) rfl rfl (zaj rfl) (zan rfl) <| zcb (by decide +kernel) ?_
   intro wd56 gd56
   have S57 := S52.keep gd56
   refine zag <| zag <| zah (l := [0, 1]) rfl <| p_v (v := .bool ((zbn ((0, 0) : Int × Int) ([] : List ((Int × Int) × Int))).isSome)) rfl rfl rfl (zai rfl) <| p_v (v := .bool (!((zbn ((0, 0) : Int × Int) ([] : List ((Int × Int) × Int))).isSome))) rfl rfl rfl (x_not rfl) <| zac ?_
   have hc58 : ((zbn ((0, 0) : Int × Int) ([] : List ((Int × Int) × Int))).isSome) = false := by
    rfl
   refine zcy (b := true) (congrArg (fun z => Value.bool (!z)) hc58) ?_
   simp only [if_true, if_false, Bool.false_eq_true]
   refine zag <| zah (l := [0, 1, 2, 3, 4]) rfl <| p_v (v := .pointer (some ⟨b44, 0, none⟩)) rfl rfl rfl (zai rfl) <| p_v (v := .pointer (some ⟨b44, 0, none⟩)) rfl rfl rfl (zbt rfl) <| p_v (v := .pointer (some ⟨b44, 0, none⟩)) rfl rfl rfl (zaq fd193_0 ty54 rfl rfl) <| p_v (v := .pointer none) rfl rfl rfl (zam (seg := [.pointer none]) ty54 rfl (by simp) rfl (CF.box (m := 1) (S57.box_at (j := 8) rfl) rfl)) ?_
   refine p_i rfl rfl rfl (zba (args := [.pointer none, .int .i64 1]) ca161 rfl rfl) (zas Tryd.func161 rfl Tryd.ntmps161 rfl ?_)
   refine zag <| zag <| zah (l := [0, 1, 2, 3, 4, 5]) rfl <| p_v (v := .pointer none) rfl rfl rfl (zai rfl) <| p_v (v := .bool true) rfl rfl rfl (x_eql_ptr (p := none) u54 rfl rfl) <| p_v (v := .bool true) rfl rfl rfl (zai rfl) <| zby rfl rfl rfl <| zby rfl rfl rfl <| p_v (v := .bool true) rfl rfl rfl (zbs rfl rfl) <| zac <| zcy (b := true) rfl ?_
   simp only [if_true, if_false, Bool.false_eq_true]
   refine zax Tryd.func161 (res0 rfl) ?_
   refine ⟨_, rfl, ?_⟩
   refine zac <| zag <| zah (l := [0, 1, 2, 3, 4, 5]) rfl <| p_v (v := .pointer (some ⟨b44, 0, none⟩)) rfl rfl rfl (zai rfl) <| p_v (v := .pointer (some ⟨b44, 0, none⟩)) rfl rfl rfl (zbt rfl) <| p_v (v := .pointer (some ⟨b44, 2, none⟩)) rfl rfl rfl (zaq fd193_2 ty191 rfl rfl) <| p_v (v := .slice none 0 0) rfl rfl rfl (zam (seg := [.slice none 0 0]) ty191 rfl (by simp) rfl (CF.box (m := 1) (S57.box_at (j := 8) rfl) rfl)) <| p_v (v := .int .i64 0) rfl rfl rfl (zbe u191 rfl) <| p_v (v := .int .i64 0) rfl rfl rfl (zaj rfl) <| zac <| zag ?_
   have hf59 : (CFs ⟨b44, 1, none⟩ [.map (some b42)]).1 wd56 := (CF.box (m := 1) (S57.box_at (j := 8) rfl) rfl)
   have hf60 : (CFs ⟨b46, 0, none⟩ (zav ((0, 0) : Int × Int))).1 wd56 := (CF.box (m := 2) (S57.box_at (j := 9) rfl) rfl)
   refine daS (hkC 3 hf59 (hkC 4 hf60 (hkN (w := wd56)))) 7 rfl mixed ?_
   intro wd61 gd61 hd61
   have S62 := S57.keep gd61
   have hf63 := spUp gd61 hf59
   have hf64 := spUp gd61 hf60
   refine qd0 (i := 0) (v := .pointer (some ⟨b44, 0, none⟩)) rfl (by decide +kernel) rfl rfl (zai rfl) (zan rfl) <| qd0 (i := 1) (v := .pointer (some ⟨b44, 0, none⟩)) rfl (by decide +kernel) rfl rfl (zbt rfl) (zan rfl) <| qd0 (i := 2) (v := .pointer (some ⟨b44, 1, none⟩)) rfl (by decide +kernel) rfl rfl (zaq fd193_1 ty190 rfl rfl) (zan rfl) <| qd1 0 (i := 3) (v := .map (some b42)) rfl rfl (by decide +kernel) rfl rfl (fun wq hq => (zam (seg := [.map (some b42)]) ty190 rfl (by simp) rfl hq)) (zbm hf63 (zan rfl)) <| qd1 1 (i := 4) (v := .agg (zav ((0, 0) : Int × Int)).toArray) rfl rfl (by decide +kernel) rfl rfl (fun wq hq => (zam (seg := (zav ((0, 0) : Int × Int))) ty130 rfl (by simp) rfl hq)) (za8 rfl (zbm hf64 (zan rfl))) <| qd0 (i := 5) (v := .int .i64 0) rfl (by decide +kernel) rfl rfl (zai rfl) (zan rfl) <| zbo (i := 6) (by decide +kernel) ?_
   intro wd65 gd65
   have S66 := S62.keep gd65
   have hf67 := spUp gd65 hf63
   have hf68 := spUp gd65 hf64
   obtain ⟨w69, r69, g69, T69⟩ := e_mapUpdate key130 S66 (j := 7) rfl u190 ((0, 0) : Int × Int) 0
   have S70 := T69.fx 7 (amap (fun x : (Int × Int) => Value.agg (zav x).toArray) (fun x : Int => Value.int .i64 x) b42 (zeo ((0, 0) : Int × Int) 0 ([] : List ((Int × Int) × Int)))) rfl
   dsimp only [lAa, lAn, lA0, lAs] at S70
   have hf71 : (CFs ⟨b44, 1, none⟩ [.map (some b42)]).1 w69 := (CF.box (m := 1) (S70.box_at (j := 8) rfl) rfl)
   have hf72 : (CFs ⟨b46, 0, none⟩ (zav ((0, 0) : Int × Int))).1 w69 := (CF.box (m := 2) (S70.box_at (j := 9) rfl) rfl)
   refine d_s rfl rfl (x_mapUpdate rfl rfl rfl r69) (.inr (za1 (by decide +kernel) (za1 (by decide +kernel) trivial))) <| zcb (by decide +kernel) ?_
   intro wd73 gd73
   have S74 := S70.keep gd73
   have hf75 : (CFs ⟨b44, 2, none⟩ [.slice none 0 0]).1 wd73 := (CF.box (m := 1) (S74.box_at (j := 8) rfl) rfl)
   have hf76 : (CFs ⟨b46, 0, none⟩ (zav ((0, 0) : Int × Int))).1 wd73 := (CF.box (m := 2) (S74.box_at (j := 9) rfl) rfl)
   refine daS (hkC 4 hf75 (hkC 5 hf76 (hkN (w := wd73)))) 11 rfl mixed ?_
   intro wd77 gd77 hd77
   have S78 := S74.keep gd77
   have hf79 := spUp gd77 hf75
   have hf80 := spUp gd77 hf76
   refine qd0 (i := 0) (v := .pointer (some ⟨b44, 0, none⟩)) rfl (by decide +kernel) rfl rfl (zai rfl) (zan rfl) <| qd0 (i := 1) (v := .pointer (some ⟨b44, 0, none⟩)) rfl (by decide +kernel) rfl rfl (zai rfl) (zan rfl) <| qd0 (i := 2) (v := .pointer (some ⟨b44, 0, none⟩)) rfl (by decide +kernel) rfl rfl (zbt rfl) (zan rfl) <| qd0 (i := 3) (v := .pointer (some ⟨b44, 2, none⟩)) rfl (by decide +kernel) rfl rfl (zaq fd193_2 ty191 rfl rfl) (zan rfl) <| qd1 0 (i := 4) (v := .slice none 0 0) rfl rfl (by decide +kernel) rfl rfl (fun wq hq => (zam (seg := [.slice none 0 0]) ty191 rfl (by simp) rfl hq)) (zbm hf79 (zan rfl)) <| qd1 1 (i := 5) (v := .agg (zav ((0, 0) : Int × Int)).toArray) rfl rfl (by decide +kernel) rfl rfl (fun wq hq => (zam (seg := (zav ((0, 0) : Int × Int))) ty130 rfl (by simp) rfl hq)) (za8 rfl (zbm hf80 (zan rfl))) <| zbo (i := 6) (by decide +kernel) ?_
   intro wd81 gd81
   have S82 := S78.keep gd81
   have hf83 := spUp gd81 hf79
   have hf84 := spUp gd81 hf80
   obtain ⟨v85, w85, r85, g85, T85⟩ := zd1 (kd := kPair) (xs := ([((0, 0) : Int × Int)] : List (Int × Int))) (len := 1) (m := 2) [(.agg (zav ((0, 0) : Int × Int)).toArray, (zav ((0, 0) : Int × Int)))] S82 u191 ty130 rfl rfl rfl rfl (zdk rfl rfl segs_nil) (cs := (zav ((0, 0) : Int × Int))) (zbp.single (k := kPair) (h := (fun _ => none)) (x := ((0, 0) : Int × Int)) (cs := (zav ((0, 0) : Int × Int))) ⟨rfl, (⟨zar (by decide) (by decide), zar (by decide) (by decide)⟩)⟩) (by simp)
   have S86 := T85
   dsimp only [lAa, lAn, lA0, lAs] at S86
   have hf87 := spUp g85 hf83
   have hf88 := spUp g85 hf84
   refine d_v (v := v85) rfl rfl rfl (zat (pv := [(0, .agg (zav ((0, 0) : Int × Int)).toArray)]) rfl r85) (.inl g85) <| zbo (i := 7) (by decide +kernel) ?_
   intro wd89 gd89
   have S90 := S86.keep gd89
   have hf91 := spUp gd89 hf87
   have hf92 := spUp gd89 hf88
   have T93 := S90.row_nil 130 kPair
   have S94 := T93
   dsimp only [lAa, lAn, lA0, lAs] at S94
   obtain ⟨A95, c95, ev95, lc95, cm95⟩ := S94.row_val (j := 10) rfl
   obtain ⟨v96, w96, r96, g96, T96⟩ := zcs (kd := kPair) (A := A95) (c := c95) (ys := ([((0, 0) : Int × Int)] : List (Int × Int))) (len := ([((0, 0) : Int × Int)] : List (Int × Int)).length) 191 S94 u191 ty130 rfl rfl (j := 11) rfl rfl (zc7 S94 (j := 10) rfl ev95) (by first|omega|(simp;omega)|assumption|simp) (by first|omega|(simp;omega)|assumption|simp)
   have S97 := T96.fx 11 (row 130 kPair v96 (([] : List (Int × Int)) ++ ([((0, 0) : Int × Int)] : List (Int × Int)))) rfl
   dsimp only [lAa, lAn, lA0, lAs] at S97
   have hf98 : (CFs ⟨b44, 2, none⟩ [.slice none 0 0]).1 w96 := (CF.box (m := 1) (S97.box_at (j := 8) rfl) rfl)
   have hf99 : (CFs ⟨b46, 0, none⟩ (zav ((0, 0) : Int × Int))).1 w96 := (CF.box (m := 2) (S97.box_at (j := 9) rfl) rfl)
   refine d_v (v := v96) rfl rfl rfl (zcr rfl ev95 r96) (.inr (za1 (by decide +kernel) (zbu hf99 trivial))) <| qd0 (i := 8) (v := .pointer (some ⟨b44, 0, none⟩)) rfl (by decide +kernel) rfl rfl (zbt rfl) (zan rfl) <| qd0 (i := 9) (v := .pointer (some ⟨b44, 2, none⟩)) rfl (by decide +kernel) rfl rfl (zaq fd193_2 ty191 rfl rfl) (zan rfl) <| zbo (i := 10) (by decide +kernel) ?_
   intro wd100 gd100
   have S101 := S97.keep gd100
   have hf102 := spUp gd100 hf98
   have hf103 := spUp gd100 hf99
   have oc105 := zcp S101 (j := 11) rfl
   obtain ⟨w104, r104, g104, T104⟩ := zcj (P := Tryd.prog) (off := 2) (v := v96) (vs := [v96]) S101 ty191 (zcn S101 (j := 11) rfl) rfl (j := 8) rfl (by first | decide | exact Nat.le_of_ble_eq_true rfl) (zb8 oc105 zdc)
   have S106 := T104.fx 8 (box b44 193 [.pointer none, .map (some b42), v96]) rfl
   dsimp only [lAa, lAn, lA0, lAs] at S106
   have hf107 : (CFs ⟨b46, 0, none⟩ (zav ((0, 0) : Int × Int))).1 w104 := (CF.box (m := 2) (S106.box_at (j := 9) rfl) rfl)
   refine d_s rfl rfl (za2 rfl rfl r104) (.inr (za1 (by decide +kernel) (za1 (by decide +kernel) trivial))) <| zcb (by decide +kernel) ?_
   intro wd108 gd108
   have S109 := S106.keep gd108
   refine zag <| zah (l := [0, 1]) rfl <| p_v (v := .int .i64 0) rfl rfl rfl (zai rfl) <| p_v (v := .int .i64 0) rfl rfl rfl (zaj rfl) <| zac <| zax Tryd.func138 (res1 rfl (za4 (v := .int .i64 0) rfl)) ?_
   refine ⟨_, rfl, ?_⟩
   refine zac <| zag <| zah (l := [0, 1, 2, 3]) rfl <| p_v (v := .agg (zad xa.part).toArray) rfl rfl rfl (zam (seg := (zad xa.part)) ty32 (zaf o0_0) (by simp) rfl (CF.box (m := 257) (S109.box_at (j := 4) rfl) (by rw [List.drop_zero, List.take_of_length_le (by rw [zaf o0_0]; exact Nat.le_refl _)]))) <| p_v (v := .agg ((zad xa.part) ++ ([.slice none 0 0, .slice none 0 0] : List Value)).toArray) rfl rfl rfl (zc4 (pv := [(0, .agg (zad xa.part).toArray)]) rfl (za9 pl35 ty35 rfl (cs := ((zad xa.part) ++ ([.slice none 0 0, .slice none 0 0] : List Value))) (fill_mid (vc := (zad xa.part)) (pre := []) (seg := (zad zPart)) (post := [.slice none 0 0, .slice none 0 0]) rfl rfl (zaf o0_0) (by kernel_rfl) rfl (zaf (zao)) rfl))) ?_
   obtain ⟨b110, w110, r110, g110, T110⟩ := zb0 (P := Tryd.prog) S109 35 (v := zv35) ((zad zPart) ++ ([.slice none 0 0, .slice none 0 0] : List Value)) (by kernel_rfl)
   have S111 := T110
   dsimp only [lAa, lAn, lA0, lAs] at S111
   refine p_v (v := .pointer (some ⟨b110, 0, none⟩)) rfl rfl rfl (zbr ty35 r110) ?_
   obtain ⟨w112, r112, g112, T112⟩ := za7 (P := Tryd.prog) (v := .agg ((zad xa.part) ++ ([.slice none 0 0, .slice none 0 0] : List Value)).toArray) (vs := ((zad xa.part) ++ ([.slice none 0 0, .slice none 0 0] : List Value))) (cs := ((zad zPart) ++ ([.slice none 0 0, .slice none 0 0] : List Value))) S111 ty35 rfl (zal (zaf o0_0) rfl) (zal (zaf (zao)) rfl) (j := 12) rfl (zcc (zaz _) (by simp [Value.oneCell']))
   have S113 := T112.fx 12 (box b110 35 ((zad xa.part) ++ ([.slice none 0 0, .slice none 0 0] : List Value))) rfl
   dsimp only [lAa, lAn, lA0, lAs] at S113
   refine p_s rfl rfl (za2 rfl rfl r112) <| zac <| zag <| zag <| zah (l := [0]) rfl <| p_v (v := .int .i64 0) rfl rfl rfl (zaj rfl) <| zac <| zay ?_
   have T114 := S113.row_nil 23 (Kd.int .i64).slice
   obtain ⟨vn114, ev114, T114⟩ : ∃ v, v = (.slice none 0 0 : Value) ∧ St w.heap.size w (fun _ => none) w112 [box b1 35 ((zad xa.part) ++ ([.slice A0_1 xa.next.length c0_1, .slice A0_2 xa.final.length c0_2] : List Value)), box b3 35 ((zad xb.part) ++ ([.slice A1_1 xb.next.length c1_1, .slice A1_2 xb.final.length c1_2] : List Value)), box b5 5 [.int .u8 how], box b7 35 ((zad zPart) ++ ([.slice none 0 0, .slice none 0 0] : List Value)), box b36 32 (zad xa.part), box b38 130 (zav ((0, 0) : Int × Int)), box b40 35 ((zad zPart) ++ ([.slice none 0 0, .slice none 0 0] : List Value)), amap (fun x : (Int × Int) => Value.agg (zav x).toArray) (fun x : Int => Value.int .i64 x) b42 (zeo ((0, 0) : Int × Int) 0 ([] : List ((Int × Int) × Int))), box b44 193 [.pointer none, .map (some b42), v96], box b46 130 (zav ((0, 0) : Int × Int)), row 130 kPair v85 ([((0, 0) : Int × Int)] : List (Int × Int)), row 130 kPair v96 (([] : List (Int × Int)) ++ ([((0, 0) : Int × Int)] : List (Int × Int))), box b110 35 ((zad xa.part) ++ ([v, .slice none 0 0] : List Value)), row 23 (Kd.int .i64).slice v ([] : List (List Int))] := ⟨_, rfl, T114⟩
   have S115 : St w.heap.size w (fun _ => none) w112 [box b1 35 ((zad xa.part) ++ ([.slice A0_1 xa.next.length c0_1, .slice A0_2 xa.final.length c0_2] : List Value)), box b3 35 ((zad xb.part) ++ ([.slice A1_1 xb.next.length c1_1, .slice A1_2 xb.final.length c1_2] : List Value)), box b5 5 [.int .u8 how], box b7 35 ((zad zPart) ++ ([.slice none 0 0, .slice none 0 0] : List Value)), box b36 32 (zad xa.part), box b38 130 (zav ((0, 0) : Int × Int)), box b40 35 ((zad zPart) ++ ([.slice none 0 0, .slice none 0 0] : List Value)), amap (fun x : (Int × Int) => Value.agg (zav x).toArray) (fun x : Int => Value.int .i64 x) b42 (zeo ((0, 0) : Int × Int) 0 ([] : List ((Int × Int) × Int))), box b44 193 [.pointer none, .map (some b42), v96], box b46 130 (zav ((0, 0) : Int × Int)), row 130 kPair v85 ([((0, 0) : Int × Int)] : List (Int × Int)), row 130 kPair v96 (([] : List (Int × Int)) ++ ([((0, 0) : Int × Int)] : List (Int × Int))), box b110 35 ((zad xa.part) ++ ([vn114, .slice none 0 0] : List Value)), row 23 (Kd.int .i64).slice vn114 ([] : List (List Int))] := T114
   have T116 := S115.row_nil 4 Kd.bool
   obtain ⟨vn116, ev116, T116⟩ : ∃ v, v = (.slice none 0 0 : Value) ∧ St w.heap.size w (fun _ => none) w112 [box b1 35 ((zad xa.part) ++ ([.slice A0_1 xa.next.length c0_1, .slice A0_2 xa.final.length c0_2] : List Value)), box b3 35 ((zad xb.part) ++ ([.slice A1_1 xb.next.length c1_1, .slice A1_2 xb.final.length c1_2] : List Value)), box b5 5 [.int .u8 how], box b7 35 ((zad zPart) ++ ([.slice none 0 0, .slice none 0 0] : List Value)), box b36 32 (zad xa.part), box b38 130 (zav ((0, 0) : Int × Int)), box b40 35 ((zad zPart) ++ ([.slice none 0 0, .slice none 0 0] : List Value)), amap (fun x : (Int × Int) => Value.agg (zav x).toArray) (fun x : Int => Value.int .i64 x) b42 (zeo ((0, 0) : Int × Int) 0 ([] : List ((Int × Int) × Int))), box b44 193 [.pointer none, .map (some b42), v96], box b46 130 (zav ((0, 0) : Int × Int)), row 130 kPair v85 ([((0, 0) : Int × Int)] : List (Int × Int)), row 130 kPair v96 (([] : List (Int × Int)) ++ ([((0, 0) : Int × Int)] : List (Int × Int))), box b110 35 ((zad xa.part) ++ ([vn114, v] : List Value)), row 23 (Kd.int .i64).slice vn114 ([] : List (List Int)), row 4 Kd.bool v ([] : List Bool)] := ⟨_, rfl, T116⟩
   have S117 : St w.heap.size w (fun _ => none) w112 [box b1 35 ((zad xa.part) ++ ([.slice A0_1 xa.next.length c0_1, .slice A0_2 xa.final.length c0_2] : List Value)), box b3 35 ((zad xb.part) ++ ([.slice A1_1 xb.next.length c1_1, .slice A1_2 xb.final.length c1_2] : List Value)), box b5 5 [.int .u8 how], box b7 35 ((zad zPart) ++ ([.slice none 0 0, .slice none 0 0] : List Value)), box b36 32 (zad xa.part), box b38 130 (zav ((0, 0) : Int × Int)), box b40 35 ((zad zPart) ++ ([.slice none 0 0, .slice none 0 0] : List Value)), amap (fun x : (Int × Int) => Value.agg (zav x).toArray) (fun x : Int => Value.int .i64 x) b42 (zeo ((0, 0) : Int × Int) 0 ([] : List ((Int × Int) × Int))), box b44 193 [.pointer none, .map (some b42), v96], box b46 130 (zav ((0, 0) : Int × Int)), row 130 kPair v85 ([((0, 0) : Int × Int)] : List (Int × Int)), row 130 kPair v96 (([] : List (Int × Int)) ++ ([((0, 0) : Int × Int)] : List (Int × Int))), box b110 35 ((zad xa.part) ++ ([vn114, vn116] : List Value)), row 23 (Kd.int .i64).slice vn114 ([] : List (List Int)), row 4 Kd.bool vn116 ([] : List Bool)] := T116
   refine zce (S := (List (Int × Int)) × (List (List Int)) × (List Bool) × (List ((Int × Int) × Int)) × Int) (fun (q_ : (List (Int × Int)) × (List (List Int)) × (List Bool) × (List ((Int × Int) × Int)) × Int) ρ w' => match q_ with | (m_2, d_1, d_2, b, i) => ∃ (h : Ghost) (v_m_2 : Value) (v_d_1 : Value) (v_d_2 : Value), Le (fun _ => none) h ∧ St w.heap.size w h w' [box b1 35 ((zad xa.part) ++ ([.slice A0_1 xa.next.length c0_1, .slice A0_2 xa.final.length c0_2] : List Value)), box b3 35 ((zad xb.part) ++ ([.slice A1_1 xb.next.length c1_1, .slice A1_2 xb.final.length c1_2] : List Value)), box b5 5 [.int .u8 how], box b7 35 ((zad zPart) ++ ([.slice none 0 0, .slice none 0 0] : List Value)), box b36 32 (zad xa.part), box b38 130 (zav ((0, 0) : Int × Int)), box b40 35 ((zad zPart) ++ ([.slice none 0 0, .slice none 0 0] : List Value)), amap (fun x : (Int × Int) => Value.agg (zav x).toArray) (fun x : Int => Value.int .i64 x) b42 b, box b44 193 [.pointer none, .map (some b42), v_m_2], box b46 130 (zav ((0, 0) : Int × Int)), row 130 kPair v85 ([((0, 0) : Int × Int)] : List (Int × Int)), row 130 kPair v_m_2 m_2, box b110 35 ((zad xa.part) ++ ([v_d_1, v_d_2] : List Value)), row 23 (Kd.int .i64).slice v_d_1 d_1, row 4 Kd.bool v_d_2 d_2] ∧ ρ 3 = .func (.func 92) #[] #[.pointer (some ⟨b1, 0, none⟩), .pointer (some ⟨b3, 0, none⟩)] ∧ ρ 4 = .func (.func 90) #[] #[.pointer (some ⟨b1, 0, none⟩), .pointer (some ⟨b3, 0, none⟩), .pointer (some ⟨b5, 0, none⟩)] ∧ ρ 5 = .pointer (some ⟨b36, 0, none⟩) ∧ ρ 10 = .pointer (some ⟨b40, 0, none⟩) ∧ ρ 11 = .pointer (some ⟨b44, 0, none⟩) ∧ ρ 12 = .pointer (some ⟨b110, 0, none⟩) ∧ ρ 13 = .int .i64 i ∧ inK .i64 i ∧ (MadeI (zcd xa xb) xa.part.n ((0, 0) : Int × Int) (zde xa xb how) m_2 b d_1 d_2 i)) (fun q_ => match q_ with | (m_2, d_1, d_2, b, i) => (1099513724931 - i).toNat) (([] : List (Int × Int)) ++ ([((0, 0) : Int × Int)] : List (Int × Int)), ([] : List (List Int)), ([] : List Bool), zeo ((0, 0) : Int × Int) 0 ([] : List ((Int × Int) × Int)), 0) ⟨(fun _ => none), v96, vn114, vn116, Le.refl _, S117.sub [0, 1, 2, 3, 4, 5, 6, 7, 8, 9, 10, 11, 12, 13, 14] (by decide) rfl _ rfl, rfl, rfl, rfl, rfl, rfl, rfl, rfl, (zar (by omega) (by omega)), (by exact made_0)⟩ ?_
   rintro ⟨m_2, d_1, d_2, b, i⟩ ih118 ρ118 w118 ⟨h118, v_m_2, v_d_1, v_d_2, le118, S118, r118_3, r118_4, r118_5, r118_10, r118_11, r118_12, r118_13, f118_0, hI118⟩
   have lf118_0 := zbf f118_0; have hf118_0 := zbg f118_0
   have rl118_10 := S118.row_le (j := 10) rfl; simp only [maxLen] at rl118_10
   have rl118_11 := S118.row_le (j := 11) rfl; simp only [maxLen] at rl118_11
   have rl118_13 := S118.row_le (j := 13) rfl; simp only [maxLen] at rl118_13
   have rl118_14 := S118.row_le (j := 14) rfl; simp only [maxLen] at rl118_14
   have hi0_ := hI118.lo; have hi1_ := hI118.hi; have hb0_ := pairs_bound hA_ hB_ hN_ pre0.1 pre0.2 hI118; have hn0_ := (made_len hI118).1; have hf0_ := (made_len hI118).2; have hpn_ := hA_.part.lo; have hpm_ := hA_.part.hi
   have hin_ : i < (m_2.length : Int) → InP xa xb (at_ m_2 i) := fun h => pairs_in hA_ hB_ hN_ hI118 (at_mem hI118.lo h)
   have hpf_ : i < (m_2.length : Int) → (0 ≤ (at_ m_2 i).1 ∧ (at_ m_2 i).1 < (xa.final.length : Int)) ∧ 0 ≤ (at_ m_2 i).2 ∧ (at_ m_2 i).2 < (xb.final.length : Int) := fun h => by rw [hA_.final, hB_.final]; exact hin_ h
   refine zag <| zag <| zah (l := [0, 1, 2, 3, 4, 5, 6]) rfl <| p_v (v := .int .i64 i) rfl rfl rfl (zai r118_13) <| p_v (v := .pointer (some ⟨b44, 0, none⟩)) rfl rfl rfl (zai r118_11) <| p_v (v := .pointer (some ⟨b44, 0, none⟩)) rfl rfl rfl (zbt rfl) <| p_v (v := .pointer (some ⟨b44, 2, none⟩)) rfl rfl rfl (zaq fd193_2 ty191 rfl rfl) <| p_v (v := v_m_2) rfl rfl rfl (zam (seg := [v_m_2]) ty191 rfl (by simp) rfl (CF.box (m := 1) (S118.box_at (j := 8) rfl) rfl)) ?_
   have lb119 := S118.row_le (j := 11) rfl; simp only [maxLen] at lb119
   refine p_v (v := .int .i64 (m_2.length : Int)) rfl rfl rfl (x_len_own u191 rfl (e_len_own S118 (j := 11) rfl)) <| p_v (v := .bool (decide (i < (m_2.length : Int)))) rfl rfl rfl (zd6 rfl rfl) <| zac ?_
   refine zau (p := i < (m_2.length : Int)) rfl (fun hc120 => ?_) (fun hc120 => ?_)
   ·skip
    refine za6 <| zag <| zay <| zag <| zah (l := [0, 1, 2, 3, 4, 5, 6, 7, 8]) rfl <| p_v (v := .pointer (some ⟨b44, 0, none⟩)) rfl rfl rfl (zai r118_11) <| p_v (v := .pointer (some ⟨b44, 0, none⟩)) rfl rfl rfl (zbt rfl) <| p_v (v := .pointer (some ⟨b44, 2, none⟩)) rfl rfl rfl (zaq fd193_2 ty191 rfl rfl) <| p_v (v := v_m_2) rfl rfl rfl (zam (seg := [v_m_2]) ty191 rfl (by simp) rfl (CF.box (m := 1) (S118.box_at (j := 8) rfl) rfl)) <| p_v (v := .int .i64 i) rfl rfl rfl (zai r118_13) ?_
    obtain ⟨ad121, a121, at121⟩ := e_index_own (q := i) (m := 2) S118 (j := 11) rfl rfl (by omega) (by omega)
    refine p_v (v := .pointer (some ad121)) rfl rfl rfl (x_index_own u191 ty130 rfl rfl a121 (by omega) (by omega)) ?_
    obtain ⟨seg122, rp122, cf122⟩ := e_load_own (q := i) S118 (j := 11) rfl rfl at121 (by omega) (by omega)
    obtain ⟨rfl, ok122⟩ := rp122
    have palok122 := zbf ok122.1; have pahok122 := zbg ok122.1; have pblok122 := zbf ok122.2; have pbhok122 := zbg ok122.2
    refine p_v (v := .agg (zav (at_ m_2 i)).toArray) rfl rfl rfl (zam (seg := (zav (at_ m_2 i))) ty130 rfl (by simp) rfl cf122) ?_
    obtain ⟨b123, w123, r123, g123, T123⟩ := zb0 (P := Tryd.prog) S118 130 (v := (.agg #[.int .i64 0, .int .i64 0])) (zav ((0, 0) : Int × Int)) rfl
    have S124 := T123
    dsimp only [lAa, lAn, lA0, lAs] at S124
    refine p_v (v := .pointer (some ⟨b123, 0, none⟩)) rfl rfl rfl (zbr ty130 r123) ?_
    obtain ⟨w125, r125, g125, T125⟩ := zcj (P := Tryd.prog) (off := 0) (v := .agg (zav (at_ m_2 i)).toArray) (vs := (zav (at_ m_2 i))) S124 ty130 rfl rfl (j := 15) rfl (by first | decide | exact Nat.le_of_ble_eq_true rfl) (encPair_one _)
    have S126 := T125.fx 15 (box b123 130 (zav (at_ m_2 i))) rfl
    dsimp only [lAa, lAn, lA0, lAs] at S126
    refine p_s rfl rfl (za2 rfl rfl r125) <| zac <| zag <| zah (l := [0]) rfl <| p_v (v := .slice none 0 0) rfl rfl rfl (zaj rfl) <| zac <| zag <| zag <| zah (l := [0, 1, 2]) rfl <| p_v (v := .pointer (some ⟨b36, 256, none⟩)) rfl rfl rfl (zaq fd32_1 ty3 rfl r118_5) ?_
    have in127 := (o0_0).2
    have lo127 := zbf in127; have hi127 := zbg in127
    refine p_v (v := .int .i64 xa.part.n) rfl rfl rfl (zam (seg := [.int .i64 xa.part.n]) ty3 rfl (by simp) rfl (CF.box (m := 1) (S126.box_at (j := 4) rfl) (encPart_n o0_0))) <| p_v (v := .int .i64 0) rfl rfl rfl (zai rfl) <| zac <| zay ?_
    have T128 := S126.row_nil 3 (Kd.int .i64)
    obtain ⟨vn128, ev128, T128⟩ : ∃ v, v = (.slice none 0 0 : Value) ∧ St w.heap.size w h118 w125 ([box b1 35 ((zad xa.part) ++ ([.slice A0_1 xa.next.length c0_1, .slice A0_2 xa.final.length c0_2] : List Value)), box b3 35 ((zad xb.part) ++ ([.slice A1_1 xb.next.length c1_1, .slice A1_2 xb.final.length c1_2] : List Value)), box b5 5 [.int .u8 how], box b7 35 ((zad zPart) ++ ([.slice none 0 0, .slice none 0 0] : List Value)), box b36 32 (zad xa.part), box b38 130 (zav ((0, 0) : Int × Int)), box b40 35 ((zad zPart) ++ ([.slice none 0 0, .slice none 0 0] : List Value)), amap (fun x : (Int × Int) => Value.agg (zav x).toArray) (fun x : Int => Value.int .i64 x) b42 b, box b44 193 [.pointer none, .map (some b42), v_m_2], box b46 130 (zav ((0, 0) : Int × Int)), row 130 kPair v85 ([((0, 0) : Int × Int)] : List (Int × Int)), row 130 kPair v_m_2 m_2, box b110 35 ((zad xa.part) ++ ([v_d_1, v_d_2] : List Value)), row 23 (Kd.int .i64).slice v_d_1 d_1, row 4 Kd.bool v_d_2 d_2, box b123 130 (zav (at_ m_2 i))] ++ [row 3 (Kd.int .i64) v []]) := ⟨_, rfl, T128⟩
    have S129 := T128
    dsimp only [lAa, lAn, lA0, lAs] at S129
    refine zce (S := (List (Int × Int)) × (List Int) × (List ((Int × Int) × Int)) × Int) (fun (q_ : (List (Int × Int)) × (List Int) × (List ((Int × Int) × Int)) × Int) ρ w' => match q_ with | (m_22, l, b2, t44) => ∃ (h : Ghost) (v_m_22 : Value) (v_l : Value), Le h118 h ∧ St w.heap.size w h w' [box b1 35 ((zad xa.part) ++ ([.slice A0_1 xa.next.length c0_1, .slice A0_2 xa.final.length c0_2] : List Value)), box b3 35 ((zad xb.part) ++ ([.slice A1_1 xb.next.length c1_1, .slice A1_2 xb.final.length c1_2] : List Value)), box b5 5 [.int .u8 how], box b7 35 ((zad zPart) ++ ([.slice none 0 0, .slice none 0 0] : List Value)), box b36 32 (zad xa.part), box b38 130 (zav ((0, 0) : Int × Int)), box b40 35 ((zad zPart) ++ ([.slice none 0 0, .slice none 0 0] : List Value)), amap (fun x : (Int × Int) => Value.agg (zav x).toArray) (fun x : Int => Value.int .i64 x) b42 b2, box b44 193 [.pointer none, .map (some b42), v_m_22], box b46 130 (zav ((0, 0) : Int × Int)), row 130 kPair v85 ([((0, 0) : Int × Int)] : List (Int × Int)), row 130 kPair v_m_22 m_22, box b110 35 ((zad xa.part) ++ ([v_d_1, v_d_2] : List Value)), row 23 (Kd.int .i64).slice v_d_1 d_1, row 4 Kd.bool v_d_2 d_2, box b123 130 (zav (at_ m_2 i)), row 3 (Kd.int .i64) v_l l] ∧ ρ 3 = .func (.func 92) #[] #[.pointer (some ⟨b1, 0, none⟩), .pointer (some ⟨b3, 0, none⟩)] ∧ ρ 4 = .func (.func 90) #[] #[.pointer (some ⟨b1, 0, none⟩), .pointer (some ⟨b3, 0, none⟩), .pointer (some ⟨b5, 0, none⟩)] ∧ ρ 5 = .pointer (some ⟨b36, 0, none⟩) ∧ ρ 10 = .pointer (some ⟨b40, 0, none⟩) ∧ ρ 11 = .pointer (some ⟨b44, 0, none⟩) ∧ ρ 12 = .pointer (some ⟨b110, 0, none⟩) ∧ ρ 13 = .int .i64 i ∧ ρ 14 = .pointer (some ⟨b123, 0, none⟩) ∧ ρ 15 = v_l ∧ ρ 43 = .int .i64 xa.part.n ∧ ρ 44 = .int .i64 t44 ∧ inK .i64 t44 ∧ (0 ≤ t44 ∧ t44 ≤ xa.part.n ∧ MadeK (zcd xa xb) (at_ m_2 i) m_2 m_22 b2 l t44)) (fun q_ => match q_ with | (m_22, l, b2, t44) => (xa.part.n - t44).toNat) (m_2, ([] : List Int), b, 0) ⟨h118, v_m_2, vn128, Le.refl _, S129.sub [0, 1, 2, 3, 4, 5, 6, 7, 8, 9, 10, 11, 12, 13, 14, 15, 16] (by decide) rfl _ rfl, r118_3, r118_4, r118_5, r118_10, r118_11, r118_12, r118_13, rfl, (ev128.symm), rfl, rfl, (zar (by omega) (by omega)), (by exact ⟨by omega, by omega, made_k0 hI118⟩)⟩ ?_
    rintro ⟨m_22, l, b2, t44⟩ ih130 ρ130 w130 ⟨h130, v_m_22, v_l, le130, S130, r130_3, r130_4, r130_5, r130_10, r130_11, r130_12, r130_13, r130_14, r130_15, r130_43, r130_44, f130_0, hI130⟩
    have lf130_0 := zbf f130_0; have hf130_0 := zbg f130_0
    have rl130_10 := S130.row_le (j := 10) rfl; simp only [maxLen] at rl130_10
    have rl130_11 := S130.row_le (j := 11) rfl; simp only [maxLen] at rl130_11
    have rl130_13 := S130.row_le (j := 13) rfl; simp only [maxLen] at rl130_13
    have rl130_14 := S130.row_le (j := 14) rfl; simp only [maxLen] at rl130_14
    have rl130_16 := S130.row_le (j := 16) rfl; simp only [maxLen] at rl130_16
    have hk0_ := hI130.1; have hk1_ := hI130.2.1; have hb1_ := pairs_bound2 hA_ hB_ hN_ pre0.1 pre0.2 hI118 (at_mem hI118.lo (by omega)) hI130.2.2 hI130.2.1; have hl1_ := madeK_len hI130.2.2; have hv_ := made_val hI130.2.2 (zcd xa xb (at_ m_2 i) t44)
    have hpk_ : t44 < xa.part.n → ((0 ≤ (at_ m_2 i).1 ∧ (at_ m_2 i).1 < (xa.next.length : Int)) ∧ 0 ≤ (at_ m_2 i).2 ∧ (at_ m_2 i).2 < (xb.next.length : Int)) ∧ (0 ≤ t44 ∧ t44 < ((at_ xa.next (at_ m_2 i).1).length : Int)) ∧ t44 < ((at_ xb.next (at_ m_2 i).2).length : Int) := fun h => ⟨hin_ (by omega), ⟨hk0_, by rw [hA_.row _ (hin_ (by omega)).1.1 (hin_ (by omega)).1.2]; exact h⟩, by rw [hB_.row _ (hin_ (by omega)).2.1 (hin_ (by omega)).2.2, ← hN_]; exact h⟩
    refine zag <| zah (l := [0]) rfl <| p_v (v := .bool (decide (t44 < xa.part.n))) rfl rfl rfl (zd6 r130_44 r130_43) <| zac <| zag ?_
    refine zau (p := t44 < xa.part.n) rfl (fun hc131 => ?_) (fun hc131 => ?_)
    ·skip
     refine za6 <| zag <| zay <| zag <| zah (l := [0, 1]) rfl <| p_v (v := .int .i64 t44) rfl rfl rfl (zai r130_44) <| p_v (v := .int .i64 t44) rfl rfl rfl (zaj rfl) <| zac <| zah (l := [0, 1, 2, 3, 4, 5, 6, 7, 8, 9]) rfl <| p_v (v := v_l) rfl rfl rfl (zai r130_15) <| p_v (v := .pointer (some ⟨b44, 0, none⟩)) rfl rfl rfl (zai r130_11) <| p_v (v := .func (.func 92) #[] #[.pointer (some ⟨b1, 0, none⟩), .pointer (some ⟨b3, 0, none⟩)]) rfl rfl rfl (zai r130_3) ?_
     refine p_v (v := .agg (zav (at_ m_2 i)).toArray) rfl rfl rfl (zam (seg := (zav (at_ m_2 i))) ty130 rfl (by simp) r130_14 (CF.box (m := 2) (S130.box_at (j := 15) rfl) rfl)) <| p_v (v := .int .i64 t44) rfl rfl rfl (zai rfl) <| p_c rfl rfl rfl (zba (args := [.agg (zav (at_ m_2 i)).toArray, .int .i64 t44, .pointer (some ⟨b1, 0, none⟩), .pointer (some ⟨b3, 0, none⟩)]) ca92 rfl rfl) (bothN_calls w130 (at_ m_2 i) ok122 t44 f130_0 xa o0_0 A0_1 c0_1 b0_1 (l0_1.mono (St.le0 S130)) A0_2 c0_2 b0_2 (l0_2.mono (St.le0 S130)) ⟨b1, 0, none⟩ (zco (S130.box_at (j := 0) rfl)) xb o1_0 A1_1 c1_1 b1_1 (l1_1.mono (St.le0 S130)) A1_2 c1_2 b1_2 (l1_2.mono (St.le0 S130)) ⟨b3, 0, none⟩ (zco (S130.box_at (j := 1) rfl)) (by first | assumption | exact hpk_ (by omega))) ?_
     rintro _ w132 ⟨h132, T132, rfl, ok132_0⟩
     have S133 := S130.keep (Chg.of_below T132.below)
     refine p_i rfl rfl rfl (zba (args := [.pointer (some ⟨b44, 0, none⟩), .agg (zav (zcd xa xb (at_ m_2 i) t44)).toArray]) ca138 rfl rfl) (zas Tryd.func138 rfl Tryd.ntmps138 rfl ?_)
     refine zag <| zah (l := [0, 1]) rfl ?_
     obtain ⟨b134, w134, r134, g134, T134⟩ := zb0 (P := Tryd.prog) S133 130 (v := .agg (zav (zcd xa xb (at_ m_2 i) t44)).toArray) (zav (zcd xa xb (at_ m_2 i) t44)) rfl
     have S135 := T134
     dsimp only [lAa, lAn, lA0, lAs] at S135
     refine p_v (v := .pointer (some ⟨b134, 0, none⟩)) rfl rfl rfl (zdi rfl r134) <| p_v (v := .int .i64 0) rfl rfl rfl (zaj rfl) <| zac <| zag ?_
     have hf136 : (CFs ⟨b44, 1, none⟩ [.map (some b42)]).1 w134 := (CF.box (m := 1) (S135.box_at (j := 8) rfl) rfl)
     have hf137 : (CFs ⟨b134, 0, none⟩ (zav (zcd xa xb (at_ m_2 i) t44))).1 w134 := (CF.box (m := 2) (S135.box_at (j := 17) rfl) rfl)
     have hf138 : (MapHs (fun x : (Int × Int) => Value.agg (zav x).toArray) (fun x : Int => Value.int .i64 x) b42 b2).1 w134 := (S135.map_at (j := 7) rfl)
     refine daS (hkC 3 hf136 (hkC 4 hf137 (hkC 5 hf138 (hkN (w := w134))))) 11 rfl mixed ?_
     intro wd139 gd139 hd139
     have S140 := S135.keep gd139
     have hf141 := spUp gd139 hf136
     have hf142 := spUp gd139 hf137
     have hf143 := spUp gd139 hf138
     refine qd0 (i := 0) (v := .pointer (some ⟨b44, 0, none⟩)) rfl (by decide +kernel) rfl rfl (zai rfl) (zan rfl) <| qd0 (i := 1) (v := .pointer (some ⟨b44, 0, none⟩)) rfl (by decide +kernel) rfl rfl (zbt rfl) (zan rfl) <| qd0 (i := 2) (v := .pointer (some ⟨b44, 1, none⟩)) rfl (by decide +kernel) rfl rfl (zaq fd193_1 ty190 rfl rfl) (zan rfl) <| qd1 0 (i := 3) (v := .map (some b42)) rfl rfl (by decide +kernel) rfl rfl (fun wq hq => (zam (seg := [.map (some b42)]) ty190 rfl (by simp) rfl hq)) (zbm hf141 (zan rfl)) <| qd1 1 (i := 4) (v := .agg (zav (zcd xa xb (at_ m_2 i) t44)).toArray) rfl rfl (by decide +kernel) rfl rfl (fun wq hq => (zam (seg := (zav (zcd xa xb (at_ m_2 i) t44))) ty130 rfl (by simp) rfl hq)) (za8 rfl (zbm hf142 (zan rfl))) <| qdn (i := 5) (v := .tuple #[.int .i64 ((zbn (zcd xa xb (at_ m_2 i) t44) b2).getD 0), .bool ((zbn (zcd xa xb (at_ m_2 i) t44) b2).isSome)]) (fun wf => MapH (fun x : (Int × Int) => Value.agg (zav x).toArray) (fun x : Int => Value.int .i64 x) b42 b2 wf) (fun _ ho => ho _ (List.mem_of_getElem? (i := 2) rfl) rfl) rfl (by decide +kernel) rfl rfl (fun wq hq => (x_lookup (a := .map (some b42)) (k := .agg (zav (zcd xa xb (at_ m_2 i) t44)).toArray) rfl rfl (e_lookup_h (kvs := b2) key130 hq u190 (zec ty3) 0 (zcd xa xb (at_ m_2 i) t44)))) (za8 rfl (za8 rfl (zbm hf143 (zan rfl)))) <| qd0 (i := 6) (v := .tuple #[.int .i64 ((zbn (zcd xa xb (at_ m_2 i) t44) b2).getD 0), .bool ((zbn (zcd xa xb (at_ m_2 i) t44) b2).isSome)]) rfl (by decide +kernel) rfl rfl (zai rfl) (zan rfl) <| qd0 (i := 7) (v := .int .i64 ((zbn (zcd xa xb (at_ m_2 i) t44) b2).getD 0)) rfl (by decide +kernel) rfl rfl (zb1 (vs := [.int .i64 ((zbn (zcd xa xb (at_ m_2 i) t44) b2).getD 0), .bool ((zbn (zcd xa xb (at_ m_2 i) t44) b2).isSome)]) rfl rfl) (zan rfl) <| qd0 (i := 8) (v := .bool ((zbn (zcd xa xb (at_ m_2 i) t44) b2).isSome)) rfl (by decide +kernel) rfl rfl (zb1 (vs := [.int .i64 ((zbn (zcd xa xb (at_ m_2 i) t44) b2).getD 0), .bool ((zbn (zcd xa xb (at_ m_2 i) t44) b2).isSome)]) rfl rfl) (zan rfl) <| qd0 (i := 9) (v := .int .i64 ((zbn (zcd xa xb (at_ m_2 i) t44) b2).getD 0)) rfl (by decide +kernel) rfl rfl (zaj rfl) (zan rfl) <| qd0 (i := 10) (v := .bool ((zbn (zcd xa xb (at_ m_2 i) t44) b2).isSome)) rfl (by decide +kernel) rfl rfl (zaj rfl) (zan rfl) <| zcb (by decide +kernel) ?_
     intro wd144 gd144
     have S145 := S140.keep gd144
     refine zag <| zag <| zah (l := [0, 1]) rfl <| p_v (v := .bool ((zbn (zcd xa xb (at_ m_2 i) t44) b2).isSome)) rfl rfl rfl (zai rfl) <| p_v (v := .bool (!((zbn (zcd xa xb (at_ m_2 i) t44) b2).isSome))) rfl rfl rfl (x_not rfl) <| zac ?_
     refine zct (b := (zbn (zcd xa xb (at_ m_2 i) t44) b2).isSome) rfl (fun hc146 => ?_) (fun hc146 => ?_)
     ·skip
      refine zag <| zah (l := [0, 1, 2, 3, 4]) rfl <| p_v (v := .pointer (some ⟨b44, 0, none⟩)) rfl rfl rfl (zai rfl) <| p_v (v := .pointer (some ⟨b44, 0, none⟩)) rfl rfl rfl (zbt rfl) <| p_v (v := .pointer (some ⟨b44, 0, none⟩)) rfl rfl rfl (zaq fd193_0 ty54 rfl rfl) <| p_v (v := .pointer none) rfl rfl rfl (zam (seg := [.pointer none]) ty54 rfl (by simp) rfl (CF.box (m := 1) (S145.box_at (j := 8) rfl) rfl)) ?_
      refine p_i rfl rfl rfl (zba (args := [.pointer none, .int .i64 1]) ca161 rfl rfl) (zas Tryd.func161 rfl Tryd.ntmps161 rfl ?_)
      refine zag <| zag <| zah (l := [0, 1, 2, 3, 4, 5]) rfl <| p_v (v := .pointer none) rfl rfl rfl (zai rfl) <| p_v (v := .bool true) rfl rfl rfl (x_eql_ptr (p := none) u54 rfl rfl) <| p_v (v := .bool true) rfl rfl rfl (zai rfl) <| zby rfl rfl rfl <| zby rfl rfl rfl <| p_v (v := .bool true) rfl rfl rfl (zbs rfl rfl) <| zac <| zcy (b := true) rfl ?_
      simp only [if_true, if_false, Bool.false_eq_true]
      refine zax Tryd.func161 (res0 rfl) ?_
      refine ⟨_, rfl, ?_⟩
      refine zac <| zag <| zah (l := [0, 1, 2, 3, 4, 5]) rfl <| p_v (v := .pointer (some ⟨b44, 0, none⟩)) rfl rfl rfl (zai rfl) <| p_v (v := .pointer (some ⟨b44, 0, none⟩)) rfl rfl rfl (zbt rfl) <| p_v (v := .pointer (some ⟨b44, 2, none⟩)) rfl rfl rfl (zaq fd193_2 ty191 rfl rfl) <| p_v (v := v_m_22) rfl rfl rfl (zam (seg := [v_m_22]) ty191 rfl (by simp) rfl (CF.box (m := 1) (S145.box_at (j := 8) rfl) rfl)) ?_
      have lb147 := S145.row_le (j := 11) rfl; simp only [maxLen] at lb147
      refine p_v (v := .int .i64 (m_22.length : Int)) rfl rfl rfl (x_len_own u191 rfl (e_len_own S145 (j := 11) rfl)) <| p_v (v := .int .i64 (m_22.length : Int)) rfl rfl rfl (zaj rfl) <| zac <| zag ?_
      have hf148 : (CFs ⟨b44, 1, none⟩ [.map (some b42)]).1 wd144 := (CF.box (m := 1) (S145.box_at (j := 8) rfl) rfl)
      have hf149 : (CFs ⟨b134, 0, none⟩ (zav (zcd xa xb (at_ m_2 i) t44))).1 wd144 := (CF.box (m := 2) (S145.box_at (j := 17) rfl) rfl)
      refine daS (hkC 3 hf148 (hkC 4 hf149 (hkN (w := wd144)))) 7 rfl mixed ?_
      intro wd150 gd150 hd150
      have S151 := S145.keep gd150
      have hf152 := spUp gd150 hf148
      have hf153 := spUp gd150 hf149
      refine qd0 (i := 0) (v := .pointer (some ⟨b44, 0, none⟩)) rfl (by decide +kernel) rfl rfl (zai rfl) (zan rfl) <| qd0 (i := 1) (v := .pointer (some ⟨b44, 0, none⟩)) rfl (by decide +kernel) rfl rfl (zbt rfl) (zan rfl) <| qd0 (i := 2) (v := .pointer (some ⟨b44, 1, none⟩)) rfl (by decide +kernel) rfl rfl (zaq fd193_1 ty190 rfl rfl) (zan rfl) <| qd1 0 (i := 3) (v := .map (some b42)) rfl rfl (by decide +kernel) rfl rfl (fun wq hq => (zam (seg := [.map (some b42)]) ty190 rfl (by simp) rfl hq)) (zbm hf152 (zan rfl)) <| qd1 1 (i := 4) (v := .agg (zav (zcd xa xb (at_ m_2 i) t44)).toArray) rfl rfl (by decide +kernel) rfl rfl (fun wq hq => (zam (seg := (zav (zcd xa xb (at_ m_2 i) t44))) ty130 rfl (by simp) rfl hq)) (za8 rfl (zbm hf153 (zan rfl))) <| qd0 (i := 5) (v := .int .i64 (m_22.length : Int)) rfl (by decide +kernel) rfl rfl (zai rfl) (zan rfl) <| zbo (i := 6) (by decide +kernel) ?_
      intro wd154 gd154
      have S155 := S151.keep gd154
      have hf156 := spUp gd154 hf152
      have hf157 := spUp gd154 hf153
      obtain ⟨w158, r158, g158, T158⟩ := e_mapUpdate key130 S155 (j := 7) rfl u190 (zcd xa xb (at_ m_2 i) t44) (m_22.length : Int)
      have S159 := T158.fx 7 (amap (fun x : (Int × Int) => Value.agg (zav x).toArray) (fun x : Int => Value.int .i64 x) b42 (zeo (zcd xa xb (at_ m_2 i) t44) (m_22.length : Int) b2)) rfl
      dsimp only [lAa, lAn, lA0, lAs] at S159
      have hf160 : (CFs ⟨b44, 1, none⟩ [.map (some b42)]).1 w158 := (CF.box (m := 1) (S159.box_at (j := 8) rfl) rfl)
      have hf161 : (CFs ⟨b134, 0, none⟩ (zav (zcd xa xb (at_ m_2 i) t44))).1 w158 := (CF.box (m := 2) (S159.box_at (j := 17) rfl) rfl)
      refine d_s rfl rfl (x_mapUpdate rfl rfl rfl r158) (.inr (za1 (by decide +kernel) (za1 (by decide +kernel) trivial))) <| zcb (by decide +kernel) ?_
      intro wd162 gd162
      have S163 := S159.keep gd162
      have hf164 : (CFs ⟨b44, 2, none⟩ [v_m_22]).1 wd162 := (CF.box (m := 1) (S163.box_at (j := 8) rfl) rfl)
      have hf165 : (CFs ⟨b134, 0, none⟩ (zav (zcd xa xb (at_ m_2 i) t44))).1 wd162 := (CF.box (m := 2) (S163.box_at (j := 17) rfl) rfl)
      refine daS (hkC 4 hf164 (hkC 5 hf165 (hkN (w := wd162)))) 11 rfl mixed ?_
      intro wd166 gd166 hd166
      have S167 := S163.keep gd166
      have hf168 := spUp gd166 hf164
      have hf169 := spUp gd166 hf165
      refine qd0 (i := 0) (v := .pointer (some ⟨b44, 0, none⟩)) rfl (by decide +kernel) rfl rfl (zai rfl) (zan rfl) <| qd0 (i := 1) (v := .pointer (some ⟨b44, 0, none⟩)) rfl (by decide +kernel) rfl rfl (zai rfl) (zan rfl) <| qd0 (i := 2) (v := .pointer (some ⟨b44, 0, none⟩)) rfl (by decide +kernel) rfl rfl (zbt rfl) (zan rfl) <| qd0 (i := 3) (v := .pointer (some ⟨b44, 2, none⟩)) rfl (by decide +kernel) rfl rfl (zaq fd193_2 ty191 rfl rfl) (zan rfl) <| qd1 0 (i := 4) (v := v_m_22) rfl rfl (by decide +kernel) rfl rfl (fun wq hq => (zam (seg := [v_m_22]) ty191 rfl (by simp) rfl hq)) (zbm hf168 (zan rfl)) <| qd1 1 (i := 5) (v := .agg (zav (zcd xa xb (at_ m_2 i) t44)).toArray) rfl rfl (by decide +kernel) rfl rfl (fun wq hq => (zam (seg := (zav (zcd xa xb (at_ m_2 i) t44))) ty130 rfl (by simp) rfl hq)) (za8 rfl (zbm hf169 (zan rfl))) <| zbo (i := 6) (by decide +kernel) ?_
      intro wd170 gd170
      have S171 := S167.keep gd170
      have hf172 := spUp gd170 hf168
      have hf173 := spUp gd170 hf169
      obtain ⟨v174, w174, r174, g174, T174⟩ := zd1 (kd := kPair) (xs := ([zcd xa xb (at_ m_2 i) t44] : List (Int × Int))) (len := 1) (m := 2) [(.agg (zav (zcd xa xb (at_ m_2 i) t44)).toArray, (zav (zcd xa xb (at_ m_2 i) t44)))] S171 u191 ty130 rfl rfl rfl rfl (zdk rfl rfl segs_nil) (cs := (zav (zcd xa xb (at_ m_2 i) t44))) (zbp.single (k := kPair) (h := h130) (x := zcd xa xb (at_ m_2 i) t44) (cs := (zav (zcd xa xb (at_ m_2 i) t44))) ⟨rfl, ok132_0⟩) (by simp)
      have S175 := T174
      dsimp only [lAa, lAn, lA0, lAs] at S175
      have hf176 := spUp g174 hf172
      have hf177 := spUp g174 hf173
      refine d_v (v := v174) rfl rfl rfl (zat (pv := [(0, .agg (zav (zcd xa xb (at_ m_2 i) t44)).toArray)]) rfl r174) (.inl g174) <| zbo (i := 7) (by decide +kernel) ?_
      intro wd178 gd178
      have S179 := S175.keep gd178
      have hf180 := spUp gd178 hf176
      have hf181 := spUp gd178 hf177
      obtain ⟨A183, c183, ev183, lc183, cm183⟩ := S179.row_val (j := 18) rfl
      obtain ⟨v184, w184, r184, g184, T184⟩ := zcs (kd := kPair) (A := A183) (c := c183) (ys := ([zcd xa xb (at_ m_2 i) t44] : List (Int × Int))) (len := ([zcd xa xb (at_ m_2 i) t44] : List (Int × Int)).length) 191 S179 u191 ty130 rfl rfl (j := 11) rfl rfl (zc7 S179 (j := 18) rfl ev183) (by first|omega|(simp;omega)|assumption|simp) (by first|omega|(simp;omega)|assumption|simp)
      have S185 := T184.fx 11 (row 130 kPair v184 (m_22 ++ ([zcd xa xb (at_ m_2 i) t44] : List (Int × Int)))) rfl
      dsimp only [lAa, lAn, lA0, lAs] at S185
      have hf186 : (CFs ⟨b44, 2, none⟩ [v_m_22]).1 w184 := (CF.box (m := 1) (S185.box_at (j := 8) rfl) rfl)
      have hf187 : (CFs ⟨b134, 0, none⟩ (zav (zcd xa xb (at_ m_2 i) t44))).1 w184 := (CF.box (m := 2) (S185.box_at (j := 17) rfl) rfl)
      refine d_v (v := v184) rfl rfl rfl (zcr rfl ev183 r184) (.inr (za1 (by decide +kernel) (zbu hf187 trivial))) <| qd0 (i := 8) (v := .pointer (some ⟨b44, 0, none⟩)) rfl (by decide +kernel) rfl rfl (zbt rfl) (zan rfl) <| qd0 (i := 9) (v := .pointer (some ⟨b44, 2, none⟩)) rfl (by decide +kernel) rfl rfl (zaq fd193_2 ty191 rfl rfl) (zan rfl) <| zbo (i := 10) (by decide +kernel) ?_
      intro wd188 gd188
      have S189 := S185.keep gd188
      have hf190 := spUp gd188 hf186
      have hf191 := spUp gd188 hf187
      have oc193 := zcp S189 (j := 11) rfl
      obtain ⟨w192, r192, g192, T192⟩ := zcj (P := Tryd.prog) (off := 2) (v := v184) (vs := [v184]) S189 ty191 (zcn S189 (j := 11) rfl) rfl (j := 8) rfl (by first | decide | exact Nat.le_of_ble_eq_true rfl) (zb8 oc193 zdc)
      have S194 := T192.fx 8 (box b44 193 [.pointer none, .map (some b42), v184]) rfl
      dsimp only [lAa, lAn, lA0, lAs] at S194
      have hf195 : (CFs ⟨b134, 0, none⟩ (zav (zcd xa xb (at_ m_2 i) t44))).1 w192 := (CF.box (m := 2) (S194.box_at (j := 17) rfl) rfl)
      refine d_s rfl rfl (za2 rfl rfl r192) (.inr (za1 (by decide +kernel) (za1 (by decide +kernel) trivial))) <| zcb (by decide +kernel) ?_
      intro wd196 gd196
      have S197 := S194.keep gd196
      refine zag <| zah (l := [0, 1]) rfl <| p_v (v := .int .i64 (m_22.length : Int)) rfl rfl rfl (zai rfl) <| p_v (v := .int .i64 (m_22.length : Int)) rfl rfl rfl (zaj rfl) <| zac <| zax Tryd.func138 (res1 rfl (za4 (v := .int .i64 (m_22.length : Int)) rfl)) ?_
      refine ⟨_, rfl, ?_⟩
      obtain ⟨v198, w198, r198, g198, T198⟩ := za5 (kd := (Kd.int .i64)) (xs := ([(m_22.length : Int)] : List Int)) (len := 1) [.int .i64 (m_22.length : Int)] S197 u23 ty3 rfl rfl rfl rfl rfl (za0 rfl zb4) [.int .i64 (m_22.length : Int)] (zbp.single (k := (Kd.int .i64)) (h := h130) (x := (m_22.length : Int)) (cs := [.int .i64 (m_22.length : Int)]) ⟨rfl, (zar (by omega) (by omega))⟩) rfl
      have S199 := T198
      dsimp only [lAa, lAn, lA0, lAs] at S199
      refine p_v (v := v198) rfl rfl rfl (zat (pv := [(0, .int .i64 (m_22.length : Int))]) rfl r198) ?_
      obtain ⟨A201, c201, ev201, lc201, cm201⟩ := S199.row_val (j := 19) rfl
      obtain ⟨v202, w202, r202, g202, T202⟩ := zcs (kd := (Kd.int .i64)) (A := A201) (c := c201) (ys := ([(m_22.length : Int)] : List Int)) (len := ([(m_22.length : Int)] : List Int).length) 23 S199 u23 ty3 rfl rfl (j := 16) rfl rfl (zc7 S199 (j := 19) rfl ev201) (by first|omega|(simp;omega)|assumption|simp) (by first|omega|(simp;omega)|assumption|simp)
      have S203 := T202.fx 16 (row 3 (Kd.int .i64) v202 (l ++ ([(m_22.length : Int)] : List Int))) rfl
      dsimp only [lAa, lAn, lA0, lAs] at S203
      refine p_v (v := v202) rfl rfl rfl (zcr rfl ev201 r202) <| p_v (v := v202) rfl rfl rfl (zaj rfl) <| zac <| za3 <| zah (l := [0, 1]) rfl <| p_v (v := .int .i64 (t44 + 1)) rfl rfl rfl (zdj r130_44 rfl (zar (by omega) (by omega))) <| p_v (v := .int .i64 (t44 + 1)) rfl rfl rfl (zai rfl) <| zac ?_
      refine ih130 (m_22 ++ ([zcd xa xb (at_ m_2 i) t44] : List (Int × Int)), l ++ ([(m_22.length : Int)] : List Int), zeo (zcd xa xb (at_ m_2 i) t44) (m_22.length : Int) b2, t44 + 1) _ _ (by dsimp only; omega) ⟨h130, v184, v202, le130, S203.sub [0, 1, 2, 3, 4, 5, 6, 7, 8, 9, 10, 11, 12, 13, 14, 15, 16] (by decide) rfl _ rfl, r130_3, r130_4, r130_5, r130_10, r130_11, r130_12, r130_13, r130_14, rfl, r130_43, rfl, (zar (by omega) (by omega)), (by first | exact ⟨by omega, by omega, made_old hI130.2.2 (by assumption)⟩ | exact ⟨by omega, by omega, made_new hI130.2.2 (by assumption)⟩)⟩
     refine za6 <| zag <| zah (l := [0, 1]) rfl <| p_v (v := .int .i64 ((zbn (zcd xa xb (at_ m_2 i) t44) b2).getD 0)) rfl rfl rfl (zai rfl) <| p_v (v := .int .i64 ((zbn (zcd xa xb (at_ m_2 i) t44) b2).getD 0)) rfl rfl rfl (zaj rfl) <| zac <| zax Tryd.func138 (res1 rfl (za4 (v := .int .i64 ((zbn (zcd xa xb (at_ m_2 i) t44) b2).getD 0)) rfl)) ?_
     refine ⟨_, rfl, ?_⟩
     obtain ⟨v204, w204, r204, g204, T204⟩ := za5 (kd := (Kd.int .i64)) (xs := ([((zbn (zcd xa xb (at_ m_2 i) t44) b2).getD 0)] : List Int)) (len := 1) [.int .i64 ((zbn (zcd xa xb (at_ m_2 i) t44) b2).getD 0)] S145 u23 ty3 rfl rfl rfl rfl rfl (za0 rfl zb4) [.int .i64 ((zbn (zcd xa xb (at_ m_2 i) t44) b2).getD 0)] (zbp.single (k := (Kd.int .i64)) (h := h130) (x := ((zbn (zcd xa xb (at_ m_2 i) t44) b2).getD 0)) (cs := [.int .i64 ((zbn (zcd xa xb (at_ m_2 i) t44) b2).getD 0)]) ⟨rfl, (zar (by omega) (by omega))⟩) rfl
     have S205 := T204
     dsimp only [lAa, lAn, lA0, lAs] at S205
     refine p_v (v := v204) rfl rfl rfl (zat (pv := [(0, .int .i64 ((zbn (zcd xa xb (at_ m_2 i) t44) b2).getD 0))]) rfl r204) ?_
     obtain ⟨A207, c207, ev207, lc207, cm207⟩ := S205.row_val (j := 18) rfl
     obtain ⟨v208, w208, r208, g208, T208⟩ := zcs (kd := (Kd.int .i64)) (A := A207) (c := c207) (ys := ([((zbn (zcd xa xb (at_ m_2 i) t44) b2).getD 0)] : List Int)) (len := ([((zbn (zcd xa xb (at_ m_2 i) t44) b2).getD 0)] : List Int).length) 23 S205 u23 ty3 rfl rfl (j := 16) rfl rfl (zc7 S205 (j := 18) rfl ev207) (by first|omega|(simp;omega)|assumption|simp) (by first|omega|(simp;omega)|assumption|simp)
     have S209 := T208.fx 16 (row 3 (Kd.int .i64) v208 (l ++ ([((zbn (zcd xa xb (at_ m_2 i) t44) b2).getD 0)] : List Int))) rfl
     dsimp only [lAa, lAn, lA0, lAs] at S209
     refine p_v (v := v208) rfl rfl rfl (zcr rfl ev207 r208) <| p_v (v := v208) rfl rfl rfl (zaj rfl) <| zac <| za3 <| zah (l := [0, 1]) rfl <| p_v (v := .int .i64 (t44 + 1)) rfl rfl rfl (zdj r130_44 rfl (zar (by omega) (by omega))) <| p_v (v := .int .i64 (t44 + 1)) rfl rfl rfl (zai rfl) <| zac ?_
     refine ih130 (m_22, l ++ ([((zbn (zcd xa xb (at_ m_2 i) t44) b2).getD 0)] : List Int), b2, t44 + 1) _ _ (by dsimp only; omega) ⟨h130, v_m_22, v208, le130, S209.sub [0, 1, 2, 3, 4, 5, 6, 7, 8, 9, 10, 11, 12, 13, 14, 15, 16] (by decide) rfl _ rfl, r130_3, r130_4, r130_5, r130_10, r130_11, r130_12, r130_13, r130_14, rfl, r130_43, rfl, (zar (by omega) (by omega)), (by first | exact ⟨by omega, by omega, made_old hI130.2.2 (by assumption)⟩ | exact ⟨by omega, by omega, made_new hI130.2.2 (by assumption)⟩)⟩
    refine zcf rfl ?_
    have hf210 : (CFs ⟨b110, 257, none⟩ [v_d_1]).1 w130 := (CF.box (m := 1) (S130.box_at (j := 12) rfl) (zbc (a := (zad xa.part)) (pre := []) (seg := [v_d_1]) (post := [v_d_2]) (zaf o0_0) rfl rfl))
    have hf211 : (CFs ⟨b110, 258, none⟩ [v_d_2]).1 w130 := (CF.box (m := 1) (S130.box_at (j := 12) rfl) (zbc (a := (zad xa.part)) (pre := [v_d_1]) (seg := [v_d_2]) (post := []) (zaf o0_0) rfl rfl))
    have hf212 : (CFs ⟨b123, 0, none⟩ (zav (at_ m_2 i))).1 w130 := (CF.box (m := 2) (S130.box_at (j := 15) rfl) rfl)
    refine daS (hkC 1 hf210 (hkC 6 hf211 (hkC 8 hf212 (hkN (w := w130))))) 16 rfl mixed ?_
    intro wd213 gd213 hd213
    have S214 := S130.keep gd213
    have hf215 := spUp gd213 hf210
    have hf216 := spUp gd213 hf211
    have hf217 := spUp gd213 hf212
    refine qd0 (i := 0) (v := .pointer (some ⟨b110, 257, none⟩)) rfl (by decide +kernel) rfl rfl (zaq zef ty24 rfl r130_12) (zan rfl) <| qd1 0 (i := 1) (v := v_d_1) rfl rfl (by decide +kernel) rfl rfl (fun wq hq => (zam (seg := [v_d_1]) ty24 rfl (by simp) rfl hq)) (zbm hf215 (zan rfl)) <| qd0 (i := 2) (v := v_l) rfl (by decide +kernel) rfl rfl (zai r130_15) (zan rfl) <| qd0 (i := 5) (v := .pointer (some ⟨b110, 258, none⟩)) rfl (by decide +kernel) rfl rfl (zaq fd35_2 ty25 rfl r130_12) (zan rfl) <| qd1 1 (i := 6) (v := v_d_2) rfl rfl (by decide +kernel) rfl rfl (fun wq hq => (zam (seg := [v_d_2]) ty25 rfl (by simp) rfl hq)) (za8 rfl (zbm hf216 (zan rfl))) <| qd0 (i := 7) (v := .func (.func 90) #[] #[.pointer (some ⟨b1, 0, none⟩), .pointer (some ⟨b3, 0, none⟩), .pointer (some ⟨b5, 0, none⟩)]) rfl (by decide +kernel) rfl rfl (zai r130_4) (zan rfl) <| qd1 2 (i := 8) (v := .agg (zav (at_ m_2 i)).toArray) rfl rfl (by decide +kernel) rfl rfl (fun wq hq => (zam (seg := (zav (at_ m_2 i))) ty130 rfl (by simp) r130_14 hq)) (za8 rfl (za8 rfl (zbm hf217 (zan rfl)))) <| zbo (i := 3) (by decide +kernel) ?_
    intro wd218 gd218
    have S219 := S214.keep gd218
    have hf220 := spUp gd218 hf215
    have hf221 := spUp gd218 hf216
    have hf222 := spUp gd218 hf217
    obtain ⟨h224, le224, T224, rp224⟩ := S219.freeze (i := 16) rfl
    have lf224_0 := (((le118).trans le130)).trans le224
    have lf224_1 := (le130).trans le224
    have S225 := T224.fx 16 (emp) rfl
    dsimp only [lAa, lAn, lA0, lAs] at S225
    obtain ⟨A224, c224, e224, lc224, cm224, ld224⟩ := rp224
    injection e224 with e224 _; subst e224
    have cn224 := cm224; simp only [maxLen] at cn224
    obtain ⟨v223, w223, r223, g223, T223⟩ := za5 (kd := (Kd.int .i64).slice) (xs := ([l] : List (List Int))) (len := 1) [.slice A224 l.length c224] S225 u24 ty23 rfl rfl rfl rfl rfl (za0 rfl zb4) [.slice A224 l.length c224] (zbp.single (k := (Kd.int .i64).slice) (h := h224) (x := l) (cs := [.slice A224 l.length c224]) ⟨_, _, rfl, (And.intro lc224 cm224).1, (And.intro lc224 cm224).2, ld224.mono (Le.refl _)⟩) rfl
    have S226 := T223
    dsimp only [lAa, lAn, lA0, lAs] at S226
    have hf227 := spUp g223 hf220
    have hf228 := spUp g223 hf221
    have hf229 := spUp g223 hf222
    refine d_v (v := v223) rfl rfl rfl (zat (pv := [(0, .slice A224 l.length c224)]) rfl r223) (.inl g223) <| zbo (i := 4) (by decide +kernel) ?_
    intro wd230 gd230
    have S231 := S226.keep gd230
    have hf232 := spUp gd230 hf227
    have hf233 := spUp gd230 hf228
    have hf234 := spUp gd230 hf229
    obtain ⟨A236, c236, ev236, lc236, cm236⟩ := S231.row_val (j := 17) rfl
    obtain ⟨v237, w237, r237, g237, T237⟩ := zcs (kd := (Kd.int .i64).slice) (A := A236) (c := c236) (ys := ([l] : List (List Int))) (len := ([l] : List (List Int)).length) 24 S231 u24 ty23 rfl rfl (j := 13) rfl rfl (zc7 S231 (j := 17) rfl ev236) (by first|omega|(simp;omega)|assumption|simp) (by first|omega|(simp;omega)|assumption|simp)
    have S238 := T237.fx 13 (row 23 (Kd.int .i64).slice v237 (d_1 ++ ([l] : List (List Int)))) rfl
    dsimp only [lAa, lAn, lA0, lAs] at S238
    have hf239 : (CFs ⟨b110, 257, none⟩ [v_d_1]).1 w237 := (CF.box (m := 1) (S238.box_at (j := 12) rfl) (zbc (a := (zad xa.part)) (pre := []) (seg := [v_d_1]) (post := [v_d_2]) (zaf o0_0) rfl rfl))
    have hf240 : (CFs ⟨b110, 258, none⟩ [v_d_2]).1 w237 := (CF.box (m := 1) (S238.box_at (j := 12) rfl) (zbc (a := (zad xa.part)) (pre := [v_d_1]) (seg := [v_d_2]) (post := []) (zaf o0_0) rfl rfl))
    have hf241 : (CFs ⟨b123, 0, none⟩ (zav (at_ m_2 i))).1 w237 := (CF.box (m := 2) (S238.box_at (j := 15) rfl) rfl)
    refine d_v (v := v237) rfl rfl rfl (zcr rfl ev236 r237) (.inr (za1 (by decide +kernel) (zbu hf240 (zbu hf241 trivial)))) ?_
    have hf243 : (zcm (Kd.int .i64).slice A0_1 xa.next).1 w237 := (l0_1.mono (St.le0 S238))
    have hf244 : (zcm Kd.bool A0_2 xa.final).1 w237 := (l0_2.mono (St.le0 S238))
    have hf245 : (GCs ⟨b1, 0, none⟩ ((zad xa.part) ++ ([.slice A0_1 xa.next.length c0_1, .slice A0_2 xa.final.length c0_2] : List Value))).1 w237 := (zco (S238.box_at (j := 0) rfl))
    have hf246 : (zcm (Kd.int .i64).slice A1_1 xb.next).1 w237 := (l1_1.mono (St.le0 S238))
    have hf247 : (zcm Kd.bool A1_2 xb.final).1 w237 := (l1_2.mono (St.le0 S238))
    have hf248 : (GCs ⟨b3, 0, none⟩ ((zad xb.part) ++ ([.slice A1_1 xb.next.length c1_1, .slice A1_2 xb.final.length c1_2] : List Value))).1 w237 := (zco (S238.box_at (j := 1) rfl))
    have hf249 : (GCs ⟨b5, 0, none⟩ [.int .u8 how]).1 w237 := (zco (S238.box_at (j := 2) rfl))
    refine raMo (hkC 9 hf243 (hkC 9 hf244 (hkC 9 hf245 (hkC 9 hf246 (hkC 9 hf247 (hkC 9 hf248 (hkC 9 hf249 (hkN (w := w237))))))))) <| d_m (i := 9) (v := .bool (zde xa xb how (at_ m_2 i))) (fun wf => zbz (Kd.int .i64).slice (hp wf) A0_1 xa.next ∧ zbz Kd.bool (hp wf) A0_2 xa.final ∧ (GCs ⟨b1, 0, none⟩ ((zad xa.part) ++ ([.slice A0_1 xa.next.length c0_1, .slice A0_2 xa.final.length c0_2] : List Value))).1 wf ∧ zbz (Kd.int .i64).slice (hp wf) A1_1 xb.next ∧ zbz Kd.bool (hp wf) A1_2 xb.final ∧ (GCs ⟨b3, 0, none⟩ ((zad xb.part) ++ ([.slice A1_1 xb.next.length c1_1, .slice A1_2 xb.final.length c1_2] : List Value))).1 wf ∧ (GCs ⟨b5, 0, none⟩ [.int .u8 how]).1 wf) (fun _ ho => ⟨ho _ (List.mem_of_getElem? (i := 0) rfl) rfl, ho _ (List.mem_of_getElem? (i := 1) rfl) rfl, ho _ (List.mem_of_getElem? (i := 2) rfl) rfl, ho _ (List.mem_of_getElem? (i := 3) rfl) rfl, ho _ (List.mem_of_getElem? (i := 4) rfl) rfl, ho _ (List.mem_of_getElem? (i := 5) rfl) rfl, ho _ (List.mem_of_getElem? (i := 6) rfl) rfl⟩) rfl (by decide +kernel) (by decide +kernel) (by decide +kernel) rfl rfl (fun wq => (zba (args := [.agg (zav (at_ m_2 i)).toArray, .pointer (some ⟨b1, 0, none⟩), .pointer (some ⟨b3, 0, none⟩), .pointer (some ⟨b5, 0, none⟩)]) ca90 rfl rfl)) (fun wq hq => (bothF_calls wq (at_ m_2 i) ok122 xa o0_0 A0_1 c0_1 b0_1 hq.1 A0_2 c0_2 b0_2 hq.2.1 ⟨b1, 0, none⟩ hq.2.2.1 xb o1_0 A1_1 c1_1 b1_1 hq.2.2.2.1 A1_2 c1_2 b1_2 hq.2.2.2.2.1 ⟨b3, 0, none⟩ hq.2.2.2.2.2.1 how (in_u8 (by omega) (by omega)) ⟨b5, 0, none⟩ hq.2.2.2.2.2.2 (by first | assumption | exact hpf_ (by omega))).mono fun e w2 he => by obtain ⟨_, rfl, _, T, rfl⟩ := he; exact ⟨rfl, Chg.of_below T.below⟩) (zbm hf243 (zbm hf244 (zbm hf245 (zbm hf246 (zbm hf247 (zbm hf248 (zbm hf249 (zan rfl)))))))) <| qd0 (i := 12) (v := .pointer (some ⟨b110, 257, none⟩)) rfl (by decide +kernel) rfl rfl (zaq zef ty24 rfl r130_12) (zan rfl) <| zbo (i := 10) (by decide +kernel) ?_
    intro wd250 gd250
    have S251 := S238.keep gd250
    have hf252 := spUp gd250 hf243
    have hf253 := spUp gd250 hf244
    have hf254 := spUp gd250 hf245
    have hf255 := spUp gd250 hf246
    have hf256 := spUp gd250 hf247
    have hf257 := spUp gd250 hf248
    have hf258 := spUp gd250 hf249
    have hf259 := spUp gd250 hf239
    have hf260 := spUp gd250 hf240
    have hf261 := spUp gd250 hf241
    obtain ⟨v262, w262, r262, g262, T262⟩ := za5 (kd := Kd.bool) (xs := ([zde xa xb how (at_ m_2 i)] : List Bool)) (len := 1) [.bool (zde xa xb how (at_ m_2 i))] S251 u25 ty4 rfl rfl rfl rfl rfl (za0 rfl zb4) [.bool (zde xa xb how (at_ m_2 i))] (zbp.single (k := Kd.bool) (h := h224) (x := zde xa xb how (at_ m_2 i)) (cs := [.bool (zde xa xb how (at_ m_2 i))]) ⟨rfl, trivial⟩) rfl
    have S263 := T262
    dsimp only [lAa, lAn, lA0, lAs] at S263
    have hf264 := spUp g262 hf252
    have hf265 := spUp g262 hf253
    have hf266 := spUp g262 hf254
    have hf267 := spUp g262 hf255
    have hf268 := spUp g262 hf256
    have hf269 := spUp g262 hf257
    have hf270 := spUp g262 hf258
    have hf271 := spUp g262 hf259
    have hf272 := spUp g262 hf260
    have hf273 := spUp g262 hf261
    refine d_v (v := v262) rfl rfl rfl (zat (pv := [(0, .bool (zde xa xb how (at_ m_2 i)))]) rfl r262) (.inl g262) <| zbo (i := 11) (by decide +kernel) ?_
    intro wd274 gd274
    have S275 := S263.keep gd274
    have hf276 := spUp gd274 hf264
    have hf277 := spUp gd274 hf265
    have hf278 := spUp gd274 hf266
    have hf279 := spUp gd274 hf267
    have hf280 := spUp gd274 hf268
    have hf281 := spUp gd274 hf269
    have hf282 := spUp gd274 hf270
    have hf283 := spUp gd274 hf271
    have hf284 := spUp gd274 hf272
    have hf285 := spUp gd274 hf273
    obtain ⟨A287, c287, ev287, lc287, cm287⟩ := S275.row_val (j := 18) rfl
    obtain ⟨v288, w288, r288, g288, T288⟩ := zcs (kd := Kd.bool) (A := A287) (c := c287) (ys := ([zde xa xb how (at_ m_2 i)] : List Bool)) (len := ([zde xa xb how (at_ m_2 i)] : List Bool).length) 25 S275 u25 ty4 rfl rfl (j := 14) rfl rfl (zc7 S275 (j := 18) rfl ev287) (by first|omega|(simp;omega)|assumption|simp) (by first|omega|(simp;omega)|assumption|simp)
    have S289 := T288.fx 14 (row 4 Kd.bool v288 (d_2 ++ ([zde xa xb how (at_ m_2 i)] : List Bool))) rfl
    dsimp only [lAa, lAn, lA0, lAs] at S289
    have hf290 : (zcm (Kd.int .i64).slice A0_1 xa.next).1 w288 := (l0_1.mono (St.le0 S289))
    have hf291 : (zcm Kd.bool A0_2 xa.final).1 w288 := (l0_2.mono (St.le0 S289))
    have hf292 : (GCs ⟨b1, 0, none⟩ ((zad xa.part) ++ ([.slice A0_1 xa.next.length c0_1, .slice A0_2 xa.final.length c0_2] : List Value))).1 w288 := (zco (S289.box_at (j := 0) rfl))
    have hf293 : (zcm (Kd.int .i64).slice A1_1 xb.next).1 w288 := (l1_1.mono (St.le0 S289))
    have hf294 : (zcm Kd.bool A1_2 xb.final).1 w288 := (l1_2.mono (St.le0 S289))
    have hf295 : (GCs ⟨b3, 0, none⟩ ((zad xb.part) ++ ([.slice A1_1 xb.next.length c1_1, .slice A1_2 xb.final.length c1_2] : List Value))).1 w288 := (zco (S289.box_at (j := 1) rfl))
    have hf296 : (GCs ⟨b5, 0, none⟩ [.int .u8 how]).1 w288 := (zco (S289.box_at (j := 2) rfl))
    have hf297 : (CFs ⟨b110, 257, none⟩ [v_d_1]).1 w288 := (CF.box (m := 1) (S289.box_at (j := 12) rfl) (zbc (a := (zad xa.part)) (pre := []) (seg := [v_d_1]) (post := [v_d_2]) (zaf o0_0) rfl rfl))
    have hf298 : (CFs ⟨b110, 258, none⟩ [v_d_2]).1 w288 := (CF.box (m := 1) (S289.box_at (j := 12) rfl) (zbc (a := (zad xa.part)) (pre := [v_d_1]) (seg := [v_d_2]) (post := []) (zaf o0_0) rfl rfl))
    have hf299 : (CFs ⟨b123, 0, none⟩ (zav (at_ m_2 i))).1 w288 := (CF.box (m := 2) (S289.box_at (j := 15) rfl) rfl)
    refine d_v (v := v288) rfl rfl rfl (zcr rfl ev287 r288) (.inr (za1 (by decide +kernel) (za1 (by decide +kernel) (za1 (by decide +kernel) (za1 (by decide +kernel) (za1 (by decide +kernel) (za1 (by decide +kernel) (za1 (by decide +kernel) (zbu hf297 (za1 (by decide +kernel) (zbu hf299 trivial))))))))))) <| zbo (i := 13) (by decide +kernel) ?_
    intro wd300 gd300
    have S301 := S289.keep gd300
    have hf302 := spUp gd300 hf290
    have hf303 := spUp gd300 hf291
    have hf304 := spUp gd300 hf292
    have hf305 := spUp gd300 hf293
    have hf306 := spUp gd300 hf294
    have hf307 := spUp gd300 hf295
    have hf308 := spUp gd300 hf296
    have hf309 := spUp gd300 hf297
    have hf310 := spUp gd300 hf298
    have hf311 := spUp gd300 hf299
    have oc313 := zcp S301 (j := 13) rfl
    obtain ⟨w312, r312, g312, T312⟩ := zcw (P := Tryd.prog) (off := 257) (v := v237) (vs := [v237]) (a := (zad xa.part)) (pre := []) (seg := [v_d_1]) (post := [v_d_2]) S301 ty24 (zcn S301 (j := 13) rfl) rfl (zaf o0_0) rfl rfl (j := 12) rfl (zb8 oc313 zdc)
    have S314 := T312.fx 12 (box b110 35 ((zad xa.part) ++ ([v237, v_d_2] : List Value))) rfl
    dsimp only [lAa, lAn, lA0, lAs] at S314
    have hf315 : (zcm (Kd.int .i64).slice A0_1 xa.next).1 w312 := (l0_1.mono (St.le0 S314))
    have hf316 : (zcm Kd.bool A0_2 xa.final).1 w312 := (l0_2.mono (St.le0 S314))
    have hf317 : (GCs ⟨b1, 0, none⟩ ((zad xa.part) ++ ([.slice A0_1 xa.next.length c0_1, .slice A0_2 xa.final.length c0_2] : List Value))).1 w312 := (zco (S314.box_at (j := 0) rfl))
    have hf318 : (zcm (Kd.int .i64).slice A1_1 xb.next).1 w312 := (l1_1.mono (St.le0 S314))
    have hf319 : (zcm Kd.bool A1_2 xb.final).1 w312 := (l1_2.mono (St.le0 S314))
    have hf320 : (GCs ⟨b3, 0, none⟩ ((zad xb.part) ++ ([.slice A1_1 xb.next.length c1_1, .slice A1_2 xb.final.length c1_2] : List Value))).1 w312 := (zco (S314.box_at (j := 1) rfl))
    have hf321 : (GCs ⟨b5, 0, none⟩ [.int .u8 how]).1 w312 := (zco (S314.box_at (j := 2) rfl))
    have hf322 : (CFs ⟨b123, 0, none⟩ (zav (at_ m_2 i))).1 w312 := (CF.box (m := 2) (S314.box_at (j := 15) rfl) rfl)
    refine d_s rfl rfl (za2 rfl rfl r312) (.inr (zbu hf315 (zbu hf316 (zbu hf317 (zbu hf318 (zbu hf319 (zbu hf320 (zbu hf321 (za1 (by decide +kernel) (za1 (by decide +kernel) (zbu hf322 trivial))))))))))) <| qd0 (i := 14) (v := .pointer (some ⟨b110, 258, none⟩)) rfl (by decide +kernel) rfl rfl (zaq fd35_2 ty25 rfl r130_12) (zan rfl) <| zbo (i := 15) (by decide +kernel) ?_
    intro wd323 gd323
    have S324 := S314.keep gd323
    have hf325 := spUp gd323 hf315
    have hf326 := spUp gd323 hf316
    have hf327 := spUp gd323 hf317
    have hf328 := spUp gd323 hf318
    have hf329 := spUp gd323 hf319
    have hf330 := spUp gd323 hf320
    have hf331 := spUp gd323 hf321
    have hf332 := spUp gd323 hf322
    have oc334 := zcp S324 (j := 14) rfl
    obtain ⟨w333, r333, g333, T333⟩ := zcw (P := Tryd.prog) (off := 258) (v := v288) (vs := [v288]) (a := (zad xa.part)) (pre := [v237]) (seg := [v_d_2]) (post := []) S324 ty25 (zcn S324 (j := 14) rfl) rfl (zaf o0_0) rfl rfl (j := 12) rfl (zb8 oc334 zdc)
    have S335 := T333.fx 12 (box b110 35 ((zad xa.part) ++ ([v237, v288] : List Value))) rfl
    dsimp only [lAa, lAn, lA0, lAs] at S335
    have hf336 : (zcm (Kd.int .i64).slice A0_1 xa.next).1 w333 := (l0_1.mono (St.le0 S335))
    have hf337 : (zcm Kd.bool A0_2 xa.final).1 w333 := (l0_2.mono (St.le0 S335))
    have hf338 : (GCs ⟨b1, 0, none⟩ ((zad xa.part) ++ ([.slice A0_1 xa.next.length c0_1, .slice A0_2 xa.final.length c0_2] : List Value))).1 w333 := (zco (S335.box_at (j := 0) rfl))
    have hf339 : (zcm (Kd.int .i64).slice A1_1 xb.next).1 w333 := (l1_1.mono (St.le0 S335))
    have hf340 : (zcm Kd.bool A1_2 xb.final).1 w333 := (l1_2.mono (St.le0 S335))
    have hf341 : (GCs ⟨b3, 0, none⟩ ((zad xb.part) ++ ([.slice A1_1 xb.next.length c1_1, .slice A1_2 xb.final.length c1_2] : List Value))).1 w333 := (zco (S335.box_at (j := 1) rfl))
    have hf342 : (GCs ⟨b5, 0, none⟩ [.int .u8 how]).1 w333 := (zco (S335.box_at (j := 2) rfl))
    have hf343 : (CFs ⟨b123, 0, none⟩ (zav (at_ m_2 i))).1 w333 := (CF.box (m := 2) (S335.box_at (j := 15) rfl) rfl)
    refine d_s rfl rfl (za2 rfl rfl r333) (.inr (za1 (by decide +kernel) (za1 (by decide +kernel) (za1 (by decide +kernel) (za1 (by decide +kernel) (za1 (by decide +kernel) (za1 (by decide +kernel) (za1 (by decide +kernel) (za1 (by decide +kernel) (za1 (by decide +kernel) (za1 (by decide +kernel) trivial))))))))))) <| zcb (by decide +kernel) ?_
    intro wd344 gd344
    have S345 := S335.keep gd344
    refine za3 <| zah (l := [0, 1, 2]) rfl <| p_v (v := .int .i64 i) rfl rfl rfl (zai r130_13) <| p_v (v := .int .i64 (i + 1)) rfl rfl rfl (zdj rfl rfl (zar (by omega) (by omega))) <| p_v (v := .int .i64 (i + 1)) rfl rfl rfl (zaj rfl) <| zac ?_
    refine ih118 (m_22, d_1 ++ ([l] : List (List Int)), d_2 ++ ([zde xa xb how (at_ m_2 i)] : List Bool), b2, i + 1) _ _ (by dsimp only; omega) ⟨h224, v_m_22, v237, v288, lf224_0, S345.sub [0, 1, 2, 3, 4, 5, 6, 7, 8, 9, 10, 11, 12, 13, 14] (by decide) rfl _ rfl, r130_3, r130_4, r130_5, r130_10, r130_11, r130_12, rfl, (zar (by omega) (by omega)), (by exact made_next hI118 (by omega) (zdm hI118.lo (by omega)) (by have := hI130.1; rw [show xa.part.n = t44 by omega]; exact hI130.2.2))⟩
   refine zcf rfl <| zag <| zah (l := [0, 1]) rfl <| p_v (v := .agg ((zad xa.part) ++ ([v_d_1, v_d_2] : List Value)).toArray) rfl rfl rfl (zam (seg := ((zad xa.part) ++ ([v_d_1, v_d_2] : List Value))) ty35 (zal (zaf o0_0) rfl) (by simp) r118_12 (CF.box (m := 259) (S118.box_at (j := 12) rfl) (zaw (zal (zaf o0_0) rfl)))) ?_
   have oc347 := zcp S118 (j := 13) rfl
   have oc348 := zcp S118 (j := 14) rfl
   obtain ⟨w346, r346, g346, T346⟩ := za7 (P := Tryd.prog) (v := .agg ((zad xa.part) ++ ([v_d_1, v_d_2] : List Value)).toArray) (vs := ((zad xa.part) ++ ([v_d_1, v_d_2] : List Value))) (cs := ((zad zPart) ++ ([.slice none 0 0, .slice none 0 0] : List Value))) S118 ty35 rfl (zal (zaf o0_0) rfl) (zal (zaf (zao)) rfl) (j := 6) rfl (zcc (zaz _) (zb8 oc347 (zb8 oc348 zdc)))
   have S349 := T346.fx 6 (box b40 35 ((zad xa.part) ++ ([v_d_1, v_d_2] : List Value))) rfl
   dsimp only [lAa, lAn, lA0, lAs] at S349
   refine p_s rfl rfl (za2 r118_10 rfl r346) <| zac <| zax Tryd.func91 (res1 rfl (zcz S349 ty35 r118_10 (j := 6) rfl (zal (zaf o0_0) rfl) (by simp) rfl)) ?_
   refine ⟨_, rfl, ?_⟩
   have oc351 := zcp S349 (j := 13) rfl
   have oc352 := zcp S349 (j := 14) rfl
   obtain ⟨w350, r350, g350, T350⟩ := za7 (P := Tryd.prog) (v := .agg ((zad xa.part) ++ ([v_d_1, v_d_2] : List Value)).toArray) (vs := ((zad xa.part) ++ ([v_d_1, v_d_2] : List Value))) (cs := ((zad zPart) ++ ([.slice none 0 0, .slice none 0 0] : List Value))) S349 ty35 rfl (zal (zaf o0_0) rfl) (zal (zaf (zao)) rfl) (j := 3) rfl (zcc (zaz _) (zb8 oc351 (zb8 oc352 zdc)))
   have S353 := T350.fx 3 (box b7 35 ((zad xa.part) ++ ([v_d_1, v_d_2] : List Value))) rfl
   dsimp only [lAa, lAn, lA0, lAs] at S353
   refine p_s rfl rfl (za2 rfl rfl r350) <| p_v (v := .int .i64 0) rfl rfl rfl (zaj rfl) <| zac <| zax Tryd.func28 (res2 rfl (zcz S353 ty35 rfl (j := 3) rfl (zal (zaf o0_0) rfl) (by simp) rfl) (za4 (v := .int .i64 0) rfl)) ?_
   have q0 : ((zae xa xb how).part : PartM) = xa.part := by
    exact (both_y hy_).1
   have q1 : ((zae xa xb how).next : List (List Int)) = d_1 := by
    exact (both_y hy_).2.1.trans (zc0 hI118 (by omega)).2.1.symm
   have q2 : ((zae xa xb how).final : List Bool) = d_2 := by
    exact (both_y hy_).2.2.1.trans (zc0 hI118 (by omega)).2.2.symm
   have q3 : (errO xa xb how : Int) = 0 := by
    exact (both_y hy_).2.2.2
   refine ⟨_, rfl, h118, v_d_1, v_d_2, ?_, ?_, ?_, ?_⟩
   · rw [q1]; rw [q2]; exact S353.sub [13, 14] (by decide) rfl _ rfl
   · first | rfl | (simp only [q0, q1, q2, q3]; rfl) | (simp only [q0, q1, q2, q3])
   · rw [q0]; first | assumption | exact zao
   · rw [q3]; exact (zar (by omega) (by omega))
  have hz_ := okb_2 (a := xa) (how := how) hc14
  refine zby rfl (wo 8 19 rfl rfl (congrArg (fun z => Value.bool (!z)) hc14) rfl) rfl <| zby rfl (wo 8 19 rfl rfl (congrArg (fun z => Value.bool (!z)) hc14) rfl) rfl <| zby rfl (wo 8 19 rfl rfl (congrArg (fun z => Value.bool (!z)) hc14) rfl) rfl <| zby rfl (wo 8 19 rfl rfl (congrArg (fun z => Value.bool (!z)) hc14) rfl) rfl <| zby rfl (wo 8 19 rfl rfl (congrArg (fun z => Value.bool (!z)) hc14) rfl) rfl <| p_v (v := .bool true) rfl rfl rfl (zbs (congrArg (fun z => Value.bool (!z)) hc14) rfl) <| p_v (v := .bool true) rfl rfl rfl (zai rfl) <| zby rfl rfl rfl <| zby rfl rfl rfl <| p_v (v := .bool true) rfl rfl rfl (zbs rfl rfl) <| p_v (v := .bool true) rfl rfl rfl (zai rfl) <| zby rfl rfl rfl ?_
  refine zby rfl rfl rfl <| p_v (v := .bool true) rfl rfl rfl (zbs rfl rfl) <| zac <| zcy (b := true) rfl ?_
  simp only [if_true, if_false, Bool.false_eq_true]
  refine zag <| zah (l := [0, 1, 2]) rfl <| p_v (v := .agg ((zad zPart) ++ ([.slice none 0 0, .slice none 0 0] : List Value)).toArray) rfl rfl rfl (zc4 (pv := []) rfl (za9 pl35 ty35 rfl (cs := ((zad zPart) ++ ([.slice none 0 0, .slice none 0 0] : List Value))) (by kernel_rfl))) ?_
  obtain ⟨w354, r354, g354, T354⟩ := za7 (P := Tryd.prog) (v := .agg ((zad zPart) ++ ([.slice none 0 0, .slice none 0 0] : List Value)).toArray) (vs := ((zad zPart) ++ ([.slice none 0 0, .slice none 0 0] : List Value))) (cs := ((zad zPart) ++ ([.slice none 0 0, .slice none 0 0] : List Value))) S13 ty35 rfl (zal (zaf (zao)) rfl) (zal (zaf (zao)) rfl) (j := 3) rfl (zcc (zaz _) (by simp [Value.oneCell']))
  have S355 : St w.heap.size w (fun _ => none) w354 [box b1 35 ((zad xa.part) ++ ([.slice A0_1 xa.next.length c0_1, .slice A0_2 xa.final.length c0_2] : List Value)), box b3 35 ((zad xb.part) ++ ([.slice A1_1 xb.next.length c1_1, .slice A1_2 xb.final.length c1_2] : List Value)), box b5 5 [.int .u8 how], box b7 35 ((zad zPart) ++ ([.slice none 0 0, .slice none 0 0] : List Value))] := T354
  refine p_s rfl rfl (za2 rfl rfl r354) <| p_v (v := .int .i64 1) rfl rfl rfl (zaj rfl) <| zac ?_
  have T356 := S355.row_nil 23 (Kd.int .i64).slice
  have S357 := T356
  dsimp only [lAa, lAn, lA0, lAs] at S357
  have T358 := S357.row_nil 4 Kd.bool
  have S359 := T358
  dsimp only [lAa, lAn, lA0, lAs] at S359
  refine zax Tryd.func28 (res2 rfl (zcz S355 ty35 rfl (j := 3) rfl (zal (zaf (zao)) rfl) (by simp) rfl) (za4 (v := .int .i64 1) rfl)) ?_
  have q0 : ((zae xa xb how).part : PartM) = zPart := by
   exact (zen hz_).1
  have q1 : ((zae xa xb how).next : List (List Int)) = ([] : List (List Int)) := by
   exact (zen hz_).2.1
  have q2 : ((zae xa xb how).final : List Bool) = ([] : List Bool) := by
   exact (zen hz_).2.2.1
  have q3 : (errO xa xb how : Int) = 1 := by
   exact (zen hz_).2.2.2
  refine ⟨_, rfl, (fun _ => none), (.slice none 0 0), (.slice none 0 0), ?_, ?_, ?_, ?_⟩
  · rw [q1]; rw [q2]; exact S359.sub [4, 5] (by decide) rfl _ rfl
  · first | rfl | (simp only [q0, q1, q2, q3]; rfl) | (simp only [q0, q1, q2, q3])
  · rw [q0]; first | assumption | exact zao
  · rw [q3]; exact (zar (by omega) (by omega))
 have hz_ := okb_1 (b := xb) (how := how) hc11
 refine zby rfl (wo 3 14 rfl rfl (congrArg (fun z => Value.bool (!z)) hc11) rfl) rfl <| zby rfl (wo 3 14 rfl rfl (congrArg (fun z => Value.bool (!z)) hc11) rfl) rfl <| zby rfl (wo 3 14 rfl rfl (congrArg (fun z => Value.bool (!z)) hc11) rfl) rfl <| p_v (v := .bool true) rfl rfl rfl (zbs (congrArg (fun z => Value.bool (!z)) hc11) rfl) <| p_v (v := .bool true) rfl rfl rfl (zai rfl) <| zby rfl rfl rfl <| zby rfl rfl rfl <| zby rfl rfl rfl <| zby rfl rfl rfl <| zby rfl rfl rfl <| p_v (v := .bool true) rfl rfl rfl (zbs rfl rfl) <| p_v (v := .bool true) rfl rfl rfl (zai rfl) ?_
 refine zby rfl rfl rfl <| zby rfl rfl rfl <| p_v (v := .bool true) rfl rfl rfl (zbs rfl rfl) <| p_v (v := .bool true) rfl rfl rfl (zai rfl) <| zby rfl rfl rfl <| zby rfl rfl rfl <| p_v (v := .bool true) rfl rfl rfl (zbs rfl rfl) <| zac <| zcy (b := true) rfl ?_
 simp only [if_true, if_false, Bool.false_eq_true]
 refine zag <| zah (l := [0, 1, 2]) rfl <| p_v (v := .agg ((zad zPart) ++ ([.slice none 0 0, .slice none 0 0] : List Value)).toArray) rfl rfl rfl (zc4 (pv := []) rfl (za9 pl35 ty35 rfl (cs := ((zad zPart) ++ ([.slice none 0 0, .slice none 0 0] : List Value))) (by kernel_rfl))) ?_
 obtain ⟨w360, r360, g360, T360⟩ := za7 (P := Tryd.prog) (v := .agg ((zad zPart) ++ ([.slice none 0 0, .slice none 0 0] : List Value)).toArray) (vs := ((zad zPart) ++ ([.slice none 0 0, .slice none 0 0] : List Value))) (cs := ((zad zPart) ++ ([.slice none 0 0, .slice none 0 0] : List Value))) S10 ty35 rfl (zal (zaf (zao)) rfl) (zal (zaf (zao)) rfl) (j := 3) rfl (zcc (zaz _) (by simp [Value.oneCell']))
 have S361 : St w.heap.size w (fun _ => none) w360 [box b1 35 ((zad xa.part) ++ ([.slice A0_1 xa.next.length c0_1, .slice A0_2 xa.final.length c0_2] : List Value)), box b3 35 ((zad xb.part) ++ ([.slice A1_1 xb.next.length c1_1, .slice A1_2 xb.final.length c1_2] : List Value)), box b5 5 [.int .u8 how], box b7 35 ((zad zPart) ++ ([.slice none 0 0, .slice none 0 0] : List Value))] := T360
 refine p_s rfl rfl (za2 rfl rfl r360) <| p_v (v := .int .i64 1) rfl rfl rfl (zaj rfl) <| zac ?_
 have T362 := S361.row_nil 23 (Kd.int .i64).slice
 have S363 := T362
 dsimp only [lAa, lAn, lA0, lAs] at S363
 have T364 := S363.row_nil 4 Kd.bool
 have S365 := T364
 dsimp only [lAa, lAn, lA0, lAs] at S365
 refine zax Tryd.func28 (res2 rfl (zcz S361 ty35 rfl (j := 3) rfl (zal (zaf (zao)) rfl) (by simp) rfl) (za4 (v := .int .i64 1) rfl)) ?_
 have q0 : ((zae xa xb how).part : PartM) = zPart := by
  exact (zen hz_).1
 have q1 : ((zae xa xb how).next : List (List Int)) = ([] : List (List Int)) := by
  exact (zen hz_).2.1
 have q2 : ((zae xa xb how).final : List Bool) = ([] : List Bool) := by
  exact (zen hz_).2.2.1
 have q3 : (errO xa xb how : Int) = 1 := by
  exact (zen hz_).2.2.2
 refine ⟨_, rfl, (fun _ => none), (.slice none 0 0), (.slice none 0 0), ?_, ?_, ?_, ?_⟩
 · rw [q1]; rw [q2]; exact S365.sub [4, 5] (by decide) rfl _ rfl
 · first | rfl | (simp only [q0, q1, q2, q3]; rfl) | (simp only [q0, q1, q2, q3])
 · rw [q0]; first | assumption | exact zao
 · rw [q3]; exact (zar (by omega) (by omega))
end Go.Proofs.YtfoemogojbnfhaaDoor
namespace Gx
open Go Go.RowKit
set_option linter.unusedSimpArgs false
set_option linter.unusedSectionVars false
set_option linter.unusedVariables false
def lettersP : PartM := zap [zbx [97], zbx [98], zbx [99]]
theorem ok_some : okB zab lettersP = true := by decide +kernel
theorem letters_ok : okPart lettersP := by
  have h : lettersP.of.length = 256 := by decide +kernel
  have h2 : (lettersP.of.all fun x => decide (0 ≤ x) && decide (x ≤ 255)) = true := by decide +kernel
  have h3 : lettersP.n = 4 := by decide +kernel
  refine ⟨⟨h, fun x hx => ?_⟩, by rw [h3]; constructor <;> decide⟩
  have := List.all_eq_true.1 h2 x hx
  simp only [Bool.and_eq_true, decide_eq_true_eq] at this
  exact in_u8 this.1 this.2
theorem some_1 : errB zab lettersP = 0 := errB_iff.2 ok_some
theorem some_2 : zb7 (zaa zab lettersP) = true := build_right letters_ok ok_some
theorem some_all : (bfs (zb9 zab (zbd lettersP)) lettersP.n beginB 5).length = 5 := by decide +kernel
theorem some_3 : ((zaa zab lettersP).next.length : Int) = 5 := by
  unfold zaa
  rw [if_pos ok_some, (made_len_eq _ _ _ _).1, allM_eq (i := 5) (by rw [some_all]; exact Nat.le_refl _), some_all]; rfl
theorem some_4 : runD (zaa zab lettersP) ⟨#[]⟩ = true := by rw [build_run letters_ok ok_some]; decide +kernel
theorem some_5 : runD (zaa zab lettersP) ⟨#[97, 98]⟩ = true := by rw [build_run letters_ok ok_some]; decide +kernel
theorem some_6 : runD (zaa zab lettersP) ⟨#[97, 99]⟩ = false := by rw [build_run letters_ok ok_some]; decide +kernel
theorem okPart_ref (l : List BSet) : okPart (zap l) := by unfold zap; exact okPart_of _
end Gx
namespace Go.Proofs.YtfoemogojbnfhaaDoor
open Go Go.RowKit Gx
set_option maxHeartbeats 1000000
set_option linter.unusedVariables false
set_option linter.unusedSimpArgs false
set_option maxRecDepth 8000
attribute [local irreducible] zb6 count first someIn has zbx wbits Lib.ctz badQ zd0 zb7 goD runD notD errD notTo zcd zde howB zdv zae errO zb9 nextC outTo zek rowIn zdh lastB zbd zds zaa errB fitsP madeM allM bfs zdf putB beginB okB lettersP
theorem letters_calls (w : World) :
    Calls Tryd.prog 47 #[] w fun e w' => ∃ v, e = .returned v ∧ ∃ (hn : Ghost), St w.heap.size w hn w' [] ∧ v = .agg (zad lettersP).toArray ∧ okPart lettersP := by
 refine zas Tryd.func47 rfl Tryd.ntmps47 rfl ?_
 have S0 := St.init w
 refine zag <| zah (l := [0]) rfl ?_
 obtain ⟨b1, w1, r1, g1, T1⟩ := zb0 (P := Tryd.prog) S0 32 (v := zv32) (zad zPart) (by kernel_rfl)
 have S2 := T1
 dsimp only [lAa, lAn, lA0, lAs] at S2
 refine p_v (v := .pointer (some ⟨b1, 0, none⟩)) rfl rfl rfl (zbr ty32 r1) <| zac <| zag <| zah (l := [0, 1, 2, 3, 4, 5, 6, 7, 8]) rfl ?_
 obtain ⟨v3, w3, r3, g3, T3⟩ := za5 (kd := (Kd.int .u8)) (xs := ([97] : List Int)) (len := 1) [.int .u8 97] S2 u39 ty5 rfl rfl rfl rfl rfl (za0 rfl zb4) [.int .u8 97] (zbp.single (k := (Kd.int .u8)) (h := (fun _ => none)) (x := 97) (cs := [.int .u8 97]) ⟨rfl, (in_u8 (by first|omega|(simp;omega)|assumption|simp) (by first|omega|(simp;omega)|assumption|simp))⟩) rfl
 have S4 := T3
 dsimp only [lAa, lAn, lA0, lAs] at S4
 refine p_v (v := v3) rfl rfl rfl (zat (pv := [(0, .int .u8 97)]) rfl r3) ?_
 obtain ⟨A5, c5, ev5, lc5, cm5⟩ := S4.row_val (j := 1) rfl
 refine p_c rfl rfl rfl (zba (args := [.slice A5 ([97] : List Int).length c5]) ca64 rfl (zd5 ev5 rfl)) (of_calls w3 ([97] : List Int) A5 c5 (And.intro lc5 cm5) (zc9 S4 (j := 1) rfl ev5)) ?_
 rintro _ w6 ⟨h6, T6, rfl⟩
 have S7 := S4.keep (Chg.of_below T6.below)
 obtain ⟨v8, w8, r8, g8, T8⟩ := za5 (kd := (Kd.int .u8)) (xs := ([98] : List Int)) (len := 1) [.int .u8 98] S7 u39 ty5 rfl rfl rfl rfl rfl (za0 rfl zb4) [.int .u8 98] (zbp.single (k := (Kd.int .u8)) (h := (fun _ => none)) (x := 98) (cs := [.int .u8 98]) ⟨rfl, (in_u8 (by first|omega|(simp;omega)|assumption|simp) (by first|omega|(simp;omega)|assumption|simp))⟩) rfl
 have S9 := T8
 dsimp only [lAa, lAn, lA0, lAs] at S9
 refine p_v (v := v8) rfl rfl rfl (zat (pv := [(0, .int .u8 98)]) rfl r8) ?_
 obtain ⟨A10, c10, ev10, lc10, cm10⟩ := S9.row_val (j := 2) rfl
 refine p_c rfl rfl rfl (zba (args := [.slice A10 ([98] : List Int).length c10]) ca64 rfl (zd5 ev10 rfl)) (of_calls w8 ([98] : List Int) A10 c10 (And.intro lc10 cm10) (zc9 S9 (j := 2) rfl ev10)) ?_
 rintro _ w11 ⟨h11, T11, rfl⟩
 have S12 := S9.keep (Chg.of_below T11.below)
 obtain ⟨v13, w13, r13, g13, T13⟩ := za5 (kd := (Kd.int .u8)) (xs := ([99] : List Int)) (len := 1) [.int .u8 99] S12 u39 ty5 rfl rfl rfl rfl rfl (za0 rfl zb4) [.int .u8 99] (zbp.single (k := (Kd.int .u8)) (h := (fun _ => none)) (x := 99) (cs := [.int .u8 99]) ⟨rfl, (in_u8 (by first|omega|(simp;omega)|assumption|simp) (by first|omega|(simp;omega)|assumption|simp))⟩) rfl
 have S14 := T13
 dsimp only [lAa, lAn, lA0, lAs] at S14
 refine p_v (v := v13) rfl rfl rfl (zat (pv := [(0, .int .u8 99)]) rfl r13) ?_
 obtain ⟨A15, c15, ev15, lc15, cm15⟩ := S14.row_val (j := 3) rfl
 refine p_c rfl rfl rfl (zba (args := [.slice A15 ([99] : List Int).length c15]) ca64 rfl (zd5 ev15 rfl)) (of_calls w13 ([99] : List Int) A15 c15 (And.intro lc15 cm15) (zc9 S14 (j := 3) rfl ev15)) ?_
 rintro _ w16 ⟨h16, T16, rfl⟩
 have S17 := S14.keep (Chg.of_below T16.below)
 obtain ⟨v18, w18, r18, g18, T18⟩ := zd1 (kd := kSet) (xs := ([zbx ([97] : List Int), zbx ([98] : List Int), zbx ([99] : List Int)] : List BSet)) (len := 3) (m := 4) [(.agg (zak (zbx ([97] : List Int))).toArray, (zak (zbx ([97] : List Int)))), (.agg (zak (zbx ([98] : List Int))).toArray, (zak (zbx ([98] : List Int)))), (.agg (zak (zbx ([99] : List Int))).toArray, (zak (zbx ([99] : List Int))))] S17 u62 ty74 rfl rfl rfl rfl (zdk rfl rfl (zdk rfl rfl (zdk rfl rfl segs_nil))) (cs := ((zak (zbx ([97] : List Int))) ++ ((zak (zbx ([98] : List Int))) ++ ((zak (zbx ([99] : List Int))))))) (zbp.cons (k := kSet) (h := (fun _ => none)) (x := zbx ([97] : List Int)) (cs := (zak (zbx ([97] : List Int)))) ⟨rfl, trivial⟩ (zbp.cons (k := kSet) (h := (fun _ => none)) (x := zbx ([98] : List Int)) (cs := (zak (zbx ([98] : List Int)))) ⟨rfl, trivial⟩ (zbp.single (k := kSet) (h := (fun _ => none)) (x := zbx ([99] : List Int)) (cs := (zak (zbx ([99] : List Int)))) ⟨rfl, trivial⟩))) (by simp)
 have S19 := T18
 dsimp only [lAa, lAn, lA0, lAs] at S19
 refine p_v (v := v18) rfl rfl rfl (zat (pv := [(0, .agg (zak (zbx ([97] : List Int))).toArray), (1, .agg (zak (zbx ([98] : List Int))).toArray), (2, .agg (zak (zbx ([99] : List Int))).toArray)]) rfl r18) ?_
 obtain ⟨A20, c20, ev20, lc20, cm20⟩ := S19.row_val (j := 4) rfl
 refine p_c rfl rfl rfl (zba (args := [.slice A20 ([zbx ([97] : List Int), zbx ([98] : List Int), zbx ([99] : List Int)] : List BSet).length c20]) ca49 rfl (zd5 ev20 rfl)) (refine_calls w18 ([zbx ([97] : List Int), zbx ([98] : List Int), zbx ([99] : List Int)] : List BSet) A20 c20 (And.intro lc20 cm20) (zc9 S19 (j := 4) rfl ev20)) ?_
 rintro _ w21 ⟨h21, T21, rfl, ok21_0⟩
 have S22 := S19.keep (Chg.of_below T21.below)
 obtain ⟨w23, r23, g23, T23⟩ := zcj (P := Tryd.prog) (off := 0) (v := .agg (zad (zap ([zbx ([97] : List Int), zbx ([98] : List Int), zbx ([99] : List Int)] : List BSet))).toArray) (vs := (zad (zap ([zbx ([97] : List Int), zbx ([98] : List Int), zbx ([99] : List Int)] : List BSet)))) S22 ty32 rfl (zaf ok21_0) (j := 0) rfl (by rw [zaf (zao)]; decide) (zaz _)
 rw [lput_all (by rw [zaf ok21_0, zaf (zao)])] at T23
 have S24 := T23.fx 0 (box b1 32 (zad (zap ([zbx ([97] : List Int), zbx ([98] : List Int), zbx ([99] : List Int)] : List BSet)))) rfl
 dsimp only [lAa, lAn, lA0, lAs] at S24
 refine p_s rfl rfl (za2 rfl rfl r23) <| zac <| zax Tryd.func47 (res1 rfl (zcz S24 ty32 rfl (j := 0) rfl (zaf ok21_0) (by simp) rfl)) ?_
 have q0 : (lettersP : PartM) = zap ([zbx ([97] : List Int), zbx ([98] : List Int), zbx ([99] : List Int)] : List BSet) := by
  unfold lettersP; rfl
 refine ⟨_, rfl, (fun _ => none), ?_, ?_, ?_⟩
 · exact S24.sub [] (by decide) rfl _ rfl
 · first | rfl | (simp only [q0]; rfl) | (simp only [q0])
 · rw [q0]; first | assumption | exact zao
theorem awake11_calls (w : World) (tb : Block 0 tzTab w) :
    Calls Tryd.prog 19 #[] w fun e w' => ∃ v, e = .returned v ∧ ∃ (hn : Ghost), St w.heap.size w hn w' [] ∧ v = .bool true := by
 refine zas Tryd.func19 rfl Tryd.ntmps19 rfl ?_
 have S0 := St.init w
 refine zag <| zah (l := [0]) rfl <| p_v (v := .bool false) rfl rfl rfl (zaj rfl) <| zac <| zag <| zah (l := [0, 1, 2, 3, 4, 5, 6, 7, 8]) rfl <| p_c rfl rfl rfl (zba (args := []) ca46 rfl rfl) (some10_calls w ) ?_
 rintro _ w1 ⟨h1, v1_0, v1_1, v1_2, v1_3, T1, rfl⟩
 obtain ⟨k1, lk1, ll1, U1⟩ := zch S0 T1
 have S2 := U1
 dsimp only [lAa, lAn, lA0, lAs] at S2
 obtain ⟨h3, le3, T3, rp3⟩ := S2.freeze (i := 0) rfl
 have lf3_0 := (lk1).trans le3
 have S4 := T3.fx 0 (emp) rfl
 dsimp only [lAa, lAn, lA0, lAs] at S4
 obtain ⟨A3, c3, e3, lc3, cm3, ld3⟩ := rp3
 injection e3 with e3 _; subst e3
 have cn3 := cm3; simp only [maxLen] at cn3
 obtain ⟨h5, le5, T5, rp5⟩ := S4.freeze (i := 1) rfl
 have lf5_0 := (lf3_0).trans le5
 have lf5_1 := (le3).trans le5
 have S6 := T5.fx 1 (emp) rfl
 dsimp only [lAa, lAn, lA0, lAs] at S6
 obtain ⟨A5, c5, e5, lc5, cm5, ld5⟩ := rp5
 injection e5 with e5 _; subst e5
 have cn5 := cm5; simp only [maxLen] at cn5
 obtain ⟨h7, le7, T7, rp7⟩ := S6.freeze (i := 2) rfl
 have lf7_0 := (lf5_0).trans le7
 have lf7_1 := (lf5_1).trans le7
 have lf7_2 := (le5).trans le7
 have S8 := T7.fx 2 (emp) rfl
 dsimp only [lAa, lAn, lA0, lAs] at S8
 obtain ⟨A7, c7, e7, lc7, cm7, ld7⟩ := rp7
 injection e7 with e7 _; subst e7
 have cn7 := cm7; simp only [maxLen] at cn7
 obtain ⟨h9, le9, T9, rp9⟩ := S8.freeze (i := 3) rfl
 have lf9_0 := (lf7_0).trans le9
 have lf9_1 := (lf7_1).trans le9
 have lf9_2 := (lf7_2).trans le9
 have lf9_3 := (le7).trans le9
 have S10 := T9.fx 3 (emp) rfl
 dsimp only [lAa, lAn, lA0, lAs] at S10
 obtain ⟨A9, c9, e9, lc9, cm9, ld9⟩ := rp9
 injection e9 with e9 _; subst e9
 have cn9 := cm9; simp only [maxLen] at cn9
 refine p_c rfl rfl rfl (zba (args := []) ca47 rfl rfl) (letters_calls w1 ) ?_
 rintro _ w11 ⟨h11, T11, rfl, ok11_0⟩
 have S12 := S10.keep (Chg.of_below T11.below)
 refine p_c rfl rfl rfl (zba (args := [.agg #[.slice A3 zab.spots.length c3, .slice A5 zab.first.length c5, .slice A7 zab.follow.length c7, .slice A9 zab.last.length c9, .bool zab.empty], .agg (zad lettersP).toArray, .pointer none]) ca21 rfl rfl) (build_calls w11 zab A3 c3 (And.intro lc3 cm3) (ld3.mono (lf9_2.trans S12.ghost)) A5 c5 (And.intro lc5 cm5) (ld5.mono (lf9_3.trans S12.ghost)) A7 c7 (And.intro lc7 cm7) (ld7.mono (le9.trans S12.ghost)) A9 c9 (And.intro lc9 cm9) (ld9.mono ((Le.refl _).trans S12.ghost)) lettersP ok11_0 () (by first | assumption | omega | decide) (Block.st S12 tb)) ?_
 rintro _ w13 ⟨h13, v13_0, v13_1, T13, rfl, ok13_0, in13_1⟩
 obtain ⟨k13, lk13, ll13, U13⟩ := zch S12 T13
 have lc13_0 := (lf9_0).trans lk13
 have lc13_1 := (lf9_1).trans lk13
 have lc13_2 := (lf9_2).trans lk13
 have lc13_3 := (lf9_3).trans lk13
 have lc13_4 := (le9).trans lk13
 have S14 := U13
 dsimp only [lAa, lAn, lA0, lAs] at S14
 have lo_in13_1 := zbf in13_1; have hi_in13_1 := zbg in13_1
 obtain ⟨h15, le15, T15, rp15⟩ := S14.freeze (i := 4) rfl
 have lf15_0 := (lc13_0).trans le15
 have lf15_1 := (lc13_1).trans le15
 have lf15_2 := (lc13_2).trans le15
 have lf15_3 := (lc13_3).trans le15
 have lf15_4 := (lc13_4).trans le15
 have lf15_5 := (lk13).trans le15
 have S16 := T15.fx 4 (emp) rfl
 dsimp only [lAa, lAn, lA0, lAs] at S16
 obtain ⟨A15, c15, e15, lc15, cm15, ld15⟩ := rp15
 injection e15 with e15 _; subst e15
 have cn15 := cm15; simp only [maxLen] at cn15
 obtain ⟨h17, le17, T17, rp17⟩ := S16.freeze (i := 5) rfl
 have lf17_0 := (lf15_0).trans le17
 have lf17_1 := (lf15_1).trans le17
 have lf17_2 := (lf15_2).trans le17
 have lf17_3 := (lf15_3).trans le17
 have lf17_4 := (lf15_4).trans le17
 have lf17_5 := (lf15_5).trans le17
 have lf17_6 := (le15).trans le17
 have S18 := T17.fx 5 (emp) rfl
 dsimp only [lAa, lAn, lA0, lAs] at S18
 obtain ⟨A17, c17, e17, lc17, cm17, ld17⟩ := rp17
 injection e17 with e17 _; subst e17
 have cn17 := cm17; simp only [maxLen] at cn17
 refine p_v (v := .tuple #[.agg ((zad ((zaa zab lettersP).part)) ++ ([.slice A15 ((zaa zab lettersP).next).length c15, .slice A17 ((zaa zab lettersP).final).length c17] : List Value)).toArray, .int .i64 (errB zab lettersP)]) rfl rfl rfl (zai rfl) <| p_v (v := .agg ((zad ((zaa zab lettersP).part)) ++ ([.slice A15 ((zaa zab lettersP).next).length c15, .slice A17 ((zaa zab lettersP).final).length c17] : List Value)).toArray) rfl rfl rfl (zb1 (vs := [.agg ((zad ((zaa zab lettersP).part)) ++ ([.slice A15 ((zaa zab lettersP).next).length c15, .slice A17 ((zaa zab lettersP).final).length c17] : List Value)).toArray, .int .i64 (errB zab lettersP)]) rfl rfl) <| p_v (v := .int .i64 (errB zab lettersP)) rfl rfl rfl (zb1 (vs := [.agg ((zad ((zaa zab lettersP).part)) ++ ([.slice A15 ((zaa zab lettersP).next).length c15, .slice A17 ((zaa zab lettersP).final).length c17] : List Value)).toArray, .int .i64 (errB zab lettersP)]) rfl rfl) ?_
 obtain ⟨b19, w19, r19, g19, T19⟩ := zb0 (P := Tryd.prog) S18 35 (v := zv35) ((zad zPart) ++ ([.slice none 0 0, .slice none 0 0] : List Value)) (by kernel_rfl)
 have S20 := T19
 dsimp only [lAa, lAn, lA0, lAs] at S20
 refine p_v (v := .pointer (some ⟨b19, 0, none⟩)) rfl rfl rfl (zbr ty35 r19) ?_
 obtain ⟨w21, r21, g21, T21⟩ := za7 (P := Tryd.prog) (v := .agg ((zad ((zaa zab lettersP).part)) ++ ([.slice A15 ((zaa zab lettersP).next).length c15, .slice A17 ((zaa zab lettersP).final).length c17] : List Value)).toArray) (vs := ((zad ((zaa zab lettersP).part)) ++ ([.slice A15 ((zaa zab lettersP).next).length c15, .slice A17 ((zaa zab lettersP).final).length c17] : List Value))) (cs := ((zad zPart) ++ ([.slice none 0 0, .slice none 0 0] : List Value))) S20 ty35 rfl (zal (zaf ok13_0) rfl) (zal (zaf (zao)) rfl) (j := 6) rfl (zcc (zaz _) (by simp [Value.oneCell']))
 have S22 := T21.fx 6 (box b19 35 ((zad ((zaa zab lettersP).part)) ++ ([.slice A15 ((zaa zab lettersP).next).length c15, .slice A17 ((zaa zab lettersP).final).length c17] : List Value))) rfl
 dsimp only [lAa, lAn, lA0, lAs] at S22
 refine p_s rfl rfl (za2 rfl rfl r21) <| p_v (v := .int .i64 (errB zab lettersP)) rfl rfl rfl (zaj rfl) <| zac <| zag <| zah (l := [0, 1, 2, 3, 4, 5, 6, 7, 8, 9, 10, 11, 12, 13, 14, 15, 16, 17, 18, 19, 20, 21, 22, 23, 24, 25]) rfl <| p_v (v := .int .i64 (errB zab lettersP)) rfl rfl rfl (zai rfl) <| p_v (v := .bool (decide ((errB zab lettersP) = 0))) rfl rfl rfl (x_eql rfl rfl) <| p_v (v := .bool (decide ((errB zab lettersP) = 0))) rfl rfl rfl (zai rfl) ?_
 have hc23 : ((errB zab lettersP) = 0) := by
  exact some_1
 refine p_v (v := .agg ((zad ((zaa zab lettersP).part)) ++ ([.slice A15 ((zaa zab lettersP).next).length c15, .slice A17 ((zaa zab lettersP).final).length c17] : List Value)).toArray) rfl (wo 2 11 rfl rfl (bT hc23) rfl) rfl (zam (seg := ((zad ((zaa zab lettersP).part)) ++ ([.slice A15 ((zaa zab lettersP).next).length c15, .slice A17 ((zaa zab lettersP).final).length c17] : List Value))) ty35 (zal (zaf ok13_0) rfl) (by simp) rfl (CF.box (m := 259) (S22.box_at (j := 6) rfl) (zaw (zal (zaf ok13_0) rfl)))) <| p_c rfl (wo 2 11 rfl rfl (bT hc23) rfl) rfl (zba (args := [.agg ((zad ((zaa zab lettersP).part)) ++ ([.slice A15 ((zaa zab lettersP).next).length c15, .slice A17 ((zaa zab lettersP).final).length c17] : List Value)).toArray]) ca48 rfl rfl) (zea w21 (zaa zab lettersP) ok13_0 A15 c15 (And.intro lc15 cm15) (ld15.mono (le17.trans S22.ghost)) A17 c17 (And.intro lc17 cm17) (ld17.mono ((Le.refl _).trans S22.ghost))) ?_
 rintro _ w24 ⟨h24, T24, rfl⟩
 have S25 := S22.keep (Chg.of_below T24.below)
 refine p_v (v := .bool (zb7 (zaa zab lettersP))) rfl rfl rfl (zbs (bT hc23) rfl) <| p_v (v := .bool (zb7 (zaa zab lettersP))) rfl rfl rfl (zai rfl) ?_
 have hc26 : (zb7 (zaa zab lettersP)) = true := by
  exact some_2
 refine p_v (v := .pointer (some ⟨b19, 257, none⟩)) rfl (wo 6 15 rfl rfl (congrArg Value.bool hc26) rfl) rfl (zaq zef ty24 rfl rfl) <| p_v (v := .slice A15 ((zaa zab lettersP).next).length c15) rfl (wo 6 15 rfl rfl (congrArg Value.bool hc26) rfl) rfl (zam (seg := [.slice A15 ((zaa zab lettersP).next).length c15]) ty24 rfl (by simp) rfl (CF.box (m := 1) (S25.box_at (j := 6) rfl) (zbc (a := (zad ((zaa zab lettersP).part))) (pre := []) (seg := [.slice A15 ((zaa zab lettersP).next).length c15]) (post := [.slice A17 ((zaa zab lettersP).final).length c17]) (zaf ok13_0) rfl rfl))) <| p_v (v := .int .i64 (((zaa zab lettersP).next).length : Int)) rfl (wo 6 15 rfl rfl (congrArg Value.bool hc26) rfl) rfl (zbe u24 rfl) <| p_v (v := .bool (decide ((((zaa zab lettersP).next).length : Int) = 5))) rfl (wo 6 15 rfl rfl (congrArg Value.bool hc26) rfl) rfl (x_eql rfl rfl) <| p_v (v := .bool (decide ((((zaa zab lettersP).next).length : Int) = 5))) rfl rfl rfl (zbs (congrArg Value.bool hc26) rfl) <| p_v (v := .bool (decide ((((zaa zab lettersP).next).length : Int) = 5))) rfl rfl rfl (zai rfl) ?_
 have hc27 : ((((zaa zab lettersP).next).length : Int) = 5) := by
  exact some_3
 refine p_v (v := .agg ((zad ((zaa zab lettersP).part)) ++ ([.slice A15 ((zaa zab lettersP).next).length c15, .slice A17 ((zaa zab lettersP).final).length c17] : List Value)).toArray) rfl (wo 12 21 rfl rfl (bT hc27) rfl) rfl (zam (seg := ((zad ((zaa zab lettersP).part)) ++ ([.slice A15 ((zaa zab lettersP).next).length c15, .slice A17 ((zaa zab lettersP).final).length c17] : List Value))) ty35 (zal (zaf ok13_0) rfl) (by simp) rfl (CF.box (m := 259) (S25.box_at (j := 6) rfl) (zaw (zal (zaf ok13_0) rfl)))) <| p_c rfl (wo 12 21 rfl rfl (bT hc27) rfl) rfl (zba (args := [.agg ((zad ((zaa zab lettersP).part)) ++ ([.slice A15 ((zaa zab lettersP).next).length c15, .slice A17 ((zaa zab lettersP).final).length c17] : List Value)).toArray, .string (⟨#[]⟩ : ByteArray)]) ca24 rfl rfl) (zd8 w24 (zaa zab lettersP) ok13_0 A15 c15 (And.intro lc15 cm15) (ld15.mono (le17.trans S25.ghost)) A17 c17 (And.intro lc17 cm17) (ld17.mono ((Le.refl _).trans S25.ghost)) (⟨#[]⟩ : ByteArray) (by decide)) ?_
 rintro _ w28 ⟨h28, T28, rfl⟩
 have S29 := S25.keep (Chg.of_below T28.below)
 refine p_v (v := .bool (runD (zaa zab lettersP) (⟨#[]⟩ : ByteArray))) rfl rfl rfl (zbs (bT hc27) rfl) <| p_v (v := .bool (runD (zaa zab lettersP) (⟨#[]⟩ : ByteArray))) rfl rfl rfl (zai rfl) ?_
 have hc30 : (runD (zaa zab lettersP) (⟨#[]⟩ : ByteArray)) = true := by
  exact some_4
 refine p_v (v := .agg ((zad ((zaa zab lettersP).part)) ++ ([.slice A15 ((zaa zab lettersP).next).length c15, .slice A17 ((zaa zab lettersP).final).length c17] : List Value)).toArray) rfl (wo 16 25 rfl rfl (congrArg Value.bool hc30) rfl) rfl (zam (seg := ((zad ((zaa zab lettersP).part)) ++ ([.slice A15 ((zaa zab lettersP).next).length c15, .slice A17 ((zaa zab lettersP).final).length c17] : List Value))) ty35 (zal (zaf ok13_0) rfl) (by simp) rfl (CF.box (m := 259) (S29.box_at (j := 6) rfl) (zaw (zal (zaf ok13_0) rfl)))) <| p_c rfl (wo 16 25 rfl rfl (congrArg Value.bool hc30) rfl) rfl (zba (args := [.agg ((zad ((zaa zab lettersP).part)) ++ ([.slice A15 ((zaa zab lettersP).next).length c15, .slice A17 ((zaa zab lettersP).final).length c17] : List Value)).toArray, .string (⟨#[97, 98]⟩ : ByteArray)]) ca24 rfl rfl) (zd8 w28 (zaa zab lettersP) ok13_0 A15 c15 (And.intro lc15 cm15) (ld15.mono (le17.trans S29.ghost)) A17 c17 (And.intro lc17 cm17) (ld17.mono ((Le.refl _).trans S29.ghost)) (⟨#[97, 98]⟩ : ByteArray) (by decide)) ?_
 rintro _ w31 ⟨h31, T31, rfl⟩
 have S32 := S29.keep (Chg.of_below T31.below)
 refine p_v (v := .bool (runD (zaa zab lettersP) (⟨#[97, 98]⟩ : ByteArray))) rfl rfl rfl (zbs (congrArg Value.bool hc30) rfl) <| p_v (v := .bool (runD (zaa zab lettersP) (⟨#[97, 98]⟩ : ByteArray))) rfl rfl rfl (zai rfl) ?_
 have hc33 : (runD (zaa zab lettersP) (⟨#[97, 98]⟩ : ByteArray)) = true := by
  exact some_5
 refine p_v (v := .agg ((zad ((zaa zab lettersP).part)) ++ ([.slice A15 ((zaa zab lettersP).next).length c15, .slice A17 ((zaa zab lettersP).final).length c17] : List Value)).toArray) rfl (wo 20 29 rfl rfl (congrArg Value.bool hc33) rfl) rfl (zam (seg := ((zad ((zaa zab lettersP).part)) ++ ([.slice A15 ((zaa zab lettersP).next).length c15, .slice A17 ((zaa zab lettersP).final).length c17] : List Value))) ty35 (zal (zaf ok13_0) rfl) (by simp) rfl (CF.box (m := 259) (S32.box_at (j := 6) rfl) (zaw (zal (zaf ok13_0) rfl)))) <| p_c rfl (wo 20 29 rfl rfl (congrArg Value.bool hc33) rfl) rfl (zba (args := [.agg ((zad ((zaa zab lettersP).part)) ++ ([.slice A15 ((zaa zab lettersP).next).length c15, .slice A17 ((zaa zab lettersP).final).length c17] : List Value)).toArray, .string (⟨#[97, 99]⟩ : ByteArray)]) ca24 rfl rfl) (zd8 w31 (zaa zab lettersP) ok13_0 A15 c15 (And.intro lc15 cm15) (ld15.mono (le17.trans S32.ghost)) A17 c17 (And.intro lc17 cm17) (ld17.mono ((Le.refl _).trans S32.ghost)) (⟨#[97, 99]⟩ : ByteArray) (by decide)) ?_
 rintro _ w34 ⟨h34, T34, rfl⟩
 have S35 := S32.keep (Chg.of_below T34.below)
 refine p_v (v := .bool (!(runD (zaa zab lettersP) (⟨#[97, 99]⟩ : ByteArray)))) rfl (wo 20 29 rfl rfl (congrArg Value.bool hc33) rfl) rfl (x_not rfl) <| p_v (v := .bool (!(runD (zaa zab lettersP) (⟨#[97, 99]⟩ : ByteArray)))) rfl rfl rfl (zbs (congrArg Value.bool hc33) rfl) <| p_v (v := .bool (!(runD (zaa zab lettersP) (⟨#[97, 99]⟩ : ByteArray)))) rfl rfl rfl (zaj rfl) <| zac ?_
 have hc36 : (runD (zaa zab lettersP) (⟨#[97, 99]⟩ : ByteArray)) = false := by
  exact some_6
 refine zax Tryd.func19 (res1 rfl (za4 (v := .bool true) (congrArg (fun z => Value.bool (!z)) hc36))) ?_
 have q0 : (true : Bool) = true := rfl
 refine ⟨_, rfl, h17, ?_, ?_⟩
 · exact S35.sub [] (by decide) rfl _ rfl
 · rfl
end Go.Proofs.YtfoemogojbnfhaaDoor
namespace Gx
open Go Go.RowKit
set_option linter.unusedSimpArgs false
set_option linter.unusedSectionVars false
set_option linter.unusedVariables false
section
variable {α β : Type} [DecidableEq α]
def KN (kvs : List (α × β)) : Prop := (kvs.map (·.1)).Nodup
end
structure Off (t : Int) (O : Int → List Int → Prop) (kvs : List (Int × ByteArray)) : Prop where
  kn : KN kvs
  len : ∀ i u, O i u → (u.length : Int) = t
  yes : ∀ p ∈ kvs, O p.1 (bytesL p.2) ∧ ∀ u, O p.1 u → leL (bytesL p.2) u
  all : ∀ i u, O i u → ∃ s, (i, s) ∈ kvs
theorem off_none {t : Int} {O : Int → List Int → Prop} (h : ∀ i u, ¬ O i u) : Off t O [] := ⟨by unfold KN; simp, fun i u hO => absurd hO (h i u), fun p hp => (by cases hp), fun i u hO => absurd hO (h i u)⟩
theorem Off.congr {t : Int} {O O' : Int → List Int → Prop} {kvs : List (Int × ByteArray)} (h : Off t O kvs) (e : ∀ i u, O' i u ↔ O i u) : Off t O' kvs :=
  ⟨h.kn, fun i u hO => h.len i u ((e i u).1 hO), fun p hp => ⟨(e _ _).2 (h.yes p hp).1, fun u hu => (h.yes p hp).2 u ((e _ _).1 hu)⟩, fun i u hO => h.all i u ((e i u).1 hO)⟩
end Gx
namespace Gx
open Go Go.RowKit
set_option linter.unusedSimpArgs false
set_option linter.unusedSectionVars false
set_option linter.unusedVariables false
def O1 (m : Mach) (k : Int) (i : Int) (u : List Int) : Prop := (∃ q : Int, 0 ≤ q ∧ q < k ∧ at_ m.first q = i) ∧ someIn (at_ m.spots i).set = true ∧ u = [first (at_ m.spots i).set]
def O2 (m : Mach) (seen : List Bool) (done : List (Int × ByteArray)) (i : Int) (u : List Int) : Prop := ∃ p ∈ done, i ∈ at_ m.follow p.1 ∧ at_ seen i = false ∧ someIn (at_ m.spots i).set = true ∧ u = bytesL p.2 ++ [first (at_ m.spots i).set]
def O3 (m : Mach) (seen : List Bool) (done : List (Int × ByteArray)) (p : Int × ByteArray) (k : Int) (i : Int) (u : List Int) : Prop := O2 m seen done i u ∨ ((∃ q : Int, 0 ≤ q ∧ q < k ∧ at_ (at_ m.follow p.1) q = i) ∧ at_ seen i = false ∧ someIn (at_ m.spots i).set = true ∧ u = bytesL p.2 ++ [first (at_ m.spots i).set])
section
variable {m : Mach} {kvs : List (Int × ByteArray)} {k t : Int}
theorem o1_0 (m : Mach) : Off 1 (O1 m 0) [] := off_none fun i u h => by obtain ⟨⟨q, q0, q1, _⟩, _⟩ := h; omega
section
variable {seen : List Bool} {done : List (Int × ByteArray)} {p : Int × ByteArray} {nx : List (Int × ByteArray)}
theorem o2_0 (m : Mach) (seen : List Bool) (t : Int) : Off t (O2 m seen []) [] := off_none fun i u h => by obtain ⟨p, hp, _⟩ := h; cases hp
theorem o3_0 (h : Off t (O2 m seen done) nx) (p : Int × ByteArray) : Off t (O3 m seen done p 0) nx := h.congr fun i u => by
  unfold O3
  exact ⟨fun h => by rcases h with h | ⟨⟨q, q0, q1, _⟩, _⟩; exact h; omega, .inl⟩
end
end
end Gx
namespace Gx
open Go Go.RowKit
set_option linter.unusedSimpArgs false
set_option linter.unusedSectionVars false
set_option linter.unusedVariables false
section
variable {P : Program} {ρ : Env} {w : World} {d : Option Tmp} {ty : TypeId} {pos : String} {af : Array Edge} {g : Option (Nat × Bool)} {x y : Operand}
end
theorem CF.sub {w : World} {ad : Addr} {cs ds : List Value} {o m : Nat} (hc : CF ad cs w) (hs : (cs.drop o).take m = ds) : CF (ad.add o) ds w := fun j v hj => by
  rw [add_add]
  refine hc _ _ ?_
  rw [← hs, List.getElem?_take] at hj
  split at hj
  · rwa [List.getElem?_drop] at hj
  · cases hj
end Gx
namespace Gx
open Go Go.RowKit
set_option linter.unusedSimpArgs false
set_option linter.unusedSectionVars false
set_option linter.unusedVariables false
structure RefD where
  least : List Int
  next : List (List Int)
  final : List Bool
instance : Inhabited RefD := ⟨⟨[], [], []⟩⟩
def Given (x : RefD) (d : Dfa) : Prop := zb7 d = true ∧ okPart d.part ∧ x.least = zbd d.part ∧ x.next = d.next ∧ x.final = d.final
section
variable {d : Dfa} {tx nx : List ByteArray} {is th : List Bool} {s q k r : Int}
end
end Gx
namespace Gx
open Go Go.RowKit
set_option linter.unusedSimpArgs false
set_option linter.unusedSectionVars false
set_option linter.unusedVariables false
section
variable {P : Program} {w : World} {ρ : Env} {d : Option Nat} {x y : Operand} {ty : TypeId} {pos : String} {af : Array Edge} {g : Option (Nat × Bool)}
end
structure WayI (m : Mach) (src : List Int) (to' : Int) (texts : List ByteArray) (seen : List Bool) (todo : List Int) (i : Int) : Prop where
  way : Way m src texts seen todo
  done : ∀ k : Int, 0 ≤ k → k < i → k < (todo.length : Int) → (∀ x ∈ at_ m.follow (at_ todo k), x ∈ todo) ∧ at_ todo k ≠ to'
structure WayK (m : Mach) (src : List Int) (to' a : Int) (texts : List ByteArray) (seen : List Bool) (todo : List Int) (i k : Int) : Prop where
  base : WayI m src to' texts seen todo i
  lo : 0 ≤ i
  hi : i < (todo.length : Int)
  cur : at_ todo i = a
  row : ∀ q : Int, 0 ≤ q → q < k → q < ((at_ m.follow a).length : Int) → at_ (at_ m.follow a) q ∈ todo
theorem WayK.inn {m : Mach} {src : List Int} {to' a : Int} {texts : List ByteArray} {seen : List Bool} {todo : List Int} {i k : Int} (W : WayK m src to' a texts seen todo i k) : 0 ≤ a ∧ a < (m.spots.length : Int) := by
  rw [← W.cur]; exact W.base.way.inn _ (at_mem W.lo W.hi)
theorem WayK.size {m : Mach} {src : List Int} {to' a : Int} {texts : List ByteArray} {seen : List Bool} {todo : List Int} {i k : Int} (W : WayK m src to' a texts seen todo i k) : ((at_ texts a).size : Int) ≤ m.spots.length := by
  rw [← W.cur]; exact way_size W.base.way W.lo W.hi
end Gx
namespace Go.Proofs.YtfoemogojbnfhaaDoor
open Go Go.RowKit Gx
set_option maxHeartbeats 1000000
set_option linter.unusedVariables false
set_option linter.unusedSimpArgs false
set_option maxRecDepth 8000
attribute [local irreducible] zb6 count first someIn has zbx wbits Lib.ctz zd3 zcu rowOk tab markP intoP zej runTo endsIn runM anyTo allTo badQ zd0 zb7 goD runD notD errD notTo zcd zde howB zdv zae errO zb9 nextC outTo zek rowIn zdh lastB zbd zds zaa errB fitsP madeM allM bfs zdf putB beginB okB
theorem same11_calls (w : World) (s1 : List Int) (A0 : Option Addr) (c0 : Nat) (b0 : s1.length ≤ c0 ∧ c0 ≤ maxLen) (l0 : zbz (Kd.int .i64) (hp w) A0 s1) (s2 : List Int) (A1 : Option Addr) (c1 : Nat) (b1 : s2.length ≤ c1 ∧ c1 ≤ maxLen) (l1 : zbz (Kd.int .i64) (hp w) A1 s2) :
    Calls Tryd.prog 96 #[.slice A0 s1.length c0, .slice A1 s2.length c1] w fun e w' => ∃ v, e = .returned v ∧ ∃ (hn : Ghost), St w.heap.size w hn w' [] ∧ v = .bool (decide (s1 = s2)) := by
 refine zas Tryd.func96 rfl Tryd.ntmps96 rfl ?_
 have S0 := St.init w
 have bb0 := b0.1; have bc0 := b0.2; simp only [maxLen] at bc0
 have bb1 := b1.1; have bc1 := b1.2; simp only [maxLen] at bc1
 refine zag <| zah (l := [0]) rfl <| p_v (v := .bool false) rfl rfl rfl (zaj rfl) <| zac <| zag <| zag <| zah (l := [0, 1, 2, 3, 4]) rfl <| p_v (v := .slice A0 s1.length c0) rfl rfl rfl (zai rfl) <| p_v (v := .int .i64 (s1.length : Int)) rfl rfl rfl (zbe u23 rfl) <| p_v (v := .slice A1 s2.length c1) rfl rfl rfl (zai rfl) <| p_v (v := .int .i64 (s2.length : Int)) rfl rfl rfl (zbe u23 rfl) <| p_v (v := .bool (decide ((s1.length : Int) ≠ (s2.length : Int)))) rfl rfl rfl (x_neq rfl rfl) ?_
 refine zac ?_
 refine zau (p := (s1.length : Int) ≠ (s2.length : Int)) rfl (fun hc1 => ?_) (fun hc1 => ?_)
 ·skip
  refine zag <| zah (l := [0]) rfl <| p_v (v := .bool false) rfl rfl rfl (zaj rfl) <| zac <| zax Tryd.func96 (res1 rfl (za4 (v := .bool false) rfl)) ?_
  have q0 : (decide (s1 = s2) : Bool) = false := by
   exact eq_no1 (by assumption)
  refine ⟨_, rfl, (fun _ => none), ?_, ?_⟩
  · exact S0.sub [] (by decide) rfl _ rfl
  · first | rfl | (simp only [q0]; rfl) | (simp only [q0])
 refine za6 <| zag <| zag <| zah (l := [0]) rfl <| p_v (v := .int .i64 0) rfl rfl rfl (zaj rfl) <| zac <| zay <| zce (S := Int) (fun (q_ : Int) ρ w' => match q_ with | i => ∃ (h : Ghost), Le (fun _ => none) h ∧ St w.heap.size w h w' [] ∧ ρ 0 = .slice A0 s1.length c0 ∧ ρ 1 = .slice A1 s2.length c1 ∧ ρ 5 = .int .i64 i ∧ inK .i64 i ∧ (0 ≤ i ∧ i ≤ (s1.length : Int) ∧ s1.take i.toNat = s2.take i.toNat)) (fun q_ => match q_ with | i => (s1.length - i).toNat) (0) ⟨(fun _ => none), Le.refl _, S0.sub [] (by decide) rfl _ rfl, rfl, rfl, rfl, (zar (by omega) (by omega)), (by exact ⟨by omega, by omega, rfl⟩)⟩ ?_
 rintro i ih2 ρ2 w2 ⟨h2, le2, S2, r2_0, r2_1, r2_5, f2_0, hI2⟩
 have lf2_0 := zbf f2_0; have hf2_0 := zbg f2_0
 refine zag <| zag <| zah (l := [0, 1, 2, 3]) rfl <| p_v (v := .int .i64 i) rfl rfl rfl (zai r2_5) <| p_v (v := .slice A0 s1.length c0) rfl rfl rfl (zai r2_0) <| p_v (v := .int .i64 (s1.length : Int)) rfl rfl rfl (zbe u23 rfl) <| p_v (v := .bool (decide (i < (s1.length : Int)))) rfl rfl rfl (zd6 rfl rfl) <| zac ?_
 refine zau (p := i < (s1.length : Int)) rfl (fun hc3 => ?_) (fun hc3 => ?_)
 ·skip
  refine za6 <| zag <| zay <| zag ?_
  obtain ⟨ad4, seg4, a4, rp4, ce4⟩ := zbj (q := i) (m := 1) l0 rfl (by omega) (by omega)
  obtain ⟨rfl, in4⟩ := rp4
  have lo4 := zbf in4; have hi4 := zbg in4
  obtain ⟨ad5, seg5, a5, rp5, ce5⟩ := zbj (q := i) (m := 1) l1 rfl (by omega) (by omega)
  obtain ⟨rfl, in5⟩ := rp5
  have lo5 := zbf in5; have hi5 := zbg in5
  have hf6 : (CFs ad4 [.int .i64 (at_ s1 i)]).1 w2 := (CF.ghost ce4 (St.le0 S2))
  have hf7 : (CFs ad5 [.int .i64 (at_ s2 i)]).1 w2 := (CF.ghost ce5 (St.le0 S2))
  refine daS (hkC 3 hf6 (hkC 7 hf7 (hkN (w := w2)))) 9 rfl mixed ?_
  intro wd8 gd8 hd8
  have S9 := S2.keep gd8
  have hf10 := spUp gd8 hf6
  have hf11 := spUp gd8 hf7
  refine qd0 (i := 0) (v := .slice A0 s1.length c0) rfl (by decide +kernel) rfl rfl (zai r2_0) (zan rfl) <| qd0 (i := 1) (v := .int .i64 i) rfl (by decide +kernel) rfl rfl (zai r2_5) (zan rfl) <| qd0 (i := 2) (v := .pointer (some ad4)) rfl (by decide +kernel) rfl rfl (zbi u23 ty3 rfl rfl a4 (by omega) (by omega)) (zan rfl) <| qd1 0 (i := 3) (v := .int .i64 (at_ s1 i)) rfl rfl (by decide +kernel) rfl rfl (fun wq hq => (zam (seg := [.int .i64 (at_ s1 i)]) ty3 rfl (by simp) rfl hq)) (zbm hf10 (zan rfl)) <| qd0 (i := 4) (v := .slice A1 s2.length c1) rfl (by decide +kernel) rfl rfl (zai r2_1) (zan rfl) <| qd0 (i := 5) (v := .int .i64 i) rfl (by decide +kernel) rfl rfl (zai r2_5) (zan rfl) <| qd0 (i := 6) (v := .pointer (some ad5)) rfl (by decide +kernel) rfl rfl (zbi u23 ty3 rfl rfl a5 (by omega) (by omega)) (zan rfl) <| qd1 1 (i := 7) (v := .int .i64 (at_ s2 i)) rfl rfl (by decide +kernel) rfl rfl (fun wq hq => (zam (seg := [.int .i64 (at_ s2 i)]) ty3 rfl (by simp) rfl hq)) (za8 rfl (zbm hf11 (zan rfl))) <| qd0 (i := 8) (v := .bool (decide ((at_ s1 i) ≠ (at_ s2 i)))) rfl (by decide +kernel) rfl rfl (x_neq rfl rfl) (zan rfl) <| zcb (by decide +kernel) ?_
  intro wd12 gd12
  have S13 := S9.keep gd12
  refine zau (p := (at_ s1 i) ≠ (at_ s2 i)) rfl (fun hc14 => ?_) (fun hc14 => ?_)
  ·skip
   refine zag <| zah (l := [0]) rfl <| p_v (v := .bool false) rfl rfl rfl (zaj rfl) <| zac <| zax Tryd.func96 (res1 rfl (za4 (v := .bool false) rfl)) ?_
   have q0 : (decide (s1 = s2) : Bool) = false := by
    exact eq_no2 (t := i) (by assumption)
   refine ⟨_, rfl, h2, ?_, ?_⟩
   · exact S13.sub [] (by decide) rfl _ rfl
   · first | rfl | (simp only [q0]; rfl) | (simp only [q0])
  refine za6 <| za3 <| zah (l := [0, 1, 2]) rfl <| p_v (v := .int .i64 i) rfl rfl rfl (zai r2_5) <| p_v (v := .int .i64 (i + 1)) rfl rfl rfl (zdj rfl rfl (zar (by omega) (by omega))) <| p_v (v := .int .i64 (i + 1)) rfl rfl rfl (zaj rfl) <| zac ?_
  refine ih2 (i + 1) _ _ (by dsimp only; omega) ⟨h2, le2, S13.sub [] (by decide) rfl _ rfl, r2_0, r2_1, rfl, (zar (by omega) (by omega)), (by exact ⟨by omega, by omega, eq_step hI2.1 (by omega) (by omega) hI2.2.2 (Decidable.not_not.1 (by assumption))⟩)⟩
 refine zcf rfl <| zag <| zah (l := [0]) rfl <| p_v (v := .bool true) rfl rfl rfl (zaj rfl) <| zac <| zax Tryd.func96 (res1 rfl (za4 (v := .bool true) rfl)) ?_
 have q0 : (decide (s1 = s2) : Bool) = true := by
  exact eq_yes (t := i) (by omega) (by omega) hI2.2.2
 refine ⟨_, rfl, h2, ?_, ?_⟩
 · exact S2.sub [] (by decide) rfl _ rfl
 · (simp only [q0])
end Go.Proofs.YtfoemogojbnfhaaDoor
namespace Gx
open Go Go.RowKit
set_option linter.unusedSimpArgs false
set_option linter.unusedSectionVars false
set_option linter.unusedVariables false
def nextR2 (a b : RefD) (s : List Int) (k : Int) : List Int := [at_ (at_ a.next (at_ s 0)) k, at_ (at_ b.next (at_ s 1)) k]
def finalR2 (a b : RefD) (n : Int) (s : List Int) : Bool := howB (at_ a.final (at_ s 0)) (at_ b.final (at_ s 1)) n
def listP (s : Int × Int) : List Int := [s.1, s.2]
structure Both2 (a b : RefD) (A B : Dfa) : Prop where
  ga : Given a A
  gb : Given b B
  part : A.part = B.part
  la : (A.next.length : Int) ≤ 1048577
  lb : (B.next.length : Int) ≤ 1048577
section
variable {a b : RefD} {A B : Dfa}
theorem Both2.ra (h : Both2 a b A B) : RightD A := rightD_of h.ga.2.1 h.ga.1
theorem Both2.rb (h : Both2 a b A B) : RightD B := rightD_of h.gb.2.1 h.gb.1
theorem Both2.n (h : Both2 a b A B) : (a.least.length : Int) = A.part.n := by rw [h.ga.2.2.1]; exact leastB_len h.ra.part
theorem Both2.next (h : Both2 a b A B) (s : Int × Int) (k : Int) : nextR2 a b (listP s) k = listP (zcd A B s k) := by
  unfold nextR2 listP zcd
  rw [h.ga.2.2.2.1, h.gb.2.2.2.1]; rfl
theorem Both2.fin (h : Both2 a b A B) (n : Int) (s : Int × Int) : finalR2 a b n (listP s) = zde A B n s := by
  unfold finalR2 listP zde
  rw [h.ga.2.2.2.2, h.gb.2.2.2.2]; rfl
theorem Both2.first (h : Both2 a b A B) : InP A B (0, 0) := ⟨⟨Int.le_refl _, h.ra.some_⟩, Int.le_refl _, h.rb.some_⟩
theorem Both2.step (h : Both2 a b A B) (s : Int × Int) (k : Int) (hs : InP A B s) (h0 : 0 ≤ k) (h1 : k < (a.least.length : Int)) : InP A B (zcd A B s k) := nextP_in h.ra h.rb (by rw [h.part]) hs h0 (by rw [← h.n]; exact h1)
variable {fin : List Int → Bool} {all all2 : List (List Int)} {mp mp2 : List (List Int × Int)} {nx : List (List Int)} {fl : List Bool} {l : List Int} {i k : Int} {s : List Int}
end
def sameR (a b : RefD) : Bool := decide (a.next = b.next) && decide (a.final = b.final)
theorem sameR_1 {a b : RefD} (h : (a.next.length : Int) ≠ b.next.length) : sameR a b = false := by
  unfold sameR
  rw [decide_eq_false (fun e => h (by rw [e]))]; rfl
theorem sameR_2 {a b : RefD} (h : (a.final.length : Int) ≠ b.final.length) : sameR a b = false := by
  unfold sameR
  rw [decide_eq_false (p := a.final = b.final) (fun e => h (by rw [e]))]; simp
theorem sameR_3 {a b : RefD} {i : Int} (h : at_ a.next i ≠ at_ b.next i) : sameR a b = false := by
  unfold sameR
  rw [decide_eq_false (fun e => h (by rw [e]))]; rfl
theorem sameR_4 {a b : RefD} {i : Int} (h : at_ a.final i ≠ at_ b.final i) : sameR a b = false := by
  unfold sameR
  rw [decide_eq_false (p := a.final = b.final) (fun e => h (by rw [e]))]; simp
theorem sameR_5 {a b : RefD} (h1 : decide (a.next = b.next) = true) (h2 : decide (a.final = b.final) = true) : sameR a b = true := by unfold sameR; rw [h1, h2]; rfl
theorem sameR_yes {a b : RefD} (h1 : a.next = b.next) (h2 : a.final = b.final) : sameR a b = true := by unfold sameR; rw [decide_eq_true h1, decide_eq_true h2]; rfl
end Gx
namespace Go.Proofs.YtfoemogojbnfhaaDoor
open Go Go.RowKit Gx
set_option maxHeartbeats 1000000
set_option linter.unusedVariables false
set_option linter.unusedSimpArgs false
set_option maxRecDepth 8000
attribute [local irreducible] zb6 count first someIn has zbx wbits Lib.ctz zd3 zcu rowOk tab markP intoP zej runTo endsIn runM anyTo allTo badQ zd0 zb7 goD runD notD errD notTo zcd zde howB zdv zae errO zb9 nextC outTo zek rowIn zdh lastB zbd zds zaa errB fitsP madeM allM bfs zdf putB beginB okB sameR
theorem sameR_calls (w : World) (a : RefD) (A0_0 : Option Addr) (c0_0 : Nat) (b0_0 : a.least.length ≤ c0_0 ∧ c0_0 ≤ maxLen) (l0_0 : zbz (Kd.int .u8) (hp w) A0_0 a.least) (A0_1 : Option Addr) (c0_1 : Nat) (b0_1 : a.next.length ≤ c0_1 ∧ c0_1 ≤ maxLen) (l0_1 : zbz (Kd.int .i64).slice (hp w) A0_1 a.next) (A0_2 : Option Addr) (c0_2 : Nat) (b0_2 : a.final.length ≤ c0_2 ∧ c0_2 ≤ maxLen) (l0_2 : zbz Kd.bool (hp w) A0_2 a.final) (b : RefD) (A1_0 : Option Addr) (c1_0 : Nat) (b1_0 : b.least.length ≤ c1_0 ∧ c1_0 ≤ maxLen) (l1_0 : zbz (Kd.int .u8) (hp w) A1_0 b.least) (A1_1 : Option Addr) (c1_1 : Nat) (b1_1 : b.next.length ≤ c1_1 ∧ c1_1 ≤ maxLen) (l1_1 : zbz (Kd.int .i64).slice (hp w) A1_1 b.next) (A1_2 : Option Addr) (c1_2 : Nat) (b1_2 : b.final.length ≤ c1_2 ∧ c1_2 ≤ maxLen) (l1_2 : zbz Kd.bool (hp w) A1_2 b.final) :
    Calls Tryd.prog 30 #[.agg #[.slice A0_0 a.least.length c0_0, .slice A0_1 a.next.length c0_1, .slice A0_2 a.final.length c0_2], .agg #[.slice A1_0 b.least.length c1_0, .slice A1_1 b.next.length c1_1, .slice A1_2 b.final.length c1_2]] w fun e w' => ∃ v, e = .returned v ∧ ∃ (hn : Ghost), St w.heap.size w hn w' [] ∧ v = .bool (sameR a b) := by
 refine zas Tryd.func30 rfl Tryd.ntmps30 rfl ?_
 have S0 := St.init w
 have bb0_0 := b0_0.1; have bc0_0 := b0_0.2; simp only [maxLen] at bc0_0
 have bb0_1 := b0_1.1; have bc0_1 := b0_1.2; simp only [maxLen] at bc0_1
 have bb0_2 := b0_2.1; have bc0_2 := b0_2.2; simp only [maxLen] at bc0_2
 have bb1_0 := b1_0.1; have bc1_0 := b1_0.2; simp only [maxLen] at bc1_0
 have bb1_1 := b1_1.1; have bc1_1 := b1_1.2; simp only [maxLen] at bc1_1
 have bb1_2 := b1_2.1; have bc1_2 := b1_2.2; simp only [maxLen] at bc1_2
 refine zag <| zah (l := [0, 1, 2]) rfl ?_
 obtain ⟨b11, w11, r11, g11, T11⟩ := zb0 (P := Tryd.prog) S0 47 (v := .agg #[.slice A0_0 a.least.length c0_0, .slice A0_1 a.next.length c0_1, .slice A0_2 a.final.length c0_2]) [.slice A0_0 a.least.length c0_0, .slice A0_1 a.next.length c0_1, .slice A0_2 a.final.length c0_2] rfl
 have S12 := T11
 dsimp only [lAa, lAn, lA0, lAs] at S12
 refine p_v (v := .pointer (some ⟨b11, 0, none⟩)) rfl rfl rfl (zdi rfl r11) ?_
 obtain ⟨b13, w13, r13, g13, T13⟩ := zb0 (P := Tryd.prog) S12 47 (v := .agg #[.slice A1_0 b.least.length c1_0, .slice A1_1 b.next.length c1_1, .slice A1_2 b.final.length c1_2]) [.slice A1_0 b.least.length c1_0, .slice A1_1 b.next.length c1_1, .slice A1_2 b.final.length c1_2] rfl
 have S14 := T13
 dsimp only [lAa, lAn, lA0, lAs] at S14
 refine p_v (v := .pointer (some ⟨b13, 0, none⟩)) rfl rfl rfl (zdi rfl r13) <| p_v (v := .bool false) rfl rfl rfl (zaj rfl) <| zac <| zag <| zag <| zah (l := [0, 1, 2, 3, 4, 5, 6, 7, 8, 9, 10, 11, 12, 13, 14, 15]) rfl <| p_v (v := .pointer (some ⟨b11, 1, none⟩)) rfl rfl rfl (zaq fd47_1 ty24 rfl rfl) <| p_v (v := .slice A0_1 a.next.length c0_1) rfl rfl rfl (zam (seg := [.slice A0_1 a.next.length c0_1]) ty24 rfl (by simp) rfl (CF.box (m := 1) (S14.box_at (j := 0) rfl) rfl)) <| p_v (v := .int .i64 (a.next.length : Int)) rfl rfl rfl (zbe u24 rfl) <| p_v (v := .pointer (some ⟨b13, 1, none⟩)) rfl rfl rfl (zaq fd47_1 ty24 rfl rfl) <| p_v (v := .slice A1_1 b.next.length c1_1) rfl rfl rfl (zam (seg := [.slice A1_1 b.next.length c1_1]) ty24 rfl (by simp) rfl (CF.box (m := 1) (S14.box_at (j := 1) rfl) rfl)) <| p_v (v := .int .i64 (b.next.length : Int)) rfl rfl rfl (zbe u24 rfl) ?_
 refine p_v (v := .bool (decide ((a.next.length : Int) ≠ (b.next.length : Int)))) rfl rfl rfl (x_neq rfl rfl) <| p_v (v := .bool (decide ((a.next.length : Int) ≠ (b.next.length : Int)))) rfl rfl rfl (zai rfl) ?_
 by_cases hc15 : (a.next.length : Int) ≠ (b.next.length : Int)
 ·skip
  refine zby rfl (wo 7 14 rfl rfl (bT hc15) rfl) rfl <| zby rfl (wo 7 14 rfl rfl (bT hc15) rfl) rfl <| zby rfl (wo 7 14 rfl rfl (bT hc15) rfl) rfl <| zby rfl (wo 7 14 rfl rfl (bT hc15) rfl) rfl <| zby rfl (wo 7 14 rfl rfl (bT hc15) rfl) rfl <| zby rfl (wo 7 14 rfl rfl (bT hc15) rfl) rfl <| zby rfl (wo 7 14 rfl rfl (bT hc15) rfl) rfl <| p_v (v := .bool true) rfl rfl rfl (zbs (bT hc15) rfl) <| zac <| zcy (b := true) rfl ?_
  simp only [if_true, if_false, Bool.false_eq_true]
  refine zag <| zah (l := [0]) rfl <| p_v (v := .bool false) rfl rfl rfl (zaj rfl) <| zac <| zax Tryd.func30 (res1 rfl (za4 (v := .bool false) rfl)) ?_
  have q0 : (sameR a b : Bool) = false := by
   exact sameR_1 (by assumption)
  refine ⟨_, rfl, (fun _ => none), ?_, ?_⟩
  · exact S14.sub [] (by decide) rfl _ rfl
  · first | rfl | (simp only [q0]; rfl) | (simp only [q0])
 refine p_v (v := .pointer (some ⟨b11, 2, none⟩)) rfl (wo 7 14 rfl rfl (bF hc15) rfl) rfl (zaq fd47_2 ty25 rfl rfl) <| p_v (v := .slice A0_2 a.final.length c0_2) rfl (wo 7 14 rfl rfl (bF hc15) rfl) rfl (zam (seg := [.slice A0_2 a.final.length c0_2]) ty25 rfl (by simp) rfl (CF.box (m := 1) (S14.box_at (j := 0) rfl) rfl)) <| p_v (v := .int .i64 (a.final.length : Int)) rfl (wo 7 14 rfl rfl (bF hc15) rfl) rfl (zbe u25 rfl) <| p_v (v := .pointer (some ⟨b13, 2, none⟩)) rfl (wo 7 14 rfl rfl (bF hc15) rfl) rfl (zaq fd47_2 ty25 rfl rfl) <| p_v (v := .slice A1_2 b.final.length c1_2) rfl (wo 7 14 rfl rfl (bF hc15) rfl) rfl (zam (seg := [.slice A1_2 b.final.length c1_2]) ty25 rfl (by simp) rfl (CF.box (m := 1) (S14.box_at (j := 1) rfl) rfl)) <| p_v (v := .int .i64 (b.final.length : Int)) rfl (wo 7 14 rfl rfl (bF hc15) rfl) rfl (zbe u25 rfl) <| p_v (v := .bool (decide ((a.final.length : Int) ≠ (b.final.length : Int)))) rfl (wo 7 14 rfl rfl (bF hc15) rfl) rfl (x_neq rfl rfl) <| p_v (v := .bool (decide ((a.final.length : Int) ≠ (b.final.length : Int)))) rfl rfl rfl (zck (bF hc15) rfl) <| zac ?_
 refine zau (p := (a.final.length : Int) ≠ (b.final.length : Int)) rfl (fun hc16 => ?_) (fun hc16 => ?_)
 ·skip
  refine zag <| zah (l := [0]) rfl <| p_v (v := .bool false) rfl rfl rfl (zaj rfl) <| zac <| zax Tryd.func30 (res1 rfl (za4 (v := .bool false) rfl)) ?_
  have q0 : (sameR a b : Bool) = false := by
   exact sameR_2 (by assumption)
  refine ⟨_, rfl, (fun _ => none), ?_, ?_⟩
  · exact S14.sub [] (by decide) rfl _ rfl
  · first | rfl | (simp only [q0]; rfl) | (simp only [q0])
 refine za6 <| zag <| zag <| zah (l := [0]) rfl <| p_v (v := .int .i64 0) rfl rfl rfl (zaj rfl) <| zac <| zay <| zce (S := Int) (fun (q_ : Int) ρ w' => match q_ with | i => ∃ (h : Ghost), Le (fun _ => none) h ∧ St w.heap.size w h w' [box b11 47 [.slice A0_0 a.least.length c0_0, .slice A0_1 a.next.length c0_1, .slice A0_2 a.final.length c0_2], box b13 47 [.slice A1_0 b.least.length c1_0, .slice A1_1 b.next.length c1_1, .slice A1_2 b.final.length c1_2]] ∧ ρ 2 = .pointer (some ⟨b11, 0, none⟩) ∧ ρ 3 = .pointer (some ⟨b13, 0, none⟩) ∧ ρ 5 = .int .i64 i ∧ inK .i64 i ∧ (0 ≤ i ∧ i ≤ (a.next.length : Int) ∧ a.next.take i.toNat = b.next.take i.toNat)) (fun q_ => match q_ with | i => (a.next.length - i).toNat) (0) ⟨(fun _ => none), Le.refl _, S14.sub [0, 1] (by decide) rfl _ rfl, rfl, rfl, rfl, (zar (by omega) (by omega)), (by exact ⟨by omega, by omega, rfl⟩)⟩ ?_
 rintro i ih17 ρ17 w17 ⟨h17, le17, S17, r17_2, r17_3, r17_5, f17_0, hI17⟩
 have lf17_0 := zbf f17_0; have hf17_0 := zbg f17_0
 refine zag <| zag <| zah (l := [0, 1, 2, 3, 4]) rfl <| p_v (v := .int .i64 i) rfl rfl rfl (zai r17_5) <| p_v (v := .pointer (some ⟨b11, 1, none⟩)) rfl rfl rfl (zaq fd47_1 ty24 rfl r17_2) <| p_v (v := .slice A0_1 a.next.length c0_1) rfl rfl rfl (zam (seg := [.slice A0_1 a.next.length c0_1]) ty24 rfl (by simp) rfl (CF.box (m := 1) (S17.box_at (j := 0) rfl) rfl)) <| p_v (v := .int .i64 (a.next.length : Int)) rfl rfl rfl (zbe u24 rfl) <| p_v (v := .bool (decide (i < (a.next.length : Int)))) rfl rfl rfl (zd6 rfl rfl) <| zac ?_
 refine zau (p := i < (a.next.length : Int)) rfl (fun hc18 => ?_) (fun hc18 => ?_)
 ·skip
  refine za6 <| zag <| zay <| zag ?_
  obtain ⟨ad19, seg19, a19, rp19, ce19⟩ := zbj (q := i) (m := 1) l0_1 rfl (by omega) (by omega)
  obtain ⟨A19, c19, rfl, lc19, cm19, ld19⟩ := rp19
  have cn19 := cm19; simp only [maxLen] at cn19
  obtain ⟨ad20, seg20, a20, rp20, ce20⟩ := zbj (q := i) (m := 1) l1_1 rfl (by omega) (by omega)
  obtain ⟨A20, c20, rfl, lc20, cm20, ld20⟩ := rp20
  have cn20 := cm20; simp only [maxLen] at cn20
  have hf22 : (CFs ⟨b11, 1, none⟩ [.slice A0_1 a.next.length c0_1]).1 w17 := (CF.box (m := 1) (S17.box_at (j := 0) rfl) rfl)
  have hf23 : (CFs ad19 [.slice A19 (at_ a.next i).length c19]).1 w17 := (CF.ghost ce19 (St.le0 S17))
  have hf24 : (CFs ⟨b13, 1, none⟩ [.slice A1_1 b.next.length c1_1]).1 w17 := (CF.box (m := 1) (S17.box_at (j := 1) rfl) rfl)
  have hf25 : (CFs ad20 [.slice A20 (at_ b.next i).length c20]).1 w17 := (CF.ghost ce20 (St.le0 S17))
  have hf26 : (zcm (Kd.int .i64) A19 (at_ a.next i)).1 w17 := (ld19.mono (St.le0 S17))
  have hf27 : (zcm (Kd.int .i64) A20 (at_ b.next i)).1 w17 := (ld20.mono (St.le0 S17))
  refine daS (hkC 1 hf22 (hkC 4 hf23 (hkC 6 hf24 (hkC 9 hf25 (hkC 10 hf26 (hkC 10 hf27 (hkN (w := w17)))))))) 12 rfl mixed ?_
  intro wd28 gd28 hd28
  have S29 := S17.keep gd28
  have hf30 := spUp gd28 hf22
  have hf31 := spUp gd28 hf23
  have hf32 := spUp gd28 hf24
  have hf33 := spUp gd28 hf25
  have hf34 := spUp gd28 hf26
  have hf35 := spUp gd28 hf27
  refine qd0 (i := 0) (v := .pointer (some ⟨b11, 1, none⟩)) rfl (by decide +kernel) rfl rfl (zaq fd47_1 ty24 rfl r17_2) (zan rfl) <| qd1 0 (i := 1) (v := .slice A0_1 a.next.length c0_1) rfl rfl (by decide +kernel) rfl rfl (fun wq hq => (zam (seg := [.slice A0_1 a.next.length c0_1]) ty24 rfl (by simp) rfl hq)) (zbm hf30 (zan rfl)) <| qd0 (i := 2) (v := .int .i64 i) rfl (by decide +kernel) rfl rfl (zai r17_5) (zan rfl) <| qd0 (i := 3) (v := .pointer (some ad19)) rfl (by decide +kernel) rfl rfl (zbi u24 ty23 rfl rfl a19 (by omega) (by omega)) (zan rfl) <| qd1 1 (i := 4) (v := .slice A19 (at_ a.next i).length c19) rfl rfl (by decide +kernel) rfl rfl (fun wq hq => (zam (seg := [.slice A19 (at_ a.next i).length c19]) ty23 rfl (by simp) rfl hq)) (za8 rfl (zbm hf31 (zan rfl))) <| qd0 (i := 5) (v := .pointer (some ⟨b13, 1, none⟩)) rfl (by decide +kernel) rfl rfl (zaq fd47_1 ty24 rfl r17_3) (zan rfl) <| qd1 2 (i := 6) (v := .slice A1_1 b.next.length c1_1) rfl rfl (by decide +kernel) rfl rfl (fun wq hq => (zam (seg := [.slice A1_1 b.next.length c1_1]) ty24 rfl (by simp) rfl hq)) (za8 rfl (za8 rfl (zbm hf32 (zan rfl)))) <| qd0 (i := 7) (v := .int .i64 i) rfl (by decide +kernel) rfl rfl (zai r17_5) (zan rfl) <| qd0 (i := 8) (v := .pointer (some ad20)) rfl (by decide +kernel) rfl rfl (zbi u24 ty23 rfl rfl a20 (by omega) (by omega)) (zan rfl) <| qd1 3 (i := 9) (v := .slice A20 (at_ b.next i).length c20) rfl rfl (by decide +kernel) rfl rfl (fun wq hq => (zam (seg := [.slice A20 (at_ b.next i).length c20]) ty23 rfl (by simp) rfl hq)) (za8 rfl (za8 rfl (za8 rfl (zbm hf33 (zan rfl))))) <| d_m (i := 10) (v := .bool (decide ((at_ a.next i) = (at_ b.next i)))) (fun wf => zbz (Kd.int .i64) (hp wf) A19 (at_ a.next i) ∧ zbz (Kd.int .i64) (hp wf) A20 (at_ b.next i)) (fun _ ho => ⟨ho _ (List.mem_of_getElem? (i := 4) rfl) rfl, ho _ (List.mem_of_getElem? (i := 5) rfl) rfl⟩) rfl (by decide +kernel) (by decide +kernel) (by decide +kernel) rfl rfl (fun wq => (zba (args := [.slice A19 (at_ a.next i).length c19, .slice A20 (at_ b.next i).length c20]) ca96 rfl rfl)) (fun wq hq => (same11_calls wq (at_ a.next i) A19 c19 (And.intro lc19 cm19) hq.1 (at_ b.next i) A20 c20 (And.intro lc20 cm20) hq.2).mono fun e w2 he => by obtain ⟨_, rfl, _, T, rfl⟩ := he; exact ⟨rfl, Chg.of_below T.below⟩) (za8 rfl (za8 rfl (za8 rfl (za8 rfl (zbm hf34 (zbm hf35 (zan rfl))))))) <| qd0 (i := 11) (v := .bool (!(decide ((at_ a.next i) = (at_ b.next i))))) rfl (by decide +kernel) rfl rfl (x_not rfl) (zan rfl) ?_
  refine zcb (by decide +kernel) ?_
  intro wd36 gd36
  have S37 := S29.keep gd36
  refine zct (b := decide ((at_ a.next i) = (at_ b.next i))) rfl (fun hc38 => ?_) (fun hc38 => ?_)
  ·skip
   refine zag <| zah (l := [0]) rfl <| p_v (v := .bool false) rfl rfl rfl (zaj rfl) <| zac <| zax Tryd.func30 (res1 rfl (za4 (v := .bool false) rfl)) ?_
   have q0 : (sameR a b : Bool) = false := by
    exact sameR_3 (i := i) (of_decide_eq_false (by assumption))
   refine ⟨_, rfl, h17, ?_, ?_⟩
   · exact S37.sub [] (by decide) rfl _ rfl
   · first | rfl | (simp only [q0]; rfl) | (simp only [q0])
  refine za6 <| za3 <| zah (l := [0, 1, 2]) rfl <| p_v (v := .int .i64 i) rfl rfl rfl (zai r17_5) <| p_v (v := .int .i64 (i + 1)) rfl rfl rfl (zdj rfl rfl (zar (by omega) (by omega))) <| p_v (v := .int .i64 (i + 1)) rfl rfl rfl (zaj rfl) <| zac ?_
  refine ih17 (i + 1) _ _ (by dsimp only; omega) ⟨h17, le17, S37.sub [0, 1] (by decide) rfl _ rfl, r17_2, r17_3, rfl, (zar (by omega) (by omega)), (by exact ⟨by omega, by omega, eq_step hI17.1 (by omega) (by omega) hI17.2.2 (of_decide_eq_true (by assumption))⟩)⟩
 refine zcf rfl <| zag <| zag <| zah (l := [0]) rfl <| p_v (v := .int .i64 0) rfl rfl rfl (zaj rfl) <| zac <| zay <| zce (S := Int) (fun (q_ : Int) ρ w' => match q_ with | i2 => ∃ (h : Ghost), Le h17 h ∧ St w.heap.size w h w' [box b11 47 [.slice A0_0 a.least.length c0_0, .slice A0_1 a.next.length c0_1, .slice A0_2 a.final.length c0_2], box b13 47 [.slice A1_0 b.least.length c1_0, .slice A1_1 b.next.length c1_1, .slice A1_2 b.final.length c1_2]] ∧ ρ 2 = .pointer (some ⟨b11, 0, none⟩) ∧ ρ 3 = .pointer (some ⟨b13, 0, none⟩) ∧ ρ 6 = .int .i64 i2 ∧ inK .i64 i2 ∧ (0 ≤ i2 ∧ i2 ≤ (a.final.length : Int) ∧ a.final.take i2.toNat = b.final.take i2.toNat)) (fun q_ => match q_ with | i2 => (a.final.length - i2).toNat) (0) ⟨h17, Le.refl _, S17.sub [0, 1] (by decide) rfl _ rfl, r17_2, r17_3, rfl, (zar (by omega) (by omega)), (by exact ⟨by omega, by omega, rfl⟩)⟩ ?_
 rintro i2 ih39 ρ39 w39 ⟨h39, le39, S39, r39_2, r39_3, r39_6, f39_0, hI39⟩
 have lf39_0 := zbf f39_0; have hf39_0 := zbg f39_0
 refine zag <| zag <| zah (l := [0, 1, 2, 3, 4]) rfl <| p_v (v := .int .i64 i2) rfl rfl rfl (zai r39_6) <| p_v (v := .pointer (some ⟨b11, 2, none⟩)) rfl rfl rfl (zaq fd47_2 ty25 rfl r39_2) <| p_v (v := .slice A0_2 a.final.length c0_2) rfl rfl rfl (zam (seg := [.slice A0_2 a.final.length c0_2]) ty25 rfl (by simp) rfl (CF.box (m := 1) (S39.box_at (j := 0) rfl) rfl)) <| p_v (v := .int .i64 (a.final.length : Int)) rfl rfl rfl (zbe u25 rfl) <| p_v (v := .bool (decide (i2 < (a.final.length : Int)))) rfl rfl rfl (zd6 rfl rfl) <| zac ?_
 refine zau (p := i2 < (a.final.length : Int)) rfl (fun hc40 => ?_) (fun hc40 => ?_)
 ·skip
  refine za6 <| zag <| zay <| zag ?_
  obtain ⟨ad41, seg41, a41, rp41, ce41⟩ := zbj (q := i2) (m := 1) l0_2 rfl (by omega) (by omega)
  obtain ⟨rfl, _⟩ := rp41
  obtain ⟨ad42, seg42, a42, rp42, ce42⟩ := zbj (q := i2) (m := 1) l1_2 rfl (by omega) (by omega)
  obtain ⟨rfl, _⟩ := rp42
  have hf43 : (CFs ⟨b11, 2, none⟩ [.slice A0_2 a.final.length c0_2]).1 w39 := (CF.box (m := 1) (S39.box_at (j := 0) rfl) rfl)
  have hf44 : (CFs ad41 [.bool (at_ a.final i2)]).1 w39 := (CF.ghost ce41 (St.le0 S39))
  have hf45 : (CFs ⟨b13, 2, none⟩ [.slice A1_2 b.final.length c1_2]).1 w39 := (CF.box (m := 1) (S39.box_at (j := 1) rfl) rfl)
  have hf46 : (CFs ad42 [.bool (at_ b.final i2)]).1 w39 := (CF.ghost ce42 (St.le0 S39))
  refine daS (hkC 1 hf43 (hkC 4 hf44 (hkC 6 hf45 (hkC 9 hf46 (hkN (w := w39)))))) 11 rfl mixed ?_
  intro wd47 gd47 hd47
  have S48 := S39.keep gd47
  have hf49 := spUp gd47 hf43
  have hf50 := spUp gd47 hf44
  have hf51 := spUp gd47 hf45
  have hf52 := spUp gd47 hf46
  refine qd0 (i := 0) (v := .pointer (some ⟨b11, 2, none⟩)) rfl (by decide +kernel) rfl rfl (zaq fd47_2 ty25 rfl r39_2) (zan rfl) <| qd1 0 (i := 1) (v := .slice A0_2 a.final.length c0_2) rfl rfl (by decide +kernel) rfl rfl (fun wq hq => (zam (seg := [.slice A0_2 a.final.length c0_2]) ty25 rfl (by simp) rfl hq)) (zbm hf49 (zan rfl)) <| qd0 (i := 2) (v := .int .i64 i2) rfl (by decide +kernel) rfl rfl (zai r39_6) (zan rfl) <| qd0 (i := 3) (v := .pointer (some ad41)) rfl (by decide +kernel) rfl rfl (zbi u25 ty4 rfl rfl a41 (by omega) (by omega)) (zan rfl) <| qd1 1 (i := 4) (v := .bool (at_ a.final i2)) rfl rfl (by decide +kernel) rfl rfl (fun wq hq => (zam (seg := [.bool (at_ a.final i2)]) ty4 rfl (by simp) rfl hq)) (za8 rfl (zbm hf50 (zan rfl))) <| qd0 (i := 5) (v := .pointer (some ⟨b13, 2, none⟩)) rfl (by decide +kernel) rfl rfl (zaq fd47_2 ty25 rfl r39_3) (zan rfl) <| qd1 2 (i := 6) (v := .slice A1_2 b.final.length c1_2) rfl rfl (by decide +kernel) rfl rfl (fun wq hq => (zam (seg := [.slice A1_2 b.final.length c1_2]) ty25 rfl (by simp) rfl hq)) (za8 rfl (za8 rfl (zbm hf51 (zan rfl)))) <| qd0 (i := 7) (v := .int .i64 i2) rfl (by decide +kernel) rfl rfl (zai r39_6) (zan rfl) <| qd0 (i := 8) (v := .pointer (some ad42)) rfl (by decide +kernel) rfl rfl (zbi u25 ty4 rfl rfl a42 (by omega) (by omega)) (zan rfl) <| qd1 3 (i := 9) (v := .bool (at_ b.final i2)) rfl rfl (by decide +kernel) rfl rfl (fun wq hq => (zam (seg := [.bool (at_ b.final i2)]) ty4 rfl (by simp) rfl hq)) (za8 rfl (za8 rfl (za8 rfl (zbm hf52 (zan rfl))))) <| qd0 (i := 10) (v := .bool (decide ((at_ a.final i2) ≠ (at_ b.final i2)))) rfl (by decide +kernel) rfl rfl (x_neq_bool u4 rfl rfl) (zan rfl) <| zcb (by decide +kernel) ?_
  intro wd53 gd53
  have S54 := S48.keep gd53
  refine zau (p := (at_ a.final i2) ≠ (at_ b.final i2)) rfl (fun hc55 => ?_) (fun hc55 => ?_)
  ·skip
   refine zag <| zah (l := [0]) rfl <| p_v (v := .bool false) rfl rfl rfl (zaj rfl) <| zac <| zax Tryd.func30 (res1 rfl (za4 (v := .bool false) rfl)) ?_
   have q0 : (sameR a b : Bool) = false := by
    exact sameR_4 (i := i2) (by assumption)
   refine ⟨_, rfl, h39, ?_, ?_⟩
   · exact S54.sub [] (by decide) rfl _ rfl
   · first | rfl | (simp only [q0]; rfl) | (simp only [q0])
  refine za6 <| za3 <| zah (l := [0, 1, 2]) rfl <| p_v (v := .int .i64 i2) rfl rfl rfl (zai r39_6) <| p_v (v := .int .i64 (i2 + 1)) rfl rfl rfl (zdj rfl rfl (zar (by omega) (by omega))) <| p_v (v := .int .i64 (i2 + 1)) rfl rfl rfl (zaj rfl) <| zac ?_
  refine ih39 (i2 + 1) _ _ (by dsimp only; omega) ⟨h39, le39, S54.sub [0, 1] (by decide) rfl _ rfl, r39_2, r39_3, rfl, (zar (by omega) (by omega)), (by exact ⟨by omega, by omega, eq_step hI39.1 (by omega) (by omega) hI39.2.2 (Decidable.not_not.1 (by assumption))⟩)⟩
 refine zcf rfl <| zag <| zah (l := [0]) rfl <| p_v (v := .bool true) rfl rfl rfl (zaj rfl) <| zac <| zax Tryd.func30 (res1 rfl (za4 (v := .bool true) rfl)) ?_
 have q0 : (sameR a b : Bool) = true := by
  exact sameR_5 (eq_yes (t := i) (by omega) (by omega) hI17.2.2) (eq_yes (t := i2) (by omega) (by omega) hI39.2.2)
 refine ⟨_, rfl, h39, ?_, ?_⟩
 · exact S39.sub [] (by decide) rfl _ rfl
 · (simp only [q0])
end Go.Proofs.YtfoemogojbnfhaaDoor
namespace Gx
open Go Go.RowKit
set_option linter.unusedSimpArgs false
set_option linter.unusedSectionVars false
set_option linter.unusedVariables false
theorem errO_no {a b : Dfa} {how : Int} (h : zdv a b how = false) : errO a b how = 1 := by unfold errO; rw [if_neg (by rw [h]; simp)]
section
variable {m other : Mach}
end
end Gx
namespace Go.Proofs.YtfoemogojbnfhaaDoor
open Go Go.RowKit Gx
set_option maxHeartbeats 1000000
set_option linter.unusedVariables false
set_option linter.unusedSimpArgs false
set_option maxRecDepth 8000
attribute [local irreducible] zb6 count first someIn has zbx wbits Lib.ctz zd3 zcu rowOk tab markP intoP zej runTo endsIn runM anyTo allTo badQ zd0 zb7 goD runD notD errD notTo zcd zde howB zdv zae errO zb9 nextC outTo zek rowIn zdh lastB zbd zds zaa errB fitsP madeM allM bfs zdf putB beginB okB
theorem masksNil_calls (w : World) (c : Unit) (p : PartM) (o1 : okPart p) (pay : Unit) :
    Calls Tryd.prog 50 #[.pointer none, .agg (zad p).toArray, .pointer none] w fun e w' => ∃ v, e = .returned v ∧ ∃ (hn : Ghost) (r0 : Value) (r1 : Value), St w.heap.size w hn w' [row 23 (Kd.int .i64).slice r0 zeroD.next, row 4 Kd.bool r1 zeroD.final] ∧ v = .tuple #[.agg ((zad zeroD.part) ++ ([r0, r1] : List Value)).toArray, .int .i64 2] ∧ okPart zeroD.part ∧ inK .i64 2 := by
 refine zas Tryd.func50 rfl Tryd.ntmps50 rfl ?_
 have S0 := St.init w
 have ploo1 := zbf o1.2; have phio1 := zbg o1.2
 refine zag <| zah (l := [0, 1, 2, 3]) rfl ?_
 obtain ⟨b1, w1, r1, g1, T1⟩ := zb0 (P := Tryd.prog) S0 102 (v := .pointer none) [.pointer none] rfl
 have S2 := T1
 dsimp only [lAa, lAn, lA0, lAs] at S2
 refine p_v (v := .pointer (some ⟨b1, 0, none⟩)) rfl rfl rfl (zdi rfl r1) ?_
 obtain ⟨b3, w3, r3, g3, T3⟩ := zb0 (P := Tryd.prog) S2 32 (v := .agg (zad p).toArray) (zad p) rfl
 have S4 := T3
 dsimp only [lAa, lAn, lA0, lAs] at S4
 refine p_v (v := .pointer (some ⟨b3, 0, none⟩)) rfl rfl rfl (zdi rfl r3) ?_
 obtain ⟨b5, w5, r5, g5, T5⟩ := zb0 (P := Tryd.prog) S4 35 (v := zv35) ((zad zPart) ++ ([.slice none 0 0, .slice none 0 0] : List Value)) (by kernel_rfl)
 have S6 := T5
 dsimp only [lAa, lAn, lA0, lAs] at S6
 refine p_v (v := .pointer (some ⟨b5, 0, none⟩)) rfl rfl rfl (zbr ty35 r5) <| p_v (v := .int .i64 0) rfl rfl rfl (zaj rfl) <| zac <| zag <| zay <| zag <| zah (l := [0, 1, 2]) rfl <| p_v (v := .pointer none) rfl rfl rfl (zam (seg := [.pointer none]) ty102 rfl (by simp) rfl (CF.box (m := 1) (S6.box_at (j := 0) rfl) rfl)) <| p_v (v := .bool true) rfl rfl rfl (x_eql_ptr (p := none) u102 rfl rfl) <| p_v (v := .bool true) rfl rfl rfl (zaj rfl) <| zac <| zcy (b := true) rfl ?_
 simp only [if_true, if_false, Bool.false_eq_true]
 refine zag <| zah (l := [0, 1, 2]) rfl <| p_v (v := .agg ((zad zPart) ++ ([.slice none 0 0, .slice none 0 0] : List Value)).toArray) rfl rfl rfl (zc4 (pv := []) rfl (za9 pl35 ty35 rfl (cs := ((zad zPart) ++ ([.slice none 0 0, .slice none 0 0] : List Value))) (by kernel_rfl))) ?_
 obtain ⟨w7, r7, g7, T7⟩ := za7 (P := Tryd.prog) (v := .agg ((zad zPart) ++ ([.slice none 0 0, .slice none 0 0] : List Value)).toArray) (vs := ((zad zPart) ++ ([.slice none 0 0, .slice none 0 0] : List Value))) (cs := ((zad zPart) ++ ([.slice none 0 0, .slice none 0 0] : List Value))) S6 ty35 rfl (zal (zaf (zao)) rfl) (zal (zaf (zao)) rfl) (j := 2) rfl (zcc (zaz _) (by simp [Value.oneCell']))
 have S8 : St w.heap.size w (fun _ => none) w7 [box b1 102 [.pointer none], box b3 32 (zad p), box b5 35 ((zad zPart) ++ ([.slice none 0 0, .slice none 0 0] : List Value))] := T7
 refine p_s rfl rfl (za2 rfl rfl r7) <| p_v (v := .int .i64 2) rfl rfl rfl (zaj rfl) <| zac ?_
 have T9 := S8.row_nil 23 (Kd.int .i64).slice
 have S10 := T9
 dsimp only [lAa, lAn, lA0, lAs] at S10
 have T11 := S10.row_nil 4 Kd.bool
 have S12 := T11
 dsimp only [lAa, lAn, lA0, lAs] at S12
 refine zax Tryd.func50 (res2 rfl (zcz S8 ty35 rfl (j := 2) rfl (zal (zaf (zao)) rfl) (by simp) rfl) (za4 (v := .int .i64 2) rfl)) ?_
 have q0 : (zeroD.part : PartM) = zPart := by
  rfl
 have q1 : (zeroD.next : List (List Int)) = ([] : List (List Int)) := by
  rfl
 have q2 : (zeroD.final : List Bool) = ([] : List Bool) := by
  rfl
 have q3 : (2 : Int) = 2 := rfl
 refine ⟨_, rfl, (fun _ => none), (.slice none 0 0), (.slice none 0 0), ?_, ?_, ?_, ?_⟩
 · rw [q1]; rw [q2]; exact S12.sub [3, 4] (by decide) rfl _ rfl
 · first | rfl | (simp only [q0, q1, q2]; rfl) | (simp only [q0, q1, q2])
 · rw [q0]; first | assumption | exact zao
 · exact (zar (by first|omega|(simp;omega)|assumption|simp) (by first|omega|(simp;omega)|assumption|simp))
end Go.Proofs.YtfoemogojbnfhaaDoor
namespace Gx
open Go Go.RowKit
set_option linter.unusedSimpArgs false
set_option linter.unusedSectionVars false
set_option linter.unusedVariables false
set_option maxRecDepth 100000
def dnxK : List (List Int) := [[1, 2, 1, 1], [1, 1, 1, 1], [1, 1, 3, 4], [1, 1, 1, 1], [1, 1, 1, 1]]
def dflK : List Bool := [true, false, false, true, false]
def dK : Dfa := ⟨lettersP, dnxK, dflK⟩
theorem k_nx : nextTo (zb9 zab (zbd lettersP)) lettersP.n (bfs (zb9 zab (zbd lettersP)) lettersP.n beginB 5) (bfs (zb9 zab (zbd lettersP)) lettersP.n beginB 5).length = dnxK := by decide +kernel
theorem k_fl : (bfs (zb9 zab (zbd lettersP)) lettersP.n beginB 5).map (zdh zab) = dflK := by decide +kernel
noncomputable abbrev bK : Dfa := zaa zab lettersP
theorem zdy : bK = dK := by
  unfold bK zaa
  rw [if_pos ok_some]
  unfold madeM
  rw [allM_eq (i := 5) (by rw [some_all]; exact Nat.le_refl _), k_nx, k_fl]; rfl
theorem k_ok : zdv dK dK 3 = true := by decide +kernel
theorem k_all : (bfs (zcd dK dK) dK.part.n ((0, 0) : Int × Int) 5).length = 5 := by decide +kernel
def dfxK : List Bool := [false, false, false, false, false]
def xK : Dfa := ⟨lettersP, dnxK, dfxK⟩
theorem k_nx2 : nextTo (zcd dK dK) dK.part.n (bfs (zcd dK dK) dK.part.n ((0, 0) : Int × Int) 5) (bfs (zcd dK dK) dK.part.n ((0, 0) : Int × Int) 5).length = dnxK := by decide +kernel
theorem k_fl2 : (bfs (zcd dK dK) dK.part.n ((0, 0) : Int × Int) 5).map (zde dK dK 3) = dfxK := by decide +kernel
theorem k_both : zae dK dK 3 = xK := by
  unfold zae
  rw [if_pos k_ok]
  unfold madeM
  rw [allM_eq (i := 5) (by rw [k_all]; exact Nat.le_refl _), k_nx2, k_fl2]; rfl
noncomputable abbrev xB : Dfa := zae bK bK 3
theorem k_xB : xB = xK := by unfold xB; rw [zdy]; exact k_both
theorem k_right : zb7 dK = true := by decide +kernel
theorem k_n1 : runD (notD dK) ⟨#[]⟩ = false := by decide +kernel
theorem k_n2 : runD (notD dK) ⟨#[97]⟩ = true := by decide +kernel
theorem k_n3 : runD (notD dK) ⟨#[97, 98]⟩ = false := by decide +kernel
theorem k_n4 : runD (notD dK) ⟨#[97, 99]⟩ = true := by decide +kernel
def fiveK : List Dfa := [zeroD, ⟨lettersP, [[0, 0, 0, 9]] ++ dnxK.drop 1, dfxK⟩, ⟨lettersP, dnxK, dfxK.drop 1⟩, ⟨lettersP, [[0, 0, 0]] ++ dnxK.drop 1, dfxK⟩, ⟨lettersP, [], []⟩]
noncomputable abbrev zeq : List Dfa := [⟨zPart, [], []⟩, ⟨xB.part, [[0, 0, 0, 9]] ++ xB.next.drop (1 : Int).toNat, xB.final⟩, ⟨xB.part, xB.next, xB.final.drop (1 : Int).toNat⟩, ⟨xB.part, [[0, 0, 0]] ++ xB.next.drop (1 : Int).toNat, xB.final⟩, ⟨bK.part, [], []⟩]
theorem k_fiveX : zeq = fiveK := by unfold zeq; rw [k_xB, zdy]; rfl
theorem k_five : (fiveK.all fun y => !zb7 y) = true := by decide +kernel
theorem k_bad {y : Dfa} (h : y ∈ fiveK) : zb7 y = false := by
  have := List.all_eq_true.1 k_five y h
  simpa using this
theorem k_bad1 {y : Dfa} (h : y ∈ fiveK) (w : ByteArray) : runD y w = false := by unfold runD; rw [k_bad h]; rfl
theorem k_bad2 {y : Dfa} (h : y ∈ fiveK) : errD y = 1 := errD_no (k_bad h)
theorem k_bad3 {y : Dfa} (h : y ∈ fiveK) (x : Dfa) (n : Int) : errO x y n = 1 := errO_no (okb_2 (k_bad h))
theorem k_xf {i : Int} (h0 : 0 ≤ i) (h1 : i < 5) : at_ xK.final i = false := by
  have : i = 0 ∨ i = 1 ∨ i = 2 ∨ i = 3 ∨ i = 4 := by omega
  rcases this with rfl | rfl | rfl | rfl | rfl <;> decide
theorem k_len {i : Int} (h0 : 0 ≤ i) (h1 : i < 5) : ((at_ fiveK i).next.length : Int) ≤ 1048577 := by
  have : i = 0 ∨ i = 1 ∨ i = 2 ∨ i = 3 ∨ i = 4 := by omega
  rcases this with rfl | rfl | rfl | rfl | rfl <;> decide
theorem k_mem {i : Int} (h0 : 0 ≤ i) (h1 : i < 5) : at_ fiveK i ∈ fiveK := at_mem h0 h1
abbrev zep : Mach := ⟨[], [], [], [], true⟩
theorem k_oneok : okB zep (zap []) = true := by decide +kernel
theorem k_one : errB zep (zap []) = 0 := errB_iff.2 k_oneok
theorem k_oneall : (bfs (zb9 zep (zbd (zap []))) (zap []).n beginB 2).length = 2 := by decide +kernel
theorem k_one2 : ((zaa zep (zap [])).next.length : Int) = 2 := by
  unfold zaa
  rw [if_pos k_oneok, (made_len_eq _ _ _ _).1, allM_eq (i := 2) (by rw [k_oneall]; exact Nat.le_refl _), k_oneall]; rfl
theorem k_one3 : runD (zaa zep (zap [])) ⟨#[]⟩ = true := by rw [build_run (okPart_ref []) k_oneok]; decide +kernel
theorem k_one4 : runD (zaa zep (zap [])) ⟨#[120]⟩ = false := by rw [build_run (okPart_ref []) k_oneok]; decide +kernel
theorem k_parts : decide (lettersP = zap []) = false := by decide +kernel
theorem k_o4 : errO dK dK 4 = 1 := by decide +kernel
theorem k_k : errB zab (zap []) = 1 := by decide +kernel
theorem k_io : errO bK (zaa zep (zap [])) 1 = 1 := by
  rw [zdy]
  refine errO_no ?_
  have e : (zaa zep (zap [])).part = zap [] := by unfold zaa; rw [if_pos k_oneok]; rfl
  unfold zdv
  rw [e, show decide (dK.part = zap []) = false from k_parts]; simp
end Gx
namespace Gx
open Go Go.RowKit
set_option linter.unusedSimpArgs false
set_option linter.unusedVariables false
section
variable {P : Program} {ρ : Env} {w : World} {ty : TypeId} {pos : String} {af : Array Edge} {x y : Operand}
end
section
variable {α : Type} {kd : Kd α} {h : Ghost} {A : Option Addr} {xs : List α}
theorem zbz.rear {q cap : Nat} (hl : zbz kd h A xs) (hc : xs.length ≤ cap) : zbz kd h (if cap = q then A else A.map (·.add (q * kd.sz))) (xs.drop q) := fun hne => by
  have hq : q < xs.length := by
    rcases Nat.lt_or_ge q xs.length with a | a
    · exact a
    · exact absurd (List.drop_eq_nil_of_le a) hne
  obtain ⟨ad, rfl, hx⟩ := hl (by intro e; rw [e] at hq; simp at hq)
  rw [if_neg (by omega)]
  refine ⟨ad.add (q * kd.sz), rfl, fun i x hi => ?_⟩
  obtain ⟨seg, h1, h2⟩ := hx (q + i) x (by rw [List.getElem?_drop] at hi; exact hi)
  refine ⟨seg, h1, fun j v hj => ?_⟩
  have := h2 j v hj
  rw [show (ad.add (q * kd.sz)).add (i * kd.sz + j) = ad.add ((q + i) * kd.sz + j) from by rw [Addr.add_add, Nat.add_mul, Nat.add_assoc]]
  exact this
variable {P : Program} {w : World}
theorem e_slice_lo {T E : TypeId} {c : Nat} {q : Int} {kk : IntKind} {b' : Nat} {gg : Bool} {z : Option Value} (hl : zbz kd h A xs) (hb : xs.length ≤ c ∧ c ≤ maxLen) (hT : P.underlying T = some (.slice E)) (ht : zbw P E = some (kd.sz, b', gg, z)) (h0 : 0 ≤ q) (h1 : q ≤ (xs.length : Int)) :
    ∃ A' c', (Instr.sliceAt T (.slice A xs.length c) (some (.int kk q)) none none).run P w = .ok (.slice A' (xs.drop q.toNat).length c') w ∧ zbz kd h A' (xs.drop q.toNat) ∧ ((xs.drop q.toNat).length ≤ c' ∧ c' ≤ maxLen) := by
  obtain ⟨ii, d2, hi, hd2, hsz, _, _, _⟩ := zbv ht
  refine ⟨if c = q.toNat then A else A.map (·.add (q.toNat * kd.sz)), c - q.toNat, ?_, hl.rear hb.1, ?_⟩
  · simp [Instr.sliceAt, run_underlying hT, Instr.slice, Instr.sliceBounds, Instr.sliceBound, asIntOf, h0, h1, zdw hi, go_sem, hsz]
  · rw [List.length_drop]; omega
theorem zbz.cellsG {w : World} {A : Addr} {ys : List α} (hle : Le h (hp w)) (hl : zbz kd h (some A) ys) : ∃ news, zbp kd h ys news ∧ ∀ j u, news[j]? = some u → w.cell? (A.add j) = some u := by
  rcases ys with _ | ⟨y0, ys'⟩
  · exact ⟨[], zbp.nil _ _, fun j u hj => by simp at hj⟩
  generalize hys : y0 :: ys' = ys at hl
  obtain ⟨ad, hA, hx⟩ := hl (by rw [← hys]; simp)
  injection hA with hA
  subst hA
  let news := (List.range (ys.length * kd.sz)).map fun j => (w.cell? (A.add j)).getD undef
  have hlen : news.length = ys.length * kd.sz := by simp [news]
  have hget : ∀ i e, ys[i]? = some e → ∃ seg, kd.rep h e seg ∧ ∀ q, q < kd.sz → w.cell? (A.add (i * kd.sz + q)) = seg[q]? := fun i e he => by
    obtain ⟨seg, h1, h2⟩ := hx i e he
    refine ⟨seg, h1, fun q hq => ?_⟩
    have hql : q < seg.length := by rw [kd.len h1]; exact hq
    rw [List.getElem?_eq_getElem hql]
    exact gcell_world hle (h2 q _ (List.getElem?_eq_getElem hql))
  have hcell : ∀ j u, news[j]? = some u → w.cell? (A.add j) = some u := fun j u hj => by
    have hjl : j < ys.length * kd.sz := by rw [← hlen]; exact (List.getElem?_eq_some_iff.1 hj).1
    have hi : j / kd.sz < ys.length := by rw [Nat.div_lt_iff_lt_mul kd.pos]; exact hjl
    obtain ⟨seg, h1, h2⟩ := hget (j / kd.sz) _ (List.getElem?_eq_getElem hi)
    have h3 := h2 (j % kd.sz) (Nat.mod_lt _ kd.pos)
    rw [Nat.mul_comm, Nat.div_add_mod] at h3
    have hql : j % kd.sz < seg.length := by rw [kd.len h1]; exact Nat.mod_lt _ kd.pos
    rw [List.getElem?_eq_getElem hql] at h3
    simp only [news, List.getElem?_map, List.getElem?_range hjl, Option.map_some, h3, Option.getD_some, Option.some.injEq] at hj
    rw [h3, hj]
  refine ⟨news, ⟨hlen, fun i e he => ?_⟩, hcell⟩
  obtain ⟨seg, h1, h2⟩ := hget i e he
  have hi : i < ys.length := (List.getElem?_eq_some_iff.1 he).1
  have hfit : i * kd.sz + kd.sz ≤ ys.length * kd.sz := by rw [← Nat.succ_mul]; exact Nat.mul_le_mul_right _ hi
  have : (news.drop (i * kd.sz)).take kd.sz = seg := by
    apply List.ext_getElem?
    intro q
    rw [List.getElem?_take]
    split
    · rename_i hq
      rw [List.getElem?_drop, List.getElem?_eq_getElem (by omega)]
      have := hcell _ _ (List.getElem?_eq_getElem (show i * kd.sz + q < news.length by omega))
      rw [← h2 q hq, this]
    · rw [List.getElem?_eq_none (by rw [kd.len h1]; omega)]
  rw [this]; exact h1
theorem news_read {w w0 : World} {base : Nat} {L : List Asrt} {A : Option Addr} {ys : List α} (S : St base w0 h w L) (hl : zbz kd h A ys) : News kd h w A ys := by
  rcases A with _ | ad
  · left
    refine ⟨rfl, ?_⟩
    rcases ys with _ | ⟨a, b⟩
    · rfl
    · obtain ⟨_, e, _⟩ := hl (by simp); cases e
  · obtain ⟨news, h1, h2⟩ := hl.cellsG S.ghost
    exact .inr ⟨ad, news, rfl, h1, h2⟩
end
end Gx
