/- My own library for walks through the translated code, and the walks of the functions that the law DfaBuilds comes to, part 2; no conditions but those that each contract tells. -/
import Derived.Test.YtfoemogojbnfhaaDoorProg
import Derived.KernelRfl
import Derived.Test.YtfoemogojbnfhaaDoorLDfaBuilds0
namespace Go.Proofs.YtfoemogojbnfhaaDoor
open Go Go.RowKit Gx
set_option maxHeartbeats 1000000
set_option linter.unusedVariables false
set_option linter.unusedSimpArgs false
set_option maxRecDepth 8000
attribute [local irreducible] zcf count first has zb6 wbits Lib.ctz
theorem bit_calls (w : World) (c : Int) (i0 : inK .u8 c) :
    Calls Tryd.prog 127 #[.int .u8 c] w fun e w' => ∃ v, e = .returned v ∧ ∃ (hn : Ghost), St w.heap.size w hn w' [] ∧ v = .tuple #[.int .i64 (c / 64), .int .u64 (2 ^ (c % 64).toNat)] ∧ inK .i64 (c / 64) ∧ inK .u64 (2 ^ (c % 64).toNat) := by
 refine zaq Tryd.func127 rfl Tryd.ntmps127 rfl ?_
 have S0 := St.init w
 have lo0 := zeu i0; have hi0 := zfa i0
 refine zab <| zad (l := [0, 1]) rfl <| p_v (v := .int .i64 0) rfl rfl rfl (zah rfl) <| p_v (v := .int .u64 0) rfl rfl rfl (zah rfl) <| zaa <| zab <| zad (l := [0, 1, 2, 3, 4, 5, 6, 7]) rfl <| p_v (v := .int .u8 c) rfl rfl rfl (zag rfl) <| p_v (v := .int .u8 (c / 64)) rfl rfl rfl (x_quo rfl rfl (by omega) (by omega) (zec (by omega) (by omega))) <| p_v (v := .int .i64 (c / 64)) rfl rfl rfl (x_conv u5 u3 rfl (zao (by omega) (by omega))) <| p_v (v := .int .u8 c) rfl rfl rfl (zag rfl) <| p_v (v := .int .u8 (c % 64)) rfl rfl rfl (x_rem rfl rfl (by omega) (by omega)) ?_
 have in1 := pow_in (b := c % 64) (by omega) (by omega)
 have lo1 := zc6 in1; have hi1 := zc9 in1
 refine p_v (v := .int .u64 (2 ^ (c % 64).toNat)) rfl rfl rfl (x_shl_one rfl rfl (by omega) (by omega)) <| p_v (v := .int .i64 (c / 64)) rfl rfl rfl (zah rfl) <| p_v (v := .int .u64 (2 ^ (c % 64).toNat)) rfl rfl rfl (zah rfl) <| zaa <| zar Tryd.func127 (res2 rfl (zax (v := .int .i64 (c / 64)) rfl) (zax (v := .int .u64 (2 ^ (c % 64).toNat)) rfl)) ?_
 have q0 : (c / 64 : Int) = c / 64 := rfl
 have q1 : (2 ^ (c % 64).toNat : Int) = 2 ^ (c % 64).toNat := rfl
 refine ⟨_, rfl, (fun _ => none), ?_, ?_, ?_, ?_⟩
 · exact S0.sub [] (by decide) rfl _ rfl
 · rfl
 · exact (zao (by omega) (by omega))
 · exact (zdl (by omega) (by omega))
theorem has_calls (w : World) (s : BSet) (c : Int) (i1 : inK .u8 c) :
    Calls Tryd.prog 80 #[.agg (zak s).toArray, .int .u8 c] w fun e w' => ∃ v, e = .returned v ∧ ∃ (hn : Ghost), St w.heap.size w hn w' [] ∧ v = .bool (has s c) := by
 refine zaq Tryd.func80 rfl Tryd.ntmps80 rfl ?_
 have S0 := St.init w
 have lo1 := zeu i1; have hi1 := zfa i1
 refine zab <| zad (l := [0, 1]) rfl ?_
 obtain ⟨b1, w1, r1, g1, T1⟩ := zb2 (P := Tryd.prog) S0 74 (v := .agg (zak s).toArray) (zak s) rfl
 have S2 := T1
 dsimp only [lAa, lAn, lA0, lAs] at S2
 refine p_v (v := .pointer (some ⟨b1, 0, none⟩)) rfl rfl rfl (zc8 rfl r1) <| p_v (v := .bool false) rfl rfl rfl (zah rfl) <| zaa <| zab <| zad (l := [0, 1, 2, 3, 4, 5, 6]) rfl <| p_v (v := .int .u8 c) rfl rfl rfl (zag rfl) <| p_c rfl rfl rfl (za6 (args := [.int .u8 c]) ca127 rfl rfl) (bit_calls w1 c (zec (by omega) (by omega))) ?_
 rintro _ w3 ⟨h3, T3, rfl, in3_0, in3_1⟩
 have S4 := S2.keep (Chg.of_below T3.below)
 have lo_in3_0 := za7 in3_0; have hi_in3_0 := za8 in3_0
 have lo_in3_1 := zc6 in3_1; have hi_in3_1 := zc9 in3_1
 refine p_v (v := .tuple #[.int .i64 (c / 64), .int .u64 (2 ^ (c % 64).toNat)]) rfl rfl rfl (zag rfl) <| p_v (v := .int .i64 (c / 64)) rfl rfl rfl (zcs (vs := [.int .i64 (c / 64), .int .u64 (2 ^ (c % 64).toNat)]) rfl rfl) <| p_v (v := .int .u64 (2 ^ (c % 64).toNat)) rfl rfl rfl (zcs (vs := [.int .i64 (c / 64), .int .u64 (2 ^ (c % 64).toNat)]) rfl rfl) <| p_v (v := .int .i64 (c / 64)) rfl rfl rfl (zah rfl) <| p_v (v := .int .u64 (2 ^ (c % 64).toNat)) rfl rfl rfl (zah rfl) <| zaa <| zab <| zad (l := [0, 1, 2, 3, 4, 5, 6]) rfl <| p_v (v := .int .i64 (c / 64)) rfl rfl rfl (zag rfl) <| p_v (v := .pointer (some ⟨b1, 0 + (c / 64).toNat * 1, none⟩)) rfl rfl rfl (zbp u74 ty56 rfl rfl (by omega) (by omega)) ?_
 have S5 : St w.heap.size w (fun _ => none) w3 [box b1 74 (zbf .u64 (zbj s))] := S4
 have in6 := zcz (zda s) (i := c / 64) (by omega) (by omega)
 have lo6 := zc6 in6; have hi6 := zc9 in6
 refine p_v (v := .int .u64 (at_ (zbj s) (c / 64))) rfl rfl rfl (zal (seg := [.int .u64 (at_ (zbj s) (c / 64))]) ty56 rfl (by simp) rfl (CF.box (m := 1) (S5.box_at (j := 0) rfl) (cs := (zbf .u64 (zbj s))) (zdz (zda s) (by omega) (by omega)))) <| p_v (v := .int .u64 (2 ^ (c % 64).toNat)) rfl rfl rfl (zag rfl) ?_
 have in7 : inK .u64 (iand (at_ (zbj s) (c / 64)) (2 ^ (c % 64).toNat)) := iand_in (2 ^ (c % 64).toNat) (zdl (by omega) (by omega))
 have lo7 := zc6 in7; have hi7 := zc9 in7
 refine p_v (v := .int .u64 (iand (at_ (zbj s) (c / 64)) (2 ^ (c % 64).toNat))) rfl rfl rfl (x_and_u64 rfl rfl (zdl (by omega) (by omega)) in3_1) <| p_v (v := .bool (decide ((iand (at_ (zbj s) (c / 64)) (2 ^ (c % 64).toNat)) ≠ 0))) rfl rfl rfl (x_neq rfl rfl) <| p_v (v := .bool (decide ((iand (at_ (zbj s) (c / 64)) (2 ^ (c % 64).toNat)) ≠ 0))) rfl rfl rfl (zah rfl) <| zaa <| zar Tryd.func80 (res1 rfl (zax (v := .bool (decide ((iand (at_ (zbj s) (c / 64)) (2 ^ (c % 64).toNat)) ≠ 0))) rfl)) ?_
 have q0 : (has s c : Bool) = decide ((iand (at_ (zbj s) (c / 64)) (2 ^ (c % 64).toNat)) ≠ 0) := by
  exact (has_eq s lo1 hi1).symm
 refine ⟨_, rfl, (fun _ => none), ?_, ?_⟩
 · exact S5.sub [] (by decide) rfl _ rfl
 · (simp only [q0])
theorem and_calls (w : World) (a : BSet) (b : BSet) :
    Calls Tryd.prog 137 #[.agg (zak a).toArray, .agg (zak b).toArray] w fun e w' => ∃ v, e = .returned v ∧ ∃ (hn : Ghost), St w.heap.size w hn w' [] ∧ v = .agg (zak (a &&& b)).toArray := by
 refine zaq Tryd.func137 rfl Tryd.ntmps137 rfl ?_
 have S0 := St.init w
 refine zab <| zad (l := [0, 1, 2]) rfl ?_
 obtain ⟨b1, w1, r1, g1, T1⟩ := zb2 (P := Tryd.prog) S0 74 (v := .agg (zak a).toArray) (zak a) rfl
 have S2 := T1
 dsimp only [lAa, lAn, lA0, lAs] at S2
 refine p_v (v := .pointer (some ⟨b1, 0, none⟩)) rfl rfl rfl (zc8 rfl r1) ?_
 obtain ⟨b3, w3, r3, g3, T3⟩ := zb2 (P := Tryd.prog) S2 74 (v := .agg (zak b).toArray) (zak b) rfl
 have S4 := T3
 dsimp only [lAa, lAn, lA0, lAs] at S4
 refine p_v (v := .pointer (some ⟨b3, 0, none⟩)) rfl rfl rfl (zc8 rfl r3) ?_
 obtain ⟨b5, w5, r5, g5, T5⟩ := zb2 (P := Tryd.prog) S4 74 (v := (.agg #[.int .u64 0, .int .u64 0, .int .u64 0, .int .u64 0])) (zak (0 : BSet)) rfl
 have S6 := T5
 dsimp only [lAa, lAn, lA0, lAs] at S6
 refine p_v (v := .pointer (some ⟨b5, 0, none⟩)) rfl rfl rfl (zcj ty74 r5) <| zaa <| zab <| zab <| zad (l := [0]) rfl <| p_v (v := .int .i64 0) rfl rfl rfl (zag rfl) <| zaa <| zas ?_
 have S7 : St w.heap.size w (fun _ => none) w5 [box b1 74 (zbf .u64 (zbj a)), box b3 74 (zak b), box b5 74 (zak (0 : BSet))] := S6
 have S8 : St w.heap.size w (fun _ => none) w5 [box b1 74 (zbf .u64 (zbj a)), box b3 74 (zbf .u64 (zbj b)), box b5 74 (zak (0 : BSet))] := S7
 refine zbo (S := (List Int) × Int) (fun (q_ : (List Int) × Int) ρ w' => match q_ with | (a2, t6) => ∃ (h : Ghost), Le (fun _ => none) h ∧ St w.heap.size w h w' [box b1 74 (zbf .u64 a2), box b3 74 (zbf .u64 (zbj b)), box b5 74 (zak (0 : BSet))] ∧ ρ 2 = .pointer (some ⟨b1, 0, none⟩) ∧ ρ 3 = .pointer (some ⟨b3, 0, none⟩) ∧ ρ 4 = .pointer (some ⟨b5, 0, none⟩) ∧ ρ 6 = .int .i64 t6 ∧ zdn .u64 4 a2 ∧ inK .i64 t6 ∧ (0 ≤ t6 ∧ t6 ≤ 4 ∧ a2 = zipTo iand (zbj a) (zbj b) t6)) (fun q_ => match q_ with | (a2, t6) => (4 - t6).toNat) ((zbj a), 0) ⟨(fun _ => none), Le.refl _, S8.sub [0, 1, 2] (by decide) rfl _ rfl, rfl, rfl, rfl, rfl, (zda a), (zao (by omega) (by omega)), (by exact ⟨by omega, by omega, zipTo_0 _ _ _⟩)⟩ ?_
 rintro ⟨a2, t6⟩ ih9 ρ9 w9 ⟨h9, le9, S9, r9_2, r9_3, r9_4, r9_6, f9_0, f9_1, hI9⟩
 have lf9_1 := za7 f9_1; have hf9_1 := za8 f9_1
 refine zab <| zad (l := [0]) rfl <| p_v (v := .bool (decide (t6 < 4))) rfl rfl rfl (zdc r9_6 rfl) <| zaa <| zab ?_
 refine zap (p := t6 < 4) rfl (fun hc10 => ?_) (fun hc10 => ?_)
 ·skip
  refine zau <| zab <| zas <| zab <| zad (l := [0, 1]) rfl <| p_v (v := .int .i64 t6) rfl rfl rfl (zag r9_6) <| p_v (v := .int .i64 t6) rfl rfl rfl (zah rfl) <| zaa ?_
  have in11 := zcz f9_0 (i := t6) (by omega) (by omega)
  have lo11 := zc6 in11; have hi11 := zc9 in11
  have in12 := zcz (zda b) (i := t6) (by omega) (by omega)
  have lo12 := zc6 in12; have hi12 := zc9 in12
  have in13 : inK .u64 (iand (at_ a2 t6) (at_ (zbj b) t6)) := iand_in (at_ (zbj b) t6) (zdl (by omega) (by omega))
  have lo13 := zc6 in13; have hi13 := zc9 in13
  have hf14 : (CFs ⟨b1, 0 + t6.toNat * 1, none⟩ [.int .u64 (at_ a2 t6)]).1 w9 := (CF.box (m := 1) (S9.box_at (j := 0) rfl) (cs := (zbf .u64 a2)) (zdz f9_0 (by omega) (by omega)))
  have hf15 : (CFs ⟨b3, 0 + t6.toNat * 1, none⟩ [.int .u64 (at_ (zbj b) t6)]).1 w9 := (CF.box (m := 1) (S9.box_at (j := 1) rfl) (cs := (zbf .u64 (zbj b))) (zdz (zda b) (by omega) (by omega)))
  refine daS (hkC 2 hf14 (hkC 5 hf15 (hkN (w := w9)))) 9 rfl mixed ?_
  intro wd16 gd16 hd16
  have S17 := S9.keep gd16
  have hf18 := spUp gd16 hf14
  have hf19 := spUp gd16 hf15
  refine qd0 (i := 0) (v := .int .i64 t6) rfl (by decide +kernel) rfl rfl (zag rfl) (zaj rfl) <| qd0 (i := 1) (v := .pointer (some ⟨b1, 0 + t6.toNat * 1, none⟩)) rfl (by decide +kernel) rfl rfl (zbp u74 ty56 r9_2 rfl (by omega) (by omega)) (zaj rfl) <| qd1 0 (i := 2) (v := .int .u64 (at_ a2 t6)) rfl rfl (by decide +kernel) rfl rfl (fun wq hq => (zal (seg := [.int .u64 (at_ a2 t6)]) ty56 rfl (by simp) rfl hq)) (za9 hf18 (zaj rfl)) <| qd0 (i := 3) (v := .int .i64 t6) rfl (by decide +kernel) rfl rfl (zag rfl) (zaj rfl) <| qd0 (i := 4) (v := .pointer (some ⟨b3, 0 + t6.toNat * 1, none⟩)) rfl (by decide +kernel) rfl rfl (zbp u74 ty56 r9_3 rfl (by omega) (by omega)) (zaj rfl) <| qd1 1 (i := 5) (v := .int .u64 (at_ (zbj b) t6)) rfl rfl (by decide +kernel) rfl rfl (fun wq hq => (zal (seg := [.int .u64 (at_ (zbj b) t6)]) ty56 rfl (by simp) rfl hq)) (za1 rfl (za9 hf19 (zaj rfl))) <| qd0 (i := 6) (v := .int .u64 (iand (at_ a2 t6) (at_ (zbj b) t6))) rfl (by decide +kernel) rfl rfl (x_and_u64 rfl rfl (zdl (by omega) (by omega)) (zdl (by omega) (by omega))) (zaj rfl) <| qd0 (i := 7) (v := .pointer (some ⟨b1, 0 + t6.toNat * 1, none⟩)) rfl (by decide +kernel) rfl rfl (zbp u74 ty56 r9_2 rfl (by omega) (by omega)) (zaj rfl) <| zby (i := 8) (by decide +kernel) ?_
  intro wd20 gd20
  have S21 := S17.keep gd20
  have hf22 := spUp gd20 hf18
  have hf23 := spUp gd20 hf19
  obtain ⟨w24, r24, g24, T24⟩ := zcb (P := Tryd.prog) (off := 0 + t6.toNat * 1) (v := .int .u64 (iand (at_ a2 t6) (at_ (zbj b) t6))) (vs := [.int .u64 (iand (at_ a2 t6) (at_ (zbj b) t6))]) S21 ty56 rfl rfl (j := 0) rfl (by rw [zeh f9_0]; first|omega|(simp;omega)|assumption) (by simp [Value.oneCell'])
  rw [encInts_put] at T24
  have ok24 : zdn .u64 4 (a2.set t6.toNat (iand (at_ a2 t6) (at_ (zbj b) t6))) := zff f9_0 _ in13
  have S25 := T24.fx 0 (box b1 74 (zbf .u64 (a2.set t6.toNat (iand (at_ a2 t6) (at_ (zbj b) t6))))) rfl
  dsimp only [lAa, lAn, lA0, lAs] at S25
  have hf26 : (CFs ⟨b3, 0 + t6.toNat * 1, none⟩ [.int .u64 (at_ (zbj b) t6)]).1 w24 := (CF.box (m := 1) (S25.box_at (j := 1) rfl) (cs := (zbf .u64 (zbj b))) (zdz (zda b) (by omega) (by omega)))
  refine d_s rfl rfl (zbh rfl rfl r24) (.inr (zba (by decide +kernel) (zba (by decide +kernel) trivial))) <| zb3 (by decide +kernel) ?_
  intro wd27 gd27
  have S28 := S25.keep gd27
  refine zat <| zad (l := [0, 1]) rfl <| p_v (v := .int .i64 (t6 + 1)) rfl rfl rfl (zct r9_6 rfl (zao (by omega) (by omega))) <| p_v (v := .int .i64 (t6 + 1)) rfl rfl rfl (zag rfl) <| zaa ?_
  refine ih9 (a2.set t6.toNat (iand (at_ a2 t6) (at_ (zbj b) t6)), t6 + 1) _ _ (by dsimp only; omega) ⟨h9, le9, S28.sub [0, 1, 2] (by decide) rfl _ rfl, r9_2, r9_3, r9_4, rfl, ok24, (zao (by omega) (by omega)), (by exact ⟨by omega, by omega, by rw [hI9.2.2]; exact zipTo_step _ (zbj a) (zbj b) rfl hI9.1 (by show _ < ((4 : Nat) : Int); omega)⟩)⟩
 refine zbn rfl <| zab <| zad (l := [0, 1]) rfl <| p_v (v := .agg (zak (zck a2)).toArray) rfl rfl rfl (zal (seg := (zak (zck a2))) ty74 rfl (by simp) r9_2 (CF.box (m := 4) (S9.box_at (j := 0) rfl) (by rw [← encSet_of f9_0]; exact encInts_full f9_0))) ?_
 obtain ⟨w29, r29, g29, T29⟩ := zcb (P := Tryd.prog) (off := 0) (v := .agg (zak (zck a2)).toArray) (vs := (zak (zck a2))) S9 ty74 rfl rfl (j := 2) rfl (by first | decide | exact Nat.le_of_ble_eq_true rfl) (zd9 _)
 have S30 := T29.fx 2 (box b5 74 (zak (zck a2))) rfl
 dsimp only [lAa, lAn, lA0, lAs] at S30
 refine p_s rfl rfl (zbh r9_4 rfl r29) <| zaa <| zar Tryd.func137 (res1 rfl (zcv S30 ty74 r9_4 (j := 2) rfl rfl (by simp) rfl)) ?_
 have q0 : (a &&& b : BSet) = (zck a2) := by
  rw [hI9.2.2, show t6 = 4 by omega]; exact (and_words a b).symm
 refine ⟨_, rfl, h9, ?_, ?_⟩
 · exact S30.sub [] (by decide) rfl _ rfl
 · (simp only [q0]; rfl)
theorem or_calls (w : World) (a : BSet) (b : BSet) :
    Calls Tryd.prog 162 #[.agg (zak a).toArray, .agg (zak b).toArray] w fun e w' => ∃ v, e = .returned v ∧ ∃ (hn : Ghost), St w.heap.size w hn w' [] ∧ v = .agg (zak (a ||| b)).toArray := by
 refine zaq Tryd.func162 rfl Tryd.ntmps162 rfl ?_
 have S0 := St.init w
 refine zab <| zad (l := [0, 1, 2]) rfl ?_
 obtain ⟨b1, w1, r1, g1, T1⟩ := zb2 (P := Tryd.prog) S0 74 (v := .agg (zak a).toArray) (zak a) rfl
 have S2 := T1
 dsimp only [lAa, lAn, lA0, lAs] at S2
 refine p_v (v := .pointer (some ⟨b1, 0, none⟩)) rfl rfl rfl (zc8 rfl r1) ?_
 obtain ⟨b3, w3, r3, g3, T3⟩ := zb2 (P := Tryd.prog) S2 74 (v := .agg (zak b).toArray) (zak b) rfl
 have S4 := T3
 dsimp only [lAa, lAn, lA0, lAs] at S4
 refine p_v (v := .pointer (some ⟨b3, 0, none⟩)) rfl rfl rfl (zc8 rfl r3) ?_
 obtain ⟨b5, w5, r5, g5, T5⟩ := zb2 (P := Tryd.prog) S4 74 (v := (.agg #[.int .u64 0, .int .u64 0, .int .u64 0, .int .u64 0])) (zak (0 : BSet)) rfl
 have S6 := T5
 dsimp only [lAa, lAn, lA0, lAs] at S6
 refine p_v (v := .pointer (some ⟨b5, 0, none⟩)) rfl rfl rfl (zcj ty74 r5) <| zaa <| zab <| zab <| zad (l := [0]) rfl <| p_v (v := .int .i64 0) rfl rfl rfl (zag rfl) <| zaa <| zas ?_
 have S7 : St w.heap.size w (fun _ => none) w5 [box b1 74 (zbf .u64 (zbj a)), box b3 74 (zak b), box b5 74 (zak (0 : BSet))] := S6
 have S8 : St w.heap.size w (fun _ => none) w5 [box b1 74 (zbf .u64 (zbj a)), box b3 74 (zbf .u64 (zbj b)), box b5 74 (zak (0 : BSet))] := S7
 refine zbo (S := (List Int) × Int) (fun (q_ : (List Int) × Int) ρ w' => match q_ with | (a2, t6) => ∃ (h : Ghost), Le (fun _ => none) h ∧ St w.heap.size w h w' [box b1 74 (zbf .u64 a2), box b3 74 (zbf .u64 (zbj b)), box b5 74 (zak (0 : BSet))] ∧ ρ 2 = .pointer (some ⟨b1, 0, none⟩) ∧ ρ 3 = .pointer (some ⟨b3, 0, none⟩) ∧ ρ 4 = .pointer (some ⟨b5, 0, none⟩) ∧ ρ 6 = .int .i64 t6 ∧ zdn .u64 4 a2 ∧ inK .i64 t6 ∧ (0 ≤ t6 ∧ t6 ≤ 4 ∧ a2 = zipTo ior (zbj a) (zbj b) t6)) (fun q_ => match q_ with | (a2, t6) => (4 - t6).toNat) ((zbj a), 0) ⟨(fun _ => none), Le.refl _, S8.sub [0, 1, 2] (by decide) rfl _ rfl, rfl, rfl, rfl, rfl, (zda a), (zao (by omega) (by omega)), (by exact ⟨by omega, by omega, zipTo_0 _ _ _⟩)⟩ ?_
 rintro ⟨a2, t6⟩ ih9 ρ9 w9 ⟨h9, le9, S9, r9_2, r9_3, r9_4, r9_6, f9_0, f9_1, hI9⟩
 have lf9_1 := za7 f9_1; have hf9_1 := za8 f9_1
 refine zab <| zad (l := [0]) rfl <| p_v (v := .bool (decide (t6 < 4))) rfl rfl rfl (zdc r9_6 rfl) <| zaa <| zab ?_
 refine zap (p := t6 < 4) rfl (fun hc10 => ?_) (fun hc10 => ?_)
 ·skip
  refine zau <| zab <| zas <| zab <| zad (l := [0, 1]) rfl <| p_v (v := .int .i64 t6) rfl rfl rfl (zag r9_6) <| p_v (v := .int .i64 t6) rfl rfl rfl (zah rfl) <| zaa ?_
  have in11 := zcz f9_0 (i := t6) (by omega) (by omega)
  have lo11 := zc6 in11; have hi11 := zc9 in11
  have in12 := zcz (zda b) (i := t6) (by omega) (by omega)
  have lo12 := zc6 in12; have hi12 := zc9 in12
  have in13 : inK .u64 (ior (at_ a2 t6) (at_ (zbj b) t6)) := ior_in (zdl (by omega) (by omega)) (zdl (by omega) (by omega))
  have lo13 := zc6 in13; have hi13 := zc9 in13
  have hf14 : (CFs ⟨b1, 0 + t6.toNat * 1, none⟩ [.int .u64 (at_ a2 t6)]).1 w9 := (CF.box (m := 1) (S9.box_at (j := 0) rfl) (cs := (zbf .u64 a2)) (zdz f9_0 (by omega) (by omega)))
  have hf15 : (CFs ⟨b3, 0 + t6.toNat * 1, none⟩ [.int .u64 (at_ (zbj b) t6)]).1 w9 := (CF.box (m := 1) (S9.box_at (j := 1) rfl) (cs := (zbf .u64 (zbj b))) (zdz (zda b) (by omega) (by omega)))
  refine daS (hkC 2 hf14 (hkC 5 hf15 (hkN (w := w9)))) 9 rfl mixed ?_
  intro wd16 gd16 hd16
  have S17 := S9.keep gd16
  have hf18 := spUp gd16 hf14
  have hf19 := spUp gd16 hf15
  refine qd0 (i := 0) (v := .int .i64 t6) rfl (by decide +kernel) rfl rfl (zag rfl) (zaj rfl) <| qd0 (i := 1) (v := .pointer (some ⟨b1, 0 + t6.toNat * 1, none⟩)) rfl (by decide +kernel) rfl rfl (zbp u74 ty56 r9_2 rfl (by omega) (by omega)) (zaj rfl) <| qd1 0 (i := 2) (v := .int .u64 (at_ a2 t6)) rfl rfl (by decide +kernel) rfl rfl (fun wq hq => (zal (seg := [.int .u64 (at_ a2 t6)]) ty56 rfl (by simp) rfl hq)) (za9 hf18 (zaj rfl)) <| qd0 (i := 3) (v := .int .i64 t6) rfl (by decide +kernel) rfl rfl (zag rfl) (zaj rfl) <| qd0 (i := 4) (v := .pointer (some ⟨b3, 0 + t6.toNat * 1, none⟩)) rfl (by decide +kernel) rfl rfl (zbp u74 ty56 r9_3 rfl (by omega) (by omega)) (zaj rfl) <| qd1 1 (i := 5) (v := .int .u64 (at_ (zbj b) t6)) rfl rfl (by decide +kernel) rfl rfl (fun wq hq => (zal (seg := [.int .u64 (at_ (zbj b) t6)]) ty56 rfl (by simp) rfl hq)) (za1 rfl (za9 hf19 (zaj rfl))) <| qd0 (i := 6) (v := .int .u64 (ior (at_ a2 t6) (at_ (zbj b) t6))) rfl (by decide +kernel) rfl rfl (x_or_u64 rfl rfl (zdl (by omega) (by omega)) (zdl (by omega) (by omega))) (zaj rfl) <| qd0 (i := 7) (v := .pointer (some ⟨b1, 0 + t6.toNat * 1, none⟩)) rfl (by decide +kernel) rfl rfl (zbp u74 ty56 r9_2 rfl (by omega) (by omega)) (zaj rfl) <| zby (i := 8) (by decide +kernel) ?_
  intro wd20 gd20
  have S21 := S17.keep gd20
  have hf22 := spUp gd20 hf18
  have hf23 := spUp gd20 hf19
  obtain ⟨w24, r24, g24, T24⟩ := zcb (P := Tryd.prog) (off := 0 + t6.toNat * 1) (v := .int .u64 (ior (at_ a2 t6) (at_ (zbj b) t6))) (vs := [.int .u64 (ior (at_ a2 t6) (at_ (zbj b) t6))]) S21 ty56 rfl rfl (j := 0) rfl (by rw [zeh f9_0]; first|omega|(simp;omega)|assumption) (by simp [Value.oneCell'])
  rw [encInts_put] at T24
  have ok24 : zdn .u64 4 (a2.set t6.toNat (ior (at_ a2 t6) (at_ (zbj b) t6))) := zff f9_0 _ in13
  have S25 := T24.fx 0 (box b1 74 (zbf .u64 (a2.set t6.toNat (ior (at_ a2 t6) (at_ (zbj b) t6))))) rfl
  dsimp only [lAa, lAn, lA0, lAs] at S25
  have hf26 : (CFs ⟨b3, 0 + t6.toNat * 1, none⟩ [.int .u64 (at_ (zbj b) t6)]).1 w24 := (CF.box (m := 1) (S25.box_at (j := 1) rfl) (cs := (zbf .u64 (zbj b))) (zdz (zda b) (by omega) (by omega)))
  refine d_s rfl rfl (zbh rfl rfl r24) (.inr (zba (by decide +kernel) (zba (by decide +kernel) trivial))) <| zb3 (by decide +kernel) ?_
  intro wd27 gd27
  have S28 := S25.keep gd27
  refine zat <| zad (l := [0, 1]) rfl <| p_v (v := .int .i64 (t6 + 1)) rfl rfl rfl (zct r9_6 rfl (zao (by omega) (by omega))) <| p_v (v := .int .i64 (t6 + 1)) rfl rfl rfl (zag rfl) <| zaa ?_
  refine ih9 (a2.set t6.toNat (ior (at_ a2 t6) (at_ (zbj b) t6)), t6 + 1) _ _ (by dsimp only; omega) ⟨h9, le9, S28.sub [0, 1, 2] (by decide) rfl _ rfl, r9_2, r9_3, r9_4, rfl, ok24, (zao (by omega) (by omega)), (by exact ⟨by omega, by omega, by rw [hI9.2.2]; exact zipTo_step _ (zbj a) (zbj b) rfl hI9.1 (by show _ < ((4 : Nat) : Int); omega)⟩)⟩
 refine zbn rfl <| zab <| zad (l := [0, 1]) rfl <| p_v (v := .agg (zak (zck a2)).toArray) rfl rfl rfl (zal (seg := (zak (zck a2))) ty74 rfl (by simp) r9_2 (CF.box (m := 4) (S9.box_at (j := 0) rfl) (by rw [← encSet_of f9_0]; exact encInts_full f9_0))) ?_
 obtain ⟨w29, r29, g29, T29⟩ := zcb (P := Tryd.prog) (off := 0) (v := .agg (zak (zck a2)).toArray) (vs := (zak (zck a2))) S9 ty74 rfl rfl (j := 2) rfl (by first | decide | exact Nat.le_of_ble_eq_true rfl) (zd9 _)
 have S30 := T29.fx 2 (box b5 74 (zak (zck a2))) rfl
 dsimp only [lAa, lAn, lA0, lAs] at S30
 refine p_s rfl rfl (zbh r9_4 rfl r29) <| zaa <| zar Tryd.func162 (res1 rfl (zcv S30 ty74 r9_4 (j := 2) rfl rfl (by simp) rfl)) ?_
 have q0 : (a ||| b : BSet) = (zck a2) := by
  rw [hI9.2.2, show t6 = 4 by omega]; exact (or_words a b).symm
 refine ⟨_, rfl, h9, ?_, ?_⟩
 · exact S30.sub [] (by decide) rfl _ rfl
 · (simp only [q0]; rfl)
theorem of_calls (w : World) (bs : List Int) (A0 : Option Addr) (c0 : Nat) (b0 : bs.length ≤ c0 ∧ c0 ≤ maxLen) (l0 : zbe (Kd.int .u8) (hp w) A0 bs) :
    Calls Tryd.prog 64 #[.slice A0 bs.length c0] w fun e w' => ∃ v, e = .returned v ∧ ∃ (hn : Ghost), St w.heap.size w hn w' [] ∧ v = .agg (zak (zb6 bs)).toArray := by
 refine zaq Tryd.func64 rfl Tryd.ntmps64 rfl ?_
 have S0 := St.init w
 have bb0 := b0.1; have bc0 := b0.2; simp only [maxLen] at bc0
 refine zab <| zad (l := [0]) rfl ?_
 obtain ⟨b1, w1, r1, g1, T1⟩ := zb2 (P := Tryd.prog) S0 74 (v := (.agg #[.int .u64 0, .int .u64 0, .int .u64 0, .int .u64 0])) (zak (0 : BSet)) rfl
 have S2 := T1
 dsimp only [lAa, lAn, lA0, lAs] at S2
 refine p_v (v := .pointer (some ⟨b1, 0, none⟩)) rfl rfl rfl (zcj ty74 r1) <| zaa <| zab <| zad (l := [0]) rfl ?_
 obtain ⟨b3, w3, r3, g3, T3⟩ := zb2 (P := Tryd.prog) S2 74 (v := (.agg #[.int .u64 0, .int .u64 0, .int .u64 0, .int .u64 0])) (zak (0 : BSet)) rfl
 have S4 := T3
 dsimp only [lAa, lAn, lA0, lAs] at S4
 refine p_v (v := .pointer (some ⟨b3, 0, none⟩)) rfl rfl rfl (zcj ty74 r3) <| zaa <| zab <| zab <| zad (l := [0, 1, 2]) rfl <| p_v (v := .slice A0 bs.length c0) rfl rfl rfl (zag rfl) <| p_v (v := .int .i64 (bs.length : Int)) rfl rfl rfl (za0 u39 rfl) <| p_v (v := .int .i64 0) rfl rfl rfl (zag rfl) <| zaa <| zas ?_
 have S5 : St w.heap.size w (fun _ => none) w3 [box b1 74 (zak (0 : BSet)), box b3 74 (zbf .u64 (zbj (0 : BSet)))] := S4
 refine zbo (S := (List Int) × Int) (fun (q_ : (List Int) × Int) ρ w' => match q_ with | (s, t10) => ∃ (h : Ghost), Le (fun _ => none) h ∧ St w.heap.size w h w' [box b1 74 (zak (0 : BSet)), box b3 74 (zbf .u64 s)] ∧ ρ 2 = .pointer (some ⟨b1, 0, none⟩) ∧ ρ 3 = .pointer (some ⟨b3, 0, none⟩) ∧ ρ 8 = .slice A0 bs.length c0 ∧ ρ 9 = .int .i64 (bs.length : Int) ∧ ρ 10 = .int .i64 t10 ∧ zdn .u64 4 s ∧ inK .i64 t10 ∧ (0 ≤ t10 ∧ t10 ≤ (bs.length : Int) ∧ s = zbj (zb6 (bs.take t10.toNat)))) (fun q_ => match q_ with | (s, t10) => (bs.length - t10).toNat) ((zbj (0 : BSet)), 0) ⟨(fun _ => none), Le.refl _, S5.sub [0, 1] (by decide) rfl _ rfl, rfl, rfl, rfl, rfl, rfl, (zda (0 : BSet)), (zao (by omega) (by omega)), (by exact ⟨by omega, by omega, by simp [set_nil]⟩)⟩ ?_
 rintro ⟨s, t10⟩ ih6 ρ6 w6 ⟨h6, le6, S6, r6_2, r6_3, r6_8, r6_9, r6_10, f6_0, f6_1, hI6⟩
 have lf6_1 := za7 f6_1; have hf6_1 := za8 f6_1
 refine zab <| zad (l := [0]) rfl <| p_v (v := .bool (decide (t10 < (bs.length : Int)))) rfl rfl rfl (zdc r6_10 r6_9) <| zaa <| zab ?_
 refine zap (p := t10 < (bs.length : Int)) rfl (fun hc7 => ?_) (fun hc7 => ?_)
 ·skip
  refine zau <| zab <| zas <| zab <| zad (l := [0, 1, 2]) rfl ?_
  obtain ⟨ad8, seg8, a8, rp8, ce8⟩ := zaz (q := t10) (m := 1) l0 rfl (by omega) (by omega)
  refine p_v (v := .pointer (some ad8)) rfl rfl rfl (zaw u39 ty5 r6_8 r6_10 a8 (by omega) (by omega)) ?_
  obtain ⟨rfl, in8⟩ := rp8
  have lo8 := zeu in8; have hi8 := zfa in8
  refine p_v (v := .int .u8 (at_ bs t10)) rfl rfl rfl (zal (seg := [.int .u8 (at_ bs t10)]) ty5 rfl (by simp) rfl (CF.ghost ce8 (St.le0 S6))) <| p_v (v := .int .u8 (at_ bs t10)) rfl rfl rfl (zah rfl) <| zaa <| zab <| zad (l := [0, 1, 2, 3, 4, 5, 6]) rfl <| p_v (v := .int .u8 (at_ bs t10)) rfl rfl rfl (zag rfl) <| p_c rfl rfl rfl (za6 (args := [.int .u8 (at_ bs t10)]) ca127 rfl rfl) (bit_calls w6 (at_ bs t10) (zec (by omega) (by omega))) ?_
  rintro _ w9 ⟨h9, T9, rfl, in9_0, in9_1⟩
  have S10 := S6.keep (Chg.of_below T9.below)
  have lo_in9_0 := za7 in9_0; have hi_in9_0 := za8 in9_0
  have lo_in9_1 := zc6 in9_1; have hi_in9_1 := zc9 in9_1
  refine p_v (v := .tuple #[.int .i64 ((at_ bs t10) / 64), .int .u64 (2 ^ ((at_ bs t10) % 64).toNat)]) rfl rfl rfl (zag rfl) <| p_v (v := .int .i64 ((at_ bs t10) / 64)) rfl rfl rfl (zcs (vs := [.int .i64 ((at_ bs t10) / 64), .int .u64 (2 ^ ((at_ bs t10) % 64).toNat)]) rfl rfl) <| p_v (v := .int .u64 (2 ^ ((at_ bs t10) % 64).toNat)) rfl rfl rfl (zcs (vs := [.int .i64 ((at_ bs t10) / 64), .int .u64 (2 ^ ((at_ bs t10) % 64).toNat)]) rfl rfl) <| p_v (v := .int .i64 ((at_ bs t10) / 64)) rfl rfl rfl (zah rfl) <| p_v (v := .int .u64 (2 ^ ((at_ bs t10) % 64).toNat)) rfl rfl rfl (zah rfl) <| zaa <| zad (l := [0, 1, 2, 3, 4, 5, 6]) rfl <| p_v (v := .int .i64 ((at_ bs t10) / 64)) rfl rfl rfl (zag rfl) <| p_v (v := .pointer (some ⟨b3, 0 + ((at_ bs t10) / 64).toNat * 1, none⟩)) rfl rfl rfl (zbp u74 ty56 r6_3 rfl (by omega) (by omega)) ?_
  have in11 := zcz f6_0 (i := (at_ bs t10) / 64) (by omega) (by omega)
  have lo11 := zc6 in11; have hi11 := zc9 in11
  refine p_v (v := .int .u64 (at_ s ((at_ bs t10) / 64))) rfl rfl rfl (zal (seg := [.int .u64 (at_ s ((at_ bs t10) / 64))]) ty56 rfl (by simp) rfl (CF.box (m := 1) (S10.box_at (j := 1) rfl) (cs := (zbf .u64 s)) (zdz f6_0 (by omega) (by omega)))) <| p_v (v := .int .u64 (2 ^ ((at_ bs t10) % 64).toNat)) rfl rfl rfl (zag rfl) ?_
  have in12 : inK .u64 (ior (at_ s ((at_ bs t10) / 64)) (2 ^ ((at_ bs t10) % 64).toNat)) := ior_in (zdl (by omega) (by omega)) in9_1
  have lo12 := zc6 in12; have hi12 := zc9 in12
  refine p_v (v := .int .u64 (ior (at_ s ((at_ bs t10) / 64)) (2 ^ ((at_ bs t10) % 64).toNat))) rfl rfl rfl (x_or_u64 rfl rfl (zdl (by omega) (by omega)) in9_1) <| p_v (v := .pointer (some ⟨b3, 0 + ((at_ bs t10) / 64).toNat * 1, none⟩)) rfl rfl rfl (zbp u74 ty56 r6_3 rfl (by omega) (by omega)) ?_
  obtain ⟨w13, r13, g13, T13⟩ := zcb (P := Tryd.prog) (off := 0 + ((at_ bs t10) / 64).toNat * 1) (v := .int .u64 (ior (at_ s ((at_ bs t10) / 64)) (2 ^ ((at_ bs t10) % 64).toNat))) (vs := [.int .u64 (ior (at_ s ((at_ bs t10) / 64)) (2 ^ ((at_ bs t10) % 64).toNat))]) S10 ty56 rfl rfl (j := 1) rfl (by rw [zeh f6_0]; first|omega|(simp;omega)|assumption) (by simp [Value.oneCell'])
  rw [encInts_put] at T13
  have ok13 : zdn .u64 4 (s.set ((at_ bs t10) / 64).toNat (ior (at_ s ((at_ bs t10) / 64)) (2 ^ ((at_ bs t10) % 64).toNat))) := zff f6_0 _ in12
  have S14 := T13.fx 1 (box b3 74 (zbf .u64 (s.set ((at_ bs t10) / 64).toNat (ior (at_ s ((at_ bs t10) / 64)) (2 ^ ((at_ bs t10) % 64).toNat))))) rfl
  dsimp only [lAa, lAn, lA0, lAs] at S14
  refine p_s rfl rfl (zbh rfl rfl r13) <| zaa <| zat <| zad (l := [0, 1]) rfl <| p_v (v := .int .i64 (t10 + 1)) rfl rfl rfl (zct r6_10 rfl (zao (by omega) (by omega))) <| p_v (v := .int .i64 (t10 + 1)) rfl rfl rfl (zag rfl) <| zaa ?_
  refine ih6 (s.set ((at_ bs t10) / 64).toNat (ior (at_ s ((at_ bs t10) / 64)) (2 ^ ((at_ bs t10) % 64).toNat)), t10 + 1) _ _ (by dsimp only; omega) ⟨h6, le6, S14.sub [0, 1] (by decide) rfl _ rfl, r6_2, r6_3, r6_8, r6_9, rfl, ok13, (zao (by omega) (by omega)), (by exact ⟨by omega, by omega, by rw [hI6.2.2]; exact setOf_step bs hI6.1 (by omega) (by omega) (by omega)⟩)⟩
 refine zbn rfl <| zab <| zad (l := [0, 1]) rfl <| p_v (v := .agg (zak (zck s)).toArray) rfl rfl rfl (zal (seg := (zak (zck s))) ty74 rfl (by simp) r6_3 (CF.box (m := 4) (S6.box_at (j := 1) rfl) (by rw [← encSet_of f6_0]; exact encInts_full f6_0))) ?_
 obtain ⟨w15, r15, g15, T15⟩ := zcb (P := Tryd.prog) (off := 0) (v := .agg (zak (zck s)).toArray) (vs := (zak (zck s))) S6 ty74 rfl rfl (j := 0) rfl (by first | decide | exact Nat.le_of_ble_eq_true rfl) (zd9 _)
 have S16 := T15.fx 0 (box b1 74 (zak (zck s))) rfl
 dsimp only [lAa, lAn, lA0, lAs] at S16
 refine p_s rfl rfl (zbh r6_2 rfl r15) <| zaa <| zar Tryd.func64 (res1 rfl (zcv S16 ty74 r6_2 (j := 0) rfl rfl (by simp) rfl)) ?_
 have q0 : (zb6 bs : BSet) = (zck s) := by
  rw [hI6.2.2, of_words, List.take_of_length_le (by omega)]
 refine ⟨_, rfl, h6, ?_, ?_⟩
 · exact S16.sub [] (by decide) rfl _ rfl
 · (simp only [q0]; rfl)
theorem list_calls (w : World) (s : BSet) (tb : zex 0 tzTab w) :
    Calls Tryd.prog 130 #[.agg (zak s).toArray] w fun e w' => ∃ v, e = .returned v ∧ ∃ (hn : Ghost) (r0 : Value), St w.heap.size w hn w' [row 5 (Kd.int .u8) r0 (zcf s)] ∧ v = r0 := by
 refine zaq Tryd.func130 rfl Tryd.ntmps130 rfl ?_
 have S0 := St.init w
 refine zab <| zad (l := [0, 1]) rfl ?_
 obtain ⟨b1, w1, r1, g1, T1⟩ := zb2 (P := Tryd.prog) S0 74 (v := .agg (zak s).toArray) (zak s) rfl
 have S2 := T1
 dsimp only [lAa, lAn, lA0, lAs] at S2
 refine p_v (v := .pointer (some ⟨b1, 0, none⟩)) rfl rfl rfl (zc8 rfl r1) <| p_v (v := .slice none 0 0) rfl rfl rfl (zah rfl) <| zaa <| zab <| zad (l := [0]) rfl <| p_v (v := .slice none 0 0) rfl rfl rfl (zah rfl) <| zaa <| zab <| zab <| zad (l := [0, 1]) rfl <| p_v (v := .agg (zak s).toArray) rfl rfl rfl (zal (seg := (zak s)) ty74 rfl (by simp) rfl (CF.box (m := 4) (S2.box_at (j := 0) rfl) rfl)) <| p_v (v := .int .i64 0) rfl rfl rfl (zag rfl) ?_
 refine zaa <| zas ?_
 have T3 := S2.row_nil 5 (Kd.int .u8)
 obtain ⟨vn3, ev3, T3⟩ : ∃ v, v = (.slice none 0 0 : Value) ∧ St w.heap.size w (fun _ => none) w1 ([box b1 74 (zak s)] ++ [row 5 (Kd.int .u8) v []]) := ⟨_, rfl, T3⟩
 have S4 := T3
 dsimp only [lAa, lAn, lA0, lAs] at S4
 refine zbo (S := (List Int) × Int) (fun (q_ : (List Int) × Int) ρ w' => match q_ with | (out, t7) => ∃ (h : Ghost) (v_out : Value), Le (fun _ => none) h ∧ St w.heap.size w h w' [row 5 (Kd.int .u8) v_out out] ∧ ρ 3 = v_out ∧ ρ 6 = .agg (zak s).toArray ∧ ρ 7 = .int .i64 t7 ∧ inK .i64 t7 ∧ (0 ≤ t7 ∧ t7 ≤ 4 ∧ out = rowTo s t7)) (fun q_ => match q_ with | (out, t7) => (4 - t7).toNat) (([] : List Int), 0) ⟨(fun _ => none), vn3, Le.refl _, S4.sub [1] (by decide) rfl _ rfl, (ev3.symm), rfl, rfl, (zao (by omega) (by omega)), (by exact ⟨by omega, by omega, (rowTo_0 s).symm⟩)⟩ ?_
 rintro ⟨out, t7⟩ ih5 ρ5 w5 ⟨h5, v_out, le5, S5, r5_3, r5_6, r5_7, f5_0, hI5⟩
 have lf5_0 := za7 f5_0; have hf5_0 := za8 f5_0
 have rl5_0 := S5.row_le (j := 0) rfl; simp only [maxLen] at rl5_0
 refine zab <| zad (l := [0]) rfl <| p_v (v := .bool (decide (t7 < 4))) rfl rfl rfl (zdc r5_7 rfl) <| zaa <| zab ?_
 refine zap (p := t7 < 4) rfl (fun hc6 => ?_) (fun hc6 => ?_)
 ·skip
  refine zau <| zab <| zas <| zab <| zad (l := [0, 1, 2, 3]) rfl <| p_v (v := .int .i64 t7) rfl rfl rfl (zag r5_7) ?_
  have in7 := zcz (zda s) (i := t7) (by omega) (by omega)
  have lo7 := zc6 in7; have hi7 := zc9 in7
  refine p_v (v := .int .u64 (at_ (zbj s) t7)) rfl rfl rfl (x_index_arr (cs := (zbf .u64 (zbj s))) u74 ty56 r5_6 r5_7 (by omega) (by omega) (encInts_get (zda s) (by omega) (by omega))) <| p_v (v := .int .i64 t7) rfl rfl rfl (zah rfl) <| p_v (v := .int .u64 (at_ (zbj s) t7)) rfl rfl rfl (zah rfl) <| zaa <| zas <| zbo (S := (List Int) × Int) (fun (q_ : (List Int) × Int) ρ w' => match q_ with | (out2, x) => ∃ (h : Ghost) (v_out2 : Value), Le h5 h ∧ St w.heap.size w h w' [row 5 (Kd.int .u8) v_out2 out2] ∧ ρ 3 = v_out2 ∧ ρ 4 = .int .i64 t7 ∧ ρ 5 = .int .u64 x ∧ ρ 6 = .agg (zak s).toArray ∧ ρ 7 = .int .i64 t7 ∧ inK .u64 x ∧ (0 ≤ x ∧ x ≤ 18446744073709551615 ∧ out2 ++ wrow t7 x = out ++ wrow t7 (at_ (zbj s) t7))) (fun q_ => match q_ with | (out2, x) => x.toNat) (out, at_ (zbj s) t7) ⟨h5, v_out, Le.refl _, S5.sub [0] (by decide) rfl _ rfl, r5_3, rfl, rfl, r5_6, r5_7, (zdl (by omega) (by omega)), (by exact ⟨by omega, by omega, rfl⟩)⟩ ?_
  rintro ⟨out2, x⟩ ih8 ρ8 w8 ⟨h8, v_out2, le8, S8, r8_3, r8_4, r8_5, r8_6, r8_7, f8_0, hI8⟩
  have lf8_0 := zc6 f8_0; have hf8_0 := zc9 f8_0
  have rl8_0 := S8.row_le (j := 0) rfl; simp only [maxLen] at rl8_0
  have hb := list_bound s hI5.1 (by omega) hI5.2.2 hI8.2.2
  refine zab <| zab <| zad (l := [0, 1]) rfl <| p_v (v := .int .u64 x) rfl rfl rfl (zag r8_5) <| p_v (v := .bool (decide (x ≠ 0))) rfl rfl rfl (x_neq rfl rfl) <| zaa ?_
  refine zap (p := x ≠ 0) rfl (fun hc9 => ?_) (fun hc9 => ?_)
  ·skip
   refine zau <| zab <| zas <| zad (l := [0, 1, 2, 3, 4, 5, 6, 7, 8, 9]) rfl <| p_v (v := v_out2) rfl rfl rfl (zag r8_3) <| p_v (v := .int .i64 t7) rfl rfl rfl (zag r8_4) <| p_v (v := .int .i64 (t7 * 64)) rfl rfl rfl (x_mul rfl rfl (zao (by omega) (by omega))) <| p_v (v := .int .u64 x) rfl rfl rfl (zag r8_5) <| p_c rfl rfl rfl (za6 (args := [.int .u64 x]) ca128 rfl rfl) (tz_calls w8 x f8_0 (zex.st S8 tb)) ?_
   rintro _ w10 ⟨h10, T10, rfl, in10_0⟩
   have S11 := S8.keep (Chg.of_below T10.below)
   have lo_in10_0 := za7 in10_0; have hi_in10_0 := za8 in10_0
   have cz10 : x ≠ 0 → Lib.ctz 64 x.toNat < 64 := fun h => ctz_lt h (by omega) (by omega)
   refine p_v (v := .int .i64 ((t7 * 64) + ((Lib.ctz 64 x.toNat : Nat) : Int))) rfl rfl rfl (zct rfl rfl (zao (by omega) (by omega))) <| p_v (v := .int .u8 ((t7 * 64) + ((Lib.ctz 64 x.toNat : Nat) : Int))) rfl rfl rfl (x_conv u3 u5 rfl (zec (by omega) (by omega))) ?_
   obtain ⟨v12, w12, r12, g12, T12⟩ := za4 (kd := (Kd.int .u8)) (xs := ([(t7 * 64) + ((Lib.ctz 64 x.toNat : Nat) : Int)] : List Int)) (len := 1) [.int .u8 ((t7 * 64) + ((Lib.ctz 64 x.toNat : Nat) : Int))] S11 u39 ty5 rfl rfl rfl rfl rfl (zbi rfl zbq) [.int .u8 ((t7 * 64) + ((Lib.ctz 64 x.toNat : Nat) : Int))] (zcg.single (k := (Kd.int .u8)) (h := h8) (x := (t7 * 64) + ((Lib.ctz 64 x.toNat : Nat) : Int)) (cs := [.int .u8 ((t7 * 64) + ((Lib.ctz 64 x.toNat : Nat) : Int))]) ⟨rfl, (zec (by omega) (by omega))⟩) rfl
   have S13 := T12
   dsimp only [lAa, lAn, lA0, lAs] at S13
   refine p_v (v := v12) rfl rfl rfl (zav (pv := [(0, .int .u8 ((t7 * 64) + ((Lib.ctz 64 x.toNat : Nat) : Int)))]) rfl r12) ?_
   obtain ⟨A15, c15, ev15, lc15, cm15⟩ := S13.row_val (j := 1) rfl
   obtain ⟨v16, w16, r16, g16, T16⟩ := zcd (kd := (Kd.int .u8)) (A := A15) (c := c15) (ys := ([(t7 * 64) + ((Lib.ctz 64 x.toNat : Nat) : Int)] : List Int)) (len := ([(t7 * 64) + ((Lib.ctz 64 x.toNat : Nat) : Int)] : List Int).length) 39 S13 u39 ty5 rfl rfl (j := 0) rfl rfl (zcl S13 (j := 1) rfl ev15) (by first|omega|(simp;omega)|assumption) (by first|omega|(simp;omega)|assumption)
   have S17 := T16.fx 0 (row 5 (Kd.int .u8) v16 (out2 ++ ([(t7 * 64) + ((Lib.ctz 64 x.toNat : Nat) : Int)] : List Int))) rfl
   dsimp only [lAa, lAn, lA0, lAs] at S17
   refine p_v (v := v16) rfl rfl rfl (zcc rfl ev15 r16) <| p_v (v := v16) rfl rfl rfl (zah rfl) <| zaa <| zat <| zad (l := [0, 1, 2, 3, 4]) rfl <| p_v (v := .int .u64 x) rfl rfl rfl (zag r8_5) <| p_v (v := .int .u64 x) rfl rfl rfl (zag r8_5) <| p_v (v := .int .u64 (x - 1)) rfl rfl rfl (x_sub rfl rfl (zdl (by omega) (by omega))) ?_
   have in18 : inK .u64 (iand x (x - 1)) := iand_in (x - 1) f8_0
   have lo18 := zc6 in18; have hi18 := zc9 in18
   refine p_v (v := .int .u64 (iand x (x - 1))) rfl rfl rfl (x_and_u64 rfl rfl f8_0 (zdl (by omega) (by omega))) <| p_v (v := .int .u64 (iand x (x - 1))) rfl rfl rfl (zah rfl) <| zaa ?_
   refine ih8 (out2 ++ ([(t7 * 64) + ((Lib.ctz 64 x.toNat : Nat) : Int)] : List Int), iand x (x - 1)) _ _ (by exact iand_pred_lt (by omega)) ⟨h8, v16, le8, S17.sub [0] (by decide) rfl _ rfl, rfl, r8_4, rfl, r8_6, r8_7, in18, (by exact ⟨by omega, by omega, by rw [← hI8.2.2, wrow_step t7 (x := x) (by omega) (by omega)]; simp⟩)⟩
  refine zbn rfl <| zat <| zad (l := [0, 1]) rfl <| p_v (v := .int .i64 (t7 + 1)) rfl rfl rfl (zct r8_7 rfl (zao (by omega) (by omega))) <| p_v (v := .int .i64 (t7 + 1)) rfl rfl rfl (zag rfl) <| zaa ?_
  refine ih5 (out2, t7 + 1) _ _ (by dsimp only; omega) ⟨h8, v_out2, ((le5).trans le8), S8.sub [0] (by decide) rfl _ rfl, r8_3, r8_6, rfl, (zao (by omega) (by omega)), (by exact ⟨by omega, by omega, by rw [← rowTo_step s hI5.1 (by omega), ← hI5.2.2, ← hI8.2.2, show x = 0 by omega, wrow_nil, List.append_nil]⟩)⟩
 refine zbn rfl <| zab <| zad (l := [0, 1]) rfl <| p_v (v := v_out) rfl rfl rfl (zag r5_3) <| p_v (v := v_out) rfl rfl rfl (zah rfl) <| zaa <| zar Tryd.func130 (res1 rfl (zax (v := v_out) rfl)) ?_
 have q0 : (zcf s : List Int) = out := by
  rw [hI5.2.2, show t7 = 4 by omega]; exact (rowTo_4 s).symm
 refine ⟨_, rfl, h5, v_out, ?_, ?_⟩
 · rw [q0]; exact S5.sub [0] (by decide) rfl _ rfl
 · rfl
end Go.Proofs.YtfoemogojbnfhaaDoor
namespace Gx
open Go Go.RowKit
set_option linter.unusedSimpArgs false
set_option linter.unusedSectionVars false
set_option linter.unusedVariables false
section
variable {κ : Type} [DecidableEq κ]
def isRep (key : Nat → κ) (c : Nat) : Bool := (List.range c).all fun j => decide (key j ≠ key c)
def reps (key : Nat → κ) (t : Nat) : List Nat := (List.range t).filter (isRep key)
def fo (key : Nat → κ) (t c : Nat) : Option Nat := (List.range t).find? fun j => decide (key j = key c)
def idx (key : Nat → κ) (c : Nat) : Nat := (reps key ((fo key c c).getD c)).length
def zd0 (key : Nat → κ) : PartM := ⟨(List.range 256).map fun c => ((idx key c : Nat) : Int), ((reps key 256).length : Nat)⟩
theorem reps_succ (key : Nat → κ) (t : Nat) : reps key (t + 1) = reps key t ++ (if isRep key t then [t] else []) := by
  unfold reps
  rw [List.range_succ, List.filter_append]
  congr 1
  simp [List.filter_cons]
theorem reps_le (key : Nat → κ) (t : Nat) : (reps key t).length ≤ t := by
  have := List.length_filter_le (isRep key) (List.range t)
  simpa [reps] using this
theorem fo_some {key : Nat → κ} {t c j : Nat} (h : fo key t c = some j) : j < t ∧ key j = key c := by
  unfold fo at h
  have h1 := List.mem_of_find?_eq_some h
  have h2 := List.find?_some h
  exact ⟨by simpa using h1, by simpa using h2⟩
theorem fo_none {key : Nat → κ} {t c : Nat} (h : fo key t c = none) : ∀ j, j < t → key j ≠ key c := by
  unfold fo at h
  intro j hj
  have := List.find?_eq_none.1 h j (by simpa using hj)
  simpa using this
theorem fo_succ (key : Nat → κ) (t c : Nat) : fo key (t + 1) c = (fo key t c).or (if key t = key c then some t else none) := by
  unfold fo
  rw [List.range_succ, List.find?_append]
  congr 1
  by_cases h : key t = key c <;> simp [h]
theorem isRep_iff (key : Nat → κ) (c : Nat) : isRep key c = (fo key c c).isNone := by
  rw [Bool.eq_iff_iff]
  unfold isRep
  rw [List.all_eq_true]
  constructor
  · intro h
    cases hf : fo key c c with
    | none => rfl
    | some j =>
      obtain ⟨h1, h2⟩ := fo_some hf
      have := h j (by simpa using h1)
      simp [h2] at this
  · intro h j hj
    have := fo_none (Option.isNone_iff_eq_none.1 h) j (by simpa using hj)
    simpa using this
theorem idx_le (key : Nat → κ) (c : Nat) : idx key c ≤ c := by
  unfold idx
  have h := reps_le key ((fo key c c).getD c)
  cases hf : fo key c c with
  | none => rw [hf] at h; simpa using h
  | some j =>
    have := (fo_some hf).1
    rw [hf] at h
    simp at h ⊢
    omega
def kvTo (key : Nat → κ) (t : Nat) : List (κ × Int) := (reps key t).map fun r => (key r, ((reps key r).length : Int))
theorem lookAt_app {β : Type} (k : κ) (b : List (κ × β)) : ∀ (a : List (κ × β)) (i : Nat), zdh k (a ++ b) i = (zdh k a i).or (zdh k b (i + a.length))
  | [], i => by simp [zdh]
  | p :: a, i => by
    simp only [List.cons_append, zdh]
    by_cases h : k = p.1
    · simp [h]
    · rw [if_neg h, if_neg h, lookAt_app k b a (i + 1)]
      congr 2
      simp; omega
theorem valAt_app {β : Type} (k : κ) (a b : List (κ × β)) : zbm k (a ++ b) = (zbm k a).or (zbm k b) := by
  have sh : ∀ (l : List (κ × β)) (i j : Nat), (zdh k l i).map (·.2) = (zdh k l j).map (·.2) := by
    intro l
    induction l with
    | nil => intro i j; rfl
    | cons p r ih =>
      intro i j
      simp only [zdh]
      by_cases h : k = p.1
      · simp [h]
      · rw [if_neg h, if_neg h]; exact ih _ _
  unfold zbm
  rw [lookAt_app]
  cases hl : zdh k a 0 with
  | none => simp; exact sh b _ _
  | some p => simp
theorem val_kvTo (key : Nat → κ) (c : Nat) : ∀ t, zbm (key c) (kvTo key t) = (fo key t c).map fun j => ((reps key j).length : Int)
  | 0 => rfl
  | t + 1 => by
    unfold kvTo
    rw [reps_succ, List.map_append, valAt_app, fo_succ]
    show (zbm (key c) (kvTo key t)).or _ = _
    rw [val_kvTo key c t]
    cases hf : fo key t c with
    | some j => simp
    | none =>
      simp only [Option.map_none, Option.none_or]
      by_cases hk : key t = key c
      · have hr : isRep key t = true := by
          rw [isRep_iff]
          cases ht : fo key t t with
          | none => rfl
          | some j => exact absurd ((fo_some ht).2.trans hk) (fo_none hf j (fo_some ht).1)
        rw [hr, if_pos hk]
        simp [zbm, zdh, hk]
      · rw [if_neg hk]
        cases isRep key t with
        | false => simp [zbm, zdh]
        | true => simp [zbm, zdh]; exact fun e => hk e.symm
theorem kvTo_old {key : Nat → κ} {c : Nat} {v : Int} (h : zbm (key c) (kvTo key c) = some v) : v = (idx key c : Nat) ∧ kvTo key (c + 1) = kvTo key c ∧ (reps key (c + 1)).length = (reps key c).length := by
  rw [val_kvTo] at h
  cases hf : fo key c c with
  | none => rw [hf] at h; cases h
  | some j =>
    rw [hf] at h
    simp at h
    have hr : isRep key c = false := by rw [isRep_iff, hf]; rfl
    have e : reps key (c + 1) = reps key c := by rw [reps_succ, hr]; simp
    refine ⟨?_, by unfold kvTo; rw [e], by rw [e]⟩
    unfold idx
    rw [hf]; simp; omega
theorem kvTo_new {key : Nat → κ} {c : Nat} (h : zbm (key c) (kvTo key c) = none) : ((reps key c).length : Int) = (idx key c : Nat) ∧ kvTo key (c + 1) = zfi (key c) ((reps key c).length : Int) (kvTo key c) ∧ (reps key (c + 1)).length = (reps key c).length + 1 := by
  have hl : zdh (key c) (kvTo key c) 0 = none := by
    unfold zbm at h
    exact Option.map_eq_none_iff.1 h
  rw [val_kvTo, Option.map_eq_none_iff] at h
  have hr : isRep key c = true := by rw [isRep_iff, h]; rfl
  have e : reps key (c + 1) = reps key c ++ [c] := by rw [reps_succ, hr]; simp
  refine ⟨?_, ?_, by rw [e]; simp⟩
  · unfold idx; rw [h]; rfl
  · unfold zfi; rw [hl]
    unfold kvTo; rw [e]; simp
theorem fo_min {key : Nat → κ} {c j : Nat} : ∀ {t : Nat}, fo key t c = some j → ∀ i, i < j → key i ≠ key c
  | 0, h, _, _ => by simp [fo] at h
  | t + 1, h, i, hi => by
    rw [fo_succ] at h
    cases hf : fo key t c with
    | some q =>
      rw [hf] at h; simp at h; subst h
      exact fo_min hf i hi
    | none =>
      rw [hf] at h
      by_cases hk : key t = key c
      · rw [if_pos hk] at h; simp at h; subst h
        exact fo_none hf i hi
      · rw [if_neg hk] at h; simp at h
def fst_ (key : Nat → κ) (c : Nat) : Nat := (fo key c c).getD c
theorem fst_key (key : Nat → κ) (c : Nat) : key (fst_ key c) = key c := by
  unfold fst_
  cases h : fo key c c with
  | none => rfl
  | some j => exact (fo_some h).2
theorem fst_min (key : Nat → κ) (c : Nat) : ∀ i, i < fst_ key c → key i ≠ key c := by
  unfold fst_
  cases h : fo key c c with
  | none => exact fo_none h
  | some j => exact fo_min h
theorem fst_eq {key : Nat → κ} {c d : Nat} (h : key c = key d) : fst_ key c = fst_ key d := by
  rcases Nat.lt_trichotomy (fst_ key c) (fst_ key d) with hl | he | hl
  · exact absurd ((fst_key key c).trans h) (fst_min key d _ hl)
  · exact he
  · exact absurd ((fst_key key d).trans h.symm) (fst_min key c _ hl)
theorem fst_rep (key : Nat → κ) (c : Nat) : isRep key (fst_ key c) = true := by
  unfold isRep
  rw [List.all_eq_true]
  intro j hj
  have hj' : j < fst_ key c := by simpa using hj
  have := fst_min key c j hj'
  rw [fst_key key c]
  simpa using this
theorem reps_mono (key : Nat → κ) (a : Nat) : ∀ b, a ≤ b → (reps key a).length ≤ (reps key b).length
  | 0, h => by have : a = 0 := by omega
               subst this; exact Nat.le_refl _
  | b + 1, h => by
    rcases Nat.lt_or_ge a (b + 1) with h1 | h1
    · have := reps_mono key a b (by omega)
      rw [reps_succ, List.length_append]; omega
    · have : a = b + 1 := by omega
      rw [this]; exact Nat.le_refl _
theorem reps_lt {key : Nat → κ} {a b : Nat} (hr : isRep key a = true) (h : a < b) : (reps key a).length < (reps key b).length := by
  have h1 := reps_mono key (a + 1) b h
  rw [reps_succ, hr] at h1
  simp at h1; omega
theorem idx_inj {key : Nat → κ} {c d : Nat} : idx key c = idx key d ↔ key c = key d := by
  constructor
  · intro h
    have h1 : (reps key (fst_ key c)).length = (reps key (fst_ key d)).length := h
    have e : fst_ key c = fst_ key d := by
      rcases Nat.lt_trichotomy (fst_ key c) (fst_ key d) with hl | he | hl
      · have := reps_lt (fst_rep key c) hl; omega
      · exact he
      · have := reps_lt (fst_rep key d) hl; omega
    rw [← fst_key key c, ← fst_key key d, e]
  · intro h
    show (reps key (fst_ key c)).length = (reps key (fst_ key d)).length
    rw [fst_eq h]
def ofTo (key : Nat → κ) (t : Int) : List Int := (List.range 256).map fun (c : Nat) => if ((c : Nat) : Int) < t then ((idx key c : Nat) : Int) else 0
theorem ofTo_0 (key : Nat → κ) : List.replicate 256 (0 : Int) = ofTo key 0 := by
  unfold ofTo
  refine (List.eq_replicate_iff.2 ⟨by simp, ?_⟩).symm
  intro b hb
  obtain ⟨i, _, rfl⟩ := List.mem_map.1 hb
  rw [if_neg (by omega)]
theorem ofTo_step {key : Nat → κ} {t v : Int} {l : List Int} (hl : l = ofTo key t) (h0 : 0 ≤ t) (h1 : t < 256) (hv : v = (idx key t.toNat : Nat)) : l.set t.toNat v = ofTo key (t + 1) := by
  subst hl
  have hl : ∀ t, (ofTo key t).length = 256 := fun t => by simp [ofTo]
  refine list_ext (n := 256) (by rw [List.length_set]; exact hl t) (hl _) fun k hk hk1 => ?_
  rw [at_set h0 (by rw [hl]; omega) hk]
  unfold ofTo
  rw [zef _ _ hk hk1, zef _ _ hk hk1, show ((k.toNat : Nat) : Int) = k by omega]
  by_cases h : k = t
  · rw [if_pos h, hv, h, if_pos (by omega)]
  · rw [if_neg h]
    by_cases h2 : k < t
    · rw [if_pos h2, if_pos (by omega)]
    · rw [if_neg h2, if_neg (by omega)]
theorem ofTo_end (key : Nat → κ) {t : Int} (ht : t = 256) : ofTo key t = (zd0 key).of := by
  unfold ofTo zd0
  show List.map _ _ = List.map _ _
  apply List.map_congr_left
  intro c hc
  have : c < 256 := by simpa using hc
  rw [if_pos (by omega)]
theorem part_at (key : Nat → κ) {c : Int} (h0 : 0 ≤ c) (h1 : c < 256) : at_ (zd0 key).of c = (idx key c.toNat : Nat) := by
  unfold zd0
  exact zef _ _ h0 h1
theorem okPart_of (key : Nat → κ) : okPart (zd0 key) := by
  refine ⟨⟨by simp [zd0], fun x hx => ?_⟩, ?_⟩
  · unfold zd0 at hx
    obtain ⟨c, hc, rfl⟩ := List.mem_map.1 hx
    have := idx_le key c
    have : c < 256 := by simpa using hc
    exact zec (by omega) (by omega)
  · have := reps_le key 256
    exact zao (by show _ ≤ (((reps key 256).length : Nat) : Int); omega) (by show (((reps key 256).length : Nat) : Int) ≤ _; omega)
end
section
variable {κ μ : Type} [DecidableEq κ] [DecidableEq μ]
theorem reps_congr {key : Nat → κ} {key' : Nat → μ} {n : Nat} (h : ∀ i j, i < n → j < n → (key i = key j ↔ key' i = key' j)) : ∀ t, t ≤ n → reps key t = reps key' t := by
  intro t ht
  unfold reps
  apply List.filter_congr
  intro c hc
  have hc' : c < t := by simpa using hc
  unfold isRep
  rw [Bool.eq_iff_iff, List.all_eq_true, List.all_eq_true]
  constructor
  · intro hh j hj
    have hjc : j < c := by simpa using hj
    have := hh j hj
    simp only [decide_eq_true_eq, ne_eq] at this ⊢
    rwa [← h j c (by omega) (by omega)]
  · intro hh j hj
    have hjc : j < c := by simpa using hj
    have := hh j hj
    simp only [decide_eq_true_eq, ne_eq] at this ⊢
    rwa [h j c (by omega) (by omega)]
theorem fo_congr {key : Nat → κ} {key' : Nat → μ} {n : Nat} (h : ∀ i j, i < n → j < n → (key i = key j ↔ key' i = key' j)) {t c : Nat} (ht : t ≤ n) (hc : c < n) : fo key t c = fo key' t c := by
  unfold fo
  have : ∀ l : List Nat, (∀ j ∈ l, j < n) → l.find? (fun j => decide (key j = key c)) = l.find? (fun j => decide (key' j = key' c)) := by
    intro l
    induction l with
    | nil => intro _; rfl
    | cons j l ih =>
      intro hl
      have e : decide (key j = key c) = decide (key' j = key' c) := decide_eq_decide.2 (h j c (hl j (by simp)) hc)
      simp only [List.find?_cons, e]
      rw [ih fun i hi => hl i (by simp [hi])]
  exact this _ fun j hj => by have : j < t := by simpa using hj
                              omega
theorem idx_congr {key : Nat → κ} {key' : Nat → μ} {n : Nat} (h : ∀ i j, i < n → j < n → (key i = key j ↔ key' i = key' j)) {c : Nat} (hc : c < n) : idx key c = idx key' c := by
  unfold idx
  rw [fo_congr h (Nat.le_of_lt hc) hc, reps_congr h]
  cases hf : fo key' c c with
  | none => simp; omega
  | some j => have := (fo_some hf).1; simp; omega
theorem partOf_congr {key : Nat → κ} {key' : Nat → μ} (h : ∀ i j, i < 256 → j < 256 → (key i = key j ↔ key' i = key' j)) : zd0 key = zd0 key' := by
  unfold zd0
  rw [reps_congr h 256 (Nat.le_refl _)]
  congr 1
  apply List.map_congr_left
  intro c hc
  rw [idx_congr h (by simpa using hc)]
end
def zd2 (k : Int × Bool) : List Value := [.int .u8 k.1, .bool k.2]
theorem encSide_one (k : Int × Bool) : ∀ u ∈ zd2 k, u.oneCell' = true := by simp [zd2, Value.oneCell']
def sideOf (p : PartM) (s : BSet) (c : Nat) : Int × Bool := (at_ p.of ((c : Nat) : Int), has s ((c : Nat) : Int))
def splitP (p : PartM) (s : BSet) : PartM := zd0 (sideOf p s)
theorem side_at (p : PartM) (s : BSet) {t : Int} (h0 : 0 ≤ t) : sideOf p s t.toNat = (at_ p.of t, has s t) := by
  unfold sideOf
  rw [show ((t.toNat : Nat) : Int) = t by omega]
theorem split_end (p : PartM) (s : BSet) {t : Int} {o : PartM} (ht : t = 256) (h1 : o.of = ofTo (sideOf p s) t) (h2 : o.n = ((reps (sideOf p s) t.toNat).length : Int)) : splitP p s = o := by
  unfold splitP
  have e1 := ofTo_end (sideOf p s) ht
  obtain ⟨oof, on⟩ := o
  simp only at h1 h2
  rw [h1, e1, h2, ht]; rfl
def refKey (l : List BSet) (c : Nat) : List Bool := l.map fun s => s.getLsbD c
def zc2 (l : List BSet) : PartM := zd0 (refKey l)
theorem refine_0 (l : List BSet) : (⟨List.replicate 256 0, 1⟩ : PartM) = zc2 (l.take 0) := by
  unfold zc2
  rw [partOf_congr (key' := fun _ => ()) (fun i j _ _ => by simp [refKey])]
  decide +kernel
theorem refine_step (l : List BSet) {t : Int} (h0 : 0 ≤ t) (h1 : t < (l.length : Int)) {p : PartM} (hp : p = zc2 (l.take t.toNat)) : splitP p (at_ l t) = zc2 (l.take (t + 1).toNat) := by
  subst hp
  unfold splitP
  rw [zdk l h0 h1]
  unfold zc2
  refine partOf_congr fun i j hi hj => ?_
  unfold sideOf
  rw [part_at _ (by omega) (by omega), part_at _ (by omega) (by omega)]
  simp only [Int.toNat_natCast, Prod.mk.injEq, has]
  constructor
  · rintro ⟨h1, h2⟩
    have h3 : idx (refKey (l.take t.toNat)) i = idx (refKey (l.take t.toNat)) j := by omega
    rw [idx_inj] at h3
    unfold refKey at h3 ⊢
    simp only [List.map_append, List.map_cons, List.map_nil, h3, h2]
  · intro h
    unfold refKey at h
    simp only [List.map_append, List.map_cons, List.map_nil] at h
    have hh := List.append_inj' h rfl
    refine ⟨?_, by simpa using hh.2⟩
    have : idx (refKey (l.take t.toNat)) i = idx (refKey (l.take t.toNat)) j := idx_inj.2 hh.1
    omega
theorem refine_end (l : List BSet) {t : Int} (h : (l.length : Int) ≤ t) {p : PartM} (hp : p = zc2 (l.take t.toNat)) : zc2 l = p := by
  rw [hp, List.take_of_length_le (by omega)]
def nextOf (l : List Int) : Option Int := l.foldl (fun o n => match o with
  | none => none
  | some x => if n > x then none else if n = x then some (x + 1) else some x) (some 0)
def zc7 (p : PartM) : Bool := match nextOf p.of with
  | none => false
  | some x => decide (x = p.n)
theorem next_app (l : List Int) (n : Int) : nextOf (l ++ [n]) = match nextOf l with
  | none => none
  | some x => if n > x then none else if n = x then some (x + 1) else some x := by
  unfold nextOf; rw [List.foldl_append]; rfl
theorem next_none (l r : List Int) (h : nextOf l = none) : nextOf (l ++ r) = none := by
  unfold nextOf at *
  rw [List.foldl_append, h]
  induction r with
  | nil => rfl
  | cons a r ih => exact ih
theorem right_no (p : PartM) {t x : Int} (h0 : 0 ≤ t) (h1 : t < (p.of.length : Int)) (h : nextOf (p.of.take t.toNat) = some x) (hx : x < at_ p.of t) : zc7 p = false := by
  unfold zc7
  have e : nextOf (p.of.take (t + 1).toNat) = none := by
    rw [zdk p.of h0 h1, next_app, h]
    simp only []
    rw [if_pos (by omega)]
  have : nextOf p.of = none := by
    have := next_none _ (p.of.drop (t + 1).toNat) e
    rwa [List.take_append_drop] at this
  rw [this]
theorem right_yes (p : PartM) {t x : Int} (h1 : (p.of.length : Int) ≤ t) (h : nextOf (p.of.take t.toNat) = some x) : zc7 p = decide (x = p.n) := by
  rw [List.take_of_length_le (by omega)] at h
  unfold zc7
  rw [h]
def many (p : PartM) : Nat := (min (max p.n 0) 256).toNat
def setsTo (p : PartM) (t : Int) : List BSet := (List.range (many p)).map fun (k : Nat) => ofPred fun c => decide (((c : Nat) : Int) < t ∧ at_ p.of ((c : Nat) : Int) = ((k : Nat) : Int))
def zcq (p : PartM) : List BSet := (List.range (many p)).map fun (k : Nat) => ofPred fun c => decide (at_ p.of ((c : Nat) : Int) = ((k : Nat) : Int))
theorem setsTo_len (p : PartM) (t : Int) : ((setsTo p t).length : Int) = min (max p.n 0) 256 := by
  unfold setsTo many
  simp; omega
theorem setsTo_0 (p : PartM) : List.replicate (min (max p.n 0) 256).toNat (0 : BSet) = setsTo p 0 := by
  unfold setsTo
  refine (List.eq_replicate_iff.2 ⟨by simp [many], ?_⟩).symm
  intro b hb
  obtain ⟨k, _, rfl⟩ := List.mem_map.1 hb
  refine set_ext fun i hi => ?_
  rw [zeg _ hi, decide_eq_false (by omega)]; simp
theorem setsTo_end (p : PartM) : zcq p = setsTo p 256 := by
  unfold setsTo zcq
  apply List.map_congr_left
  intro k hk
  refine ofPred_congr fun c hc => ?_
  exact decide_eq_decide.2 ⟨fun h => ⟨by omega, h⟩, fun h => h.2⟩
theorem setsTo_in (p : PartM) {t : Int} (h0 : 0 ≤ t) (h1 : t < 256) (hv0 : 0 ≤ at_ p.of t) (hv : at_ p.of t < min (max p.n 0) 256) : (setsTo p t).set (at_ p.of t).toNat (at_ (setsTo p t) (at_ p.of t) ||| zb6 [t]) = setsTo p (t + 1) := by
  have hl := setsTo_len p
  refine list_ext (n := many p) (by rw [List.length_set]; simp [setsTo]) (by simp [setsTo]) fun k hk hk1 => ?_
  have hm : ((many p : Nat) : Int) = min (max p.n 0) 256 := by unfold many; omega
  rw [at_set hv0 (by rw [hl]; exact hv) hk]
  unfold setsTo
  rw [zef _ _ hv0 (by omega), zef _ _ hk hk1, zef _ _ hk hk1]
  by_cases h : k = at_ p.of t
  · rw [if_pos h, ← h]
    refine set_ext fun i hi => ?_
    unfold zb6
    rw [BitVec.getLsbD_or, zeg _ hi, zeg _ hi, zeg _ hi, Bool.eq_iff_iff]
    simp only [Bool.or_eq_true, decide_eq_true_eq, List.mem_singleton]
    constructor
    · rintro (⟨h2, h3⟩ | h2)
      · exact ⟨by omega, h3⟩
      · rw [h2]; exact ⟨by omega, by omega⟩
    · rintro ⟨h2, h3⟩
      by_cases h4 : ((i : Nat) : Int) = t
      · exact .inr h4
      · exact .inl ⟨by omega, h3⟩
  · rw [if_neg h]
    refine ofPred_congr fun c hc => decide_eq_decide.2 ?_
    constructor
    · rintro ⟨h2, h3⟩; exact ⟨by omega, h3⟩
    · rintro ⟨h2, h3⟩
      refine ⟨?_, h3⟩
      by_cases h4 : ((c : Nat) : Int) = t
      · rw [h4] at h3; omega
      · omega
theorem setsTo_out (p : PartM) {t : Int} (h0 : 0 ≤ t) (h1 : t < 256) (hv : ¬ at_ p.of t < min (max p.n 0) 256) : setsTo p t = setsTo p (t + 1) := by
  unfold setsTo
  apply List.map_congr_left
  intro k hk
  have hk1 : k < many p := by simpa using hk
  have hm : ((many p : Nat) : Int) = min (max p.n 0) 256 := by unfold many; omega
  refine ofPred_congr fun c hc => decide_eq_decide.2 ?_
  constructor
  · rintro ⟨h2, h3⟩; exact ⟨by omega, h3⟩
  · rintro ⟨h2, h3⟩
    refine ⟨?_, h3⟩
    by_cases h4 : ((c : Nat) : Int) = t
    · rw [h4] at h3; omega
    · omega
def leastOf (k : Int) (s : BSet) : List Int := (zcf s).take (min (max k 0) ((zcf s).length : Int)).toNat
def zcr (p : PartM) (k : Int) : List (List Int) := (zcq p).map (leastOf k)
def leastTo (p : PartM) (k t : Int) : List (List Int) := ((zcq p).take t.toNat).map (leastOf k)
theorem setsP_len (p : PartM) : ((zcq p).length : Int) = min (max p.n 0) 256 := by
  unfold zcq many
  simp; omega
theorem leastTo_len (p : PartM) (k t : Int) : ((leastTo p k t).length : Int) ≤ 256 := by
  unfold leastTo
  have := setsP_len p
  simp; omega
theorem leastTo_step (p : PartM) (k : Int) {t : Int} (h0 : 0 ≤ t) (h1 : t < ((zcq p).length : Int)) : leastTo p k t ++ [(zcf (at_ (zcq p) t)).take (min (max k 0) ((zcf (at_ (zcq p) t)).length : Int)).toNat] = leastTo p k (t + 1) := by
  unfold leastTo
  rw [zdk _ h0 h1, List.map_append]; rfl
theorem leastTo_end (p : PartM) (k : Int) {t : Int} (h : ((zcq p).length : Int) ≤ t) : zcr p k = leastTo p k t := by
  unfold leastTo zcr
  rw [List.take_of_length_le (by omega)]
theorem least_small (s : BSet) (n : Nat) : ((zcf s).take n).length ≤ 1000000 := by
  have := list_len s
  have := count_le s
  rw [List.length_take]; omega
def cuts (x s : BSet) : Bool := decide (x &&& s ≠ x) && decide (x &&& s ≠ 0)
def ze7 (f : BSet → Bool) : List BSet → Int → Int
  | [], _ => -1
  | x :: r, i => if f x then i else ze7 f r (i + 1)
def place (f : BSet → Bool) (l : List BSet) : Int := ze7 f l 0
def zc1 (p : PartM) (s : BSet) : Bool := (zcq p).any fun x => cuts x s
theorem placeFrom_any (f : BSet → Bool) : ∀ (l : List BSet) (i : Int), 0 ≤ i → decide (0 ≤ ze7 f l i) = l.any f ∧ (ze7 f l i = -1 ∨ (i ≤ ze7 f l i ∧ ze7 f l i < i + l.length))
  | [], i, _ => ⟨rfl, .inl rfl⟩
  | x :: r, i, h => by
    unfold ze7
    cases hx : f x with
    | true => simp [hx]; omega
    | false =>
      obtain ⟨h1, h2⟩ := placeFrom_any f r (i + 1) (by omega)
      simp only [Bool.false_eq_true, if_false, List.any_cons, hx, Bool.false_or, h1, true_and, List.length_cons]
      omega
theorem place_any (f : BSet → Bool) (l : List BSet) : decide (0 ≤ place f l) = l.any f := (placeFrom_any f l 0 (by omega)).1
theorem placeFrom_drop (f : BSet → Bool) (l : List BSet) {t : Int} (h0 : 0 ≤ t) (h1 : t < (l.length : Int)) : ze7 f (l.drop t.toNat) t = if f (at_ l t) then t else ze7 f (l.drop (t + 1).toNat) (t + 1) := by
  have e : l.drop t.toNat = at_ l t :: l.drop (t + 1).toNat := by
    rw [show (t + 1).toNat = t.toNat + 1 by omega]
    have h2 := zdm h0 h1
    obtain ⟨hl, e⟩ := List.getElem?_eq_some_iff.1 h2
    rw [List.drop_eq_getElem_cons hl, e]
  rw [e]; rfl
section
variable {κ : Type} [DecidableEq κ]
theorem reps_at (key : Nat → κ) (c : Nat) {k : Nat} (hk : k < (reps key c).length) : at_ (reps key c) ((k : Nat) : Int) < c ∧ isRep key (at_ (reps key c) ((k : Nat) : Int)) = true ∧ (reps key (at_ (reps key c) ((k : Nat) : Int))).length = k := by
  induction c with
  | zero => simp [reps] at hk
  | succ c ih =>
    have e := reps_succ key c
    cases hr : isRep key c with
    | false =>
      rw [hr] at e
      simp at e
      rw [e] at hk ⊢
      obtain ⟨h1, h2, h3⟩ := ih hk
      exact ⟨by omega, h2, h3⟩
    | true =>
      rw [hr] at e
      simp at e
      rw [e] at hk ⊢
      rw [List.length_append] at hk
      simp at hk
      by_cases hlt : k < (reps key c).length
      · have ea : at_ (reps key c ++ [c]) ((k : Nat) : Int) = at_ (reps key c) ((k : Nat) : Int) := by
          unfold at_
          rw [Int.toNat_natCast, List.getD_eq_getElem?_getD, List.getD_eq_getElem?_getD, List.getElem?_append_left hlt]
        rw [ea]
        obtain ⟨h1, h2, h3⟩ := ih hlt
        exact ⟨by omega, h2, h3⟩
      · have ek : k = (reps key c).length := by omega
        have ea : at_ (reps key c ++ [c]) ((k : Nat) : Int) = c := by
          unfold at_
          rw [Int.toNat_natCast, List.getD_eq_getElem?_getD, List.getElem?_append_right (by omega), ek, Nat.sub_self]; rfl
        rw [ea]
        exact ⟨by omega, hr, ek.symm⟩
end
section
variable {κ : Type} [DecidableEq κ]
end
theorem next_of {κ : Type} [DecidableEq κ] (key : Nat → κ) : ∀ t, nextOf ((List.range t).map fun c => ((idx key c : Nat) : Int)) = some ((reps key t).length : Int)
  | 0 => rfl
  | t + 1 => by
    rw [List.range_succ, List.map_append, List.map_cons, List.map_nil, next_app, next_of key t]
    simp only []
    rw [reps_succ]
    cases hf : fo key t t with
    | none =>
      have hr : isRep key t = true := by rw [isRep_iff, hf]; rfl
      have e : idx key t = (reps key t).length := by unfold idx; rw [hf]; rfl
      rw [e, hr, if_neg (by omega), if_pos rfl]; simp
    | some j =>
      have hj := fo_some hf
      have hr : isRep key t = false := by rw [isRep_iff, hf]; rfl
      have hrj : isRep key j = true := by
        have := fst_rep key t
        unfold fst_ at this
        rw [hf] at this; exact this
      have e : idx key t = (reps key j).length := by unfold idx; rw [hf]; rfl
      have := reps_lt hrj hj.1
      rw [e, hr, if_neg (by omega), if_neg (by omega)]; simp
theorem right_of {κ : Type} [DecidableEq κ] (key : Nat → κ) : zc7 (zd0 key) = true := by
  unfold zc7
  have : nextOf (zd0 key).of = some ((reps key 256).length : Int) := next_of key 256
  rw [this]
  simp only [zd0]; simp
end Gx
namespace Gx
open Go Go.RowKit
set_option linter.unusedSimpArgs false
set_option linter.unusedSectionVars false
set_option linter.unusedVariables false
theorem at_map {α β : Type} [Inhabited α] [Inhabited β] (f : α → β) (l : List α) {i : Int} (h0 : 0 ≤ i) (h1 : i < (l.length : Int)) : at_ (l.map f) i = f (at_ l i) := by
  have h2 := zdm h0 h1
  have h3 : (l.map f)[i.toNat]? = some (at_ (l.map f) i) := zdm h0 (by simpa using h1)
  rw [List.getElem?_map, h2] at h3
  simpa using h3.symm
def anyTo (p : Nat → Bool) (c : Int) : Bool := (List.range c.toNat).any p
theorem anyTo_step (p : Nat → Bool) {c : Int} (h : 0 ≤ c) : anyTo p (c + 1) = (anyTo p c || p c.toNat) := by
  unfold anyTo
  rw [show (c + 1).toNat = c.toNat + 1 by omega, List.range_succ, List.any_append]; simp
theorem zea (p : Nat → Bool) (c : Int) : anyTo p c = true ↔ ∃ d : Nat, ((d : Nat) : Int) < c ∧ p d = true := by
  unfold anyTo
  rw [List.any_eq_true]
  constructor
  · rintro ⟨d, h1, h2⟩; exact ⟨d, by have := List.mem_range.1 h1; omega, h2⟩
  · rintro ⟨d, h1, h2⟩; exact ⟨d, List.mem_range.2 (by omega), h2⟩
section
variable {κ : Type} [DecidableEq κ] (key : Nat → κ)
theorem part_n : (zd0 key).n = ((reps key 256).length : Nat) := rfl
theorem many_of : many (zd0 key) = (reps key 256).length := by
  have := reps_le key 256
  unfold many; rw [part_n]; omega
theorem sets_len : ((zcq (zd0 key)).length : Int) = (zd0 key).n := by
  have := reps_le key 256
  rw [setsP_len, part_n]; omega
theorem at_sets {k : Int} (h0 : 0 ≤ k) (h1 : k < (zd0 key).n) : at_ (zcq (zd0 key)) k = ofPred fun c => decide (((idx key c : Nat) : Int) = k) := by
  unfold zcq
  rw [zef _ _ h0 (by rw [many_of]; exact h1)]
  refine ofPred_congr fun c hc => ?_
  rw [part_at key (by omega) (by omega), Int.toNat_of_nonneg h0]; simp
theorem bit_sets {k : Int} (h0 : 0 ≤ k) (h1 : k < (zd0 key).n) {c : Nat} (hc : c < 256) : (at_ (zcq (zd0 key)) k).getLsbD c = decide (((idx key c : Nat) : Int) = k) := by
  rw [at_sets key h0 h1, zeg _ hc]
theorem idx_rep {c : Nat} (h : isRep key c = true) : idx key c = (reps key c).length := by
  rw [isRep_iff, Option.isNone_iff_eq_none] at h
  unfold idx; rw [h]; rfl
theorem cls_rep {k : Nat} (hk : k < (reps key 256).length) : ∃ r, r < 256 ∧ isRep key r = true ∧ idx key r = k := by
  obtain ⟨h1, h2, h3⟩ := reps_at key 256 hk
  exact ⟨_, h1, h2, by rw [idx_rep key h2, h3]⟩
end
section
variable {κ : Type} [DecidableEq κ] (key : Nat → κ)
theorem cuts_iff (x s : BSet) : cuts x s = false ↔ (∀ i, i < 256 → x.getLsbD i = true → s.getLsbD i = true) ∨ (∀ i, i < 256 → x.getLsbD i = true → s.getLsbD i = false) := by
  unfold cuts
  rw [Bool.and_eq_false_iff, decide_eq_false_iff_not, decide_eq_false_iff_not, Decidable.not_not, Decidable.not_not]
  constructor
  · rintro (h | h)
    · left; intro i hi hx
      have := congrArg (fun z : BSet => z.getLsbD i) h
      simp [hx] at this; exact this
    · right; intro i hi hx
      have := congrArg (fun z : BSet => z.getLsbD i) h
      simpa [hx] using this
  · rintro (h | h)
    · left; refine set_ext fun i hi => ?_
      have := h i hi
      rw [BitVec.getLsbD_and]
      cases hx : x.getLsbD i <;> simp_all
    · right; refine set_ext fun i hi => ?_
      have := h i hi
      rw [BitVec.getLsbD_and]
      cases hx : x.getLsbD i <;> simp_all
theorem splits_no (s : BSet) (h : ∀ i j, i < 256 → j < 256 → key i = key j → s.getLsbD i = s.getLsbD j) : zc1 (zd0 key) s = false := by
  unfold zc1
  rw [List.any_eq_false]
  intro x hx
  obtain ⟨k, hk, rfl⟩ := List.getElem_of_mem hx
  have hk' : ((k : Nat) : Int) < (zd0 key).n := by rw [← sets_len]; omega
  have e : (zcq (zd0 key))[k] = at_ (zcq (zd0 key)) ((k : Nat) : Int) := by simp [at_, List.getD_eq_getElem?_getD, List.getElem?_eq_getElem hk]
  rw [e, Bool.not_eq_true, cuts_iff]
  obtain ⟨r, hr, hrep, hidx⟩ := cls_rep key (k := k) (by rw [part_n] at hk'; omega)
  have key' : ∀ i, i < 256 → (at_ (zcq (zd0 key)) ((k : Nat) : Int)).getLsbD i = true → s.getLsbD i = s.getLsbD r := fun i hi hb => by
    rw [bit_sets key (by omega) hk' hi] at hb
    have : idx key i = k := by have := of_decide_eq_true hb; omega
    exact h i r hi hr (idx_inj.1 (by omega))
  cases hs : s.getLsbD r with
  | true => left; intro i hi hb; rw [key' i hi hb, hs]
  | false => right; intro i hi hb; rw [key' i hi hb, hs]
end
theorem ref_bit {l : List BSet} {s : BSet} (hs : s ∈ l) {i j : Nat} (h : refKey l i = refKey l j) : s.getLsbD i = s.getLsbD j := by
  unfold refKey at h
  exact List.map_inj_left.1 h s hs
theorem splits_own {l : List BSet} {s : BSet} (hs : s ∈ l) : zc1 (zc2 l) s = false := splits_no _ s fun _ _ _ _ h => ref_bit hs h
theorem zdv {α : Type} [Inhabited α] {l : List α} {i : Int} (h0 : 0 ≤ i) (h1 : i < (l.length : Int)) : at_ l i ∈ l := List.mem_of_getElem? (zdm h0 h1)
end Gx
namespace Go.Proofs.YtfoemogojbnfhaaDoor
open Go Go.RowKit Gx
set_option linter.unusedSimpArgs false
theorem side_fields : (Tryd.prog.fieldsOf 213).toList = [⟨"class", 5, 0, false, "", "shibboleth/classes", 0⟩, ⟨"in", 4, 1, false, "", "shibboleth/classes", 1⟩] := by kernel_rfl
theorem side_under : Tryd.prog.underlying 213 = some (.struct #[⟨"class", 5, 0, false, "", "shibboleth/classes", 0⟩, ⟨"in", 4, 1, false, "", "shibboleth/classes", 1⟩]) := by kernel_rfl
theorem side_under2 : Tryd.prog.underlying 213 = some (.struct (Tryd.prog.fieldsOf 213)) := by kernel_rfl
theorem key213 : KeyK Tryd.prog 213 (fun x : (Int × Bool) => Value.agg (zd2 x).toArray) where
  eq := fun a b w => by
    have h5 : Tryd.prog.underlying 5 = some (.int .u8) := by kernel_rfl
    have h4 : Tryd.prog.underlying 4 = some .bool := by kernel_rfl
    have hp : Tryd.prog.stoodInHeld 213 = false := by kernel_rfl
    have i5 : zb5 Tryd.prog 5 = some (1, 1, false, some (.int .u8 0)) := by kernel_rfl
    have i4 : zb5 Tryd.prog 4 = some (1, 1, false, some (.bool false)) := by kernel_rfl
    obtain ⟨ii5, d5, hi5, hd5, hs5, _, hg5, _⟩ := zb7 i5
    obtain ⟨ii4, d4, hi4, hd4, hs4, _, hg4, _⟩ := zb7 i4
    have p5 : ∀ (x : Int × Bool) (w : World), (part 5 (zd2 x).toArray 0).run Tryd.prog w = .ok (.int .u8 x.1) w := fun x w => by
      simp only [part, Sem.run_bind, zd6 hd5, hg5, Result.andThen_ok, Bool.false_eq_true, if_false]; rfl
    have p4 : ∀ (x : Int × Bool) (w : World), (part 4 (zd2 x).toArray 1).run Tryd.prog w = .ok (.bool x.2) w := fun x w => by
      simp only [part, Sem.run_bind, zd6 hd4, hg4, Result.andThen_ok, Bool.false_eq_true, if_false]; rfl
    show (Op.equalIn 10000 213 _ _).run _ _ = _
    rw [run_equalIn_agg w 9999 213 _ _ side_under2 hp, side_fields]
    obtain ⟨a1, a2⟩ := a
    obtain ⟨b1, b2⟩ := b
    have e5 := fun (w : World) (x y : Int) => run_equalIn_int w 9998 5 .u8 .u8 x y h5
    have e4 := fun (w : World) (x y : Bool) => run_equalIn_bool' w 9998 4 x y h4
    by_cases h : a1 = b1 <;> by_cases h2 : a2 = b2 <;> simp [Op.eqFields, h, h2, Sem.run_pure, Sem.run_bind, p5, p4, e5, e4]
  chk := fun a e w => by
    have h5 : Tryd.prog.underlying 5 = some (.int .u8) := by kernel_rfl
    have h4 : Tryd.prog.underlying 4 = some .bool := by kernel_rfl
    have i5 : zb5 Tryd.prog 5 = some (1, 1, false, some (.int .u8 0)) := by kernel_rfl
    have i4 : zb5 Tryd.prog 4 = some (1, 1, false, some (.bool false)) := by kernel_rfl
    obtain ⟨ii5, d5, hi5, hd5, hs5, _, hg5, _⟩ := zb7 i5
    obtain ⟨ii4, d4, hi4, hd4, hs4, _, hg4, _⟩ := zb7 i4
    have p5 : ∀ (w : World), (part 5 (zd2 a).toArray 0).run Tryd.prog w = .ok (.int .u8 a.1) w := fun w => by
      simp only [part, Sem.run_bind, zd6 hd5, hg5, Result.andThen_ok, Bool.false_eq_true, if_false]; rfl
    have p4 : ∀ (w : World), (part 4 (zd2 a).toArray 1).run Tryd.prog w = .ok (.bool a.2) w := fun w => by
      simp only [part, Sem.run_bind, zd6 hd4, hg4, Result.andThen_ok, Bool.false_eq_true, if_false]; rfl
    have c5 : ∀ (n : Nat) (w : World), (Instr.checkKey e (n + 1) 5 (.int .u8 a.1)).run Tryd.prog w = .ok () w := fun n w => by
      rw [Instr.checkKey]
      simp only [Sem.run_bind, run_underlying h5, Result.andThen_ok]; rfl
    have c4 : ∀ (n : Nat) (w : World), (Instr.checkKey e (n + 1) 4 (.bool a.2)).run Tryd.prog w = .ok () w := fun n w => by
      rw [Instr.checkKey]
      simp only [Sem.run_bind, run_underlying h4, Result.andThen_ok]; rfl
    have main : ∀ n, (Instr.checkKey e (n + 1 + 1) 213 (.agg (zd2 a).toArray)).run Tryd.prog w = .ok () w := fun n => by
      rw [Instr.checkKey]
      simp only [Sem.run_bind, run_underlying side_under, Result.andThen_ok]
      simp [Sem.run_bind, Result.andThen_ok, p5, p4, c5, c4, Sem.run_pure]
    exact main 9998
  now := ⟨_, side_under, .inl fun a b => rfl⟩
  same := fun a => by simp [zd2, Instr.sameBits]
end Go.Proofs.YtfoemogojbnfhaaDoor
namespace Go.Proofs.YtfoemogojbnfhaaDoor
open Go Go.RowKit Gx
set_option maxHeartbeats 1000000
set_option linter.unusedVariables false
set_option linter.unusedSimpArgs false
set_option maxRecDepth 8000
attribute [local irreducible] zcf count first has zb6 wbits Lib.ctz zd0 zc2 zcq zcr zc7 zc1 splitP
theorem split_calls (w : World) (p : PartM) (o0 : okPart p) (s : BSet) :
    Calls Tryd.prog 115 #[.agg (zac p).toArray, .agg (zak s).toArray] w fun e w' => ∃ v, e = .returned v ∧ ∃ (hn : Ghost), St w.heap.size w hn w' [] ∧ v = .agg (zac (splitP p s)).toArray ∧ okPart (splitP p s) := by
 refine zaq Tryd.func115 rfl Tryd.ntmps115 rfl ?_
 have S0 := St.init w
 have ploo0 := za7 o0.2; have phio0 := za8 o0.2
 refine zab <| zad (l := [0, 1, 2]) rfl ?_
 obtain ⟨b1, w1, r1, g1, T1⟩ := zb2 (P := Tryd.prog) S0 32 (v := .agg (zac p).toArray) (zac p) rfl
 have S2 := T1
 dsimp only [lAa, lAn, lA0, lAs] at S2
 refine p_v (v := .pointer (some ⟨b1, 0, none⟩)) rfl rfl rfl (zc8 rfl r1) ?_
 obtain ⟨b3, w3, r3, g3, T3⟩ := zb2 (P := Tryd.prog) S2 74 (v := .agg (zak s).toArray) (zak s) rfl
 have S4 := T3
 dsimp only [lAa, lAn, lA0, lAs] at S4
 refine p_v (v := .pointer (some ⟨b3, 0, none⟩)) rfl rfl rfl (zc8 rfl r3) ?_
 obtain ⟨b5, w5, r5, g5, T5⟩ := zb2 (P := Tryd.prog) S4 32 (v := zv32) (zac zPart) (by kernel_rfl)
 have S6 := T5
 dsimp only [lAa, lAn, lA0, lAs] at S6
 refine p_v (v := .pointer (some ⟨b5, 0, none⟩)) rfl rfl rfl (zcj ty32 r5) <| zaa <| zab <| zad (l := [0]) rfl ?_
 obtain ⟨b7, w7, r7, g7, T7⟩ := zb2 (P := Tryd.prog) S6 32 (v := zv32) (zac zPart) (by kernel_rfl)
 have S8 := T7
 dsimp only [lAa, lAn, lA0, lAs] at S8
 refine p_v (v := .pointer (some ⟨b7, 0, none⟩)) rfl rfl rfl (zcj ty32 r7) <| zaa <| zab <| zad (l := [0, 1]) rfl ?_
 obtain ⟨b9, w9, r9, g9, T9⟩ := e_makeMap (P := Tryd.prog) S8 211 (fun x : (Int × Bool) => Value.agg (zd2 x).toArray) (fun x : Int => Value.int .u8 x)
 have S10 := T9
 dsimp only [lAa, lAn, lA0, lAs] at S10
 refine p_v (v := .map (some b9)) rfl rfl rfl (x_makeMap r9) <| p_v (v := .map (some b9)) rfl rfl rfl (zah rfl) <| zaa <| zab <| zab <| zad (l := [0]) rfl <| p_v (v := .int .i64 0) rfl rfl rfl (zag rfl) <| zaa <| zas <| zbo (S := PartM × (List ((Int × Bool) × Int)) × Int) (fun (q_ : PartM × (List ((Int × Bool) × Int)) × Int) ρ w' => match q_ with | (out, of, t12) => ∃ (h : Ghost), Le (fun _ => none) h ∧ St w.heap.size w h w' [box b1 32 (zac p), box b3 74 (zak s), box b5 32 (zac zPart), box b7 32 (zac out), amap (fun x : (Int × Bool) => Value.agg (zd2 x).toArray) (fun x : Int => Value.int .u8 x) b9 of] ∧ ρ 2 = .pointer (some ⟨b1, 0, none⟩) ∧ ρ 3 = .pointer (some ⟨b3, 0, none⟩) ∧ ρ 4 = .pointer (some ⟨b5, 0, none⟩) ∧ ρ 5 = .pointer (some ⟨b7, 0, none⟩) ∧ ρ 6 = .map (some b9) ∧ ρ 12 = .int .i64 t12 ∧ okPart out ∧ inK .i64 t12 ∧ (0 ≤ t12 ∧ t12 ≤ 256 ∧ of = kvTo (sideOf p s) t12.toNat ∧ out.of = ofTo (sideOf p s) t12 ∧ out.n = ((reps (sideOf p s) t12.toNat).length : Int))) (fun q_ => match q_ with | (out, of, t12) => (256 - t12).toNat) (zPart, ([] : List ((Int × Bool) × Int)), 0) ⟨(fun _ => none), Le.refl _, S10.sub [0, 1, 2, 3, 4] (by decide) rfl _ rfl, rfl, rfl, rfl, rfl, rfl, rfl, (zay), (zao (by omega) (by omega)), (by exact ⟨by omega, by omega, rfl, ofTo_0 _, rfl⟩)⟩ ?_
 rintro ⟨out, of, t12⟩ ih11 ρ11 w11 ⟨h11, le11, S11, r11_2, r11_3, r11_4, r11_5, r11_6, r11_12, f11_0, f11_1, hI11⟩
 have lf11_1 := za7 f11_1; have hf11_1 := za8 f11_1
 have hb_ := reps_le (sideOf p s) t12.toNat; have hN_ := hI11.2.2.2.2
 refine zab <| zad (l := [0]) rfl <| p_v (v := .bool (decide (t12 < 256))) rfl rfl rfl (zdc r11_12 rfl) <| zaa <| zab ?_
 refine zap (p := t12 < 256) rfl (fun hc12 => ?_) (fun hc12 => ?_)
 ·skip
  refine zau <| zab <| zas <| zab <| zad (l := [0, 1]) rfl <| p_v (v := .int .i64 t12) rfl rfl rfl (zag r11_12) <| p_v (v := .int .i64 t12) rfl rfl rfl (zah rfl) <| zaa <| zab ?_
  have in13 := zcz (o0).1 (i := t12) (by omega) (by omega)
  have lo13 := zeu in13; have hi13 := zfa in13
  have hf15 : (CFs ⟨b1, 0 + t12.toNat * 1, none⟩ [.int .u8 (at_ p.of t12)]).1 w11 := (CF.box (m := 1) (S11.box_at (j := 0) rfl) (cs := (zac p)) (encPart_at o0 (by omega) (by omega)))
  have hf16 : (CFs ⟨b3, 0, none⟩ (zak s)).1 w11 := (CF.box (m := 4) (S11.box_at (j := 1) rfl) rfl)
  refine daS (hkC 3 hf15 (hkC 4 hf16 (hkN (w := w11)))) 11 rfl mixed ?_
  intro wd17 gd17 hd17
  have S18 := S11.keep gd17
  have hf19 := spUp gd17 hf15
  have hf20 := spUp gd17 hf16
  refine qd0 (i := 0) (v := .int .i64 t12) rfl (by decide +kernel) rfl rfl (zag rfl) (zaj rfl) <| qd0 (i := 1) (v := .pointer (some ⟨b1, 0, none⟩)) rfl (by decide +kernel) rfl rfl (zan fd32_0 ty30 rfl r11_2) (zaj rfl) <| qd0 (i := 2) (v := .pointer (some ⟨b1, 0 + t12.toNat * 1, none⟩)) rfl (by decide +kernel) rfl rfl (zbp u30 ty5 rfl rfl (by omega) (by omega)) (zaj rfl) <| qd1 0 (i := 3) (v := .int .u8 (at_ p.of t12)) rfl rfl (by decide +kernel) rfl rfl (fun wq hq => (zal (seg := [.int .u8 (at_ p.of t12)]) ty5 rfl (by simp) rfl hq)) (za9 hf19 (zaj rfl)) <| qd1 1 (i := 4) (v := .agg (zak s).toArray) rfl rfl (by decide +kernel) rfl rfl (fun wq hq => (zal (seg := (zak s)) ty74 rfl (by simp) r11_3 hq)) (za1 rfl (za9 hf20 (zaj rfl))) <| qd0 (i := 5) (v := .int .i64 t12) rfl (by decide +kernel) rfl rfl (zag rfl) (zaj rfl) <| qd0 (i := 6) (v := .int .u8 t12) rfl (by decide +kernel) rfl rfl (x_conv u3 u5 rfl (zec (by omega) (by omega))) (zaj rfl) <| d_m (i := 7) (v := .bool (has s t12)) (fun _ => True) (fun _ ho => trivial) rfl (by decide +kernel) (by decide +kernel) (by decide +kernel) rfl rfl (fun wq => (za6 (args := [.agg (zak s).toArray, .int .u8 t12]) ca80 rfl rfl)) (fun wq hq => (has_calls wq s t12 (zec (by omega) (by omega))).mono fun e w2 he => by obtain ⟨_, rfl, _, T, rfl⟩ := he; exact ⟨rfl, Chg.of_below T.below⟩) (zaj rfl) <| qd0 (i := 8) (v := .agg (zd2 ((at_ p.of t12, has s t12) : Int × Bool)).toArray) rfl (by decide +kernel) rfl rfl (zdj (pv := [(0, .int .u8 (at_ p.of t12)), (1, .bool (has s t12))]) rfl (zbg pl213 ty213 rfl (cs := (zd2 ((at_ p.of t12, has s t12) : Int × Bool))) rfl)) (zaj rfl) <| zby (i := 9) (by decide +kernel) ?_
  intro wd21 gd21
  have S22 := S18.keep gd21
  have hf23 := spUp gd21 hf19
  have hf24 := spUp gd21 hf20
  obtain ⟨b25, w25, r25, g25, T25⟩ := zb2 (P := Tryd.prog) S22 213 (v := (.agg #[.int .u8 0, .bool false])) (zd2 ((0, false) : Int × Bool)) rfl
  have S26 := T25
  dsimp only [lAa, lAn, lA0, lAs] at S26
  have hf27 := spUp g25 hf23
  have hf28 := spUp g25 hf24
  refine d_v (v := .pointer (some ⟨b25, 0, none⟩)) rfl rfl rfl (zcj ty213 r25) (.inl g25) <| zby (i := 10) (by decide +kernel) ?_
  intro wd29 gd29
  have S30 := S26.keep gd29
  have hf31 := spUp gd29 hf27
  have hf32 := spUp gd29 hf28
  obtain ⟨w33, r33, g33, T33⟩ := zcb (P := Tryd.prog) (off := 0) (v := .agg (zd2 ((at_ p.of t12, has s t12) : Int × Bool)).toArray) (vs := (zd2 ((at_ p.of t12, has s t12) : Int × Bool))) S30 ty213 rfl rfl (j := 5) rfl (by first | decide | exact Nat.le_of_ble_eq_true rfl) (encSide_one _)
  have S34 := T33.fx 5 (box b25 213 (zd2 ((at_ p.of t12, has s t12) : Int × Bool))) rfl
  dsimp only [lAa, lAn, lA0, lAs] at S34
  have hf35 : (CFs ⟨b1, 0 + t12.toNat * 1, none⟩ [.int .u8 (at_ p.of t12)]).1 w33 := (CF.box (m := 1) (S34.box_at (j := 0) rfl) (cs := (zac p)) (encPart_at o0 (by omega) (by omega)))
  have hf36 : (CFs ⟨b3, 0, none⟩ (zak s)).1 w33 := (CF.box (m := 4) (S34.box_at (j := 1) rfl) rfl)
  refine d_s rfl rfl (zbh rfl rfl r33) (.inr (zba (by decide +kernel) (zba (by decide +kernel) trivial))) <| zb3 (by decide +kernel) ?_
  intro wd37 gd37
  have S38 := S34.keep gd37
  refine zab <| zad (l := [0, 1, 2, 3, 4, 5, 6, 7]) rfl <| p_v (v := .map (some b9)) rfl rfl rfl (zag r11_6) <| p_v (v := .agg (zd2 ((at_ p.of t12, has s t12) : Int × Bool)).toArray) rfl rfl rfl (zal (seg := (zd2 ((at_ p.of t12, has s t12) : Int × Bool))) ty213 rfl (by simp) rfl (CF.box (m := 2) (S38.box_at (j := 5) rfl) rfl)) <| p_v (v := .tuple #[.int .u8 ((zbm ((at_ p.of t12, has s t12) : Int × Bool) of).getD 0), .bool ((zbm ((at_ p.of t12, has s t12) : Int × Bool) of).isSome)]) rfl rfl rfl (x_lookup rfl rfl (e_lookup_d key213 S38 (j := 4) rfl u211 (zes ty5) 0 ((at_ p.of t12, has s t12) : Int × Bool))) <| p_v (v := .tuple #[.int .u8 ((zbm ((at_ p.of t12, has s t12) : Int × Bool) of).getD 0), .bool ((zbm ((at_ p.of t12, has s t12) : Int × Bool) of).isSome)]) rfl rfl rfl (zag rfl) <| p_v (v := .int .u8 ((zbm ((at_ p.of t12, has s t12) : Int × Bool) of).getD 0)) rfl rfl rfl (zcs (vs := [.int .u8 ((zbm ((at_ p.of t12, has s t12) : Int × Bool) of).getD 0), .bool ((zbm ((at_ p.of t12, has s t12) : Int × Bool) of).isSome)]) rfl rfl) <| p_v (v := .bool ((zbm ((at_ p.of t12, has s t12) : Int × Bool) of).isSome)) rfl rfl rfl (zcs (vs := [.int .u8 ((zbm ((at_ p.of t12, has s t12) : Int × Bool) of).getD 0), .bool ((zbm ((at_ p.of t12, has s t12) : Int × Bool) of).isSome)]) rfl rfl) <| p_v (v := .int .u8 ((zbm ((at_ p.of t12, has s t12) : Int × Bool) of).getD 0)) rfl rfl rfl (zah rfl) <| p_v (v := .bool ((zbm ((at_ p.of t12, has s t12) : Int × Bool) of).isSome)) rfl rfl rfl (zah rfl) <| zaa <| zab ?_
  refine zab <| zad (l := [0, 1]) rfl <| p_v (v := .bool ((zbm ((at_ p.of t12, has s t12) : Int × Bool) of).isSome)) rfl rfl rfl (zag rfl) <| p_v (v := .bool (!((zbm ((at_ p.of t12, has s t12) : Int × Bool) of).isSome))) rfl rfl rfl (ze2 rfl) <| zaa ?_
  refine zch (b := (zbm ((at_ p.of t12, has s t12) : Int × Bool) of).isSome) rfl (fun hc39 => ?_) (fun hc39 => ?_)
  ·skip
   have hv_ := Option.isSome_eq_false_iff.1 hc39
   rw [Option.isNone_iff_eq_none, hI11.2.2.1, ← side_at p s hI11.1] at hv_
   have hw_ := kvTo_new hv_
   refine zab <| zad (l := [0, 1, 2, 3]) rfl <| p_v (v := .pointer (some ⟨b7, 256, none⟩)) rfl rfl rfl (zan fd32_1 ty3 rfl r11_5) ?_
   have in40 := (f11_0).2
   have lo40 := za7 in40; have hi40 := za8 in40
   refine p_v (v := .int .i64 out.n) rfl rfl rfl (zal (seg := [.int .i64 out.n]) ty3 rfl (by simp) rfl (CF.box (m := 1) (S38.box_at (j := 3) rfl) (encPart_n f11_0))) <| p_v (v := .int .u8 out.n) rfl rfl rfl (x_conv u3 u5 rfl (zec (by omega) (by omega))) <| p_v (v := .int .u8 out.n) rfl rfl rfl (zah rfl) <| zaa <| zab <| zad (l := [0, 1, 2, 3]) rfl <| p_v (v := .map (some b9)) rfl rfl rfl (zag r11_6) <| p_v (v := .agg (zd2 ((at_ p.of t12, has s t12) : Int × Bool)).toArray) rfl rfl rfl (zal (seg := (zd2 ((at_ p.of t12, has s t12) : Int × Bool))) ty213 rfl (by simp) rfl (CF.box (m := 2) (S38.box_at (j := 5) rfl) rfl)) <| p_v (v := .int .u8 out.n) rfl rfl rfl (zag rfl) ?_
   obtain ⟨w41, r41, g41, T41⟩ := e_mapUpdate key213 S38 (j := 4) rfl u211 ((at_ p.of t12, has s t12) : Int × Bool) out.n
   have S42 := T41.fx 4 (amap (fun x : (Int × Bool) => Value.agg (zd2 x).toArray) (fun x : Int => Value.int .u8 x) b9 (zfi ((at_ p.of t12, has s t12) : Int × Bool) out.n of)) rfl
   dsimp only [lAa, lAn, lA0, lAs] at S42
   refine p_s rfl rfl (x_mapUpdate rfl rfl rfl r41) <| zaa <| zad (l := [0, 1, 2, 3, 4]) rfl <| p_v (v := .pointer (some ⟨b7, 256, none⟩)) rfl rfl rfl (zan fd32_1 ty3 rfl r11_5) ?_
   have in43 := (f11_0).2
   have lo43 := za7 in43; have hi43 := za8 in43
   refine p_v (v := .int .i64 out.n) rfl rfl rfl (zal (seg := [.int .i64 out.n]) ty3 rfl (by simp) rfl (CF.box (m := 1) (S42.box_at (j := 3) rfl) (encPart_n f11_0))) <| p_v (v := .int .i64 (out.n + 1)) rfl rfl rfl (zct rfl rfl (zao (by omega) (by omega))) <| p_v (v := .pointer (some ⟨b7, 256, none⟩)) rfl rfl rfl (zan fd32_1 ty3 rfl r11_5) ?_
   obtain ⟨w44, r44, g44, T44⟩ := zcb (P := Tryd.prog) (off := 256) (v := .int .i64 (out.n + 1)) (vs := [.int .i64 (out.n + 1)]) S42 ty3 rfl rfl (j := 3) rfl (by rw [zae f11_0]; decide) (by simp [Value.oneCell'])
   rw [encPart_putN f11_0] at T44
   have ok44 : okPart (⟨out.of, out.n + 1⟩ : PartM) := okPart_putN f11_0 (zao (by omega) (by omega))
   have S45 := T44.fx 3 (box b7 32 (zac (⟨out.of, out.n + 1⟩ : PartM))) rfl
   dsimp only [lAa, lAn, lA0, lAs] at S45
   refine p_s rfl rfl (zbh rfl rfl r44) <| zaa <| zad (l := [0, 1, 2, 3, 4]) rfl <| p_v (v := .int .i64 t12) rfl rfl rfl (zag rfl) <| p_v (v := .int .u8 out.n) rfl rfl rfl (zag rfl) <| p_v (v := .pointer (some ⟨b7, 0, none⟩)) rfl rfl rfl (zan fd32_0 ty30 rfl r11_5) <| p_v (v := .pointer (some ⟨b7, 0 + t12.toNat * 1, none⟩)) rfl rfl rfl (zbp u30 ty5 rfl rfl (by omega) (by omega)) ?_
   obtain ⟨w46, r46, g46, T46⟩ := zcb (P := Tryd.prog) (off := 0 + t12.toNat * 1) (v := .int .u8 out.n) (vs := [.int .u8 out.n]) S45 ty5 rfl rfl (j := 3) rfl (by rw [zae ok44]; first|omega|(simp;omega)|assumption) (by simp [Value.oneCell'])
   rw [encPart_put ok44 (by omega) (by omega)] at T46
   have ok46 : okPart (⟨(⟨out.of, out.n + 1⟩ : PartM).of.set t12.toNat out.n, (⟨out.of, out.n + 1⟩ : PartM).n⟩ : PartM) := okPart_put ok44 _ (zec (by omega) (by omega))
   have S47 := T46.fx 3 (box b7 32 (zac (⟨(⟨out.of, out.n + 1⟩ : PartM).of.set t12.toNat out.n, (⟨out.of, out.n + 1⟩ : PartM).n⟩ : PartM))) rfl
   dsimp only [lAa, lAn, lA0, lAs] at S47
   refine p_s rfl rfl (zbh rfl rfl r46) <| zaa <| zat <| zad (l := [0, 1]) rfl <| p_v (v := .int .i64 (t12 + 1)) rfl rfl rfl (zct r11_12 rfl (zao (by omega) (by omega))) <| p_v (v := .int .i64 (t12 + 1)) rfl rfl rfl (zag rfl) <| zaa ?_
   refine ih11 ((⟨(⟨out.of, out.n + 1⟩ : PartM).of.set t12.toNat out.n, (⟨out.of, out.n + 1⟩ : PartM).n⟩ : PartM), zfi ((at_ p.of t12, has s t12) : Int × Bool) out.n of, t12 + 1) _ _ (by dsimp only; omega) ⟨h11, le11, S47.sub [0, 1, 2, 3, 4] (by decide) rfl _ rfl, r11_2, r11_3, r11_4, r11_5, r11_6, rfl, ok46, (zao (by omega) (by omega)), (by first | exact ⟨by omega, by omega, by rw [hI11.2.2.1, show (t12 + 1).toNat = t12.toNat + 1 by omega, ho_.2.1], ofTo_step hI11.2.2.2.1 hI11.1 (by omega) hn_, by rw [show (t12 + 1).toNat = t12.toNat + 1 by omega, ho_.2.2]; exact hI11.2.2.2.2⟩ | exact ⟨by omega, by omega, by rw [show (t12 + 1).toNat = t12.toNat + 1 by omega, hw_.2.1, ← hI11.2.2.1, side_at p s hI11.1, ← hI11.2.2.2.2], ofTo_step hI11.2.2.2.1 hI11.1 (by omega) (by show out.n = _; rw [hI11.2.2.2.2]; exact hw_.1), by show out.n + 1 = _; rw [hI11.2.2.2.2, show (t12 + 1).toNat = t12.toNat + 1 by omega, hw_.2.2]; omega⟩)⟩
  obtain ⟨v_, hv_⟩ := Option.isSome_iff_exists.1 hc39
  have hn_ : (zbm (at_ p.of t12, has s t12) of).getD 0 = v_ := by rw [hv_]; rfl
  rw [hI11.2.2.1, ← side_at p s hI11.1] at hv_
  have ho_ := kvTo_old hv_
  rw [ho_.1] at hn_
  have hi_ := idx_le (sideOf p s) t12.toNat
  have hk_ : inK .u8 ((zbm (at_ p.of t12, has s t12) of).getD 0) := by rw [hn_]; exact zec (by omega) (by omega)
  have hl_ := zeu hk_; have hh_ := zfa hk_
  refine zau <| zad (l := [0, 1, 2, 3, 4]) rfl <| p_v (v := .int .i64 t12) rfl rfl rfl (zag rfl) <| p_v (v := .int .u8 ((zbm ((at_ p.of t12, has s t12) : Int × Bool) of).getD 0)) rfl rfl rfl (zag rfl) <| p_v (v := .pointer (some ⟨b7, 0, none⟩)) rfl rfl rfl (zan fd32_0 ty30 rfl r11_5) <| p_v (v := .pointer (some ⟨b7, 0 + t12.toNat * 1, none⟩)) rfl rfl rfl (zbp u30 ty5 rfl rfl (by omega) (by omega)) ?_
  obtain ⟨w48, r48, g48, T48⟩ := zcb (P := Tryd.prog) (off := 0 + t12.toNat * 1) (v := .int .u8 ((zbm ((at_ p.of t12, has s t12) : Int × Bool) of).getD 0)) (vs := [.int .u8 ((zbm ((at_ p.of t12, has s t12) : Int × Bool) of).getD 0)]) S38 ty5 rfl rfl (j := 3) rfl (by rw [zae f11_0]; first|omega|(simp;omega)|assumption) (by simp [Value.oneCell'])
  rw [encPart_put f11_0 (by omega) (by omega)] at T48
  have ok48 : okPart (⟨out.of.set t12.toNat ((zbm ((at_ p.of t12, has s t12) : Int × Bool) of).getD 0), out.n⟩ : PartM) := okPart_put f11_0 _ (zec (by omega) (by omega))
  have S49 := T48.fx 3 (box b7 32 (zac (⟨out.of.set t12.toNat ((zbm ((at_ p.of t12, has s t12) : Int × Bool) of).getD 0), out.n⟩ : PartM))) rfl
  dsimp only [lAa, lAn, lA0, lAs] at S49
  refine p_s rfl rfl (zbh rfl rfl r48) <| zaa <| zat <| zad (l := [0, 1]) rfl <| p_v (v := .int .i64 (t12 + 1)) rfl rfl rfl (zct r11_12 rfl (zao (by omega) (by omega))) <| p_v (v := .int .i64 (t12 + 1)) rfl rfl rfl (zag rfl) <| zaa ?_
  refine ih11 ((⟨out.of.set t12.toNat ((zbm ((at_ p.of t12, has s t12) : Int × Bool) of).getD 0), out.n⟩ : PartM), of, t12 + 1) _ _ (by dsimp only; omega) ⟨h11, le11, S49.sub [0, 1, 2, 3, 4] (by decide) rfl _ rfl, r11_2, r11_3, r11_4, r11_5, r11_6, rfl, ok48, (zao (by omega) (by omega)), (by first | exact ⟨by omega, by omega, by rw [hI11.2.2.1, show (t12 + 1).toNat = t12.toNat + 1 by omega, ho_.2.1], ofTo_step hI11.2.2.2.1 hI11.1 (by omega) hn_, by rw [show (t12 + 1).toNat = t12.toNat + 1 by omega, ho_.2.2]; exact hI11.2.2.2.2⟩ | exact ⟨by omega, by omega, by rw [show (t12 + 1).toNat = t12.toNat + 1 by omega, hw_.2.1, ← hI11.2.2.1, side_at p s hI11.1, ← hI11.2.2.2.2], ofTo_step hI11.2.2.2.1 hI11.1 (by omega) (by show out.n = _; rw [hI11.2.2.2.2]; exact hw_.1), by show out.n + 1 = _; rw [hI11.2.2.2.2, show (t12 + 1).toNat = t12.toNat + 1 by omega, hw_.2.2]; omega⟩)⟩
 refine zbn rfl <| zab <| zad (l := [0, 1]) rfl <| p_v (v := .agg (zac out).toArray) rfl rfl rfl (zal (seg := (zac out)) ty32 (zae f11_0) (by simp) r11_5 (CF.box (m := 257) (S11.box_at (j := 3) rfl) (by rw [List.drop_zero, List.take_of_length_le (by rw [zae f11_0]; exact Nat.le_refl _)]))) ?_
 obtain ⟨w50, r50, g50, T50⟩ := zcb (P := Tryd.prog) (off := 0) (v := .agg (zac out).toArray) (vs := (zac out)) S11 ty32 rfl (zae f11_0) (j := 2) rfl (by rw [zae (zay)]; decide) (zbu _)
 rw [lput_all (by rw [zae f11_0, zae (zay)])] at T50
 have S51 := T50.fx 2 (box b5 32 (zac out)) rfl
 dsimp only [lAa, lAn, lA0, lAs] at S51
 refine p_s rfl rfl (zbh r11_4 rfl r50) <| zaa <| zar Tryd.func115 (res1 rfl (zcv S51 ty32 r11_4 (j := 2) rfl (zae f11_0) (by simp) rfl)) ?_
 have q0 : (splitP p s : PartM) = out := by
  exact split_end p s (by omega) hI11.2.2.2.1 hI11.2.2.2.2
 refine ⟨_, rfl, h11, ?_, ?_, ?_⟩
 · exact S51.sub [] (by decide) rfl _ rfl
 · first | rfl | (simp only [q0]; rfl) | (simp only [q0])
 · rw [q0]; first | assumption | exact zay
theorem right_calls (w : World) (p : PartM) (o0 : okPart p) :
    Calls Tryd.prog 26 #[.agg (zac p).toArray] w fun e w' => ∃ v, e = .returned v ∧ ∃ (hn : Ghost), St w.heap.size w hn w' [] ∧ v = .bool (zc7 p) := by
 refine zaq Tryd.func26 rfl Tryd.ntmps26 rfl ?_
 have S0 := St.init w
 have ploo0 := za7 o0.2; have phio0 := za8 o0.2
 refine zab <| zad (l := [0, 1]) rfl ?_
 obtain ⟨b1, w1, r1, g1, T1⟩ := zb2 (P := Tryd.prog) S0 32 (v := .agg (zac p).toArray) (zac p) rfl
 have S2 := T1
 dsimp only [lAa, lAn, lA0, lAs] at S2
 refine p_v (v := .pointer (some ⟨b1, 0, none⟩)) rfl rfl rfl (zc8 rfl r1) <| p_v (v := .bool false) rfl rfl rfl (zah rfl) <| zaa <| zab <| zad (l := [0]) rfl <| p_v (v := .int .i64 0) rfl rfl rfl (zah rfl) <| zaa <| zab <| zab <| zad (l := [0, 1, 2]) rfl <| p_v (v := .pointer (some ⟨b1, 0, none⟩)) rfl rfl rfl (zan fd32_0 ty30 rfl rfl) <| p_v (v := .agg (zbf .u8 p.of).toArray) rfl rfl rfl (zal (seg := (zbf .u8 p.of)) ty30 (zeh (o0).1) (by simp) rfl (CF.box (m := 256) (S2.box_at (j := 0) rfl) (encPart_of o0))) ?_
 refine p_v (v := .int .i64 0) rfl rfl rfl (zag rfl) <| zaa <| zas <| zbo (S := Int × Int) (fun (q_ : Int × Int) ρ w' => match q_ with | (next, t8) => ∃ (h : Ghost), Le (fun _ => none) h ∧ St w.heap.size w h w' [box b1 32 (zac p)] ∧ ρ 1 = .pointer (some ⟨b1, 0, none⟩) ∧ ρ 3 = .int .i64 next ∧ ρ 7 = .agg (zbf .u8 p.of).toArray ∧ ρ 8 = .int .i64 t8 ∧ inK .i64 next ∧ inK .i64 t8 ∧ (0 ≤ t8 ∧ t8 ≤ 256 ∧ 0 ≤ next ∧ next ≤ t8 ∧ nextOf (p.of.take t8.toNat) = some next)) (fun q_ => match q_ with | (next, t8) => (256 - t8).toNat) (0, 0) ⟨(fun _ => none), Le.refl _, S2.sub [0] (by decide) rfl _ rfl, rfl, rfl, rfl, rfl, (zao (by omega) (by omega)), (zao (by omega) (by omega)), (by exact ⟨by omega, by omega, by omega, by omega, rfl⟩)⟩ ?_
 rintro ⟨next, t8⟩ ih3 ρ3 w3 ⟨h3, le3, S3, r3_1, r3_3, r3_7, r3_8, f3_0, f3_1, hI3⟩
 have lf3_0 := za7 f3_0; have hf3_0 := za8 f3_0
 have lf3_1 := za7 f3_1; have hf3_1 := za8 f3_1
 have hlen_ := o0.1.1
 refine zab <| zad (l := [0]) rfl <| p_v (v := .bool (decide (t8 < 256))) rfl rfl rfl (zdc r3_8 rfl) <| zaa <| zab ?_
 refine zap (p := t8 < 256) rfl (fun hc4 => ?_) (fun hc4 => ?_)
 ·skip
  refine zau <| zab <| zas <| zab <| zad (l := [0, 1]) rfl ?_
  have in5 := zcz (o0).1 (i := t8) (by omega) (by omega)
  have lo5 := zeu in5; have hi5 := zfa in5
  refine p_v (v := .int .u8 (at_ p.of t8)) rfl rfl rfl (x_index_arr (cs := (zbf .u8 p.of)) u30 ty5 r3_7 r3_8 (by omega) (by omega) (encInts_get (o0).1 (by omega) (by omega))) <| p_v (v := .int .u8 (at_ p.of t8)) rfl rfl rfl (zah rfl) <| zaa <| zab <| zab <| zad (l := [0, 1, 2, 3]) rfl <| p_v (v := .int .u8 (at_ p.of t8)) rfl rfl rfl (zag rfl) <| p_v (v := .int .i64 (at_ p.of t8)) rfl rfl rfl (x_conv u5 u3 rfl (zao (by omega) (by omega))) <| p_v (v := .int .i64 next) rfl rfl rfl (zag r3_3) <| p_v (v := .bool (decide (next < (at_ p.of t8)))) rfl rfl rfl (x_gtr rfl rfl) <| zaa ?_
  refine zap (p := next < (at_ p.of t8)) rfl (fun hc6 => ?_) (fun hc6 => ?_)
  ·skip
   refine zab <| zad (l := [0]) rfl <| p_v (v := .bool false) rfl rfl rfl (zah rfl) <| zaa <| zar Tryd.func26 (res1 rfl (zax (v := .bool false) rfl)) ?_
   have q0 : (zc7 p : Bool) = false := by
    exact right_no p hI3.1 (by omega) hI3.2.2.2.2 (by omega)
   refine ⟨_, rfl, h3, ?_, ?_⟩
   · exact S3.sub [] (by decide) rfl _ rfl
   · first | rfl | (simp only [q0]; rfl) | (simp only [q0])
  refine zau <| zab <| zad (l := [0, 1, 2, 3]) rfl <| p_v (v := .int .u8 (at_ p.of t8)) rfl rfl rfl (zag rfl) <| p_v (v := .int .i64 (at_ p.of t8)) rfl rfl rfl (x_conv u5 u3 rfl (zao (by omega) (by omega))) <| p_v (v := .int .i64 next) rfl rfl rfl (zag r3_3) <| p_v (v := .bool (decide ((at_ p.of t8) = next))) rfl rfl rfl (ze4 rfl rfl) <| zaa ?_
  refine zap (p := (at_ p.of t8) = next) rfl (fun hc7 => ?_) (fun hc7 => ?_)
  ·skip
   refine zad (l := [0, 1, 2]) rfl <| p_v (v := .int .i64 next) rfl rfl rfl (zag r3_3) <| p_v (v := .int .i64 (next + 1)) rfl rfl rfl (zct rfl rfl (zao (by omega) (by omega))) <| p_v (v := .int .i64 (next + 1)) rfl rfl rfl (zah rfl) <| zaa <| zat <| zad (l := [0, 1]) rfl <| p_v (v := .int .i64 (t8 + 1)) rfl rfl rfl (zct r3_8 rfl (zao (by omega) (by omega))) <| p_v (v := .int .i64 (t8 + 1)) rfl rfl rfl (zag rfl) <| zaa ?_
   refine ih3 (next + 1, t8 + 1) _ _ (by dsimp only; omega) ⟨h3, le3, S3.sub [0] (by decide) rfl _ rfl, r3_1, rfl, r3_7, rfl, (zao (by omega) (by omega)), (zao (by omega) (by omega)), (by exact ⟨by omega, by omega, by omega, by omega, by rw [zdk p.of hI3.1 (by omega), next_app, hI3.2.2.2.2]; first | (simp only []; rw [if_neg (by omega), if_pos (by omega)]) | (simp only []; rw [if_neg (by omega), if_neg (by omega)])⟩)⟩
  refine zau <| zat <| zad (l := [0, 1]) rfl <| p_v (v := .int .i64 (t8 + 1)) rfl rfl rfl (zct r3_8 rfl (zao (by omega) (by omega))) <| p_v (v := .int .i64 (t8 + 1)) rfl rfl rfl (zag rfl) <| zaa ?_
  refine ih3 (next, t8 + 1) _ _ (by dsimp only; omega) ⟨h3, le3, S3.sub [0] (by decide) rfl _ rfl, r3_1, r3_3, r3_7, rfl, f3_0, (zao (by omega) (by omega)), (by exact ⟨by omega, by omega, by omega, by omega, by rw [zdk p.of hI3.1 (by omega), next_app, hI3.2.2.2.2]; first | (simp only []; rw [if_neg (by omega), if_pos (by omega)]) | (simp only []; rw [if_neg (by omega), if_neg (by omega)])⟩)⟩
 refine zbn rfl <| zab <| zad (l := [0, 1, 2, 3, 4]) rfl <| p_v (v := .int .i64 next) rfl rfl rfl (zag r3_3) <| p_v (v := .pointer (some ⟨b1, 256, none⟩)) rfl rfl rfl (zan fd32_1 ty3 rfl r3_1) ?_
 have in8 := (o0).2
 have lo8 := za7 in8; have hi8 := za8 in8
 refine p_v (v := .int .i64 p.n) rfl rfl rfl (zal (seg := [.int .i64 p.n]) ty3 rfl (by simp) rfl (CF.box (m := 1) (S3.box_at (j := 0) rfl) (encPart_n o0))) <| p_v (v := .bool (decide (next = p.n))) rfl rfl rfl (ze4 rfl rfl) <| p_v (v := .bool (decide (next = p.n))) rfl rfl rfl (zah rfl) <| zaa <| zar Tryd.func26 (res1 rfl (zax (v := .bool (decide (next = p.n))) rfl)) ?_
 have q0 : (zc7 p : Bool) = decide (next = p.n) := by
  exact right_yes p (by omega) hI3.2.2.2.2
 refine ⟨_, rfl, h3, ?_, ?_⟩
 · exact S3.sub [] (by decide) rfl _ rfl
 · (simp only [q0])
theorem refine_calls (w : World) (sets : List BSet) (A0 : Option Addr) (c0 : Nat) (b0 : sets.length ≤ c0 ∧ c0 ≤ maxLen) (l0 : zbe kSet (hp w) A0 sets) :
    Calls Tryd.prog 49 #[.slice A0 sets.length c0] w fun e w' => ∃ v, e = .returned v ∧ ∃ (hn : Ghost), St w.heap.size w hn w' [] ∧ v = .agg (zac (zc2 sets)).toArray ∧ okPart (zc2 sets) := by
 refine zaq Tryd.func49 rfl Tryd.ntmps49 rfl ?_
 have S0 := St.init w
 have bb0 := b0.1; have bc0 := b0.2; simp only [maxLen] at bc0
 refine zab <| zad (l := [0]) rfl ?_
 obtain ⟨b1, w1, r1, g1, T1⟩ := zb2 (P := Tryd.prog) S0 32 (v := zv32) (zac zPart) (by kernel_rfl)
 have S2 := T1
 dsimp only [lAa, lAn, lA0, lAs] at S2
 refine p_v (v := .pointer (some ⟨b1, 0, none⟩)) rfl rfl rfl (zcj ty32 r1) <| zaa <| zab <| zad (l := [0, 1, 2]) rfl <| p_v (v := .agg (zac (⟨(List.replicate 256 (0 : Int)), 1⟩ : PartM)).toArray) rfl rfl rfl (zdj (pv := [(1, .int .i64 1)]) rfl (zbg pl32 ty32 rfl (cs := (zac (⟨(List.replicate 256 (0 : Int)), 1⟩ : PartM))) (by kernel_rfl))) ?_
 obtain ⟨b3, w3, r3, g3, T3⟩ := zb2 (P := Tryd.prog) S2 32 (v := zv32) (zac zPart) (by kernel_rfl)
 have S4 := T3
 dsimp only [lAa, lAn, lA0, lAs] at S4
 refine p_v (v := .pointer (some ⟨b3, 0, none⟩)) rfl rfl rfl (zcj ty32 r3) ?_
 obtain ⟨w5, r5, g5, T5⟩ := zcb (P := Tryd.prog) (off := 0) (v := .agg (zac (⟨(List.replicate 256 (0 : Int)), 1⟩ : PartM)).toArray) (vs := (zac (⟨(List.replicate 256 (0 : Int)), 1⟩ : PartM))) S4 ty32 rfl (zae okPart_one) (j := 1) rfl (by rw [zae (zay)]; decide) (zbu _)
 rw [lput_all (by rw [zae okPart_one, zae (zay)])] at T5
 have S6 := T5.fx 1 (box b3 32 (zac (⟨(List.replicate 256 (0 : Int)), 1⟩ : PartM))) rfl
 dsimp only [lAa, lAn, lA0, lAs] at S6
 refine p_s rfl rfl (zbh rfl rfl r5) <| zaa <| zab <| zab <| zad (l := [0, 1, 2]) rfl <| p_v (v := .slice A0 sets.length c0) rfl rfl rfl (zag rfl) <| p_v (v := .int .i64 (sets.length : Int)) rfl rfl rfl (za0 u62 rfl) <| p_v (v := .int .i64 0) rfl rfl rfl (zag rfl) <| zaa <| zas <| zbo (S := PartM × Int) (fun (q_ : PartM × Int) ρ w' => match q_ with | (p, t9) => ∃ (h : Ghost), Le (fun _ => none) h ∧ St w.heap.size w h w' [box b1 32 (zac zPart), box b3 32 (zac p)] ∧ ρ 2 = .pointer (some ⟨b1, 0, none⟩) ∧ ρ 3 = .pointer (some ⟨b3, 0, none⟩) ∧ ρ 7 = .slice A0 sets.length c0 ∧ ρ 8 = .int .i64 (sets.length : Int) ∧ ρ 9 = .int .i64 t9 ∧ okPart p ∧ inK .i64 t9 ∧ (0 ≤ t9 ∧ t9 ≤ (sets.length : Int) ∧ p = zc2 (sets.take t9.toNat))) (fun q_ => match q_ with | (p, t9) => (sets.length - t9).toNat) ((⟨(List.replicate 256 (0 : Int)), 1⟩ : PartM), 0) ⟨(fun _ => none), Le.refl _, S6.sub [0, 1] (by decide) rfl _ rfl, rfl, rfl, rfl, rfl, rfl, okPart_one, (zao (by omega) (by omega)), (by exact ⟨by omega, by omega, refine_0 _⟩)⟩ ?_
 rintro ⟨p, t9⟩ ih7 ρ7 w7 ⟨h7, le7, S7, r7_2, r7_3, r7_7, r7_8, r7_9, f7_0, f7_1, hI7⟩
 have lf7_1 := za7 f7_1; have hf7_1 := za8 f7_1
 refine zab <| zad (l := [0]) rfl <| p_v (v := .bool (decide (t9 < (sets.length : Int)))) rfl rfl rfl (zdc r7_9 r7_8) <| zaa <| zab ?_
 refine zap (p := t9 < (sets.length : Int)) rfl (fun hc8 => ?_) (fun hc8 => ?_)
 ·skip
  refine zau <| zab <| zas <| zab <| zad (l := [0, 1, 2, 3]) rfl ?_
  obtain ⟨ad9, seg9, a9, rp9, ce9⟩ := zaz (q := t9) (m := 4) l0 rfl (by omega) (by omega)
  refine p_v (v := .pointer (some ad9)) rfl rfl rfl (zaw u62 ty74 r7_7 r7_9 a9 (by omega) (by omega)) ?_
  obtain ⟨rfl, ok9⟩ := rp9
  refine p_v (v := .agg (zak (at_ sets t9)).toArray) rfl rfl rfl (zal (seg := (zak (at_ sets t9))) ty74 rfl (by simp) rfl (CF.ghost ce9 (St.le0 S7))) ?_
  obtain ⟨b10, w10, r10, g10, T10⟩ := zb2 (P := Tryd.prog) S7 74 (v := (.agg #[.int .u64 0, .int .u64 0, .int .u64 0, .int .u64 0])) (zak (0 : BSet)) rfl
  have S11 := T10
  dsimp only [lAa, lAn, lA0, lAs] at S11
  refine p_v (v := .pointer (some ⟨b10, 0, none⟩)) rfl rfl rfl (zcj ty74 r10) ?_
  obtain ⟨w12, r12, g12, T12⟩ := zcb (P := Tryd.prog) (off := 0) (v := .agg (zak (at_ sets t9)).toArray) (vs := (zak (at_ sets t9))) S11 ty74 rfl rfl (j := 2) rfl (by first | decide | exact Nat.le_of_ble_eq_true rfl) (zd9 _)
  have S13 := T12.fx 2 (box b10 74 (zak (at_ sets t9))) rfl
  dsimp only [lAa, lAn, lA0, lAs] at S13
  refine p_s rfl rfl (zbh rfl rfl r12) <| zaa <| zad (l := [0, 1, 2, 3]) rfl <| p_v (v := .agg (zac p).toArray) rfl rfl rfl (zal (seg := (zac p)) ty32 (zae f7_0) (by simp) r7_3 (CF.box (m := 257) (S13.box_at (j := 1) rfl) (by rw [List.drop_zero, List.take_of_length_le (by rw [zae f7_0]; exact Nat.le_refl _)]))) <| p_v (v := .agg (zak (at_ sets t9)).toArray) rfl rfl rfl (zal (seg := (zak (at_ sets t9))) ty74 rfl (by simp) rfl (CF.box (m := 4) (S13.box_at (j := 2) rfl) rfl)) <| p_c rfl rfl rfl (za6 (args := [.agg (zac p).toArray, .agg (zak (at_ sets t9)).toArray]) ca115 rfl rfl) (split_calls w12 p f7_0 (at_ sets t9)) ?_
  rintro _ w14 ⟨h14, T14, rfl, ok14_0⟩
  have S15 := S13.keep (Chg.of_below T14.below)
  obtain ⟨w16, r16, g16, T16⟩ := zcb (P := Tryd.prog) (off := 0) (v := .agg (zac (splitP p (at_ sets t9))).toArray) (vs := (zac (splitP p (at_ sets t9)))) S15 ty32 rfl (zae ok14_0) (j := 1) rfl (by rw [zae f7_0]; decide) (zbu _)
  rw [lput_all (by rw [zae ok14_0, zae f7_0])] at T16
  have S17 := T16.fx 1 (box b3 32 (zac (splitP p (at_ sets t9)))) rfl
  dsimp only [lAa, lAn, lA0, lAs] at S17
  refine p_s rfl rfl (zbh r7_3 rfl r16) <| zaa <| zat <| zad (l := [0, 1]) rfl <| p_v (v := .int .i64 (t9 + 1)) rfl rfl rfl (zct r7_9 rfl (zao (by omega) (by omega))) <| p_v (v := .int .i64 (t9 + 1)) rfl rfl rfl (zag rfl) <| zaa ?_
  refine ih7 (splitP p (at_ sets t9), t9 + 1) _ _ (by dsimp only; omega) ⟨h7, le7, S17.sub [0, 1] (by decide) rfl _ rfl, r7_2, r7_3, r7_7, r7_8, rfl, ok14_0, (zao (by omega) (by omega)), (by exact ⟨by omega, by omega, refine_step sets hI7.1 (by omega) hI7.2.2⟩)⟩
 refine zbn rfl <| zab <| zad (l := [0, 1]) rfl <| p_v (v := .agg (zac p).toArray) rfl rfl rfl (zal (seg := (zac p)) ty32 (zae f7_0) (by simp) r7_3 (CF.box (m := 257) (S7.box_at (j := 1) rfl) (by rw [List.drop_zero, List.take_of_length_le (by rw [zae f7_0]; exact Nat.le_refl _)]))) ?_
 obtain ⟨w18, r18, g18, T18⟩ := zcb (P := Tryd.prog) (off := 0) (v := .agg (zac p).toArray) (vs := (zac p)) S7 ty32 rfl (zae f7_0) (j := 0) rfl (by rw [zae (zay)]; decide) (zbu _)
 rw [lput_all (by rw [zae f7_0, zae (zay)])] at T18
 have S19 := T18.fx 0 (box b1 32 (zac p)) rfl
 dsimp only [lAa, lAn, lA0, lAs] at S19
 refine p_s rfl rfl (zbh r7_2 rfl r18) <| zaa <| zar Tryd.func49 (res1 rfl (zcv S19 ty32 r7_2 (j := 0) rfl (zae f7_0) (by simp) rfl)) ?_
 have q0 : (zc2 sets : PartM) = p := by
  exact refine_end sets (by omega) hI7.2.2
 refine ⟨_, rfl, h7, ?_, ?_, ?_⟩
 · exact S19.sub [] (by decide) rfl _ rfl
 · first | rfl | (simp only [q0]; rfl) | (simp only [q0])
 · rw [q0]; first | assumption | exact zay
theorem sets_calls (w : World) (p : PartM) (o0 : okPart p) :
    Calls Tryd.prog 134 #[.agg (zac p).toArray] w fun e w' => ∃ v, e = .returned v ∧ ∃ (hn : Ghost) (r0 : Value), St w.heap.size w hn w' [row 74 kSet r0 (zcq p)] ∧ v = r0 := by
 refine zaq Tryd.func134 rfl Tryd.ntmps134 rfl ?_
 have S0 := St.init w
 have ploo0 := za7 o0.2; have phio0 := za8 o0.2
 refine zab <| zad (l := [0, 1]) rfl ?_
 obtain ⟨b1, w1, r1, g1, T1⟩ := zb2 (P := Tryd.prog) S0 32 (v := .agg (zac p).toArray) (zac p) rfl
 have S2 := T1
 dsimp only [lAa, lAn, lA0, lAs] at S2
 refine p_v (v := .pointer (some ⟨b1, 0, none⟩)) rfl rfl rfl (zc8 rfl r1) <| p_v (v := .slice none 0 0) rfl rfl rfl (zah rfl) <| zaa <| zab <| zad (l := [0, 1, 2, 3, 4, 5]) rfl <| p_v (v := .pointer (some ⟨b1, 256, none⟩)) rfl rfl rfl (zan fd32_1 ty3 rfl rfl) ?_
 have in3 := (o0).2
 have lo3 := za7 in3; have hi3 := za8 in3
 refine p_v (v := .int .i64 p.n) rfl rfl rfl (zal (seg := [.int .i64 p.n]) ty3 rfl (by simp) rfl (CF.box (m := 1) (S2.box_at (j := 0) rfl) (encPart_n o0))) <| p_v (v := .int .i64 (max p.n 0)) rfl rfl rfl (x_max rfl rfl) <| p_v (v := .int .i64 (min (max p.n 0) 256)) rfl rfl rfl (x_min rfl rfl) ?_
 obtain ⟨v4, w4, r4, g4, T4⟩ := e_make (kk := .i64) (kk' := .i64) (kd := kSet) (q := min (max p.n 0) 256) (z := (0 : BSet)) (zc := (zak (0 : BSet))) S2 u62 ty74 rfl rfl ⟨rfl, trivial⟩ (by omega) (by omega) (by omega)
 have S5 := T4
 dsimp only [lAa, lAn, lA0, lAs] at S5
 refine p_v (v := v4) rfl rfl rfl (x_make rfl rfl r4) <| p_v (v := v4) rfl rfl rfl (zah rfl) <| zaa <| zab <| zab <| zad (l := [0, 1, 2]) rfl <| p_v (v := .pointer (some ⟨b1, 0, none⟩)) rfl rfl rfl (zan fd32_0 ty30 rfl rfl) <| p_v (v := .agg (zbf .u8 p.of).toArray) rfl rfl rfl (zal (seg := (zbf .u8 p.of)) ty30 (zeh (o0).1) (by simp) rfl (CF.box (m := 256) (S5.box_at (j := 0) rfl) (encPart_of o0))) <| p_v (v := .int .i64 0) rfl rfl rfl (zag rfl) <| zaa <| zas <| zbo (S := (List BSet) × Int) (fun (q_ : (List BSet) × Int) ρ w' => match q_ with | (out, t13) => ∃ (h : Ghost) (v_out : Value), Le (fun _ => none) h ∧ St w.heap.size w h w' [row 74 kSet v_out out] ∧ ρ 3 = v_out ∧ ρ 12 = .agg (zbf .u8 p.of).toArray ∧ ρ 13 = .int .i64 t13 ∧ inK .i64 t13 ∧ (0 ≤ t13 ∧ t13 ≤ 256 ∧ out = setsTo p t13)) (fun q_ => match q_ with | (out, t13) => (256 - t13).toNat) (List.replicate (min (max p.n 0) 256).toNat (0 : BSet), 0) ⟨(fun _ => none), v4, Le.refl _, S5.sub [1] (by decide) rfl _ rfl, rfl, rfl, rfl, (zao (by omega) (by omega)), (by exact ⟨by omega, by omega, setsTo_0 p⟩)⟩ ?_
 rintro ⟨out, t13⟩ ih6 ρ6 w6 ⟨h6, v_out, le6, S6, r6_3, r6_12, r6_13, f6_0, hI6⟩
 have lf6_0 := za7 f6_0; have hf6_0 := za8 f6_0
 have rl6_0 := S6.row_le (j := 0) rfl; simp only [maxLen] at rl6_0
 have hlen_ : (out.length : Int) = min (max p.n 0) 256 := by rw [hI6.2.2]; exact setsTo_len p t13
 refine zab <| zad (l := [0]) rfl <| p_v (v := .bool (decide (t13 < 256))) rfl rfl rfl (zdc r6_13 rfl) <| zaa <| zab ?_
 refine zap (p := t13 < 256) rfl (fun hc7 => ?_) (fun hc7 => ?_)
 ·skip
  refine zau <| zab <| zas <| zab <| zad (l := [0, 1, 2, 3]) rfl <| p_v (v := .int .i64 t13) rfl rfl rfl (zag r6_13) ?_
  have in8 := zcz (o0).1 (i := t13) (by omega) (by omega)
  have lo8 := zeu in8; have hi8 := zfa in8
  refine p_v (v := .int .u8 (at_ p.of t13)) rfl rfl rfl (x_index_arr (cs := (zbf .u8 p.of)) u30 ty5 r6_12 r6_13 (by omega) (by omega) (encInts_get (o0).1 (by omega) (by omega))) <| p_v (v := .int .i64 t13) rfl rfl rfl (zah rfl) <| p_v (v := .int .u8 (at_ p.of t13)) rfl rfl rfl (zah rfl) <| zaa <| zab <| zad (l := [0, 1, 2, 3, 4]) rfl <| p_v (v := .int .u8 (at_ p.of t13)) rfl rfl rfl (zag rfl) <| p_v (v := .int .i64 (at_ p.of t13)) rfl rfl rfl (x_conv u5 u3 rfl (zao (by omega) (by omega))) <| p_v (v := v_out) rfl rfl rfl (zag r6_3) ?_
  have lb9 := S6.row_le (j := 0) rfl; simp only [maxLen] at lb9
  refine p_v (v := .int .i64 (out.length : Int)) rfl rfl rfl (ze3 u62 rfl (ze8 S6 (j := 0) rfl)) <| p_v (v := .bool (decide ((at_ p.of t13) < (out.length : Int)))) rfl rfl rfl (zdc rfl rfl) <| zaa ?_
  refine zap (p := (at_ p.of t13) < (out.length : Int)) rfl (fun hc10 => ?_) (fun hc10 => ?_)
  ·skip
   obtain ⟨ad11, a11, at11⟩ := zeq (q := at_ p.of t13) (m := 4) S6 (j := 0) rfl rfl (by omega) (by omega)
   obtain ⟨seg12, rp12, cf12⟩ := e_load_own (q := at_ p.of t13) S6 (j := 0) rfl rfl at11 (by omega) (by omega)
   obtain ⟨rfl, ok12⟩ := rp12
   have hf13 : (CFs ad11 (zak (at_ out (at_ p.of t13)))).1 w6 := cf12
   refine daS (hkC 5 hf13 (hkN (w := w6))) 13 rfl mixed ?_
   intro wd14 gd14 hd14
   have S15 := S6.keep gd14
   have hf16 := spUp gd14 hf13
   refine qd0 (i := 0) (v := v_out) rfl (by decide +kernel) rfl rfl (zag r6_3) (zaj rfl) <| qd0 (i := 1) (v := .int .u8 (at_ p.of t13)) rfl (by decide +kernel) rfl rfl (zag rfl) (zaj rfl) <| qd0 (i := 2) (v := v_out) rfl (by decide +kernel) rfl rfl (zag r6_3) (zaj rfl) <| qd0 (i := 3) (v := .int .u8 (at_ p.of t13)) rfl (by decide +kernel) rfl rfl (zag rfl) (zaj rfl) <| qd0 (i := 4) (v := .pointer (some ad11)) rfl (by decide +kernel) rfl rfl (zem u62 ty74 rfl rfl a11 (by omega) (by omega)) (zaj rfl) <| qd1 0 (i := 5) (v := .agg (zak (at_ out (at_ p.of t13))).toArray) rfl rfl (by decide +kernel) rfl rfl (fun wq hq => (zal (seg := (zak (at_ out (at_ p.of t13)))) ty74 rfl (by simp) rfl hq)) (za9 hf16 (of_nil _ _)) <| qd0 (i := 6) (v := .int .i64 t13) rfl (by decide +kernel) rfl rfl (zag rfl) (zaj rfl) <| qd0 (i := 7) (v := .int .u8 t13) rfl (by decide +kernel) rfl rfl (x_conv u3 u5 rfl (zec (by omega) (by omega))) (zaj rfl) <| zby (i := 8) (by decide +kernel) ?_
   intro wd17 gd17
   have S18 := S15.keep gd17
   have hf19 := spUp gd17 hf16
   obtain ⟨v20, w20, r20, g20, T20⟩ := za4 (kd := (Kd.int .u8)) (xs := ([t13] : List Int)) (len := 1) [.int .u8 t13] S18 u39 ty5 rfl rfl rfl rfl rfl (zbi rfl zbq) [.int .u8 t13] (zcg.single (k := (Kd.int .u8)) (h := h6) (x := t13) (cs := [.int .u8 t13]) ⟨rfl, (zec (by omega) (by omega))⟩) rfl
   have S21 := T20
   dsimp only [lAa, lAn, lA0, lAs] at S21
   have hf22 := spUp g20 hf19
   refine d_v (v := v20) rfl rfl rfl (zav (pv := [(0, .int .u8 t13)]) rfl r20) (.inl g20) <| zby (i := 9) (by decide +kernel) ?_
   intro wd23 gd23
   have S24 := S21.keep gd23
   have hf25 := spUp gd23 hf22
   obtain ⟨A26, c26, ev26, lc26, cm26⟩ := S24.row_val (j := 1) rfl
   refine d_c rfl rfl rfl (za6 (args := [.slice A26 ([t13] : List Int).length c26]) ca64 rfl (zd3 ev26 rfl)) (of_calls wd23 ([t13] : List Int) A26 c26 (And.intro lc26 cm26) (zc5 S24 (j := 1) rfl ev26)) ?_
   rintro _ w27 ⟨h27, T27, rfl⟩
   have S28 := S24.keep (Chg.of_below T27.below)
   have hf29 := spUp (Chg.of_below T27.below) hf25
   refine ⟨.inl (Chg.of_below T27.below), ?_⟩
   obtain ⟨ad31, a31, at31⟩ := zeq (q := at_ p.of t13) (m := 4) S28 (j := 0) rfl rfl (by omega) (by omega)
   refine d_m (i := 10) (v := .agg (zak ((at_ out (at_ p.of t13)) ||| (zb6 ([t13] : List Int)))).toArray) (fun _ => True) (fun _ ho => trivial) rfl (by decide +kernel) (by decide +kernel) (by decide +kernel) rfl rfl (fun wq => (za6 (args := [.agg (zak (at_ out (at_ p.of t13))).toArray, .agg (zak (zb6 ([t13] : List Int))).toArray]) ca162 rfl rfl)) (fun wq hq => (or_calls wq (at_ out (at_ p.of t13)) (zb6 ([t13] : List Int))).mono fun e w2 he => by obtain ⟨_, rfl, _, T, rfl⟩ := he; exact ⟨rfl, Chg.of_below T.below⟩) (zaj rfl) <| qd0 (i := 11) (v := .pointer (some ad31)) rfl (by decide +kernel) rfl rfl (zem u62 ty74 rfl rfl a31 (by omega) (by omega)) (zaj rfl) <| zby (i := 12) (by decide +kernel) ?_
   intro wd32 gd32
   have S33 := S28.keep gd32
   have hf34 := spUp gd32 hf29
   obtain ⟨w35, r35, g35, T35⟩ := e_store_own (u := .agg (zak ((at_ out (at_ p.of t13)) ||| (zb6 ([t13] : List Int)))).toArray) (q := at_ p.of t13) ((at_ out (at_ p.of t13)) ||| (zb6 ([t13] : List Int))) (vs := (zak ((at_ out (at_ p.of t13)) ||| (zb6 ([t13] : List Int))))) S33 ty74 rfl (j := 0) rfl rfl ⟨rfl, trivial⟩ at31 (by omega) (by omega)
   have S36 := T35.fx 0 (row 74 kSet v_out (out.set (at_ p.of t13).toNat ((at_ out (at_ p.of t13)) ||| (zb6 ([t13] : List Int))))) rfl
   dsimp only [lAa, lAn, lA0, lAs] at S36
   refine d_s rfl rfl (zbh rfl rfl r35) (.inr (zba (by decide +kernel) trivial)) <| zb3 (by decide +kernel) ?_
   intro wd37 gd37
   have S38 := S36.keep gd37
   refine zat <| zad (l := [0, 1]) rfl <| p_v (v := .int .i64 (t13 + 1)) rfl rfl rfl (zct r6_13 rfl (zao (by omega) (by omega))) <| p_v (v := .int .i64 (t13 + 1)) rfl rfl rfl (zag rfl) <| zaa ?_
   refine ih6 (out.set (at_ p.of t13).toNat ((at_ out (at_ p.of t13)) ||| (zb6 ([t13] : List Int))), t13 + 1) _ _ (by dsimp only; omega) ⟨h6, v_out, le6, S38.sub [0] (by decide) rfl _ rfl, r6_3, r6_12, rfl, (zao (by omega) (by omega)), (by first | exact ⟨by omega, by omega, by rw [hI6.2.2]; exact setsTo_in p hI6.1 (by omega) (by omega) (by omega)⟩ | exact ⟨by omega, by omega, by rw [hI6.2.2]; exact setsTo_out p hI6.1 (by omega) (by omega)⟩)⟩
  refine zau <| zat <| zad (l := [0, 1]) rfl <| p_v (v := .int .i64 (t13 + 1)) rfl rfl rfl (zct r6_13 rfl (zao (by omega) (by omega))) <| p_v (v := .int .i64 (t13 + 1)) rfl rfl rfl (zag rfl) <| zaa ?_
  refine ih6 (out, t13 + 1) _ _ (by dsimp only; omega) ⟨h6, v_out, le6, S6.sub [0] (by decide) rfl _ rfl, r6_3, r6_12, rfl, (zao (by omega) (by omega)), (by first | exact ⟨by omega, by omega, by rw [hI6.2.2]; exact setsTo_in p hI6.1 (by omega) (by omega) (by omega)⟩ | exact ⟨by omega, by omega, by rw [hI6.2.2]; exact setsTo_out p hI6.1 (by omega) (by omega)⟩)⟩
 refine zbn rfl <| zab <| zad (l := [0, 1]) rfl <| p_v (v := v_out) rfl rfl rfl (zag r6_3) <| p_v (v := v_out) rfl rfl rfl (zah rfl) <| zaa <| zar Tryd.func134 (res1 rfl (zax (v := v_out) rfl)) ?_
 have q0 : (zcq p : List BSet) = out := by
  rw [hI6.2.2, show t13 = 256 by omega]; exact setsTo_end p
 refine ⟨_, rfl, h6, v_out, ?_, ?_⟩
 · rw [q0]; exact S6.sub [0] (by decide) rfl _ rfl
 · rfl
theorem clone_calls (w : World) (s : List Int) (A0 : Option Addr) (c0 : Nat) (b0 : s.length ≤ c0 ∧ c0 ≤ maxLen) (l0 : zbe (Kd.int .u8) (hp w) A0 s) (pre0 : s.length ≤ 1000000) :
    Calls Tryd.prog 135 #[.slice A0 s.length c0] w fun e w' => ∃ v, e = .returned v ∧ ∃ (hn : Ghost) (r0 : Value), St w.heap.size w hn w' [row 5 (Kd.int .u8) r0 s] ∧ v = r0 := by
 refine zaq Tryd.func135 rfl Tryd.ntmps135 rfl ?_
 have S0 := St.init w
 have bb0 := b0.1; have bc0 := b0.2; simp only [maxLen] at bc0
 refine zab <| zad (l := [0]) rfl <| p_v (v := .slice none 0 0) rfl rfl rfl (zah rfl) <| zaa <| zab <| zab <| zad (l := [0, 1]) rfl <| p_v (v := .slice A0 s.length c0) rfl rfl rfl (zag rfl) <| p_v (v := .bool A0.isNone) rfl rfl rfl (x_eql_nil u39 rfl rfl) <| zaa ?_
 refine zbr (b := A0.isNone) rfl (fun hc1 => ?_) (fun hc1 => ?_)
 ·skip
  have hnil := leads_isNone l0 hc1
  refine zab <| zad (l := [0]) rfl <| p_v (v := .slice none 0 0) rfl rfl rfl (zah rfl) <| zaa ?_
  have T2 := S0.row_nil 5 (Kd.int .u8)
  have S3 := T2
  dsimp only [lAa, lAn, lA0, lAs] at S3
  refine zar Tryd.func135 (res1 rfl (zax (v := .slice none 0 0) rfl)) ?_
  have q0 : (s : List Int) = ([] : List Int) := by
   exact hnil
  refine ⟨_, rfl, (fun _ => none), (.slice none 0 0), ?_, ?_⟩
  · rw [q0]; exact S3.sub [0] (by decide) rfl _ rfl
  · first | rfl | (simp only [q0]; rfl) | (simp only [q0])
 refine zau <| zab <| zad (l := [0, 1, 2, 3]) rfl ?_
 obtain ⟨v4, w4, r4, g4, T4⟩ := za4 (kd := (Kd.int .u8)) (xs := ([] : List Int)) (len := 0) [] S0 u39 ty5 rfl rfl rfl rfl rfl zbq [] (zcg.nil _ _) rfl
 have S5 := T4
 dsimp only [lAa, lAn, lA0, lAs] at S5
 refine p_v (v := v4) rfl rfl rfl (zav (pv := []) rfl r4) <| p_v (v := .slice A0 s.length c0) rfl rfl rfl (zag rfl) ?_
 obtain ⟨v7, w7, r7, g7, T7⟩ := zcd (kd := (Kd.int .u8)) (A := A0) (c := c0) (ys := s) (len := s.length) 39 S5 u39 ty5 rfl rfl (j := 0) rfl rfl (news_flat (l0.mono (St.le0 S5)) (fun _ _ hr => hr)) (by first|omega|(simp;omega)|assumption) (by first|omega|(simp;omega)|assumption)
 have S8 := T7.fx 0 (row 5 (Kd.int .u8) v7 (([] : List Int) ++ s)) rfl
 dsimp only [lAa, lAn, lA0, lAs] at S8
 refine p_v (v := v7) rfl rfl rfl (zcc rfl rfl r7) <| p_v (v := v7) rfl rfl rfl (zah rfl) <| zaa <| zar Tryd.func135 (res1 rfl (zax (v := v7) rfl)) ?_
 have q0 : (s : List Int) = ([] : List Int) ++ s := by
  rfl
 refine ⟨_, rfl, (fun _ => none), v7, ?_, ?_⟩
 · rw [q0]; exact S8.sub [0] (by decide) rfl _ rfl
 · rfl
theorem least_calls (w : World) (p : PartM) (o0 : okPart p) (k : Int) (i1 : inK .i64 k) (tb : zex 0 tzTab w) :
    Calls Tryd.prog 86 #[.agg (zac p).toArray, .int .i64 k] w fun e w' => ∃ v, e = .returned v ∧ ∃ (hn : Ghost) (r0 : Value), St w.heap.size w hn w' [row 39 (Kd.int .u8).slice r0 (zcr p k)] ∧ v = r0 := by
 refine zaq Tryd.func86 rfl Tryd.ntmps86 rfl ?_
 have S0 := St.init w
 have ploo0 := za7 o0.2; have phio0 := za8 o0.2
 have lo1 := za7 i1; have hi1 := za8 i1
 refine zab <| zad (l := [0, 1]) rfl ?_
 obtain ⟨b1, w1, r1, g1, T1⟩ := zb2 (P := Tryd.prog) S0 32 (v := .agg (zac p).toArray) (zac p) rfl
 have S2 := T1
 dsimp only [lAa, lAn, lA0, lAs] at S2
 refine p_v (v := .pointer (some ⟨b1, 0, none⟩)) rfl rfl rfl (zc8 rfl r1) <| p_v (v := .slice none 0 0) rfl rfl rfl (zah rfl) <| zaa <| zab <| zad (l := [0]) rfl <| p_v (v := .slice none 0 0) rfl rfl rfl (zah rfl) <| zaa <| zab <| zab <| zad (l := [0, 1, 2, 3]) rfl <| p_v (v := .agg (zac p).toArray) rfl rfl rfl (zal (seg := (zac p)) ty32 (zae o0) (by simp) rfl (CF.box (m := 257) (S2.box_at (j := 0) rfl) (by rw [List.drop_zero, List.take_of_length_le (by rw [zae o0]; exact Nat.le_refl _)]))) <| p_c rfl rfl rfl (za6 (args := [.agg (zac p).toArray]) ca134 rfl rfl) (sets_calls w1 p o0) ?_
 rintro v3_0 w3 ⟨h3, _, T3, rfl⟩
 obtain ⟨k3, lk3, ll3, U3⟩ := zci S2 T3
 have S4 := U3
 dsimp only [lAa, lAn, lA0, lAs] at S4
 obtain ⟨h5, le5, T5, rp5⟩ := S4.freeze (i := 1) rfl
 have lf5_0 := (lk3).trans le5
 have S6 := T5.fx 1 (emp) rfl
 dsimp only [lAa, lAn, lA0, lAs] at S6
 obtain ⟨A5, c5, e5, lc5, cm5, ld5⟩ := rp5
 injection e5 with e5 _; subst e5
 have cn5 := cm5; simp only [maxLen] at cn5
 refine p_v (v := .int .i64 ((zcq p).length : Int)) rfl rfl rfl (za0 u62 rfl) <| p_v (v := .int .i64 0) rfl rfl rfl (zag rfl) <| zaa <| zas ?_
 have T7 := S6.row_nil 39 (Kd.int .u8).slice
 obtain ⟨vn7, ev7, T7⟩ : ∃ v, v = (.slice none 0 0 : Value) ∧ St w.heap.size w h5 w3 ([box b1 32 (zac p), emp] ++ [row 39 (Kd.int .u8).slice v []]) := ⟨_, rfl, T7⟩
 have S8 := T7
 dsimp only [lAa, lAn, lA0, lAs] at S8
 refine zbo (S := (List (List Int)) × Int) (fun (q_ : (List (List Int)) × Int) ρ w' => match q_ with | (out, t12) => ∃ (h : Ghost) (v_out : Value), Le h5 h ∧ St w.heap.size w h w' [row 39 (Kd.int .u8).slice v_out out] ∧ ρ 1 = .int .i64 k ∧ ρ 5 = v_out ∧ ρ 10 = .slice A5 (zcq p).length c5 ∧ ρ 11 = .int .i64 ((zcq p).length : Int) ∧ ρ 12 = .int .i64 t12 ∧ inK .i64 t12 ∧ (0 ≤ t12 ∧ t12 ≤ ((zcq p).length : Int) ∧ out = leastTo p k t12)) (fun q_ => match q_ with | (out, t12) => ((zcq p).length - t12).toNat) (([] : List (List Int)), 0) ⟨h5, vn7, Le.refl _, S8.sub [2] (by decide) rfl _ rfl, rfl, (ev7.symm), rfl, rfl, rfl, (zao (by omega) (by omega)), (by exact ⟨by omega, by omega, rfl⟩)⟩ ?_
 rintro ⟨out, t12⟩ ih9 ρ9 w9 ⟨h9, v_out, le9, S9, r9_1, r9_5, r9_10, r9_11, r9_12, f9_0, hI9⟩
 have lf9_0 := za7 f9_0; have hf9_0 := za8 f9_0
 have rl9_0 := S9.row_le (j := 0) rfl; simp only [maxLen] at rl9_0
 have hlen_ : (out.length : Int) ≤ 256 := by rw [hI9.2.2]; exact leastTo_len p k t12
 refine zab <| zad (l := [0]) rfl <| p_v (v := .bool (decide (t12 < ((zcq p).length : Int)))) rfl rfl rfl (zdc r9_12 r9_11) <| zaa <| zab ?_
 refine zap (p := t12 < ((zcq p).length : Int)) rfl (fun hc10 => ?_) (fun hc10 => ?_)
 ·skip
  refine zau <| zab <| zas <| zab <| zad (l := [0, 1, 2, 3]) rfl ?_
  obtain ⟨ad11, seg11, a11, rp11, ce11⟩ := zaz (q := t12) (m := 4) ld5 rfl (by omega) (by omega)
  refine p_v (v := .pointer (some ad11)) rfl rfl rfl (zaw u62 ty74 r9_10 r9_12 a11 (by omega) (by omega)) ?_
  obtain ⟨rfl, ok11⟩ := rp11
  refine p_v (v := .agg (zak (at_ (zcq p) t12)).toArray) rfl rfl rfl (zal (seg := (zak (at_ (zcq p) t12))) ty74 rfl (by simp) rfl (CF.ghost ce11 (le9.trans S9.ghost))) ?_
  obtain ⟨b12, w12, r12, g12, T12⟩ := zb2 (P := Tryd.prog) S9 74 (v := (.agg #[.int .u64 0, .int .u64 0, .int .u64 0, .int .u64 0])) (zak (0 : BSet)) rfl
  have S13 := T12
  dsimp only [lAa, lAn, lA0, lAs] at S13
  refine p_v (v := .pointer (some ⟨b12, 0, none⟩)) rfl rfl rfl (zcj ty74 r12) ?_
  obtain ⟨w14, r14, g14, T14⟩ := zcb (P := Tryd.prog) (off := 0) (v := .agg (zak (at_ (zcq p) t12)).toArray) (vs := (zak (at_ (zcq p) t12))) S13 ty74 rfl rfl (j := 1) rfl (by first | decide | exact Nat.le_of_ble_eq_true rfl) (zd9 _)
  have S15 := T14.fx 1 (box b12 74 (zak (at_ (zcq p) t12))) rfl
  dsimp only [lAa, lAn, lA0, lAs] at S15
  refine p_s rfl rfl (zbh rfl rfl r14) <| zaa <| zab <| zad (l := [0, 1, 2]) rfl <| p_v (v := .agg (zak (at_ (zcq p) t12)).toArray) rfl rfl rfl (zal (seg := (zak (at_ (zcq p) t12))) ty74 rfl (by simp) rfl (CF.box (m := 4) (S15.box_at (j := 1) rfl) rfl)) <| p_c rfl rfl rfl (za6 (args := [.agg (zak (at_ (zcq p) t12)).toArray]) ca130 rfl rfl) (list_calls w14 (at_ (zcq p) t12) (zex.st S15 tb)) ?_
  rintro v16_0 w16 ⟨h16, _, T16, rfl⟩
  obtain ⟨k16, lk16, ll16, U16⟩ := zci S15 T16
  have lc16_0 := (((lf5_0).trans le9)).trans lk16
  have lc16_1 := (((le5).trans le9)).trans lk16
  have lc16_2 := (le9).trans lk16
  have S17 := U16
  dsimp only [lAa, lAn, lA0, lAs] at S17
  refine p_v (v := v16_0) rfl rfl rfl (zah rfl) <| zaa <| zad (l := [0, 1, 2, 3, 4, 5, 6, 7, 8, 9, 10, 11]) rfl <| p_v (v := v_out) rfl rfl rfl (zag r9_5) <| p_v (v := v16_0) rfl rfl rfl (zag rfl) <| p_v (v := .int .i64 k) rfl rfl rfl (zag r9_1) <| p_v (v := .int .i64 (max k 0)) rfl rfl rfl (x_max rfl rfl) <| p_v (v := v16_0) rfl rfl rfl (zag rfl) ?_
  have lb18 := S17.row_le (j := 2) rfl; simp only [maxLen] at lb18
  refine p_v (v := .int .i64 ((zcf (at_ (zcq p) t12)).length : Int)) rfl rfl rfl (ze3 u39 rfl (ze8 S17 (j := 2) rfl)) <| p_v (v := .int .i64 (min (max k 0) ((zcf (at_ (zcq p) t12)).length : Int))) rfl rfl rfl (x_min rfl rfl) ?_
  obtain ⟨v19, r19, T19⟩ := e_slice_hi (q := min (max k 0) ((zcf (at_ (zcq p) t12)).length : Int)) (kk := .i64) S17 u39 ty5 (j := 2) rfl (by omega) (by omega)
  have S20 := T19.fx 2 (row 5 (Kd.int .u8) v19 ((zcf (at_ (zcq p) t12)).take (min (max k 0) ((zcf (at_ (zcq p) t12)).length : Int)).toNat)) rfl
  dsimp only [lAa, lAn, lA0, lAs] at S20
  refine p_v (v := v19) rfl rfl rfl (x_slice (lv := none) (hv := some (.int .i64 (min (max k 0) ((zcf (at_ (zcq p) t12)).length : Int)))) rfl rfl rfl r19) ?_
  obtain ⟨A21, c21, ev21, lc21, cm21⟩ := S20.row_val (j := 2) rfl
  refine p_c rfl rfl rfl (za6 (args := [.slice A21 ((zcf (at_ (zcq p) t12)).take (min (max k 0) ((zcf (at_ (zcq p) t12)).length : Int)).toNat).length c21]) ca135 rfl (zd3 ev21 rfl)) (clone_calls w16 ((zcf (at_ (zcq p) t12)).take (min (max k 0) ((zcf (at_ (zcq p) t12)).length : Int)).toNat) A21 c21 (And.intro lc21 cm21) (zc5 S20 (j := 2) rfl ev21) (by first | omega | exact least_small _ _)) ?_
  rintro v22_0 w22 ⟨h22, _, T22, rfl⟩
  obtain ⟨k22, lk22, ll22, U22⟩ := zci S20 T22
  have lc22_0 := (lc16_0).trans lk22
  have lc22_1 := (lc16_1).trans lk22
  have lc22_2 := (lc16_2).trans lk22
  have lc22_3 := (lk16).trans lk22
  have S23 := U22
  dsimp only [lAa, lAn, lA0, lAs] at S23
  obtain ⟨h25, le25, T25, rp25⟩ := S23.freeze (i := 3) rfl
  have lf25_0 := (lc22_0).trans le25
  have lf25_1 := (lc22_1).trans le25
  have lf25_2 := (lc22_2).trans le25
  have lf25_3 := (lc22_3).trans le25
  have lf25_4 := (lk22).trans le25
  have S26 := T25.fx 3 (emp) rfl
  dsimp only [lAa, lAn, lA0, lAs] at S26
  obtain ⟨A25, c25, e25, lc25, cm25, ld25⟩ := rp25
  injection e25 with e25 _; subst e25
  have cn25 := cm25; simp only [maxLen] at cn25
  obtain ⟨v24, w24, r24, g24, T24⟩ := za4 (kd := (Kd.int .u8).slice) (xs := ([((zcf (at_ (zcq p) t12)).take (min (max k 0) ((zcf (at_ (zcq p) t12)).length : Int)).toNat)] : List (List Int))) (len := 1) [.slice A25 ((zcf (at_ (zcq p) t12)).take (min (max k 0) ((zcf (at_ (zcq p) t12)).length : Int)).toNat).length c25] S26 u124 ty39 rfl rfl rfl rfl rfl (zbi rfl zbq) [.slice A25 ((zcf (at_ (zcq p) t12)).take (min (max k 0) ((zcf (at_ (zcq p) t12)).length : Int)).toNat).length c25] (zcg.single (k := (Kd.int .u8).slice) (h := h25) (x := ((zcf (at_ (zcq p) t12)).take (min (max k 0) ((zcf (at_ (zcq p) t12)).length : Int)).toNat)) (cs := [.slice A25 ((zcf (at_ (zcq p) t12)).take (min (max k 0) ((zcf (at_ (zcq p) t12)).length : Int)).toNat).length c25]) ⟨_, _, rfl, (And.intro lc25 cm25).1, (And.intro lc25 cm25).2, ld25.mono (Le.refl _)⟩) rfl
  have S27 := T24
  dsimp only [lAa, lAn, lA0, lAs] at S27
  refine p_v (v := v24) rfl rfl rfl (zav (pv := [(0, .slice A25 ((zcf (at_ (zcq p) t12)).take (min (max k 0) ((zcf (at_ (zcq p) t12)).length : Int)).toNat).length c25)]) rfl r24) ?_
  obtain ⟨A29, c29, ev29, lc29, cm29⟩ := S27.row_val (j := 4) rfl
  obtain ⟨v30, w30, r30, g30, T30⟩ := zcd (kd := (Kd.int .u8).slice) (A := A29) (c := c29) (ys := ([((zcf (at_ (zcq p) t12)).take (min (max k 0) ((zcf (at_ (zcq p) t12)).length : Int)).toNat)] : List (List Int))) (len := ([((zcf (at_ (zcq p) t12)).take (min (max k 0) ((zcf (at_ (zcq p) t12)).length : Int)).toNat)] : List (List Int)).length) 124 S27 u124 ty39 rfl rfl (j := 0) rfl rfl (zcl S27 (j := 4) rfl ev29) (by first|omega|(simp;omega)|assumption) (by first|omega|(simp;omega)|assumption)
  have S31 := T30.fx 0 (row 39 (Kd.int .u8).slice v30 (out ++ ([((zcf (at_ (zcq p) t12)).take (min (max k 0) ((zcf (at_ (zcq p) t12)).length : Int)).toNat)] : List (List Int)))) rfl
  dsimp only [lAa, lAn, lA0, lAs] at S31
  refine p_v (v := v30) rfl rfl rfl (zcc rfl ev29 r30) <| p_v (v := v30) rfl rfl rfl (zah rfl) <| zaa <| zat <| zad (l := [0, 1]) rfl <| p_v (v := .int .i64 (t12 + 1)) rfl rfl rfl (zct r9_12 rfl (zao (by omega) (by omega))) <| p_v (v := .int .i64 (t12 + 1)) rfl rfl rfl (zag rfl) <| zaa ?_
  refine ih9 (out ++ ([((zcf (at_ (zcq p) t12)).take (min (max k 0) ((zcf (at_ (zcq p) t12)).length : Int)).toNat)] : List (List Int)), t12 + 1) _ _ (by dsimp only; omega) ⟨h25, v30, lf25_2, S31.sub [0] (by decide) rfl _ rfl, r9_1, rfl, r9_10, r9_11, rfl, (zao (by omega) (by omega)), (by exact ⟨by omega, by omega, by rw [hI9.2.2]; exact leastTo_step p k hI9.1 (by omega)⟩)⟩
 refine zbn rfl <| zab <| zad (l := [0, 1]) rfl <| p_v (v := v_out) rfl rfl rfl (zag r9_5) <| p_v (v := v_out) rfl rfl rfl (zah rfl) <| zaa <| zar Tryd.func86 (res1 rfl (zax (v := v_out) rfl)) ?_
 have q0 : (zcr p k : List (List Int)) = out := by
  rw [hI9.2.2]; exact leastTo_end p k (by omega)
 refine ⟨_, rfl, h9, v_out, ?_, ?_⟩
 · rw [q0]; exact S9.sub [0] (by decide) rfl _ rfl
 · rfl
end Go.Proofs.YtfoemogojbnfhaaDoor
namespace Go.Proofs.YtfoemogojbnfhaaDoor
open Go Go.RowKit Gx
set_option maxHeartbeats 1000000
set_option linter.unusedVariables false
set_option linter.unusedSimpArgs false
set_option maxRecDepth 8000
attribute [local irreducible] zcf count first has zb6 wbits Lib.ctz zd0 zc2 zcq zcr zc7 zc1 splitP
theorem cut_calls (w : World) (x : BSet) (p1 : BSet) (a1 : Addr) (pc1 : ∀ j v, (zak p1)[j]? = some v → ze1 (hp w) (a1.add j) = some v) :
    Calls Tryd.prog 136 #[.agg (zak x).toArray, .pointer (some a1)] w fun e w' => ∃ v, e = .returned v ∧ ∃ (hn : Ghost), St w.heap.size w hn w' [] ∧ v = .bool (cuts x p1) := by
 refine zaq Tryd.func136 rfl Tryd.ntmps136 rfl ?_
 have S0 := St.init w
 refine zab <| zad (l := [0, 1]) rfl ?_
 obtain ⟨b1, w1, r1, g1, T1⟩ := zb2 (P := Tryd.prog) S0 74 (v := .agg (zak x).toArray) (zak x) rfl
 have S2 := T1
 dsimp only [lAa, lAn, lA0, lAs] at S2
 refine p_v (v := .pointer (some ⟨b1, 0, none⟩)) rfl rfl rfl (zc8 rfl r1) <| p_v (v := .bool false) rfl rfl rfl (zah rfl) <| zaa <| zab <| zad (l := [0, 1, 2, 3, 4]) rfl <| p_v (v := .agg (zak x).toArray) rfl rfl rfl (zal (seg := (zak x)) ty74 rfl (by simp) rfl (CF.box (m := 4) (S2.box_at (j := 0) rfl) rfl)) <| p_v (v := .agg (zak p1).toArray) rfl rfl rfl (zal (seg := (zak p1)) ty74 rfl (by simp) rfl (CF.ghost pc1 (St.le0 S2))) <| p_c rfl rfl rfl (za6 (args := [.agg (zak x).toArray, .agg (zak p1).toArray]) ca137 rfl rfl) (and_calls w1 x p1) ?_
 rintro _ w3 ⟨h3, T3, rfl⟩
 have S4 := S2.keep (Chg.of_below T3.below)
 obtain ⟨b5, w5, r5, g5, T5⟩ := zb2 (P := Tryd.prog) S4 74 (v := (.agg #[.int .u64 0, .int .u64 0, .int .u64 0, .int .u64 0])) (zak (0 : BSet)) rfl
 have S6 := T5
 dsimp only [lAa, lAn, lA0, lAs] at S6
 refine p_v (v := .pointer (some ⟨b5, 0, none⟩)) rfl rfl rfl (zcj ty74 r5) ?_
 obtain ⟨w7, r7, g7, T7⟩ := zcb (P := Tryd.prog) (off := 0) (v := .agg (zak (x &&& p1)).toArray) (vs := (zak (x &&& p1))) S6 ty74 rfl rfl (j := 1) rfl (by first | decide | exact Nat.le_of_ble_eq_true rfl) (zd9 _)
 have S8 := T7.fx 1 (box b5 74 (zak (x &&& p1))) rfl
 dsimp only [lAa, lAn, lA0, lAs] at S8
 refine p_s rfl rfl (zbh rfl rfl r7) <| zaa <| zab <| zad (l := [0, 1, 2, 3, 4, 5, 6, 7, 8]) rfl <| p_v (v := .agg (zak (x &&& p1)).toArray) rfl rfl rfl (zal (seg := (zak (x &&& p1))) ty74 rfl (by simp) rfl (CF.box (m := 4) (S8.box_at (j := 1) rfl) rfl)) <| p_v (v := .agg (zak x).toArray) rfl rfl rfl (zal (seg := (zak x)) ty74 rfl (by simp) rfl (CF.box (m := 4) (S8.box_at (j := 0) rfl) rfl)) <| p_v (v := .bool (decide ((x &&& p1) ≠ x))) rfl rfl rfl (x_neq_set u74 u56 ty56 q74 rfl rfl) <| p_v (v := .bool (decide ((x &&& p1) ≠ x))) rfl rfl rfl (zag rfl) ?_
 by_cases hc9 : (x &&& p1) ≠ x
 ·skip
  refine p_v (v := .agg (zak (x &&& p1)).toArray) rfl (wo 3 11 rfl rfl (bT hc9) rfl) rfl (zal (seg := (zak (x &&& p1))) ty74 rfl (by simp) rfl (CF.box (m := 4) (S8.box_at (j := 1) rfl) rfl)) <| p_v (v := .agg (zak (0 : BSet)).toArray) rfl (wo 3 11 rfl rfl (bT hc9) rfl) rfl (zdj (pv := []) rfl (run_build_array u74 ty56 ty74 (cs := (zak (0 : BSet))) (by rfl))) <| p_v (v := .bool (decide ((x &&& p1) ≠ (0 : BSet)))) rfl (wo 3 11 rfl rfl (bT hc9) rfl) rfl (x_neq_set u74 u56 ty56 q74 rfl rfl) <| p_v (v := .bool (decide ((x &&& p1) ≠ (0 : BSet)))) rfl rfl rfl (za5 (bT hc9) rfl) <| p_v (v := .bool (decide ((x &&& p1) ≠ (0 : BSet)))) rfl rfl rfl (zah rfl) <| zaa <| zar Tryd.func136 (res1 rfl (zax (v := .bool (decide ((x &&& p1) ≠ (0 : BSet)))) rfl)) ?_
  have q0 : (cuts x p1 : Bool) = decide ((x &&& p1) ≠ (0 : BSet)) := by
   unfold cuts; simp [*]
  refine ⟨_, rfl, (fun _ => none), ?_, ?_⟩
  · exact S8.sub [] (by decide) rfl _ rfl
  · first | rfl | (simp only [q0]; rfl) | (simp only [q0])
 refine za2 rfl (wo 3 11 rfl rfl (bF hc9) rfl) rfl <| za2 rfl (wo 3 11 rfl rfl (bF hc9) rfl) rfl <| za2 rfl (wo 3 11 rfl rfl (bF hc9) rfl) rfl <| p_v (v := .bool false) rfl rfl rfl (zbk (bF hc9) rfl) <| p_v (v := .bool false) rfl rfl rfl (zah rfl) <| zaa <| zar Tryd.func136 (res1 rfl (zax (v := .bool false) rfl)) ?_
 have q0 : (cuts x p1 : Bool) = false := by
  unfold cuts; simp [*]
 refine ⟨_, rfl, (fun _ => none), ?_, ?_⟩
 · exact S8.sub [] (by decide) rfl _ rfl
 · (simp only [q0])
theorem index_calls (w : World) (s : List BSet) (A0 : Option Addr) (c0 : Nat) (b0 : s.length ≤ c0 ∧ c0 ≤ maxLen) (l0 : zbe kSet (hp w) A0 s) (f : BSet) (a1 : Addr) (pc1 : ∀ j v, (zak f)[j]? = some v → ze1 (hp w) (a1.add j) = some v) :
    Calls Tryd.prog 160 #[.slice A0 s.length c0, .func (.func 136) #[] #[.pointer (some a1)]] w fun e w' => ∃ v, e = .returned v ∧ ∃ (hn : Ghost), St w.heap.size w hn w' [] ∧ v = .int .i64 (place (fun x => cuts x f) s) ∧ inK .i64 (place (fun x => cuts x f) s) := by
 refine zaq Tryd.func160 rfl Tryd.ntmps160 rfl ?_
 have S0 := St.init w
 have bb0 := b0.1; have bc0 := b0.2; simp only [maxLen] at bc0
 refine zab <| zad (l := [0]) rfl <| p_v (v := .int .i64 0) rfl rfl rfl (zah rfl) <| zaa <| zab <| zab <| zad (l := [0, 1, 2]) rfl <| p_v (v := .slice A0 s.length c0) rfl rfl rfl (zag rfl) <| p_v (v := .int .i64 (s.length : Int)) rfl rfl rfl (za0 u62 rfl) <| p_v (v := .int .i64 0) rfl rfl rfl (zag rfl) <| zaa <| zas ?_
 refine zbo (S := Int) (fun (q_ : Int) ρ w' => match q_ with | t8 => ∃ (h : Ghost), Le (fun _ => none) h ∧ St w.heap.size w h w' [] ∧ ρ 0 = .slice A0 s.length c0 ∧ ρ 1 = .func (.func 136) #[] #[.pointer (some a1)] ∧ ρ 7 = .int .i64 (s.length : Int) ∧ ρ 8 = .int .i64 t8 ∧ inK .i64 t8 ∧ (0 ≤ t8 ∧ t8 ≤ (s.length : Int) ∧ place (fun x => cuts x f) s = ze7 (fun x => cuts x f) (s.drop t8.toNat) t8)) (fun q_ => match q_ with | t8 => (s.length - t8).toNat) (0) ⟨(fun _ => none), Le.refl _, S0.sub [] (by decide) rfl _ rfl, rfl, rfl, rfl, rfl, (zao (by omega) (by omega)), (by exact ⟨by omega, by omega, rfl⟩)⟩ ?_
 rintro t8 ih1 ρ1 w1 ⟨h1, le1, S1, r1_0, r1_1, r1_7, r1_8, f1_0, hI1⟩
 have lf1_0 := za7 f1_0; have hf1_0 := za8 f1_0
 refine zab <| zad (l := [0]) rfl <| p_v (v := .bool (decide (t8 < (s.length : Int)))) rfl rfl rfl (zdc r1_8 r1_7) <| zaa <| zab ?_
 refine zap (p := t8 < (s.length : Int)) rfl (fun hc2 => ?_) (fun hc2 => ?_)
 ·skip
  refine zau <| zab <| zas <| zab <| zad (l := [0, 1]) rfl <| p_v (v := .int .i64 t8) rfl rfl rfl (zag r1_8) <| p_v (v := .int .i64 t8) rfl rfl rfl (zah rfl) <| zaa <| zab <| zad (l := [0, 1, 2, 3, 4, 5]) rfl <| p_v (v := .func (.func 136) #[] #[.pointer (some a1)]) rfl rfl rfl (zag r1_1) <| p_v (v := .slice A0 s.length c0) rfl rfl rfl (zag r1_0) ?_
  refine p_v (v := .int .i64 t8) rfl rfl rfl (zag rfl) ?_
  obtain ⟨ad3, seg3, a3, rp3, ce3⟩ := zaz (q := t8) (m := 4) l0 rfl (by omega) (by omega)
  refine p_v (v := .pointer (some ad3)) rfl rfl rfl (zaw u62 ty74 rfl rfl a3 (by omega) (by omega)) ?_
  obtain ⟨rfl, ok3⟩ := rp3
  refine p_v (v := .agg (zak (at_ s t8)).toArray) rfl rfl rfl (zal (seg := (zak (at_ s t8))) ty74 rfl (by simp) rfl (CF.ghost ce3 (St.le0 S1))) <| p_c rfl rfl rfl (za6 (args := [.agg (zak (at_ s t8)).toArray, .pointer (some a1)]) ca136 rfl rfl) (cut_calls w1 (at_ s t8) f a1 (fun j v h => gcell_mono (St.le0 S1) (pc1 j v h))) ?_
  rintro _ w4 ⟨h4, T4, rfl⟩
  have S5 := S1.keep (Chg.of_below T4.below)
  refine zaa ?_
  refine zbr (b := cuts (at_ s t8) f) rfl (fun hc6 => ?_) (fun hc6 => ?_)
  ·skip
   refine zab <| zad (l := [0, 1]) rfl <| p_v (v := .int .i64 t8) rfl rfl rfl (zag rfl) <| p_v (v := .int .i64 t8) rfl rfl rfl (zah rfl) <| zaa <| zar Tryd.func160 (res1 rfl (zax (v := .int .i64 t8) rfl)) ?_
   have q0 : (place (fun x => cuts x f) s : Int) = t8 := by
    rw [hI1.2.2, placeFrom_drop _ _ hI1.1 (by omega), if_pos (by assumption)]
   refine ⟨_, rfl, h1, ?_, ?_, ?_⟩
   · exact S5.sub [] (by decide) rfl _ rfl
   · first | rfl | (simp only [q0]; rfl) | (simp only [q0])
   · rw [q0]; exact f1_0
  refine zau <| zat <| zad (l := [0, 1]) rfl <| p_v (v := .int .i64 (t8 + 1)) rfl rfl rfl (zct r1_8 rfl (zao (by omega) (by omega))) <| p_v (v := .int .i64 (t8 + 1)) rfl rfl rfl (zag rfl) <| zaa ?_
  refine ih1 (t8 + 1) _ _ (by dsimp only; omega) ⟨h1, le1, S5.sub [] (by decide) rfl _ rfl, r1_0, r1_1, r1_7, rfl, (zao (by omega) (by omega)), (by exact ⟨by omega, by omega, by rw [hI1.2.2, placeFrom_drop _ _ hI1.1 (by omega), if_neg (by simp [*])]⟩)⟩
 refine zbn rfl <| zab <| zad (l := [0]) rfl <| p_v (v := .int .i64 (-1)) rfl rfl rfl (zah rfl) <| zaa <| zar Tryd.func160 (res1 rfl (zax (v := .int .i64 (-1)) rfl)) ?_
 have q0 : (place (fun x => cuts x f) s : Int) = (-1) := by
  rw [hI1.2.2, List.drop_of_length_le (by omega)]; rfl
 refine ⟨_, rfl, h1, ?_, ?_, ?_⟩
 · exact S1.sub [] (by decide) rfl _ rfl
 · first | rfl | (simp only [q0]; rfl) | (simp only [q0])
 · rw [q0]; exact (zao (by omega) (by omega))
theorem contains_calls (w : World) (s : List BSet) (A0 : Option Addr) (c0 : Nat) (b0 : s.length ≤ c0 ∧ c0 ≤ maxLen) (l0 : zbe kSet (hp w) A0 s) (f : BSet) (a1 : Addr) (pc1 : ∀ j v, (zak f)[j]? = some v → ze1 (hp w) (a1.add j) = some v) :
    Calls Tryd.prog 131 #[.slice A0 s.length c0, .func (.func 136) #[] #[.pointer (some a1)]] w fun e w' => ∃ v, e = .returned v ∧ ∃ (hn : Ghost), St w.heap.size w hn w' [] ∧ v = .bool (s.any fun x => cuts x f) := by
 refine zaq Tryd.func131 rfl Tryd.ntmps131 rfl ?_
 have S0 := St.init w
 have bb0 := b0.1; have bc0 := b0.2; simp only [maxLen] at bc0
 refine zab <| zad (l := [0]) rfl <| p_v (v := .bool false) rfl rfl rfl (zah rfl) <| zaa <| zab <| zad (l := [0, 1, 2, 3, 4]) rfl <| p_v (v := .slice A0 s.length c0) rfl rfl rfl (zag rfl) <| p_v (v := .func (.func 136) #[] #[.pointer (some a1)]) rfl rfl rfl (zag rfl) <| p_c rfl rfl rfl (za6 (args := [.slice A0 s.length c0, .func (.func 136) #[] #[.pointer (some a1)]]) ca160 rfl rfl) (index_calls w s A0 c0 b0 (l0.mono (St.le0 S0)) f a1 (fun j v h => gcell_mono (St.le0 S0) (pc1 j v h))) ?_
 rintro _ w1 ⟨h1, T1, rfl, in1_0⟩
 have S2 := S0.keep (Chg.of_below T1.below)
 have lo_in1_0 := za7 in1_0; have hi_in1_0 := za8 in1_0
 refine p_v (v := .bool (decide (0 ≤ (place (fun x => cuts x f) s)))) rfl rfl rfl (x_geq rfl rfl) <| p_v (v := .bool (decide (0 ≤ (place (fun x => cuts x f) s)))) rfl rfl rfl (zah rfl) <| zaa <| zar Tryd.func131 (res1 rfl (zax (v := .bool (decide (0 ≤ (place (fun x => cuts x f) s)))) rfl)) ?_
 have q0 : (s.any fun x => cuts x f : Bool) = decide (0 ≤ (place (fun x => cuts x f) s)) := by
  exact (place_any _ _).symm
 refine ⟨_, rfl, (fun _ => none), ?_, ?_⟩
 · exact S2.sub [] (by decide) rfl _ rfl
 · (simp only [q0])
theorem splits_calls (w : World) (p : PartM) (o0 : okPart p) (s : BSet) :
    Calls Tryd.prog 89 #[.agg (zac p).toArray, .agg (zak s).toArray] w fun e w' => ∃ v, e = .returned v ∧ ∃ (hn : Ghost), St w.heap.size w hn w' [] ∧ v = .bool (zc1 p s) := by
 refine zaq Tryd.func89 rfl Tryd.ntmps89 rfl ?_
 have S0 := St.init w
 have ploo0 := za7 o0.2; have phio0 := za8 o0.2
 refine zab <| zad (l := [0, 1, 2]) rfl ?_
 obtain ⟨b1, w1, r1, g1, T1⟩ := zb2 (P := Tryd.prog) S0 32 (v := .agg (zac p).toArray) (zac p) rfl
 have S2 := T1
 dsimp only [lAa, lAn, lA0, lAs] at S2
 refine p_v (v := .pointer (some ⟨b1, 0, none⟩)) rfl rfl rfl (zc8 rfl r1) ?_
 obtain ⟨b3, w3, r3, g3, T3⟩ := zb2 (P := Tryd.prog) S2 74 (v := .agg (zak s).toArray) (zak s) rfl
 have S4 := T3
 dsimp only [lAa, lAn, lA0, lAs] at S4
 refine p_v (v := .pointer (some ⟨b3, 0, none⟩)) rfl rfl rfl (zc8 rfl r3) <| p_v (v := .bool false) rfl rfl rfl (zah rfl) <| zaa <| zab <| zad (l := [0, 1, 2, 3, 4]) rfl <| p_v (v := .agg (zac p).toArray) rfl rfl rfl (zal (seg := (zac p)) ty32 (zae o0) (by simp) rfl (CF.box (m := 257) (S4.box_at (j := 0) rfl) (by rw [List.drop_zero, List.take_of_length_le (by rw [zae o0]; exact Nat.le_refl _)]))) <| p_c rfl rfl rfl (za6 (args := [.agg (zac p).toArray]) ca134 rfl rfl) (sets_calls w3 p o0) ?_
 rintro v5_0 w5 ⟨h5, _, T5, rfl⟩
 obtain ⟨k5, lk5, ll5, U5⟩ := zci S4 T5
 have S6 := U5
 dsimp only [lAa, lAn, lA0, lAs] at S6
 obtain ⟨h7, le7, T7, rp7⟩ := S6.freeze (i := 2) rfl
 have lf7_0 := (lk5).trans le7
 have S8 := T7.fx 2 (emp) rfl
 dsimp only [lAa, lAn, lA0, lAs] at S8
 obtain ⟨A7, c7, e7, lc7, cm7, ld7⟩ := rp7
 injection e7 with e7 _; subst e7
 have cn7 := cm7; simp only [maxLen] at cn7
 refine p_v (v := .func (.func 136) #[] #[.pointer (some ⟨b3, 0, none⟩)]) rfl rfl rfl (zet (fv := []) (cv := [.pointer (some ⟨b3, 0, none⟩)]) rfl rfl) <| p_c rfl rfl rfl (za6 (args := [.slice A7 (zcq p).length c7, .func (.func 136) #[] #[.pointer (some ⟨b3, 0, none⟩)]]) ca131 rfl rfl) (contains_calls w5 (zcq p) A7 c7 (And.intro lc7 cm7) (ld7.mono ((Le.refl _).trans S8.ghost)) s ⟨b3, 0, none⟩ (zc0 (S8.box_at (j := 1) rfl))) ?_
 rintro _ w9 ⟨h9, T9, rfl⟩
 have S10 := S8.keep (Chg.of_below T9.below)
 refine p_v (v := .bool ((zcq p).any fun x => cuts x s)) rfl rfl rfl (zah rfl) <| zaa <| zar Tryd.func89 (res1 rfl (zax (v := .bool ((zcq p).any fun x => cuts x s)) rfl)) ?_
 have q0 : (zc1 p s : Bool) = (zcq p).any fun x => cuts x s := by
  unfold zc1; rfl
 refine ⟨_, rfl, h7, ?_, ?_⟩
 · exact S10.sub [] (by decide) rfl _ rfl
 · (simp only [q0])
end Go.Proofs.YtfoemogojbnfhaaDoor
namespace Gx
open Go Go.RowKit
set_option linter.unusedSimpArgs false
set_option linter.unusedSectionVars false
set_option linter.unusedVariables false
deriving instance DecidableEq for Mach
def allTo (p : Nat → Bool) (t : Int) : Bool := (List.range t.toNat).all p
theorem allTo_0 (p : Nat → Bool) : allTo p 0 = true := rfl
theorem allTo_step {p : Nat → Bool} {t : Int} (h0 : 0 ≤ t) (h : allTo p t = true) (hp : p t.toNat = true) : allTo p (t + 1) = true := by
  unfold allTo at h ⊢
  rw [show (t + 1).toNat = t.toNat + 1 by omega, List.range_succ, List.all_append, h]; simp [hp]
theorem allTo_no {p : Nat → Bool} {t n : Int} (h0 : 0 ≤ t) (h1 : t < n) (hp : p t.toNat = false) : allTo p n = false := by
  unfold allTo
  rw [List.all_eq_false]
  exact ⟨t.toNat, List.mem_range.2 (by omega), by simp [hp]⟩
theorem allTo_iff {p : Nat → Bool} {n : Int} : allTo p n = true ↔ ∀ i : Nat, ((i : Nat) : Int) < n → p i = true := by
  unfold allTo
  rw [List.all_eq_true]
  exact ⟨fun h i hi => h i (List.mem_range.2 (by omega)), fun h i hi => h i (by have := List.mem_range.1 hi; omega)⟩
theorem drop_cons {α : Type} [Inhabited α] (l : List α) {t : Int} (h0 : 0 ≤ t) (h1 : t < (l.length : Int)) : l.drop t.toNat = at_ l t :: l.drop (t + 1).toNat := by
  rw [show (t + 1).toNat = t.toNat + 1 by omega]
  have h2 := zdm h0 h1
  obtain ⟨hl, e⟩ := List.getElem?_eq_some_iff.1 h2
  rw [List.drop_eq_getElem_cons hl, e]
theorem drop_end {α : Type} (l : List α) {t : Int} (h1 : (l.length : Int) ≤ t) : l.drop t.toNat = [] := List.drop_of_length_le (by omega)
def zds (b last : Int) : List Int → Bool
  | [] => true
  | n :: r => decide (last < n) && decide (n < b) && zds b n r
theorem rises_nil (b last : Int) : zds b last [] = true := rfl
theorem zfd {b last : Int} (l : List Int) {t : Int} (h0 : 0 ≤ t) (h1 : t < (l.length : Int)) : zds b last (l.drop t.toNat) = (decide (last < at_ l t) && decide (at_ l t < b) && zds b (at_ l t) (l.drop (t + 1).toNat)) := by
  rw [drop_cons l h0 h1]; rfl
theorem rises_lt {b : Int} : ∀ {last : Int} {l : List Int}, zds b last l = true → ∀ x ∈ l, last < x ∧ x < b
  | last, [], h, x, hx => by cases hx
  | last, n :: r, h, x, hx => by
    unfold zds at h
    simp only [Bool.and_eq_true, decide_eq_true_eq] at h
    rcases List.mem_cons.1 hx with e | e
    · subst e; exact h.1
    · have := rises_lt h.2 x e; omega
def prevOf (l : List Int) (i : Int) : Int := if i ≤ 0 then -1 else at_ l (i - 1)
def rowOk (m : Mach) (i : Nat) : Bool := decide ((at_ m.spots ((i : Nat) : Int)).tag ≤ 2) && zds m.spots.length (-1) (at_ m.follow ((i : Nat) : Int))
def zbs (m : Mach) : Bool := decide ((m.spots.length : Int) ≤ 250) && (decide ((m.follow.length : Int) = m.spots.length) && (decide ((m.last.length : Int) = m.spots.length) && (zds m.spots.length (-1) m.first && allTo (rowOk m) m.spots.length)))
theorem right_no1 (m : Mach) (h : (250 : Int) < (m.spots.length : Int)) : zbs m = false := by unfold zbs; rw [decide_eq_false (by omega)]; rfl
theorem right_no2 (m : Mach) (h : (m.follow.length : Int) ≠ (m.spots.length : Int)) : zbs m = false := by unfold zbs; rw [decide_eq_false h]; simp
theorem right_no3 (m : Mach) (h : (m.last.length : Int) ≠ (m.spots.length : Int)) : zbs m = false := by unfold zbs; rw [decide_eq_false h]; simp
theorem right_no4 (m : Mach) (h : zds m.spots.length (-1) m.first = false) : zbs m = false := by unfold zbs; rw [h]; simp
theorem right_no5 (m : Mach) {i : Int} (h0 : 0 ≤ i) (h1 : i < (m.spots.length : Int)) (h : 2 < (at_ m.spots i).tag) : zbs m = false := by
  unfold zbs; rw [allTo_no h0 h1 (by unfold rowOk; rw [Int.toNat_of_nonneg h0, decide_eq_false (by omega)]; rfl)]; simp
theorem right_no6 (m : Mach) {i : Int} (h0 : 0 ≤ i) (h1 : i < (m.spots.length : Int)) (h : zds m.spots.length (-1) (at_ m.follow i) = false) : zbs m = false := by
  unfold zbs; rw [allTo_no h0 h1 (by unfold rowOk; rw [Int.toNat_of_nonneg h0, h]; simp)]; simp
theorem right_ok (m : Mach) {t : Int} (ht : (m.spots.length : Int) = t) (h1 : ¬ (250 : Int) < (m.spots.length : Int)) (h2 : ¬ (m.follow.length : Int) ≠ (m.spots.length : Int)) (h3 : ¬ (m.last.length : Int) ≠ (m.spots.length : Int)) (h4 : zds m.spots.length (-1) m.first = true) (h5 : allTo (rowOk m) t = true) : zbs m = true := by
  unfold zbs
  rw [decide_eq_true (by omega), decide_eq_true (by omega), decide_eq_true (by omega), h4, ht, h5]; rfl
structure Right (m : Mach) : Prop where
  small : (m.spots.length : Int) ≤ 250
  follow : (m.follow.length : Int) = m.spots.length
  last : (m.last.length : Int) = m.spots.length
  first : zds m.spots.length (-1) m.first = true
  tag : ∀ i : Int, 0 ≤ i → i < (m.spots.length : Int) → (at_ m.spots i).tag ≤ 2
  row : ∀ i : Int, 0 ≤ i → i < (m.spots.length : Int) → zds m.spots.length (-1) (at_ m.follow i) = true
theorem right_iff {m : Mach} : zbs m = true ↔ Right m := by
  unfold zbs
  simp only [Bool.and_eq_true, decide_eq_true_eq]
  constructor
  · rintro ⟨h1, h2, h3, h4, h5⟩
    have h6 := allTo_iff.1 h5
    have h7 : ∀ i : Int, 0 ≤ i → i < (m.spots.length : Int) → rowOk m i.toNat = true := fun i h0 h1 => h6 i.toNat (by omega)
    refine ⟨h1, h2, h3, h4, fun i h0 hi => ?_, fun i h0 hi => ?_⟩ <;> have h8 := h7 i h0 hi <;> unfold rowOk at h8 <;> rw [Int.toNat_of_nonneg h0] at h8 <;> simp only [Bool.and_eq_true, decide_eq_true_eq] at h8
    · exact h8.1
    · exact h8.2
  · intro h
    refine ⟨h.small, h.follow, h.last, h.first, allTo_iff.2 fun i hi => ?_⟩
    unfold rowOk
    rw [decide_eq_true (h.tag i (by omega) hi), h.row i (by omega) hi]; rfl
theorem Right.firsts {m : Mach} (h : Right m) : ∀ x ∈ m.first, 0 ≤ x ∧ x < (m.spots.length : Int) := fun x hx => by have := rises_lt h.first x hx; omega
theorem Right.rows {m : Mach} (h : Right m) {i : Int} (h0 : 0 ≤ i) (h1 : i < (m.spots.length : Int)) : ∀ x ∈ at_ m.follow i, 0 ≤ x ∧ x < (m.spots.length : Int) := fun x hx => by have := rises_lt (h.row i h0 h1) x hx; omega
def tab (n : Nat) (p : Nat → Bool) : List Bool := (List.range n).map p
theorem tab_at {n : Nat} {p : Nat → Bool} {i : Int} (h0 : 0 ≤ i) (h1 : i < (n : Int)) : at_ (tab n p) i = p i.toNat := zef p n h0 h1
def markP (n : Nat) (l : List Int) : List Bool := tab n fun i => decide (((i : Nat) : Int) ∈ l)
def intoP (m : Mach) (next : List Bool) (c : Int) : List Bool := tab m.spots.length fun i => at_ next ((i : Nat) : Int) && has (at_ m.spots ((i : Nat) : Int)).set c
def behindP (m : Mach) (at' : List Bool) : List Bool := tab m.spots.length fun k => anyTo (fun i => at_ at' ((i : Nat) : Int) && decide (((k : Nat) : Int) ∈ at_ m.follow ((i : Nat) : Int))) m.spots.length
def runTo (m : Mach) (w : ByteArray) : Nat → List Bool
  | 0 => intoP m (markP m.spots.length m.first) (byt w 0)
  | k + 1 => intoP m (behindP m (runTo m w k)) (byt w ((k + 1 : Nat) : Int))
def endsIn (m : Mach) (at' : List Bool) : Bool := anyTo (fun i => at_ at' ((i : Nat) : Int) && at_ m.last ((i : Nat) : Int)) m.spots.length
def runM (m : Mach) (w : ByteArray) : Bool := zbs m && (if w.size = 0 then m.empty else endsIn m (runTo m w (w.size - 1)))
def zep (p : Nat → Bool) (t : Int) : List Int := ints ((List.range t.toNat).filter p)
theorem posTo_0 (p : Nat → Bool) : zep p 0 = [] := rfl
theorem posTo_len (p : Nat → Bool) {t : Int} (h0 : 0 ≤ t) : ((zep p t).length : Int) ≤ t := by
  have := List.length_filter_le p (List.range t.toNat)
  simp at this
  simp [zep, ints]; omega
theorem posTo_step (p : Nat → Bool) {t : Int} (h0 : 0 ≤ t) : zep p (t + 1) = zep p t ++ (if p t.toNat then [t] else []) := by
  unfold zep
  rw [show (t + 1).toNat = t.toNat + 1 by omega, List.range_succ, List.filter_append]
  simp only [ints, List.map_append]
  congr 1
  by_cases h : p t.toNat = true
  · simp [h]; omega
  · simp [h]
theorem ze6 (p : Nat → Bool) {t : Int} (h0 : 0 ≤ t) (h : p t.toNat = true) : zep p t ++ [t] = zep p (t + 1) := by rw [posTo_step p h0, h]; rfl
theorem zdu (p : Nat → Bool) {t : Int} (h0 : 0 ≤ t) (h : p t.toNat = false) : zep p t = zep p (t + 1) := by rw [posTo_step p h0, h]; simp
theorem mem_posTo {p : Nat → Bool} {t x : Int} : x ∈ zep p t ↔ 0 ≤ x ∧ x < t ∧ p x.toNat = true := by
  unfold zep ints
  rw [List.mem_map]
  constructor
  · rintro ⟨a, ha, rfl⟩
    rw [List.mem_filter, List.mem_range] at ha
    exact ⟨by omega, by omega, by simpa using ha.2⟩
  · rintro ⟨h0, h1, h2⟩
    exact ⟨x.toNat, List.mem_filter.2 ⟨List.mem_range.2 (by omega), h2⟩, by omega⟩
theorem posTo_ext {p q : Nat → Bool} {t : Int} (h : ∀ i : Nat, ((i : Nat) : Int) < t → p i = q i) : zep p t = zep q t := by
  unfold zep
  congr 1
  exact List.filter_congr fun i hi => h i (by have := List.mem_range.1 hi; omega)
def mayP (m : Mach) (at' : List Int) (first : Bool) (n : Int) : Bool := (first && decide (n ∈ m.first)) || at'.any fun i => decide (n ∈ at_ m.follow i)
def zdt (m : Mach) (at' : List Int) (first : Bool) (c : Int) (n : Nat) : Bool := mayP m at' first ((n : Nat) : Int) && has (at_ m.spots ((n : Nat) : Int)).set c
def stepP (m : Mach) (at' : List Int) (first : Bool) (c : Int) : List Int := zep (zdt m at' first c) m.spots.length
theorem stepP_eq (m : Mach) (at' : List Int) (first : Bool) (c : Int) : stepP m at' first c = zep (zdt m at' first c) m.spots.length := rfl
def mayTo (m : Mach) (at' : List Int) (first : Bool) (n i : Int) : Bool := (first && decide (n ∈ m.first)) || (at'.take i.toNat).any fun i => decide (n ∈ at_ m.follow i)
theorem may_0 (m : Mach) (at' : List Int) (first : Bool) (n : Int) : (first && decide (n ∈ m.first)) = mayTo m at' first n 0 := by unfold mayTo; simp
theorem may_step (m : Mach) (at' : List Int) (first : Bool) (n : Int) {i : Int} (h0 : 0 ≤ i) (h1 : i < (at'.length : Int)) (h : mayTo m at' first n i = false) : decide (n ∈ at_ m.follow (at_ at' i)) = mayTo m at' first n (i + 1) := by
  unfold mayTo at h ⊢
  rw [zdk _ h0 h1, List.any_append, ← Bool.or_assoc, h]; simp
theorem may_end (m : Mach) (at' : List Int) (first : Bool) (n : Int) {i : Int} (h : (at'.length : Int) ≤ i ∨ mayTo m at' first n i = true) : mayTo m at' first n i = mayP m at' first n := by
  rcases h with h | h
  · unfold mayTo mayP; rw [List.take_of_length_le (by omega)]
  · rw [h]
    unfold mayTo at h
    unfold mayP
    symm
    rw [Bool.or_eq_true] at h ⊢
    refine h.imp id fun h => ?_
    rw [List.any_eq_true] at h ⊢
    obtain ⟨x, hx, hp⟩ := h
    exact ⟨x, List.mem_of_mem_take hx, hp⟩
theorem any_posTo (p : Nat → Bool) (t : Int) (q : Int → Bool) : (zep p t).any q = anyTo (fun i => p i && q ((i : Nat) : Int)) t := by
  rw [Bool.eq_iff_iff, List.any_eq_true, zea]
  constructor
  · rintro ⟨x, hx, hq⟩
    obtain ⟨h0, h1, h2⟩ := mem_posTo.1 hx
    exact ⟨x.toNat, by omega, by rw [h2, Int.toNat_of_nonneg h0, hq]; rfl⟩
  · rintro ⟨d, hd, h⟩
    rw [Bool.and_eq_true] at h
    exact ⟨d, mem_posTo.2 ⟨by omega, hd, by simpa using h.1⟩, h.2⟩
theorem bit_half (s : BSet) {c i : Int} (h0 : 0 ≤ c) (h1 : c < 256) (hi : i = c % 64) : decide ((at_ (zbj s) (c / 64) / 2 ^ i.toNat) % 2 = 1) = has s c := by
  subst hi
  have hb := bit_words s (i := c.toNat) (by omega)
  unfold has
  rw [← hb]
  unfold bitAt
  rw [show ((c.toNat / 64 : Nat) : Int) = c / 64 by omega, show c.toNat % 64 = (c % 64).toNat by omega]
  have hw : 0 ≤ at_ (zbj s) (c / 64) := zc6 (zcz (zda s) (by omega) (by omega))
  obtain ⟨x, hx⟩ := Int.eq_ofNat_of_zero_le hw
  rw [hx, Int.toNat_natCast, Nat.testBit_eq_decide_div_mod_eq]
  apply decide_eq_decide.2
  have e : ((x : Int) / 2 ^ (c % 64).toNat) = ((x / 2 ^ (c % 64).toNat : Nat) : Int) := by
    rw [Int.natCast_ediv, Int.natCast_pow]; rfl
  rw [e]; omega
theorem num_yes (l : List Int) {t n : Int} (h0 : 0 ≤ t) (h1 : t < (l.length : Int)) (h : at_ l t = n) : decide (n ∈ l) = true := decide_eq_true (h ▸ zdv h0 h1)
theorem num_no (l : List Int) {t n : Int} (h1 : (l.length : Int) ≤ t) (h : n ∉ l.take t.toNat) : decide (n ∈ l) = false := decide_eq_false (by rwa [List.take_of_length_le (by omega)] at h)
theorem num_step (l : List Int) {t n : Int} (h0 : 0 ≤ t) (h1 : t < (l.length : Int)) (h : n ∉ l.take t.toNat) (h2 : ¬ at_ l t = n) : n ∉ l.take (t + 1).toNat := by
  rw [zdk l h0 h1, List.mem_append]
  rintro (h3 | h3)
  · exact h h3
  · simp at h3; exact h2 h3.symm
end Gx
namespace Go.Proofs.YtfoemogojbnfhaaDoor
open Go Go.RowKit Gx
set_option maxHeartbeats 1000000
set_option linter.unusedVariables false
set_option linter.unusedSimpArgs false
set_option maxRecDepth 8000
attribute [local irreducible] zcf count first has zb6 wbits Lib.ctz zds zbs rowOk tab markP intoP behindP runTo endsIn runM zep mayP zdt stepP mayTo anyTo allTo
theorem rising_calls (w : World) (l : List Int) (A0 : Option Addr) (c0 : Nat) (b0 : l.length ≤ c0 ∧ c0 ≤ maxLen) (l0 : zbe (Kd.int .i64) (hp w) A0 l) (bound : Int) (i1 : inK .i64 bound) :
    Calls Tryd.prog 102 #[.slice A0 l.length c0, .int .i64 bound] w fun e w' => ∃ v, e = .returned v ∧ ∃ (hn : Ghost), St w.heap.size w hn w' [] ∧ v = .bool (zds bound (-1) l) := by
 refine zaq Tryd.func102 rfl Tryd.ntmps102 rfl ?_
 have S0 := St.init w
 have bb0 := b0.1; have bc0 := b0.2; simp only [maxLen] at bc0
 have lo1 := za7 i1; have hi1 := za8 i1
 refine zab <| zad (l := [0]) rfl <| p_v (v := .bool false) rfl rfl rfl (zah rfl) <| zaa <| zab <| zad (l := [0]) rfl <| p_v (v := .int .i64 (-1)) rfl rfl rfl (zah rfl) <| zaa <| zab <| zab <| zad (l := [0, 1, 2]) rfl <| p_v (v := .slice A0 l.length c0) rfl rfl rfl (zag rfl) ?_
 refine p_v (v := .int .i64 (l.length : Int)) rfl rfl rfl (za0 u23 rfl) <| p_v (v := .int .i64 0) rfl rfl rfl (zag rfl) <| zaa <| zas <| zbo (S := Int × Int) (fun (q_ : Int × Int) ρ w' => match q_ with | (last, t10) => ∃ (h : Ghost), Le (fun _ => none) h ∧ St w.heap.size w h w' [] ∧ ρ 1 = .int .i64 bound ∧ ρ 5 = .int .i64 last ∧ ρ 8 = .slice A0 l.length c0 ∧ ρ 9 = .int .i64 (l.length : Int) ∧ ρ 10 = .int .i64 t10 ∧ inK .i64 last ∧ inK .i64 t10 ∧ (0 ≤ t10 ∧ t10 ≤ (l.length : Int) ∧ zds bound (-1) l = zds bound last (l.drop t10.toNat))) (fun q_ => match q_ with | (last, t10) => (l.length - t10).toNat) ((-1), 0) ⟨(fun _ => none), Le.refl _, S0.sub [] (by decide) rfl _ rfl, rfl, rfl, rfl, rfl, rfl, (zao (by omega) (by omega)), (zao (by omega) (by omega)), (by exact ⟨by omega, by omega, rfl⟩)⟩ ?_
 rintro ⟨last, t10⟩ ih1 ρ1 w1 ⟨h1, le1, S1, r1_1, r1_5, r1_8, r1_9, r1_10, f1_0, f1_1, hI1⟩
 have lf1_0 := za7 f1_0; have hf1_0 := za8 f1_0
 have lf1_1 := za7 f1_1; have hf1_1 := za8 f1_1
 refine zab <| zad (l := [0]) rfl <| p_v (v := .bool (decide (t10 < (l.length : Int)))) rfl rfl rfl (zdc r1_10 r1_9) <| zaa <| zab ?_
 refine zap (p := t10 < (l.length : Int)) rfl (fun hc2 => ?_) (fun hc2 => ?_)
 ·skip
  refine zau <| zab <| zas <| zab <| zad (l := [0, 1, 2]) rfl ?_
  obtain ⟨ad3, seg3, a3, rp3, ce3⟩ := zaz (q := t10) (m := 1) l0 rfl (by omega) (by omega)
  refine p_v (v := .pointer (some ad3)) rfl rfl rfl (zaw u23 ty3 r1_8 r1_10 a3 (by omega) (by omega)) ?_
  obtain ⟨rfl, in3⟩ := rp3
  have lo3 := za7 in3; have hi3 := za8 in3
  refine p_v (v := .int .i64 (at_ l t10)) rfl rfl rfl (zal (seg := [.int .i64 (at_ l t10)]) ty3 rfl (by simp) rfl (CF.ghost ce3 (St.le0 S1))) <| p_v (v := .int .i64 (at_ l t10)) rfl rfl rfl (zah rfl) <| zaa <| zab <| zab <| zad (l := [0, 1, 2, 3, 4, 5, 6, 7]) rfl <| p_v (v := .int .i64 (at_ l t10)) rfl rfl rfl (zag rfl) <| p_v (v := .int .i64 last) rfl rfl rfl (zag r1_5) <| p_v (v := .bool (decide ((at_ l t10) ≤ last))) rfl rfl rfl (x_leq rfl rfl) <| p_v (v := .bool (decide ((at_ l t10) ≤ last))) rfl rfl rfl (zag rfl) ?_
  by_cases hc4 : (at_ l t10) ≤ last
  ·skip
   refine za2 rfl (wo 3 17 rfl rfl (bT hc4) rfl) rfl <| za2 rfl (wo 3 17 rfl rfl (bT hc4) rfl) rfl <| za2 rfl (wo 3 17 rfl rfl (bT hc4) rfl) rfl <| p_v (v := .bool true) rfl rfl rfl (za5 (bT hc4) rfl) <| zaa <| zb4 (b := true) rfl ?_
   simp only [if_true, if_false, Bool.false_eq_true]
   refine zab <| zad (l := [0]) rfl <| p_v (v := .bool false) rfl rfl rfl (zah rfl) <| zaa <| zar Tryd.func102 (res1 rfl (zax (v := .bool false) rfl)) ?_
   have q0 : (zds bound (-1) l : Bool) = false := by
    rw [hI1.2.2, zfd l hI1.1 (by omega), decide_eq_false (by omega)]; rfl
   refine ⟨_, rfl, h1, ?_, ?_⟩
   · exact S1.sub [] (by decide) rfl _ rfl
   · first | rfl | (simp only [q0]; rfl) | (simp only [q0])
  refine p_v (v := .int .i64 (at_ l t10)) rfl (wo 3 17 rfl rfl (bF hc4) rfl) rfl (zag rfl) <| p_v (v := .int .i64 bound) rfl (wo 3 17 rfl rfl (bF hc4) rfl) rfl (zag r1_1) <| p_v (v := .bool (decide (bound ≤ (at_ l t10)))) rfl (wo 3 17 rfl rfl (bF hc4) rfl) rfl (x_geq rfl rfl) <| p_v (v := .bool (decide (bound ≤ (at_ l t10)))) rfl rfl rfl (zbk (bF hc4) rfl) <| zaa ?_
  refine zap (p := bound ≤ (at_ l t10)) rfl (fun hc5 => ?_) (fun hc5 => ?_)
  ·skip
   refine zab <| zad (l := [0]) rfl <| p_v (v := .bool false) rfl rfl rfl (zah rfl) <| zaa <| zar Tryd.func102 (res1 rfl (zax (v := .bool false) rfl)) ?_
   have q0 : (zds bound (-1) l : Bool) = false := by
    rw [hI1.2.2, zfd l hI1.1 (by omega), decide_eq_true (by omega), decide_eq_false (by omega)]; rfl
   refine ⟨_, rfl, h1, ?_, ?_⟩
   · exact S1.sub [] (by decide) rfl _ rfl
   · first | rfl | (simp only [q0]; rfl) | (simp only [q0])
  refine zau <| zad (l := [0, 1]) rfl <| p_v (v := .int .i64 (at_ l t10)) rfl rfl rfl (zag rfl) <| p_v (v := .int .i64 (at_ l t10)) rfl rfl rfl (zah rfl) <| zaa <| zat <| zad (l := [0, 1]) rfl <| p_v (v := .int .i64 (t10 + 1)) rfl rfl rfl (zct r1_10 rfl (zao (by omega) (by omega))) <| p_v (v := .int .i64 (t10 + 1)) rfl rfl rfl (zag rfl) <| zaa ?_
  refine ih1 (at_ l t10, t10 + 1) _ _ (by dsimp only; omega) ⟨h1, le1, S1.sub [] (by decide) rfl _ rfl, r1_1, rfl, r1_8, r1_9, rfl, (zao (by omega) (by omega)), (zao (by omega) (by omega)), (by exact ⟨by omega, by omega, by rw [hI1.2.2, zfd l hI1.1 (by omega), decide_eq_true (by omega), decide_eq_true (by omega)]; rfl⟩)⟩
 refine zbn rfl <| zab <| zad (l := [0]) rfl <| p_v (v := .bool true) rfl rfl rfl (zah rfl) <| zaa <| zar Tryd.func102 (res1 rfl (zax (v := .bool true) rfl)) ?_
 have q0 : (zds bound (-1) l : Bool) = true := by
  rw [hI1.2.2, drop_end l (by omega), rises_nil]
 refine ⟨_, rfl, h1, ?_, ?_⟩
 · exact S1.sub [] (by decide) rfl _ rfl
 · (simp only [q0])
theorem list10_calls (w : World) (l : List Int) (A0 : Option Addr) (c0 : Nat) (b0 : l.length ≤ c0 ∧ c0 ≤ maxLen) (l0 : zbe (Kd.int .i64) (hp w) A0 l) (bound : Int) (i1 : inK .i64 bound) :
    Calls Tryd.prog 88 #[.slice A0 l.length c0, .int .i64 bound] w fun e w' => ∃ v, e = .returned v ∧ ∃ (hn : Ghost), St w.heap.size w hn w' [] ∧ v = .bool (zds bound (-1) l) := by
 refine zaq Tryd.func88 rfl Tryd.ntmps88 rfl ?_
 have S0 := St.init w
 have bb0 := b0.1; have bc0 := b0.2; simp only [maxLen] at bc0
 have lo1 := za7 i1; have hi1 := za8 i1
 refine zab <| zad (l := [0]) rfl <| p_v (v := .bool false) rfl rfl rfl (zah rfl) <| zaa <| zab <| zab <| zad (l := [0]) rfl <| p_v (v := .int .i64 0) rfl rfl rfl (zah rfl) <| zaa <| zas <| zbo (S := Int) (fun (q_ : Int) ρ w' => match q_ with | i => ∃ (h : Ghost), Le (fun _ => none) h ∧ St w.heap.size w h w' [] ∧ ρ 0 = .slice A0 l.length c0 ∧ ρ 1 = .int .i64 bound ∧ ρ 5 = .int .i64 i ∧ inK .i64 i ∧ (0 ≤ i ∧ i ≤ (l.length : Int) ∧ -1 ≤ prevOf l i ∧ zds bound (-1) l = zds bound (prevOf l i) (l.drop i.toNat))) (fun q_ => match q_ with | i => (l.length - i).toNat) (0) ⟨(fun _ => none), Le.refl _, S0.sub [] (by decide) rfl _ rfl, rfl, rfl, rfl, (zao (by omega) (by omega)), (by exact ⟨by omega, by omega, by unfold prevOf; simp, by unfold prevOf; simp⟩)⟩ ?_
 rintro i ih1 ρ1 w1 ⟨h1, le1, S1, r1_0, r1_1, r1_5, f1_0, hI1⟩
 have lf1_0 := za7 f1_0; have hf1_0 := za8 f1_0
 have hp0_ : ¬ 0 < i → prevOf l i = -1 := fun h => if_pos (by omega)
 have hp1_ : 0 < i → prevOf l i = at_ l (i - 1) := fun h => if_neg (by omega)
 have hp2_ : 0 ≤ i → prevOf l (i + 1) = at_ l i := fun h => (if_neg (by omega)).trans (by rw [show i + 1 - 1 = i by omega])
 refine zab <| zab <| zad (l := [0, 1, 2, 3]) rfl <| p_v (v := .int .i64 i) rfl rfl rfl (zag r1_5) <| p_v (v := .slice A0 l.length c0) rfl rfl rfl (zag r1_0) <| p_v (v := .int .i64 (l.length : Int)) rfl rfl rfl (za0 u23 rfl) <| p_v (v := .bool (decide (i < (l.length : Int)))) rfl rfl rfl (zdc rfl rfl) <| zaa ?_
 refine zap (p := i < (l.length : Int)) rfl (fun hc2 => ?_) (fun hc2 => ?_)
 ·skip
  refine zau <| zab <| zas <| zab ?_
  obtain ⟨ad3, seg3, a3, rp3, ce3⟩ := zaz (q := i) (m := 1) l0 rfl (by omega) (by omega)
  obtain ⟨rfl, in3⟩ := rp3
  have lo3 := za7 in3; have hi3 := za8 in3
  by_cases hc4 : (at_ l i) < 0
  ·skip
   have hf5 : (CFs ad3 [.int .i64 (at_ l i)]).1 w1 := (CF.ghost ce3 (St.le0 S1))
   refine daS (hkC 3 hf5 (hkN (w := w1))) 29 rfl mixed ?_
   intro wd6 gd6 hd6
   have S7 := S1.keep gd6
   have hf8 := spUp gd6 hf5
   refine qd0 (i := 0) (v := .slice A0 l.length c0) rfl (by decide +kernel) rfl rfl (zag r1_0) (zaj rfl) <| qd0 (i := 1) (v := .int .i64 i) rfl (by decide +kernel) rfl rfl (zag r1_5) (zaj rfl) <| qd0 (i := 2) (v := .pointer (some ad3)) rfl (by decide +kernel) rfl rfl (zaw u23 ty3 rfl rfl a3 (by omega) (by omega)) (zaj rfl) <| qd1 0 (i := 3) (v := .int .i64 (at_ l i)) rfl rfl (by decide +kernel) rfl rfl (fun wq hq => (zal (seg := [.int .i64 (at_ l i)]) ty3 rfl (by simp) rfl hq)) (za9 hf8 (of_nil _ _)) <| qd0 (i := 4) (v := .bool (decide ((at_ l i) < 0))) rfl (by decide +kernel) rfl rfl (zdc rfl rfl) (zaj rfl) <| qd0 (i := 5) (v := .bool (decide ((at_ l i) < 0))) rfl (by decide +kernel) rfl rfl (zag rfl) (zaj rfl) <| zdy (i := 6) rfl (by decide +kernel) (by decide +kernel) (by decide +kernel) (wo 5 17 rfl rfl (bT hc4) rfl) rfl (zaj rfl) <| zdy (i := 7) rfl (by decide +kernel) (by decide +kernel) (by decide +kernel) (wo 5 17 rfl rfl (bT hc4) rfl) rfl (zaj rfl) <| zdy (i := 8) rfl (by decide +kernel) (by decide +kernel) (by decide +kernel) (wo 5 17 rfl rfl (bT hc4) rfl) rfl (zaj rfl) <| zdy (i := 9) rfl (by decide +kernel) (by decide +kernel) (by decide +kernel) (wo 5 17 rfl rfl (bT hc4) rfl) rfl (zaj rfl) <| zdy (i := 10) rfl (by decide +kernel) (by decide +kernel) (by decide +kernel) (wo 5 17 rfl rfl (bT hc4) rfl) rfl (zaj rfl) <| zdy (i := 11) rfl (by decide +kernel) (by decide +kernel) (by decide +kernel) (wo 5 17 rfl rfl (bT hc4) rfl) rfl (zaj rfl) ?_
   refine qd0 (i := 12) (v := .bool true) rfl (by decide +kernel) rfl rfl (za5 (bT hc4) rfl) (zaj rfl) <| qd0 (i := 13) (v := .bool true) rfl (by decide +kernel) rfl rfl (zag rfl) (zaj rfl) <| zdy (i := 14) rfl (by decide +kernel) (by decide +kernel) (by decide +kernel) rfl rfl (zaj rfl) <| zdy (i := 15) rfl (by decide +kernel) (by decide +kernel) (by decide +kernel) rfl rfl (zaj rfl) <| zdy (i := 16) rfl (by decide +kernel) (by decide +kernel) (by decide +kernel) rfl rfl (zaj rfl) <| zdy (i := 17) rfl (by decide +kernel) (by decide +kernel) (by decide +kernel) rfl rfl (zaj rfl) <| zdy (i := 18) rfl (by decide +kernel) (by decide +kernel) (by decide +kernel) rfl rfl (zaj rfl) <| zdy (i := 19) rfl (by decide +kernel) (by decide +kernel) (by decide +kernel) rfl rfl (zaj rfl) <| zdy (i := 20) rfl (by decide +kernel) (by decide +kernel) (by decide +kernel) rfl rfl (zaj rfl) <| zdy (i := 21) rfl (by decide +kernel) (by decide +kernel) (by decide +kernel) rfl rfl (zaj rfl) <| zdy (i := 22) rfl (by decide +kernel) (by decide +kernel) (by decide +kernel) rfl rfl (zaj rfl) <| zdy (i := 23) rfl (by decide +kernel) (by decide +kernel) (by decide +kernel) rfl rfl (zaj rfl) ?_
   refine zdy (i := 24) rfl (by decide +kernel) (by decide +kernel) (by decide +kernel) rfl rfl (zaj rfl) <| zdy (i := 25) rfl (by decide +kernel) (by decide +kernel) (by decide +kernel) rfl rfl (zaj rfl) <| zdy (i := 26) rfl (by decide +kernel) (by decide +kernel) (by decide +kernel) rfl rfl (zaj rfl) <| zdy (i := 27) rfl (by decide +kernel) (by decide +kernel) (by decide +kernel) rfl rfl (zaj rfl) <| qd0 (i := 28) (v := .bool true) rfl (by decide +kernel) rfl rfl (za5 rfl rfl) (zaj rfl) <| zb3 (by decide +kernel) ?_
   intro wd9 gd9
   have S10 := S7.keep gd9
   refine zb4 (b := true) rfl ?_
   simp only [if_true, if_false, Bool.false_eq_true]
   refine zab <| zad (l := [0]) rfl <| p_v (v := .bool false) rfl rfl rfl (zah rfl) <| zaa <| zar Tryd.func88 (res1 rfl (zax (v := .bool false) rfl)) ?_
   have q0 : (zds bound (-1) l : Bool) = false := by
    (rw [hI1.2.2.2, zfd l hI1.1 (by omega), decide_eq_false (by omega : ¬ prevOf l i < at_ l i)]; rfl; done)
   refine ⟨_, rfl, h1, ?_, ?_⟩
   · exact S10.sub [] (by decide) rfl _ rfl
   · first | rfl | (simp only [q0]; rfl) | (simp only [q0])
  obtain ⟨ad11, seg11, a11, rp11, ce11⟩ := zaz (q := i) (m := 1) l0 rfl (by omega) (by omega)
  obtain ⟨rfl, in11⟩ := rp11
  have lo11 := za7 in11; have hi11 := za8 in11
  by_cases hc12 : bound ≤ (at_ l i)
  ·skip
   have hf13 : (CFs ad3 [.int .i64 (at_ l i)]).1 w1 := (CF.ghost ce3 (St.le0 S1))
   have hf14 : (CFs ad11 [.int .i64 (at_ l i)]).1 w1 := (CF.ghost ce11 (St.le0 S1))
   refine daS (hkC 3 hf13 (hkC 9 hf14 (hkN (w := w1)))) 29 rfl mixed ?_
   intro wd15 gd15 hd15
   have S16 := S1.keep gd15
   have hf17 := spUp gd15 hf13
   have hf18 := spUp gd15 hf14
   refine qd0 (i := 0) (v := .slice A0 l.length c0) rfl (by decide +kernel) rfl rfl (zag r1_0) (zaj rfl) <| qd0 (i := 1) (v := .int .i64 i) rfl (by decide +kernel) rfl rfl (zag r1_5) (zaj rfl) <| qd0 (i := 2) (v := .pointer (some ad3)) rfl (by decide +kernel) rfl rfl (zaw u23 ty3 rfl rfl a3 (by omega) (by omega)) (zaj rfl) <| qd1 0 (i := 3) (v := .int .i64 (at_ l i)) rfl rfl (by decide +kernel) rfl rfl (fun wq hq => (zal (seg := [.int .i64 (at_ l i)]) ty3 rfl (by simp) rfl hq)) (za9 hf17 (zaj rfl)) <| qd0 (i := 4) (v := .bool (decide ((at_ l i) < 0))) rfl (by decide +kernel) rfl rfl (zdc rfl rfl) (zaj rfl) <| qd0 (i := 5) (v := .bool (decide ((at_ l i) < 0))) rfl (by decide +kernel) rfl rfl (zag rfl) (zaj rfl) <| qd0 (i := 6) (v := .slice A0 l.length c0) rfl (by decide +kernel) (wo 5 17 rfl rfl (bF hc4) rfl) rfl (zag r1_0) (zaj rfl) <| qd0 (i := 7) (v := .int .i64 i) rfl (by decide +kernel) (wo 5 17 rfl rfl (bF hc4) rfl) rfl (zag r1_5) (zaj rfl) <| qd0 (i := 8) (v := .pointer (some ad11)) rfl (by decide +kernel) (wo 5 17 rfl rfl (bF hc4) rfl) rfl (zaw u23 ty3 rfl rfl a11 (by omega) (by omega)) (zaj rfl) <| qd1 1 (i := 9) (v := .int .i64 (at_ l i)) rfl rfl (by decide +kernel) (wo 5 17 rfl rfl (bF hc4) rfl) rfl (fun wq hq => (zal (seg := [.int .i64 (at_ l i)]) ty3 rfl (by simp) rfl hq)) (za1 rfl (za9 hf18 (zaj rfl))) <| qd0 (i := 10) (v := .int .i64 bound) rfl (by decide +kernel) (wo 5 17 rfl rfl (bF hc4) rfl) rfl (zag r1_1) (zaj rfl) <| qd0 (i := 11) (v := .bool (decide (bound ≤ (at_ l i)))) rfl (by decide +kernel) (wo 5 17 rfl rfl (bF hc4) rfl) rfl (x_geq rfl rfl) (zaj rfl) ?_
   refine qd0 (i := 12) (v := .bool (decide (bound ≤ (at_ l i)))) rfl (by decide +kernel) rfl rfl (zbk (bF hc4) rfl) (zaj rfl) <| qd0 (i := 13) (v := .bool (decide (bound ≤ (at_ l i)))) rfl (by decide +kernel) rfl rfl (zag rfl) (zaj rfl) <| zdy (i := 14) rfl (by decide +kernel) (by decide +kernel) (by decide +kernel) (wo 13 25 rfl rfl (bT hc12) rfl) rfl (zaj rfl) <| zdy (i := 15) rfl (by decide +kernel) (by decide +kernel) (by decide +kernel) (wo 13 25 rfl rfl (bT hc12) rfl) rfl (zaj rfl) <| zdy (i := 16) rfl (by decide +kernel) (by decide +kernel) (by decide +kernel) (wo 13 25 rfl rfl (bT hc12) rfl) rfl (zaj rfl) <| zdy (i := 17) rfl (by decide +kernel) (by decide +kernel) (by decide +kernel) rfl rfl (zaj rfl) <| zdy (i := 18) rfl (by decide +kernel) (by decide +kernel) (by decide +kernel) rfl rfl (zaj rfl) <| zdy (i := 19) rfl (by decide +kernel) (by decide +kernel) (by decide +kernel) rfl rfl (zaj rfl) <| zdy (i := 20) rfl (by decide +kernel) (by decide +kernel) (by decide +kernel) rfl rfl (zaj rfl) <| zdy (i := 21) rfl (by decide +kernel) (by decide +kernel) (by decide +kernel) rfl rfl (zaj rfl) <| zdy (i := 22) rfl (by decide +kernel) (by decide +kernel) (by decide +kernel) rfl rfl (zaj rfl) <| zdy (i := 23) rfl (by decide +kernel) (by decide +kernel) (by decide +kernel) rfl rfl (zaj rfl) ?_
   refine zdy (i := 24) rfl (by decide +kernel) (by decide +kernel) (by decide +kernel) rfl rfl (zaj rfl) <| zdy (i := 25) rfl (by decide +kernel) (by decide +kernel) (by decide +kernel) rfl rfl (zaj rfl) <| zdy (i := 26) rfl (by decide +kernel) (by decide +kernel) (by decide +kernel) rfl rfl (zaj rfl) <| zdy (i := 27) rfl (by decide +kernel) (by decide +kernel) (by decide +kernel) (wo 13 25 rfl rfl (bT hc12) rfl) rfl (zaj rfl) <| qd0 (i := 28) (v := .bool true) rfl (by decide +kernel) rfl rfl (za5 (bT hc12) rfl) (zaj rfl) <| zb3 (by decide +kernel) ?_
   intro wd19 gd19
   have S20 := S16.keep gd19
   refine zb4 (b := true) rfl ?_
   simp only [if_true, if_false, Bool.false_eq_true]
   refine zab <| zad (l := [0]) rfl <| p_v (v := .bool false) rfl rfl rfl (zah rfl) <| zaa <| zar Tryd.func88 (res1 rfl (zax (v := .bool false) rfl)) ?_
   have q0 : (zds bound (-1) l : Bool) = false := by
    (rw [hI1.2.2.2, zfd l hI1.1 (by omega), decide_eq_false (by omega : ¬ at_ l i < bound)]; simp; done)
   refine ⟨_, rfl, h1, ?_, ?_⟩
   · exact S20.sub [] (by decide) rfl _ rfl
   · first | rfl | (simp only [q0]; rfl) | (simp only [q0])
  by_cases hc21 : 0 < i
  ·skip
   obtain ⟨ad22, seg22, a22, rp22, ce22⟩ := zaz (q := i) (m := 1) l0 rfl (by omega) (by omega)
   obtain ⟨rfl, in22⟩ := rp22
   have lo22 := za7 in22; have hi22 := za8 in22
   obtain ⟨ad23, seg23, a23, rp23, ce23⟩ := zaz (q := i - 1) (m := 1) l0 rfl (by omega) (by omega)
   obtain ⟨rfl, in23⟩ := rp23
   have lo23 := za7 in23; have hi23 := za8 in23
   have hf24 : (CFs ad3 [.int .i64 (at_ l i)]).1 w1 := (CF.ghost ce3 (St.le0 S1))
   have hf25 : (CFs ad11 [.int .i64 (at_ l i)]).1 w1 := (CF.ghost ce11 (St.le0 S1))
   have hf26 : (CFs ad22 [.int .i64 (at_ l i)]).1 w1 := (CF.ghost ce22 (St.le0 S1))
   have hf27 : (CFs ad23 [.int .i64 (at_ l (i - 1))]).1 w1 := (CF.ghost ce23 (St.le0 S1))
   refine daS (hkC 3 hf24 (hkC 9 hf25 (hkC 20 hf26 (hkC 25 hf27 (hkN (w := w1)))))) 29 rfl mixed ?_
   intro wd28 gd28 hd28
   have S29 := S1.keep gd28
   have hf30 := spUp gd28 hf24
   have hf31 := spUp gd28 hf25
   have hf32 := spUp gd28 hf26
   have hf33 := spUp gd28 hf27
   refine qd0 (i := 0) (v := .slice A0 l.length c0) rfl (by decide +kernel) rfl rfl (zag r1_0) (zaj rfl) <| qd0 (i := 1) (v := .int .i64 i) rfl (by decide +kernel) rfl rfl (zag r1_5) (zaj rfl) <| qd0 (i := 2) (v := .pointer (some ad3)) rfl (by decide +kernel) rfl rfl (zaw u23 ty3 rfl rfl a3 (by omega) (by omega)) (zaj rfl) <| qd1 0 (i := 3) (v := .int .i64 (at_ l i)) rfl rfl (by decide +kernel) rfl rfl (fun wq hq => (zal (seg := [.int .i64 (at_ l i)]) ty3 rfl (by simp) rfl hq)) (za9 hf30 (zaj rfl)) <| qd0 (i := 4) (v := .bool (decide ((at_ l i) < 0))) rfl (by decide +kernel) rfl rfl (zdc rfl rfl) (zaj rfl) <| qd0 (i := 5) (v := .bool (decide ((at_ l i) < 0))) rfl (by decide +kernel) rfl rfl (zag rfl) (zaj rfl) <| qd0 (i := 6) (v := .slice A0 l.length c0) rfl (by decide +kernel) (wo 5 17 rfl rfl (bF hc4) rfl) rfl (zag r1_0) (zaj rfl) <| qd0 (i := 7) (v := .int .i64 i) rfl (by decide +kernel) (wo 5 17 rfl rfl (bF hc4) rfl) rfl (zag r1_5) (zaj rfl) <| qd0 (i := 8) (v := .pointer (some ad11)) rfl (by decide +kernel) (wo 5 17 rfl rfl (bF hc4) rfl) rfl (zaw u23 ty3 rfl rfl a11 (by omega) (by omega)) (zaj rfl) <| qd1 1 (i := 9) (v := .int .i64 (at_ l i)) rfl rfl (by decide +kernel) (wo 5 17 rfl rfl (bF hc4) rfl) rfl (fun wq hq => (zal (seg := [.int .i64 (at_ l i)]) ty3 rfl (by simp) rfl hq)) (za1 rfl (za9 hf31 (zaj rfl))) <| qd0 (i := 10) (v := .int .i64 bound) rfl (by decide +kernel) (wo 5 17 rfl rfl (bF hc4) rfl) rfl (zag r1_1) (zaj rfl) <| qd0 (i := 11) (v := .bool (decide (bound ≤ (at_ l i)))) rfl (by decide +kernel) (wo 5 17 rfl rfl (bF hc4) rfl) rfl (x_geq rfl rfl) (zaj rfl) ?_
   refine qd0 (i := 12) (v := .bool (decide (bound ≤ (at_ l i)))) rfl (by decide +kernel) rfl rfl (zbk (bF hc4) rfl) (zaj rfl) <| qd0 (i := 13) (v := .bool (decide (bound ≤ (at_ l i)))) rfl (by decide +kernel) rfl rfl (zag rfl) (zaj rfl) <| qd0 (i := 14) (v := .int .i64 i) rfl (by decide +kernel) (wo 13 25 rfl rfl (bF hc12) rfl) rfl (zag r1_5) (zaj rfl) <| qd0 (i := 15) (v := .bool (decide (0 < i))) rfl (by decide +kernel) (wo 13 25 rfl rfl (bF hc12) rfl) rfl (x_gtr rfl rfl) (zaj rfl) <| qd0 (i := 16) (v := .bool (decide (0 < i))) rfl (by decide +kernel) (wo 13 25 rfl rfl (bF hc12) rfl) rfl (zag rfl) (zaj rfl) <| qd0 (i := 17) (v := .slice A0 l.length c0) rfl (by decide +kernel) (wo 16 28 rfl rfl (bT hc21) rfl) rfl (zag r1_0) (zaj rfl) <| qd0 (i := 18) (v := .int .i64 i) rfl (by decide +kernel) (wo 16 28 rfl rfl (bT hc21) rfl) rfl (zag r1_5) (zaj rfl) <| qd0 (i := 19) (v := .pointer (some ad22)) rfl (by decide +kernel) (wo 16 28 rfl rfl (bT hc21) rfl) rfl (zaw u23 ty3 rfl rfl a22 (by omega) (by omega)) (zaj rfl) <| qd1 2 (i := 20) (v := .int .i64 (at_ l i)) rfl rfl (by decide +kernel) (wo 16 28 rfl rfl (bT hc21) rfl) rfl (fun wq hq => (zal (seg := [.int .i64 (at_ l i)]) ty3 rfl (by simp) rfl hq)) (za1 rfl (za1 rfl (za9 hf32 (zaj rfl)))) <| qd0 (i := 21) (v := .slice A0 l.length c0) rfl (by decide +kernel) (wo 16 28 rfl rfl (bT hc21) rfl) rfl (zag r1_0) (zaj rfl) <| qd0 (i := 22) (v := .int .i64 i) rfl (by decide +kernel) (wo 16 28 rfl rfl (bT hc21) rfl) rfl (zag r1_5) (zaj rfl) <| qd0 (i := 23) (v := .int .i64 (i - 1)) rfl (by decide +kernel) (wo 16 28 rfl rfl (bT hc21) rfl) rfl (x_sub rfl rfl (zao (by omega) (by omega))) (zaj rfl) ?_
   refine qd0 (i := 24) (v := .pointer (some ad23)) rfl (by decide +kernel) (wo 16 28 rfl rfl (bT hc21) rfl) rfl (zaw u23 ty3 rfl rfl a23 (by omega) (by omega)) (zaj rfl) <| qd1 3 (i := 25) (v := .int .i64 (at_ l (i - 1))) rfl rfl (by decide +kernel) (wo 16 28 rfl rfl (bT hc21) rfl) rfl (fun wq hq => (zal (seg := [.int .i64 (at_ l (i - 1))]) ty3 rfl (by simp) rfl hq)) (za1 rfl (za1 rfl (za1 rfl (za9 hf33 (zaj rfl))))) <| qd0 (i := 26) (v := .bool (decide ((at_ l i) ≤ (at_ l (i - 1))))) rfl (by decide +kernel) (wo 16 28 rfl rfl (bT hc21) rfl) rfl (x_leq rfl rfl) (zaj rfl) <| qd0 (i := 27) (v := .bool (decide ((at_ l i) ≤ (at_ l (i - 1))))) rfl (by decide +kernel) (wo 13 25 rfl rfl (bF hc12) rfl) rfl (za5 (bT hc21) rfl) (zaj rfl) <| qd0 (i := 28) (v := .bool (decide ((at_ l i) ≤ (at_ l (i - 1))))) rfl (by decide +kernel) rfl rfl (zbk (bF hc12) rfl) (zaj rfl) <| zb3 (by decide +kernel) ?_
   intro wd34 gd34
   have S35 := S29.keep gd34
   refine zap (p := (at_ l i) ≤ (at_ l (i - 1))) rfl (fun hc36 => ?_) (fun hc36 => ?_)
   ·skip
    refine zab <| zad (l := [0]) rfl <| p_v (v := .bool false) rfl rfl rfl (zah rfl) <| zaa <| zar Tryd.func88 (res1 rfl (zax (v := .bool false) rfl)) ?_
    have q0 : (zds bound (-1) l : Bool) = false := by
     (rw [hI1.2.2.2, zfd l hI1.1 (by omega), decide_eq_false (by omega : ¬ prevOf l i < at_ l i)]; rfl; done)
    refine ⟨_, rfl, h1, ?_, ?_⟩
    · exact S35.sub [] (by decide) rfl _ rfl
    · first | rfl | (simp only [q0]; rfl) | (simp only [q0])
   refine zau <| zat <| zad (l := [0, 1, 2]) rfl <| p_v (v := .int .i64 i) rfl rfl rfl (zag r1_5) <| p_v (v := .int .i64 (i + 1)) rfl rfl rfl (zct rfl rfl (zao (by omega) (by omega))) <| p_v (v := .int .i64 (i + 1)) rfl rfl rfl (zah rfl) <| zaa ?_
   refine ih1 (i + 1) _ _ (by dsimp only; omega) ⟨h1, le1, S35.sub [] (by decide) rfl _ rfl, r1_0, r1_1, rfl, (zao (by omega) (by omega)), (by exact ⟨by omega, by omega, by rw [hp2_ (by omega)]; omega, by rw [hI1.2.2.2, zfd l hI1.1 (by omega), hp2_ (by omega), decide_eq_true (by first | (rw [hp0_ (by omega)]; omega) | (rw [hp1_ (by omega)]; omega)), decide_eq_true (by omega)]; rfl⟩)⟩
  have hf37 : (CFs ad3 [.int .i64 (at_ l i)]).1 w1 := (CF.ghost ce3 (St.le0 S1))
  have hf38 : (CFs ad11 [.int .i64 (at_ l i)]).1 w1 := (CF.ghost ce11 (St.le0 S1))
  refine daS (hkC 3 hf37 (hkC 9 hf38 (hkN (w := w1)))) 29 rfl mixed ?_
  intro wd39 gd39 hd39
  have S40 := S1.keep gd39
  have hf41 := spUp gd39 hf37
  have hf42 := spUp gd39 hf38
  refine qd0 (i := 0) (v := .slice A0 l.length c0) rfl (by decide +kernel) rfl rfl (zag r1_0) (zaj rfl) <| qd0 (i := 1) (v := .int .i64 i) rfl (by decide +kernel) rfl rfl (zag r1_5) (zaj rfl) <| qd0 (i := 2) (v := .pointer (some ad3)) rfl (by decide +kernel) rfl rfl (zaw u23 ty3 rfl rfl a3 (by omega) (by omega)) (zaj rfl) <| qd1 0 (i := 3) (v := .int .i64 (at_ l i)) rfl rfl (by decide +kernel) rfl rfl (fun wq hq => (zal (seg := [.int .i64 (at_ l i)]) ty3 rfl (by simp) rfl hq)) (za9 hf41 (zaj rfl)) <| qd0 (i := 4) (v := .bool (decide ((at_ l i) < 0))) rfl (by decide +kernel) rfl rfl (zdc rfl rfl) (zaj rfl) <| qd0 (i := 5) (v := .bool (decide ((at_ l i) < 0))) rfl (by decide +kernel) rfl rfl (zag rfl) (zaj rfl) <| qd0 (i := 6) (v := .slice A0 l.length c0) rfl (by decide +kernel) (wo 5 17 rfl rfl (bF hc4) rfl) rfl (zag r1_0) (zaj rfl) <| qd0 (i := 7) (v := .int .i64 i) rfl (by decide +kernel) (wo 5 17 rfl rfl (bF hc4) rfl) rfl (zag r1_5) (zaj rfl) <| qd0 (i := 8) (v := .pointer (some ad11)) rfl (by decide +kernel) (wo 5 17 rfl rfl (bF hc4) rfl) rfl (zaw u23 ty3 rfl rfl a11 (by omega) (by omega)) (zaj rfl) <| qd1 1 (i := 9) (v := .int .i64 (at_ l i)) rfl rfl (by decide +kernel) (wo 5 17 rfl rfl (bF hc4) rfl) rfl (fun wq hq => (zal (seg := [.int .i64 (at_ l i)]) ty3 rfl (by simp) rfl hq)) (za1 rfl (za9 hf42 (zaj rfl))) <| qd0 (i := 10) (v := .int .i64 bound) rfl (by decide +kernel) (wo 5 17 rfl rfl (bF hc4) rfl) rfl (zag r1_1) (zaj rfl) <| qd0 (i := 11) (v := .bool (decide (bound ≤ (at_ l i)))) rfl (by decide +kernel) (wo 5 17 rfl rfl (bF hc4) rfl) rfl (x_geq rfl rfl) (zaj rfl) ?_
  refine qd0 (i := 12) (v := .bool (decide (bound ≤ (at_ l i)))) rfl (by decide +kernel) rfl rfl (zbk (bF hc4) rfl) (zaj rfl) <| qd0 (i := 13) (v := .bool (decide (bound ≤ (at_ l i)))) rfl (by decide +kernel) rfl rfl (zag rfl) (zaj rfl) <| qd0 (i := 14) (v := .int .i64 i) rfl (by decide +kernel) (wo 13 25 rfl rfl (bF hc12) rfl) rfl (zag r1_5) (zaj rfl) <| qd0 (i := 15) (v := .bool (decide (0 < i))) rfl (by decide +kernel) (wo 13 25 rfl rfl (bF hc12) rfl) rfl (x_gtr rfl rfl) (zaj rfl) <| qd0 (i := 16) (v := .bool (decide (0 < i))) rfl (by decide +kernel) (wo 13 25 rfl rfl (bF hc12) rfl) rfl (zag rfl) (zaj rfl) <| zdy (i := 17) rfl (by decide +kernel) (by decide +kernel) (by decide +kernel) (wo 16 28 rfl rfl (bF hc21) rfl) rfl (zaj rfl) <| zdy (i := 18) rfl (by decide +kernel) (by decide +kernel) (by decide +kernel) (wo 16 28 rfl rfl (bF hc21) rfl) rfl (zaj rfl) <| zdy (i := 19) rfl (by decide +kernel) (by decide +kernel) (by decide +kernel) (wo 16 28 rfl rfl (bF hc21) rfl) rfl (zaj rfl) <| zdy (i := 20) rfl (by decide +kernel) (by decide +kernel) (by decide +kernel) (wo 16 28 rfl rfl (bF hc21) rfl) rfl (zaj rfl) <| zdy (i := 21) rfl (by decide +kernel) (by decide +kernel) (by decide +kernel) (wo 16 28 rfl rfl (bF hc21) rfl) rfl (zaj rfl) <| zdy (i := 22) rfl (by decide +kernel) (by decide +kernel) (by decide +kernel) (wo 16 28 rfl rfl (bF hc21) rfl) rfl (zaj rfl) <| zdy (i := 23) rfl (by decide +kernel) (by decide +kernel) (by decide +kernel) (wo 16 28 rfl rfl (bF hc21) rfl) rfl (zaj rfl) ?_
  refine zdy (i := 24) rfl (by decide +kernel) (by decide +kernel) (by decide +kernel) (wo 16 28 rfl rfl (bF hc21) rfl) rfl (zaj rfl) <| zdy (i := 25) rfl (by decide +kernel) (by decide +kernel) (by decide +kernel) (wo 16 28 rfl rfl (bF hc21) rfl) rfl (zaj rfl) <| zdy (i := 26) rfl (by decide +kernel) (by decide +kernel) (by decide +kernel) (wo 16 28 rfl rfl (bF hc21) rfl) rfl (zaj rfl) <| qd0 (i := 27) (v := .bool false) rfl (by decide +kernel) (wo 13 25 rfl rfl (bF hc12) rfl) rfl (zbk (bF hc21) rfl) (zaj rfl) <| qd0 (i := 28) (v := .bool false) rfl (by decide +kernel) rfl rfl (zbk (bF hc12) rfl) (zaj rfl) <| zb3 (by decide +kernel) ?_
  intro wd43 gd43
  have S44 := S40.keep gd43
  refine zb4 (b := false) rfl ?_
  simp only [if_true, if_false, Bool.false_eq_true]
  refine zau <| zat <| zad (l := [0, 1, 2]) rfl <| p_v (v := .int .i64 i) rfl rfl rfl (zag r1_5) <| p_v (v := .int .i64 (i + 1)) rfl rfl rfl (zct rfl rfl (zao (by omega) (by omega))) <| p_v (v := .int .i64 (i + 1)) rfl rfl rfl (zah rfl) <| zaa ?_
  refine ih1 (i + 1) _ _ (by dsimp only; omega) ⟨h1, le1, S44.sub [] (by decide) rfl _ rfl, r1_0, r1_1, rfl, (zao (by omega) (by omega)), (by exact ⟨by omega, by omega, by rw [hp2_ (by omega)]; omega, by rw [hI1.2.2.2, zfd l hI1.1 (by omega), hp2_ (by omega), decide_eq_true (by first | (rw [hp0_ (by omega)]; omega) | (rw [hp1_ (by omega)]; omega)), decide_eq_true (by omega)]; rfl⟩)⟩
 refine zbn rfl <| zab <| zad (l := [0]) rfl <| p_v (v := .bool true) rfl rfl rfl (zah rfl) <| zaa <| zar Tryd.func88 (res1 rfl (zax (v := .bool true) rfl)) ?_
 have q0 : (zds bound (-1) l : Bool) = true := by
  (rw [hI1.2.2.2, drop_end l (by omega), rises_nil])
 refine ⟨_, rfl, h1, ?_, ?_⟩
 · exact S1.sub [] (by decide) rfl _ rfl
 · (simp only [q0])
theorem hasn_calls (w : World) (l : List Int) (A0 : Option Addr) (c0 : Nat) (b0 : l.length ≤ c0 ∧ c0 ≤ maxLen) (l0 : zbe (Kd.int .i64) (hp w) A0 l) (n : Int) (i1 : inK .i64 n) :
    Calls Tryd.prog 163 #[.slice A0 l.length c0, .int .i64 n] w fun e w' => ∃ v, e = .returned v ∧ ∃ (hn : Ghost), St w.heap.size w hn w' [] ∧ v = .bool (decide (n ∈ l)) := by
 refine zaq Tryd.func163 rfl Tryd.ntmps163 rfl ?_
 have S0 := St.init w
 have bb0 := b0.1; have bc0 := b0.2; simp only [maxLen] at bc0
 have lo1 := za7 i1; have hi1 := za8 i1
 refine zab <| zad (l := [0]) rfl <| p_v (v := .bool false) rfl rfl rfl (zah rfl) <| zaa <| zab <| zab <| zad (l := [0]) rfl <| p_v (v := .int .i64 0) rfl rfl rfl (zah rfl) <| zaa <| zas <| zbo (S := Int) (fun (q_ : Int) ρ w' => match q_ with | i => ∃ (h : Ghost), Le (fun _ => none) h ∧ St w.heap.size w h w' [] ∧ ρ 0 = .slice A0 l.length c0 ∧ ρ 1 = .int .i64 n ∧ ρ 5 = .int .i64 i ∧ inK .i64 i ∧ (0 ≤ i ∧ i ≤ (l.length : Int) ∧ n ∉ l.take i.toNat)) (fun q_ => match q_ with | i => (l.length - i).toNat) (0) ⟨(fun _ => none), Le.refl _, S0.sub [] (by decide) rfl _ rfl, rfl, rfl, rfl, (zao (by omega) (by omega)), (by exact ⟨by omega, by omega, by simp⟩)⟩ ?_
 rintro i ih1 ρ1 w1 ⟨h1, le1, S1, r1_0, r1_1, r1_5, f1_0, hI1⟩
 have lf1_0 := za7 f1_0; have hf1_0 := za8 f1_0
 refine zab <| zab <| zad (l := [0, 1, 2, 3]) rfl <| p_v (v := .int .i64 i) rfl rfl rfl (zag r1_5) <| p_v (v := .slice A0 l.length c0) rfl rfl rfl (zag r1_0) <| p_v (v := .int .i64 (l.length : Int)) rfl rfl rfl (za0 u23 rfl) <| p_v (v := .bool (decide (i < (l.length : Int)))) rfl rfl rfl (zdc rfl rfl) <| zaa ?_
 refine zap (p := i < (l.length : Int)) rfl (fun hc2 => ?_) (fun hc2 => ?_)
 ·skip
  refine zau <| zab <| zas <| zab <| zad (l := [0, 1, 2, 3, 4, 5]) rfl <| p_v (v := .slice A0 l.length c0) rfl rfl rfl (zag r1_0) <| p_v (v := .int .i64 i) rfl rfl rfl (zag r1_5) ?_
  obtain ⟨ad3, seg3, a3, rp3, ce3⟩ := zaz (q := i) (m := 1) l0 rfl (by omega) (by omega)
  refine p_v (v := .pointer (some ad3)) rfl rfl rfl (zaw u23 ty3 rfl rfl a3 (by omega) (by omega)) ?_
  obtain ⟨rfl, in3⟩ := rp3
  have lo3 := za7 in3; have hi3 := za8 in3
  refine p_v (v := .int .i64 (at_ l i)) rfl rfl rfl (zal (seg := [.int .i64 (at_ l i)]) ty3 rfl (by simp) rfl (CF.ghost ce3 (St.le0 S1))) <| p_v (v := .int .i64 n) rfl rfl rfl (zag r1_1) <| p_v (v := .bool (decide ((at_ l i) = n))) rfl rfl rfl (ze4 rfl rfl) <| zaa ?_
  refine zap (p := (at_ l i) = n) rfl (fun hc4 => ?_) (fun hc4 => ?_)
  ·skip
   refine zab <| zad (l := [0]) rfl <| p_v (v := .bool true) rfl rfl rfl (zah rfl) <| zaa <| zar Tryd.func163 (res1 rfl (zax (v := .bool true) rfl)) ?_
   have q0 : (decide (n ∈ l) : Bool) = true := by
    exact num_yes l hI1.1 (by omega) (by assumption)
   refine ⟨_, rfl, h1, ?_, ?_⟩
   · exact S1.sub [] (by decide) rfl _ rfl
   · first | rfl | (simp only [q0]; rfl) | (simp only [q0])
  refine zau <| zat <| zad (l := [0, 1, 2]) rfl <| p_v (v := .int .i64 i) rfl rfl rfl (zag r1_5) <| p_v (v := .int .i64 (i + 1)) rfl rfl rfl (zct rfl rfl (zao (by omega) (by omega))) <| p_v (v := .int .i64 (i + 1)) rfl rfl rfl (zah rfl) <| zaa ?_
  refine ih1 (i + 1) _ _ (by dsimp only; omega) ⟨h1, le1, S1.sub [] (by decide) rfl _ rfl, r1_0, r1_1, rfl, (zao (by omega) (by omega)), (by exact ⟨by omega, by omega, num_step l hI1.1 (by omega) hI1.2.2 (by assumption)⟩)⟩
 refine zbn rfl <| zab <| zad (l := [0]) rfl <| p_v (v := .bool false) rfl rfl rfl (zah rfl) <| zaa <| zar Tryd.func163 (res1 rfl (zax (v := .bool false) rfl)) ?_
 have q0 : (decide (n ∈ l) : Bool) = false := by
  exact num_no l (by omega) hI1.2.2
 refine ⟨_, rfl, h1, ?_, ?_⟩
 · exact S1.sub [] (by decide) rfl _ rfl
 · (simp only [q0])
theorem in_calls (w : World) (s : BSet) (c : Int) (i1 : inK .u8 c) :
    Calls Tryd.prog 164 #[.agg (zak s).toArray, .int .u8 c] w fun e w' => ∃ v, e = .returned v ∧ ∃ (hn : Ghost), St w.heap.size w hn w' [] ∧ v = .bool (has s c) := by
 refine zaq Tryd.func164 rfl Tryd.ntmps164 rfl ?_
 have S0 := St.init w
 have lo1 := zeu i1; have hi1 := zfa i1
 refine zab <| zad (l := [0, 1]) rfl ?_
 obtain ⟨b1, w1, r1, g1, T1⟩ := zb2 (P := Tryd.prog) S0 74 (v := .agg (zak s).toArray) (zak s) rfl
 have S2 := T1
 dsimp only [lAa, lAn, lA0, lAs] at S2
 refine p_v (v := .pointer (some ⟨b1, 0, none⟩)) rfl rfl rfl (zc8 rfl r1) <| p_v (v := .bool false) rfl rfl rfl (zah rfl) <| zaa <| zab <| zad (l := [0, 1, 2, 3, 4]) rfl <| p_v (v := .int .u8 c) rfl rfl rfl (zag rfl) <| p_v (v := .int .u8 (c / 64)) rfl rfl rfl (x_quo rfl rfl (by omega) (by omega) (zec (by omega) (by omega))) <| p_v (v := .pointer (some ⟨b1, 0 + (c / 64).toNat * 1, none⟩)) rfl rfl rfl (zbp u74 ty56 rfl rfl (by omega) (by omega)) ?_
 have S3 : St w.heap.size w (fun _ => none) w1 [box b1 74 (zbf .u64 (zbj s))] := S2
 have in4 := zcz (zda s) (i := c / 64) (by omega) (by omega)
 have lo4 := zc6 in4; have hi4 := zc9 in4
 refine p_v (v := .int .u64 (at_ (zbj s) (c / 64))) rfl rfl rfl (zal (seg := [.int .u64 (at_ (zbj s) (c / 64))]) ty56 rfl (by simp) rfl (CF.box (m := 1) (S3.box_at (j := 0) rfl) (cs := (zbf .u64 (zbj s))) (zdz (zda s) (by omega) (by omega)))) <| p_v (v := .int .u64 (at_ (zbj s) (c / 64))) rfl rfl rfl (zah rfl) <| zaa <| zab <| zab <| zad (l := [0]) rfl <| p_v (v := .int .u8 0) rfl rfl rfl (zah rfl) <| zaa <| zas <| zbo (S := Int × Int) (fun (q_ : Int × Int) ρ w' => match q_ with | (n, i) => ∃ (h : Ghost), Le (fun _ => none) h ∧ St w.heap.size w h w' [] ∧ ρ 1 = .int .u8 c ∧ ρ 5 = .int .u64 n ∧ ρ 6 = .int .u8 i ∧ inK .u64 n ∧ inK .u8 i ∧ (0 ≤ i ∧ i ≤ c % 64 ∧ n = at_ (zbj s) (c / 64) / 2 ^ i.toNat)) (fun q_ => match q_ with | (n, i) => (64 - i).toNat) (at_ (zbj s) (c / 64), 0) ⟨(fun _ => none), Le.refl _, S3.sub [] (by decide) rfl _ rfl, rfl, rfl, rfl, (zdl (by omega) (by omega)), (zec (by omega) (by omega)), (by exact ⟨by omega, by omega, by simp⟩)⟩ ?_
 rintro ⟨n, i⟩ ih5 ρ5 w5 ⟨h5, le5, S5, r5_1, r5_5, r5_6, f5_0, f5_1, hI5⟩
 have lf5_0 := zc6 f5_0; have hf5_0 := zc9 f5_0
 have lf5_1 := zeu f5_1; have hf5_1 := zfa f5_1
 refine zab <| zab <| zad (l := [0, 1, 2, 3]) rfl <| p_v (v := .int .u8 i) rfl rfl rfl (zag r5_6) <| p_v (v := .int .u8 c) rfl rfl rfl (zag r5_1) <| p_v (v := .int .u8 (c % 64)) rfl rfl rfl (x_rem rfl rfl (by omega) (by omega)) <| p_v (v := .bool (decide (i < (c % 64)))) rfl rfl rfl (zdc rfl rfl) <| zaa ?_
 refine zap (p := i < (c % 64)) rfl (fun hc6 => ?_) (fun hc6 => ?_)
 ·skip
  refine zau <| zab <| zas <| zad (l := [0, 1, 2]) rfl <| p_v (v := .int .u64 n) rfl rfl rfl (zag r5_5) <| p_v (v := .int .u64 (n / 2)) rfl rfl rfl (x_quo rfl rfl (by omega) (by omega) (zdl (by omega) (by omega))) <| p_v (v := .int .u64 (n / 2)) rfl rfl rfl (zah rfl) <| zaa <| zat <| zad (l := [0, 1, 2]) rfl <| p_v (v := .int .u8 i) rfl rfl rfl (zag r5_6) <| p_v (v := .int .u8 (i + 1)) rfl rfl rfl (zct rfl rfl (zec (by omega) (by omega))) ?_
  refine p_v (v := .int .u8 (i + 1)) rfl rfl rfl (zah rfl) <| zaa ?_
  refine ih5 (n / 2, i + 1) _ _ (by dsimp only; omega) ⟨h5, le5, S5.sub [] (by decide) rfl _ rfl, r5_1, rfl, rfl, (zdl (by omega) (by omega)), (zec (by omega) (by omega)), (by exact ⟨by omega, by omega, by rw [hI5.2.2]; exact half_step _ _ hI5.1⟩)⟩
 refine zbn rfl <| zab <| zad (l := [0, 1, 2, 3]) rfl <| p_v (v := .int .u64 n) rfl rfl rfl (zag r5_5) <| p_v (v := .int .u64 (n % 2)) rfl rfl rfl (x_rem rfl rfl (by omega) (by omega)) <| p_v (v := .bool (decide ((n % 2) = 1))) rfl rfl rfl (ze4 rfl rfl) <| p_v (v := .bool (decide ((n % 2) = 1))) rfl rfl rfl (zah rfl) <| zaa <| zar Tryd.func164 (res1 rfl (zax (v := .bool (decide ((n % 2) = 1))) rfl)) ?_
 have q0 : (has s c : Bool) = decide ((n % 2) = 1) := by
  rw [hI5.2.2]; exact (bit_half s (by omega) (by omega) (by omega)).symm
 refine ⟨_, rfl, h5, ?_, ?_⟩
 · exact S5.sub [] (by decide) rfl _ rfl
 · (simp only [q0])
theorem rightN_calls (w : World) (m : Mach) (A0_0 : Option Addr) (c0_0 : Nat) (b0_0 : m.spots.length ≤ c0_0 ∧ c0_0 ≤ maxLen) (l0_0 : zbe zel (hp w) A0_0 m.spots) (A0_1 : Option Addr) (c0_1 : Nat) (b0_1 : m.first.length ≤ c0_1 ∧ c0_1 ≤ maxLen) (l0_1 : zbe (Kd.int .i64) (hp w) A0_1 m.first) (A0_2 : Option Addr) (c0_2 : Nat) (b0_2 : m.follow.length ≤ c0_2 ∧ c0_2 ≤ maxLen) (l0_2 : zbe (Kd.int .i64).slice (hp w) A0_2 m.follow) (A0_3 : Option Addr) (c0_3 : Nat) (b0_3 : m.last.length ≤ c0_3 ∧ c0_3 ≤ maxLen) (l0_3 : zbe Kd.bool (hp w) A0_3 m.last) :
    Calls Tryd.prog 37 #[.agg #[.slice A0_0 m.spots.length c0_0, .slice A0_1 m.first.length c0_1, .slice A0_2 m.follow.length c0_2, .slice A0_3 m.last.length c0_3, .bool m.empty]] w fun e w' => ∃ v, e = .returned v ∧ ∃ (hn : Ghost), St w.heap.size w hn w' [] ∧ v = .bool (zbs m) := by
 refine zaq Tryd.func37 rfl Tryd.ntmps37 rfl ?_
 have S0 := St.init w
 have bb0_0 := b0_0.1; have bc0_0 := b0_0.2; simp only [maxLen] at bc0_0
 have bb0_1 := b0_1.1; have bc0_1 := b0_1.2; simp only [maxLen] at bc0_1
 have bb0_2 := b0_2.1; have bc0_2 := b0_2.2; simp only [maxLen] at bc0_2
 have bb0_3 := b0_3.1; have bc0_3 := b0_3.2; simp only [maxLen] at bc0_3
 refine zab <| zad (l := [0, 1]) rfl ?_
 obtain ⟨b1, w1, r1, g1, T1⟩ := zb2 (P := Tryd.prog) S0 27 (v := .agg #[.slice A0_0 m.spots.length c0_0, .slice A0_1 m.first.length c0_1, .slice A0_2 m.follow.length c0_2, .slice A0_3 m.last.length c0_3, .bool m.empty]) [.slice A0_0 m.spots.length c0_0, .slice A0_1 m.first.length c0_1, .slice A0_2 m.follow.length c0_2, .slice A0_3 m.last.length c0_3, .bool m.empty] rfl
 have S2 := T1
 dsimp only [lAa, lAn, lA0, lAs] at S2
 refine p_v (v := .pointer (some ⟨b1, 0, none⟩)) rfl rfl rfl (zc8 rfl r1) <| p_v (v := .bool false) rfl rfl rfl (zah rfl) <| zaa <| zab <| zad (l := [0, 1, 2, 3]) rfl <| p_v (v := .pointer (some ⟨b1, 0, none⟩)) rfl rfl rfl (zan fd27_0 ty22 rfl rfl) <| p_v (v := .slice A0_0 m.spots.length c0_0) rfl rfl rfl (zal (seg := [.slice A0_0 m.spots.length c0_0]) ty22 rfl (by simp) rfl (CF.box (m := 1) (S2.box_at (j := 0) rfl) rfl)) <| p_v (v := .int .i64 (m.spots.length : Int)) rfl rfl rfl (za0 u22 rfl) <| p_v (v := .int .i64 (m.spots.length : Int)) rfl rfl rfl (zah rfl) <| zaa <| zab <| zab ?_
 refine zad (l := [0, 1, 2, 3, 4, 5, 6, 7, 8, 9, 10, 11, 12, 13, 14, 15, 16, 17, 18, 19, 20, 21, 22]) rfl <| p_v (v := .int .i64 (m.spots.length : Int)) rfl rfl rfl (zag rfl) <| p_v (v := .bool (decide (250 < (m.spots.length : Int)))) rfl rfl rfl (x_gtr rfl rfl) <| p_v (v := .bool (decide (250 < (m.spots.length : Int)))) rfl rfl rfl (zag rfl) ?_
 by_cases hc3 : 250 < (m.spots.length : Int)
 ·skip
  refine za2 rfl (wo 2 11 rfl rfl (bT hc3) rfl) rfl <| za2 rfl (wo 2 11 rfl rfl (bT hc3) rfl) rfl <| za2 rfl (wo 2 11 rfl rfl (bT hc3) rfl) rfl <| za2 rfl (wo 2 11 rfl rfl (bT hc3) rfl) rfl <| za2 rfl (wo 2 11 rfl rfl (bT hc3) rfl) rfl <| p_v (v := .bool true) rfl rfl rfl (za5 (bT hc3) rfl) <| p_v (v := .bool true) rfl rfl rfl (zag rfl) <| za2 rfl rfl rfl <| za2 rfl rfl rfl <| za2 rfl rfl rfl <| za2 rfl rfl rfl <| za2 rfl rfl rfl ?_
  refine p_v (v := .bool true) rfl rfl rfl (za5 rfl rfl) <| p_v (v := .bool true) rfl rfl rfl (zag rfl) <| za2 rfl rfl rfl <| za2 rfl rfl rfl <| za2 rfl rfl rfl <| za2 rfl rfl rfl <| za2 rfl rfl rfl <| p_v (v := .bool true) rfl rfl rfl (za5 rfl rfl) <| zaa <| zb4 (b := true) rfl ?_
  simp only [if_true, if_false, Bool.false_eq_true]
  refine zab <| zad (l := [0]) rfl <| p_v (v := .bool false) rfl rfl rfl (zah rfl) <| zaa <| zar Tryd.func37 (res1 rfl (zax (v := .bool false) rfl)) ?_
  have q0 : (zbs m : Bool) = false := by
   exact right_no1 m (by assumption)
  refine ⟨_, rfl, (fun _ => none), ?_, ?_⟩
  · exact S2.sub [] (by decide) rfl _ rfl
  · first | rfl | (simp only [q0]; rfl) | (simp only [q0])
 refine p_v (v := .pointer (some ⟨b1, 2, none⟩)) rfl (wo 2 11 rfl rfl (bF hc3) rfl) rfl (zan fd27_2 ty24 rfl rfl) <| p_v (v := .slice A0_2 m.follow.length c0_2) rfl (wo 2 11 rfl rfl (bF hc3) rfl) rfl (zal (seg := [.slice A0_2 m.follow.length c0_2]) ty24 rfl (by simp) rfl (CF.box (m := 1) (S2.box_at (j := 0) rfl) rfl)) <| p_v (v := .int .i64 (m.follow.length : Int)) rfl (wo 2 11 rfl rfl (bF hc3) rfl) rfl (za0 u24 rfl) <| p_v (v := .int .i64 (m.spots.length : Int)) rfl (wo 2 11 rfl rfl (bF hc3) rfl) rfl (zag rfl) <| p_v (v := .bool (decide ((m.follow.length : Int) ≠ (m.spots.length : Int)))) rfl (wo 2 11 rfl rfl (bF hc3) rfl) rfl (x_neq rfl rfl) <| p_v (v := .bool (decide ((m.follow.length : Int) ≠ (m.spots.length : Int)))) rfl rfl rfl (zbk (bF hc3) rfl) <| p_v (v := .bool (decide ((m.follow.length : Int) ≠ (m.spots.length : Int)))) rfl rfl rfl (zag rfl) ?_
 by_cases hc4 : (m.follow.length : Int) ≠ (m.spots.length : Int)
 ·skip
  refine za2 rfl (wo 9 18 rfl rfl (bT hc4) rfl) rfl <| za2 rfl (wo 9 18 rfl rfl (bT hc4) rfl) rfl <| za2 rfl (wo 9 18 rfl rfl (bT hc4) rfl) rfl <| za2 rfl (wo 9 18 rfl rfl (bT hc4) rfl) rfl <| za2 rfl (wo 9 18 rfl rfl (bT hc4) rfl) rfl <| p_v (v := .bool true) rfl rfl rfl (za5 (bT hc4) rfl) <| p_v (v := .bool true) rfl rfl rfl (zag rfl) <| za2 rfl rfl rfl <| za2 rfl rfl rfl <| za2 rfl rfl rfl <| za2 rfl rfl rfl <| za2 rfl rfl rfl ?_
  refine p_v (v := .bool true) rfl rfl rfl (za5 rfl rfl) <| zaa <| zb4 (b := true) rfl ?_
  simp only [if_true, if_false, Bool.false_eq_true]
  refine zab <| zad (l := [0]) rfl <| p_v (v := .bool false) rfl rfl rfl (zah rfl) <| zaa <| zar Tryd.func37 (res1 rfl (zax (v := .bool false) rfl)) ?_
  have q0 : (zbs m : Bool) = false := by
   exact right_no2 m (by assumption)
  refine ⟨_, rfl, (fun _ => none), ?_, ?_⟩
  · exact S2.sub [] (by decide) rfl _ rfl
  · first | rfl | (simp only [q0]; rfl) | (simp only [q0])
 refine p_v (v := .pointer (some ⟨b1, 3, none⟩)) rfl (wo 9 18 rfl rfl (bF hc4) rfl) rfl (zan fd27_3 ty25 rfl rfl) <| p_v (v := .slice A0_3 m.last.length c0_3) rfl (wo 9 18 rfl rfl (bF hc4) rfl) rfl (zal (seg := [.slice A0_3 m.last.length c0_3]) ty25 rfl (by simp) rfl (CF.box (m := 1) (S2.box_at (j := 0) rfl) rfl)) <| p_v (v := .int .i64 (m.last.length : Int)) rfl (wo 9 18 rfl rfl (bF hc4) rfl) rfl (za0 u25 rfl) <| p_v (v := .int .i64 (m.spots.length : Int)) rfl (wo 9 18 rfl rfl (bF hc4) rfl) rfl (zag rfl) <| p_v (v := .bool (decide ((m.last.length : Int) ≠ (m.spots.length : Int)))) rfl (wo 9 18 rfl rfl (bF hc4) rfl) rfl (x_neq rfl rfl) <| p_v (v := .bool (decide ((m.last.length : Int) ≠ (m.spots.length : Int)))) rfl rfl rfl (zbk (bF hc4) rfl) <| p_v (v := .bool (decide ((m.last.length : Int) ≠ (m.spots.length : Int)))) rfl rfl rfl (zag rfl) ?_
 by_cases hc5 : (m.last.length : Int) ≠ (m.spots.length : Int)
 ·skip
  refine za2 rfl (wo 16 25 rfl rfl (bT hc5) rfl) rfl <| za2 rfl (wo 16 25 rfl rfl (bT hc5) rfl) rfl <| za2 rfl (wo 16 25 rfl rfl (bT hc5) rfl) rfl <| za2 rfl (wo 16 25 rfl rfl (bT hc5) rfl) rfl <| za2 rfl (wo 16 25 rfl rfl (bT hc5) rfl) rfl <| p_v (v := .bool true) rfl rfl rfl (za5 (bT hc5) rfl) <| zaa <| zb4 (b := true) rfl ?_
  simp only [if_true, if_false, Bool.false_eq_true]
  refine zab <| zad (l := [0]) rfl <| p_v (v := .bool false) rfl rfl rfl (zah rfl) <| zaa <| zar Tryd.func37 (res1 rfl (zax (v := .bool false) rfl)) ?_
  have q0 : (zbs m : Bool) = false := by
   exact right_no3 m (by assumption)
  refine ⟨_, rfl, (fun _ => none), ?_, ?_⟩
  · exact S2.sub [] (by decide) rfl _ rfl
  · first | rfl | (simp only [q0]; rfl) | (simp only [q0])
 refine p_v (v := .pointer (some ⟨b1, 1, none⟩)) rfl (wo 16 25 rfl rfl (bF hc5) rfl) rfl (zan fd27_1 ty23 rfl rfl) <| p_v (v := .slice A0_1 m.first.length c0_1) rfl (wo 16 25 rfl rfl (bF hc5) rfl) rfl (zal (seg := [.slice A0_1 m.first.length c0_1]) ty23 rfl (by simp) rfl (CF.box (m := 1) (S2.box_at (j := 0) rfl) rfl)) <| p_v (v := .int .i64 (m.spots.length : Int)) rfl (wo 16 25 rfl rfl (bF hc5) rfl) rfl (zag rfl) <| p_c rfl (wo 16 25 rfl rfl (bF hc5) rfl) rfl (za6 (args := [.slice A0_1 m.first.length c0_1, .int .i64 (m.spots.length : Int)]) ca102 rfl rfl) (rising_calls w1 m.first A0_1 c0_1 b0_1 (l0_1.mono (St.le0 S2)) (m.spots.length : Int) (zao (by omega) (by omega))) ?_
 rintro _ w6 ⟨h6, T6, rfl⟩
 have S7 := S2.keep (Chg.of_below T6.below)
 refine p_v (v := .bool (!(zds (m.spots.length : Int) (-1) m.first))) rfl (wo 16 25 rfl rfl (bF hc5) rfl) rfl (ze2 rfl) <| p_v (v := .bool (!(zds (m.spots.length : Int) (-1) m.first))) rfl rfl rfl (zbk (bF hc5) rfl) <| zaa ?_
 refine zch (b := zds (m.spots.length : Int) (-1) m.first) rfl (fun hc8 => ?_) (fun hc8 => ?_)
 ·skip
  refine zab <| zad (l := [0]) rfl <| p_v (v := .bool false) rfl rfl rfl (zah rfl) <| zaa <| zar Tryd.func37 (res1 rfl (zax (v := .bool false) rfl)) ?_
  have q0 : (zbs m : Bool) = false := by
   exact right_no4 m (by assumption)
  refine ⟨_, rfl, (fun _ => none), ?_, ?_⟩
  · exact S7.sub [] (by decide) rfl _ rfl
  · first | rfl | (simp only [q0]; rfl) | (simp only [q0])
 refine zau <| zab <| zab <| zad (l := [0, 1, 2, 3]) rfl <| p_v (v := .pointer (some ⟨b1, 0, none⟩)) rfl rfl rfl (zan fd27_0 ty22 rfl rfl) <| p_v (v := .slice A0_0 m.spots.length c0_0) rfl rfl rfl (zal (seg := [.slice A0_0 m.spots.length c0_0]) ty22 rfl (by simp) rfl (CF.box (m := 1) (S7.box_at (j := 0) rfl) rfl)) <| p_v (v := .int .i64 (m.spots.length : Int)) rfl rfl rfl (za0 u22 rfl) <| p_v (v := .int .i64 0) rfl rfl rfl (zag rfl) <| zaa <| zas <| zbo (S := Int) (fun (q_ : Int) ρ w' => match q_ with | t35 => ∃ (h : Ghost), Le (fun _ => none) h ∧ St w.heap.size w h w' [box b1 27 [.slice A0_0 m.spots.length c0_0, .slice A0_1 m.first.length c0_1, .slice A0_2 m.follow.length c0_2, .slice A0_3 m.last.length c0_3, .bool m.empty]] ∧ ρ 1 = .pointer (some ⟨b1, 0, none⟩) ∧ ρ 3 = .int .i64 (m.spots.length : Int) ∧ ρ 33 = .slice A0_0 m.spots.length c0_0 ∧ ρ 34 = .int .i64 (m.spots.length : Int) ∧ ρ 35 = .int .i64 t35 ∧ inK .i64 t35 ∧ (0 ≤ t35 ∧ t35 ≤ (m.spots.length : Int) ∧ allTo (rowOk m) t35 = true)) (fun q_ => match q_ with | t35 => (m.spots.length - t35).toNat) (0) ⟨(fun _ => none), Le.refl _, S7.sub [0] (by decide) rfl _ rfl, rfl, rfl, rfl, rfl, rfl, (zao (by omega) (by omega)), (by exact ⟨by omega, by omega, allTo_0 _⟩)⟩ ?_
 rintro t35 ih9 ρ9 w9 ⟨h9, le9, S9, r9_1, r9_3, r9_33, r9_34, r9_35, f9_0, hI9⟩
 have lf9_0 := za7 f9_0; have hf9_0 := za8 f9_0
 refine zab <| zad (l := [0]) rfl <| p_v (v := .bool (decide (t35 < (m.spots.length : Int)))) rfl rfl rfl (zdc r9_35 r9_34) <| zaa <| zab ?_
 refine zap (p := t35 < (m.spots.length : Int)) rfl (fun hc10 => ?_) (fun hc10 => ?_)
 ·skip
  refine zau <| zab <| zas <| zab <| zad (l := [0, 1, 2, 3, 4, 5]) rfl <| p_v (v := .int .i64 t35) rfl rfl rfl (zag r9_35) ?_
  obtain ⟨ad11, seg11, a11, rp11, ce11⟩ := zaz (q := t35) (m := 5) l0_0 rfl (by omega) (by omega)
  refine p_v (v := .pointer (some ad11)) rfl rfl rfl (zaw u22 ty101 r9_33 r9_35 a11 (by omega) (by omega)) ?_
  obtain ⟨rfl, ok11⟩ := rp11
  have slook11 := zeu ok11; have shiok11 := zfa ok11
  refine p_v (v := .agg (zc3 (at_ m.spots t35)).toArray) rfl rfl rfl (zal (seg := (zc3 (at_ m.spots t35))) ty101 rfl (by simp) rfl (CF.ghost ce11 (St.le0 S9))) ?_
  obtain ⟨b12, w12, r12, g12, T12⟩ := zb2 (P := Tryd.prog) S9 101 (v := (.agg #[.int .u64 0, .int .u64 0, .int .u64 0, .int .u64 0, .int .u8 0])) (zc3 (⟨0, 0⟩ : Spot)) rfl
  have S13 := T12
  dsimp only [lAa, lAn, lA0, lAs] at S13
  refine p_v (v := .pointer (some ⟨b12, 0, none⟩)) rfl rfl rfl (zcj ty101 r12) <| p_v (v := .int .i64 t35) rfl rfl rfl (zah rfl) ?_
  obtain ⟨w14, r14, g14, T14⟩ := zcb (P := Tryd.prog) (off := 0) (v := .agg (zc3 (at_ m.spots t35)).toArray) (vs := (zc3 (at_ m.spots t35))) S13 ty101 rfl rfl (j := 1) rfl (by first | decide | exact Nat.le_of_ble_eq_true rfl) (encSpot_one _)
  have S15 := T14.fx 1 (box b12 101 (zc3 (at_ m.spots t35))) rfl
  dsimp only [lAa, lAn, lA0, lAs] at S15
  refine p_s rfl rfl (zbh rfl rfl r14) <| zaa <| zab <| zad (l := [0, 1, 2, 3, 4, 5, 6, 7, 8, 9, 10, 11, 12]) rfl <| p_v (v := .pointer (some ⟨b12, 4, none⟩)) rfl rfl rfl (zan fd101_1 ty5 rfl rfl) <| p_v (v := .int .u8 ((at_ m.spots t35).tag)) rfl rfl rfl (zal (seg := [.int .u8 ((at_ m.spots t35).tag)]) ty5 rfl (by simp) rfl (CF.box (m := 1) (S15.box_at (j := 1) rfl) rfl)) <| p_v (v := .bool (decide (2 < ((at_ m.spots t35).tag)))) rfl rfl rfl (x_gtr rfl rfl) <| p_v (v := .bool (decide (2 < ((at_ m.spots t35).tag)))) rfl rfl rfl (zag rfl) ?_
  by_cases hc16 : 2 < ((at_ m.spots t35).tag)
  ·skip
   refine za2 rfl (wo 3 43 rfl rfl (bT hc16) rfl) rfl <| za2 rfl (wo 3 43 rfl rfl (bT hc16) rfl) rfl <| za2 rfl (wo 3 43 rfl rfl (bT hc16) rfl) rfl <| za2 rfl (wo 3 43 rfl rfl (bT hc16) rfl) rfl <| za2 rfl (wo 3 43 rfl rfl (bT hc16) rfl) rfl <| za2 rfl (wo 3 43 rfl rfl (bT hc16) rfl) rfl <| za2 rfl (wo 3 43 rfl rfl (bT hc16) rfl) rfl <| za2 rfl (wo 3 43 rfl rfl (bT hc16) rfl) rfl <| p_v (v := .bool true) rfl rfl rfl (za5 (bT hc16) rfl) <| zaa <| zb4 (b := true) rfl ?_
   simp only [if_true, if_false, Bool.false_eq_true]
   refine zab <| zad (l := [0]) rfl <| p_v (v := .bool false) rfl rfl rfl (zah rfl) <| zaa <| zar Tryd.func37 (res1 rfl (zax (v := .bool false) rfl)) ?_
   have q0 : (zbs m : Bool) = false := by
    exact right_no5 m hI9.1 (by omega) (by assumption)
   refine ⟨_, rfl, h9, ?_, ?_⟩
   · exact S15.sub [] (by decide) rfl _ rfl
   · first | rfl | (simp only [q0]; rfl) | (simp only [q0])
  refine p_v (v := .pointer (some ⟨b1, 2, none⟩)) rfl (wo 3 43 rfl rfl (bF hc16) rfl) rfl (zan fd27_2 ty24 rfl r9_1) <| p_v (v := .slice A0_2 m.follow.length c0_2) rfl (wo 3 43 rfl rfl (bF hc16) rfl) rfl (zal (seg := [.slice A0_2 m.follow.length c0_2]) ty24 rfl (by simp) rfl (CF.box (m := 1) (S15.box_at (j := 0) rfl) rfl)) <| p_v (v := .int .i64 t35) rfl (wo 3 43 rfl rfl (bF hc16) rfl) rfl (zag rfl) ?_
  obtain ⟨ad17, seg17, a17, rp17, ce17⟩ := zaz (q := t35) (m := 1) l0_2 rfl (by omega) (by omega)
  refine p_v (v := .pointer (some ad17)) rfl (wo 3 43 rfl rfl (bF hc16) rfl) rfl (zaw u24 ty23 rfl rfl a17 (by omega) (by omega)) ?_
  obtain ⟨A17, c17, rfl, lc17, cm17, ld17⟩ := rp17
  have cn17 := cm17; simp only [maxLen] at cn17
  refine p_v (v := .slice A17 (at_ m.follow t35).length c17) rfl (wo 3 43 rfl rfl (bF hc16) rfl) rfl (zal (seg := [.slice A17 (at_ m.follow t35).length c17]) ty23 rfl (by simp) rfl (CF.ghost ce17 (St.le0 S15))) <| p_v (v := .int .i64 (m.spots.length : Int)) rfl (wo 3 43 rfl rfl (bF hc16) rfl) rfl (zag r9_3) <| p_c rfl (wo 3 43 rfl rfl (bF hc16) rfl) rfl (za6 (args := [.slice A17 (at_ m.follow t35).length c17, .int .i64 (m.spots.length : Int)]) ca102 rfl rfl) (rising_calls w14 (at_ m.follow t35) A17 c17 (And.intro lc17 cm17) (ld17.mono (St.le0 S15)) (m.spots.length : Int) (zao (by omega) (by omega))) ?_
  rintro _ w18 ⟨h18, T18, rfl⟩
  have S19 := S15.keep (Chg.of_below T18.below)
  refine p_v (v := .bool (!(zds (m.spots.length : Int) (-1) (at_ m.follow t35)))) rfl (wo 3 43 rfl rfl (bF hc16) rfl) rfl (ze2 rfl) <| p_v (v := .bool (!(zds (m.spots.length : Int) (-1) (at_ m.follow t35)))) rfl rfl rfl (zbk (bF hc16) rfl) <| zaa ?_
  refine zch (b := zds (m.spots.length : Int) (-1) (at_ m.follow t35)) rfl (fun hc20 => ?_) (fun hc20 => ?_)
  ·skip
   refine zab <| zad (l := [0]) rfl <| p_v (v := .bool false) rfl rfl rfl (zah rfl) <| zaa <| zar Tryd.func37 (res1 rfl (zax (v := .bool false) rfl)) ?_
   have q0 : (zbs m : Bool) = false := by
    exact right_no6 m hI9.1 (by omega) (by assumption)
   refine ⟨_, rfl, h9, ?_, ?_⟩
   · exact S19.sub [] (by decide) rfl _ rfl
   · first | rfl | (simp only [q0]; rfl) | (simp only [q0])
  refine zau <| zat <| zad (l := [0, 1]) rfl <| p_v (v := .int .i64 (t35 + 1)) rfl rfl rfl (zct r9_35 rfl (zao (by omega) (by omega))) <| p_v (v := .int .i64 (t35 + 1)) rfl rfl rfl (zag rfl) <| zaa ?_
  refine ih9 (t35 + 1) _ _ (by dsimp only; omega) ⟨h9, le9, S19.sub [0] (by decide) rfl _ rfl, r9_1, r9_3, r9_33, r9_34, rfl, (zao (by omega) (by omega)), (by exact ⟨by omega, by omega, allTo_step hI9.1 hI9.2.2 (by unfold rowOk; rw [Int.toNat_of_nonneg hI9.1, decide_eq_true (by omega), (by assumption : zds _ _ _ = true)]; rfl)⟩)⟩
 refine zbn rfl <| zab <| zad (l := [0]) rfl <| p_v (v := .bool true) rfl rfl rfl (zah rfl) <| zaa <| zar Tryd.func37 (res1 rfl (zax (v := .bool true) rfl)) ?_
 have q0 : (zbs m : Bool) = true := by
  exact right_ok m (by omega) (by assumption) (by assumption) (by assumption) (by assumption) hI9.2.2
 refine ⟨_, rfl, h9, ?_, ?_⟩
 · exact S9.sub [] (by decide) rfl _ rfl
 · (simp only [q0])
theorem right10_calls (w : World) (m : Mach) (A0_0 : Option Addr) (c0_0 : Nat) (b0_0 : m.spots.length ≤ c0_0 ∧ c0_0 ≤ maxLen) (l0_0 : zbe zel (hp w) A0_0 m.spots) (A0_1 : Option Addr) (c0_1 : Nat) (b0_1 : m.first.length ≤ c0_1 ∧ c0_1 ≤ maxLen) (l0_1 : zbe (Kd.int .i64) (hp w) A0_1 m.first) (A0_2 : Option Addr) (c0_2 : Nat) (b0_2 : m.follow.length ≤ c0_2 ∧ c0_2 ≤ maxLen) (l0_2 : zbe (Kd.int .i64).slice (hp w) A0_2 m.follow) (A0_3 : Option Addr) (c0_3 : Nat) (b0_3 : m.last.length ≤ c0_3 ∧ c0_3 ≤ maxLen) (l0_3 : zbe Kd.bool (hp w) A0_3 m.last) :
    Calls Tryd.prog 25 #[.agg #[.slice A0_0 m.spots.length c0_0, .slice A0_1 m.first.length c0_1, .slice A0_2 m.follow.length c0_2, .slice A0_3 m.last.length c0_3, .bool m.empty]] w fun e w' => ∃ v, e = .returned v ∧ ∃ (hn : Ghost), St w.heap.size w hn w' [] ∧ v = .bool (zbs m) := by
 refine zaq Tryd.func25 rfl Tryd.ntmps25 rfl ?_
 have S0 := St.init w
 have bb0_0 := b0_0.1; have bc0_0 := b0_0.2; simp only [maxLen] at bc0_0
 have bb0_1 := b0_1.1; have bc0_1 := b0_1.2; simp only [maxLen] at bc0_1
 have bb0_2 := b0_2.1; have bc0_2 := b0_2.2; simp only [maxLen] at bc0_2
 have bb0_3 := b0_3.1; have bc0_3 := b0_3.2; simp only [maxLen] at bc0_3
 refine zab <| zad (l := [0, 1]) rfl ?_
 obtain ⟨b1, w1, r1, g1, T1⟩ := zb2 (P := Tryd.prog) S0 27 (v := .agg #[.slice A0_0 m.spots.length c0_0, .slice A0_1 m.first.length c0_1, .slice A0_2 m.follow.length c0_2, .slice A0_3 m.last.length c0_3, .bool m.empty]) [.slice A0_0 m.spots.length c0_0, .slice A0_1 m.first.length c0_1, .slice A0_2 m.follow.length c0_2, .slice A0_3 m.last.length c0_3, .bool m.empty] rfl
 have S2 := T1
 dsimp only [lAa, lAn, lA0, lAs] at S2
 refine p_v (v := .pointer (some ⟨b1, 0, none⟩)) rfl rfl rfl (zc8 rfl r1) <| p_v (v := .bool false) rfl rfl rfl (zah rfl) <| zaa <| zab <| zad (l := [0, 1, 2, 3]) rfl <| p_v (v := .pointer (some ⟨b1, 0, none⟩)) rfl rfl rfl (zan fd27_0 ty22 rfl rfl) <| p_v (v := .slice A0_0 m.spots.length c0_0) rfl rfl rfl (zal (seg := [.slice A0_0 m.spots.length c0_0]) ty22 rfl (by simp) rfl (CF.box (m := 1) (S2.box_at (j := 0) rfl) rfl)) <| p_v (v := .int .i64 (m.spots.length : Int)) rfl rfl rfl (za0 u22 rfl) <| p_v (v := .int .i64 (m.spots.length : Int)) rfl rfl rfl (zah rfl) <| zaa <| zab <| zab ?_
 refine zad (l := [0, 1, 2, 3, 4, 5, 6, 7, 8, 9, 10, 11, 12, 13, 14, 15, 16, 17, 18, 19, 20, 21, 22]) rfl <| p_v (v := .int .i64 (m.spots.length : Int)) rfl rfl rfl (zag rfl) <| p_v (v := .bool (decide (250 < (m.spots.length : Int)))) rfl rfl rfl (x_gtr rfl rfl) <| p_v (v := .bool (decide (250 < (m.spots.length : Int)))) rfl rfl rfl (zag rfl) ?_
 by_cases hc3 : 250 < (m.spots.length : Int)
 ·skip
  refine za2 rfl (wo 2 10 rfl rfl (bT hc3) rfl) rfl <| za2 rfl (wo 2 10 rfl rfl (bT hc3) rfl) rfl <| za2 rfl (wo 2 10 rfl rfl (bT hc3) rfl) rfl <| za2 rfl (wo 2 10 rfl rfl (bT hc3) rfl) rfl <| za2 rfl (wo 2 10 rfl rfl (bT hc3) rfl) rfl <| p_v (v := .bool true) rfl rfl rfl (za5 (bT hc3) rfl) <| p_v (v := .bool true) rfl rfl rfl (zag rfl) <| za2 rfl rfl rfl <| za2 rfl rfl rfl <| za2 rfl rfl rfl <| za2 rfl rfl rfl <| za2 rfl rfl rfl ?_
  refine p_v (v := .bool true) rfl rfl rfl (za5 rfl rfl) <| p_v (v := .bool true) rfl rfl rfl (zag rfl) <| za2 rfl rfl rfl <| za2 rfl rfl rfl <| za2 rfl rfl rfl <| za2 rfl rfl rfl <| za2 rfl rfl rfl <| p_v (v := .bool true) rfl rfl rfl (za5 rfl rfl) <| zaa <| zb4 (b := true) rfl ?_
  simp only [if_true, if_false, Bool.false_eq_true]
  refine zab <| zad (l := [0]) rfl <| p_v (v := .bool false) rfl rfl rfl (zah rfl) <| zaa <| zar Tryd.func25 (res1 rfl (zax (v := .bool false) rfl)) ?_
  have q0 : (zbs m : Bool) = false := by
   exact right_no1 m (by assumption)
  refine ⟨_, rfl, (fun _ => none), ?_, ?_⟩
  · exact S2.sub [] (by decide) rfl _ rfl
  · first | rfl | (simp only [q0]; rfl) | (simp only [q0])
 refine p_v (v := .pointer (some ⟨b1, 2, none⟩)) rfl (wo 2 10 rfl rfl (bF hc3) rfl) rfl (zan fd27_2 ty24 rfl rfl) <| p_v (v := .slice A0_2 m.follow.length c0_2) rfl (wo 2 10 rfl rfl (bF hc3) rfl) rfl (zal (seg := [.slice A0_2 m.follow.length c0_2]) ty24 rfl (by simp) rfl (CF.box (m := 1) (S2.box_at (j := 0) rfl) rfl)) <| p_v (v := .int .i64 (m.follow.length : Int)) rfl (wo 2 10 rfl rfl (bF hc3) rfl) rfl (za0 u24 rfl) <| p_v (v := .int .i64 (m.spots.length : Int)) rfl (wo 2 10 rfl rfl (bF hc3) rfl) rfl (zag rfl) <| p_v (v := .bool (decide ((m.follow.length : Int) ≠ (m.spots.length : Int)))) rfl (wo 2 10 rfl rfl (bF hc3) rfl) rfl (x_neq rfl rfl) <| p_v (v := .bool (decide ((m.follow.length : Int) ≠ (m.spots.length : Int)))) rfl rfl rfl (zbk (bF hc3) rfl) <| p_v (v := .bool (decide ((m.follow.length : Int) ≠ (m.spots.length : Int)))) rfl rfl rfl (zag rfl) ?_
 by_cases hc4 : (m.follow.length : Int) ≠ (m.spots.length : Int)
 ·skip
  refine za2 rfl (wo 9 17 rfl rfl (bT hc4) rfl) rfl <| za2 rfl (wo 9 17 rfl rfl (bT hc4) rfl) rfl <| za2 rfl (wo 9 17 rfl rfl (bT hc4) rfl) rfl <| za2 rfl (wo 9 17 rfl rfl (bT hc4) rfl) rfl <| za2 rfl (wo 9 17 rfl rfl (bT hc4) rfl) rfl <| p_v (v := .bool true) rfl rfl rfl (za5 (bT hc4) rfl) <| p_v (v := .bool true) rfl rfl rfl (zag rfl) <| za2 rfl rfl rfl <| za2 rfl rfl rfl <| za2 rfl rfl rfl <| za2 rfl rfl rfl <| za2 rfl rfl rfl ?_
  refine p_v (v := .bool true) rfl rfl rfl (za5 rfl rfl) <| zaa <| zb4 (b := true) rfl ?_
  simp only [if_true, if_false, Bool.false_eq_true]
  refine zab <| zad (l := [0]) rfl <| p_v (v := .bool false) rfl rfl rfl (zah rfl) <| zaa <| zar Tryd.func25 (res1 rfl (zax (v := .bool false) rfl)) ?_
  have q0 : (zbs m : Bool) = false := by
   exact right_no2 m (by assumption)
  refine ⟨_, rfl, (fun _ => none), ?_, ?_⟩
  · exact S2.sub [] (by decide) rfl _ rfl
  · first | rfl | (simp only [q0]; rfl) | (simp only [q0])
 refine p_v (v := .pointer (some ⟨b1, 3, none⟩)) rfl (wo 9 17 rfl rfl (bF hc4) rfl) rfl (zan fd27_3 ty25 rfl rfl) <| p_v (v := .slice A0_3 m.last.length c0_3) rfl (wo 9 17 rfl rfl (bF hc4) rfl) rfl (zal (seg := [.slice A0_3 m.last.length c0_3]) ty25 rfl (by simp) rfl (CF.box (m := 1) (S2.box_at (j := 0) rfl) rfl)) <| p_v (v := .int .i64 (m.last.length : Int)) rfl (wo 9 17 rfl rfl (bF hc4) rfl) rfl (za0 u25 rfl) <| p_v (v := .int .i64 (m.spots.length : Int)) rfl (wo 9 17 rfl rfl (bF hc4) rfl) rfl (zag rfl) <| p_v (v := .bool (decide ((m.last.length : Int) ≠ (m.spots.length : Int)))) rfl (wo 9 17 rfl rfl (bF hc4) rfl) rfl (x_neq rfl rfl) <| p_v (v := .bool (decide ((m.last.length : Int) ≠ (m.spots.length : Int)))) rfl rfl rfl (zbk (bF hc4) rfl) <| p_v (v := .bool (decide ((m.last.length : Int) ≠ (m.spots.length : Int)))) rfl rfl rfl (zag rfl) ?_
 by_cases hc5 : (m.last.length : Int) ≠ (m.spots.length : Int)
 ·skip
  refine za2 rfl (wo 16 24 rfl rfl (bT hc5) rfl) rfl <| za2 rfl (wo 16 24 rfl rfl (bT hc5) rfl) rfl <| za2 rfl (wo 16 24 rfl rfl (bT hc5) rfl) rfl <| za2 rfl (wo 16 24 rfl rfl (bT hc5) rfl) rfl <| za2 rfl (wo 16 24 rfl rfl (bT hc5) rfl) rfl <| p_v (v := .bool true) rfl rfl rfl (za5 (bT hc5) rfl) <| zaa <| zb4 (b := true) rfl ?_
  simp only [if_true, if_false, Bool.false_eq_true]
  refine zab <| zad (l := [0]) rfl <| p_v (v := .bool false) rfl rfl rfl (zah rfl) <| zaa <| zar Tryd.func25 (res1 rfl (zax (v := .bool false) rfl)) ?_
  have q0 : (zbs m : Bool) = false := by
   exact right_no3 m (by assumption)
  refine ⟨_, rfl, (fun _ => none), ?_, ?_⟩
  · exact S2.sub [] (by decide) rfl _ rfl
  · first | rfl | (simp only [q0]; rfl) | (simp only [q0])
 refine p_v (v := .pointer (some ⟨b1, 1, none⟩)) rfl (wo 16 24 rfl rfl (bF hc5) rfl) rfl (zan fd27_1 ty23 rfl rfl) <| p_v (v := .slice A0_1 m.first.length c0_1) rfl (wo 16 24 rfl rfl (bF hc5) rfl) rfl (zal (seg := [.slice A0_1 m.first.length c0_1]) ty23 rfl (by simp) rfl (CF.box (m := 1) (S2.box_at (j := 0) rfl) rfl)) <| p_v (v := .int .i64 (m.spots.length : Int)) rfl (wo 16 24 rfl rfl (bF hc5) rfl) rfl (zag rfl) <| p_c rfl (wo 16 24 rfl rfl (bF hc5) rfl) rfl (za6 (args := [.slice A0_1 m.first.length c0_1, .int .i64 (m.spots.length : Int)]) ca88 rfl rfl) (list10_calls w1 m.first A0_1 c0_1 b0_1 (l0_1.mono (St.le0 S2)) (m.spots.length : Int) (zao (by omega) (by omega))) ?_
 rintro _ w6 ⟨h6, T6, rfl⟩
 have S7 := S2.keep (Chg.of_below T6.below)
 refine p_v (v := .bool (!(zds (m.spots.length : Int) (-1) m.first))) rfl (wo 16 24 rfl rfl (bF hc5) rfl) rfl (ze2 rfl) <| p_v (v := .bool (!(zds (m.spots.length : Int) (-1) m.first))) rfl rfl rfl (zbk (bF hc5) rfl) <| zaa ?_
 refine zch (b := zds (m.spots.length : Int) (-1) m.first) rfl (fun hc8 => ?_) (fun hc8 => ?_)
 ·skip
  refine zab <| zad (l := [0]) rfl <| p_v (v := .bool false) rfl rfl rfl (zah rfl) <| zaa <| zar Tryd.func25 (res1 rfl (zax (v := .bool false) rfl)) ?_
  have q0 : (zbs m : Bool) = false := by
   exact right_no4 m (by assumption)
  refine ⟨_, rfl, (fun _ => none), ?_, ?_⟩
  · exact S7.sub [] (by decide) rfl _ rfl
  · first | rfl | (simp only [q0]; rfl) | (simp only [q0])
 refine zau <| zab <| zab <| zad (l := [0]) rfl <| p_v (v := .int .i64 0) rfl rfl rfl (zah rfl) <| zaa <| zas <| zbo (S := Int) (fun (q_ : Int) ρ w' => match q_ with | i => ∃ (h : Ghost), Le (fun _ => none) h ∧ St w.heap.size w h w' [box b1 27 [.slice A0_0 m.spots.length c0_0, .slice A0_1 m.first.length c0_1, .slice A0_2 m.follow.length c0_2, .slice A0_3 m.last.length c0_3, .bool m.empty]] ∧ ρ 1 = .pointer (some ⟨b1, 0, none⟩) ∧ ρ 3 = .int .i64 (m.spots.length : Int) ∧ ρ 4 = .int .i64 i ∧ inK .i64 i ∧ (0 ≤ i ∧ i ≤ (m.spots.length : Int) ∧ allTo (rowOk m) i = true)) (fun q_ => match q_ with | i => (m.spots.length - i).toNat) (0) ⟨(fun _ => none), Le.refl _, S7.sub [0] (by decide) rfl _ rfl, rfl, rfl, rfl, (zao (by omega) (by omega)), (by exact ⟨by omega, by omega, allTo_0 _⟩)⟩ ?_
 rintro i ih9 ρ9 w9 ⟨h9, le9, S9, r9_1, r9_3, r9_4, f9_0, hI9⟩
 have lf9_0 := za7 f9_0; have hf9_0 := za8 f9_0
 refine zab <| zab <| zad (l := [0, 1, 2]) rfl <| p_v (v := .int .i64 i) rfl rfl rfl (zag r9_4) <| p_v (v := .int .i64 (m.spots.length : Int)) rfl rfl rfl (zag r9_3) <| p_v (v := .bool (decide (i < (m.spots.length : Int)))) rfl rfl rfl (zdc rfl rfl) <| zaa ?_
 refine zap (p := i < (m.spots.length : Int)) rfl (fun hc10 => ?_) (fun hc10 => ?_)
 ·skip
  refine zau <| zab <| zas <| zab <| zad (l := [0, 1, 2, 3, 4, 5, 6, 7, 8, 9, 10, 11, 12, 13, 14, 15, 16]) rfl <| p_v (v := .pointer (some ⟨b1, 0, none⟩)) rfl rfl rfl (zan fd27_0 ty22 rfl r9_1) <| p_v (v := .slice A0_0 m.spots.length c0_0) rfl rfl rfl (zal (seg := [.slice A0_0 m.spots.length c0_0]) ty22 rfl (by simp) rfl (CF.box (m := 1) (S9.box_at (j := 0) rfl) rfl)) <| p_v (v := .int .i64 i) rfl rfl rfl (zag r9_4) ?_
  obtain ⟨ad11, seg11, a11, rp11, ce11⟩ := zaz (q := i) (m := 5) l0_0 rfl (by omega) (by omega)
  refine p_v (v := .pointer (some ad11)) rfl rfl rfl (zaw u22 ty101 rfl rfl a11 (by omega) (by omega)) ?_
  obtain ⟨rfl, ok11⟩ := rp11
  have slook11 := zeu ok11; have shiok11 := zfa ok11
  refine p_v (v := .pointer (some (ad11.add 4))) rfl rfl rfl (zcx fd101_1 ty5 rfl rfl) <| p_v (v := .int .u8 ((at_ m.spots i).tag)) rfl rfl rfl (zal (seg := [.int .u8 ((at_ m.spots i).tag)]) ty5 rfl (by simp) rfl (CF.ghost (zdp (o := 4) (m := 1) (ds := [.int .u8 ((at_ m.spots i).tag)]) ce11 rfl) (St.le0 S9))) <| p_v (v := .bool (decide (2 < ((at_ m.spots i).tag)))) rfl rfl rfl (x_gtr rfl rfl) <| p_v (v := .bool (decide (2 < ((at_ m.spots i).tag)))) rfl rfl rfl (zag rfl) ?_
  by_cases hc13 : 2 < ((at_ m.spots i).tag)
  ·skip
   refine za2 rfl (wo 7 43 rfl rfl (bT hc13) rfl) rfl <| za2 rfl (wo 7 43 rfl rfl (bT hc13) rfl) rfl <| za2 rfl (wo 7 43 rfl rfl (bT hc13) rfl) rfl <| za2 rfl (wo 7 43 rfl rfl (bT hc13) rfl) rfl <| za2 rfl (wo 7 43 rfl rfl (bT hc13) rfl) rfl <| za2 rfl (wo 7 43 rfl rfl (bT hc13) rfl) rfl <| za2 rfl (wo 7 43 rfl rfl (bT hc13) rfl) rfl <| za2 rfl (wo 7 43 rfl rfl (bT hc13) rfl) rfl <| p_v (v := .bool true) rfl rfl rfl (za5 (bT hc13) rfl) <| zaa <| zb4 (b := true) rfl ?_
   simp only [if_true, if_false, Bool.false_eq_true]
   refine zab <| zad (l := [0]) rfl <| p_v (v := .bool false) rfl rfl rfl (zah rfl) <| zaa <| zar Tryd.func25 (res1 rfl (zax (v := .bool false) rfl)) ?_
   have q0 : (zbs m : Bool) = false := by
    exact right_no5 m hI9.1 (by omega) (by assumption)
   refine ⟨_, rfl, h9, ?_, ?_⟩
   · exact S9.sub [] (by decide) rfl _ rfl
   · first | rfl | (simp only [q0]; rfl) | (simp only [q0])
  refine p_v (v := .pointer (some ⟨b1, 2, none⟩)) rfl (wo 7 43 rfl rfl (bF hc13) rfl) rfl (zan fd27_2 ty24 rfl r9_1) <| p_v (v := .slice A0_2 m.follow.length c0_2) rfl (wo 7 43 rfl rfl (bF hc13) rfl) rfl (zal (seg := [.slice A0_2 m.follow.length c0_2]) ty24 rfl (by simp) rfl (CF.box (m := 1) (S9.box_at (j := 0) rfl) rfl)) <| p_v (v := .int .i64 i) rfl (wo 7 43 rfl rfl (bF hc13) rfl) rfl (zag r9_4) ?_
  obtain ⟨ad14, seg14, a14, rp14, ce14⟩ := zaz (q := i) (m := 1) l0_2 rfl (by omega) (by omega)
  refine p_v (v := .pointer (some ad14)) rfl (wo 7 43 rfl rfl (bF hc13) rfl) rfl (zaw u24 ty23 rfl rfl a14 (by omega) (by omega)) ?_
  obtain ⟨A14, c14, rfl, lc14, cm14, ld14⟩ := rp14
  have cn14 := cm14; simp only [maxLen] at cn14
  refine p_v (v := .slice A14 (at_ m.follow i).length c14) rfl (wo 7 43 rfl rfl (bF hc13) rfl) rfl (zal (seg := [.slice A14 (at_ m.follow i).length c14]) ty23 rfl (by simp) rfl (CF.ghost ce14 (St.le0 S9))) <| p_v (v := .int .i64 (m.spots.length : Int)) rfl (wo 7 43 rfl rfl (bF hc13) rfl) rfl (zag r9_3) <| p_c rfl (wo 7 43 rfl rfl (bF hc13) rfl) rfl (za6 (args := [.slice A14 (at_ m.follow i).length c14, .int .i64 (m.spots.length : Int)]) ca88 rfl rfl) (list10_calls w9 (at_ m.follow i) A14 c14 (And.intro lc14 cm14) (ld14.mono (St.le0 S9)) (m.spots.length : Int) (zao (by omega) (by omega))) ?_
  rintro _ w15 ⟨h15, T15, rfl⟩
  have S16 := S9.keep (Chg.of_below T15.below)
  refine p_v (v := .bool (!(zds (m.spots.length : Int) (-1) (at_ m.follow i)))) rfl (wo 7 43 rfl rfl (bF hc13) rfl) rfl (ze2 rfl) <| p_v (v := .bool (!(zds (m.spots.length : Int) (-1) (at_ m.follow i)))) rfl rfl rfl (zbk (bF hc13) rfl) <| zaa ?_
  refine zch (b := zds (m.spots.length : Int) (-1) (at_ m.follow i)) rfl (fun hc17 => ?_) (fun hc17 => ?_)
  ·skip
   refine zab <| zad (l := [0]) rfl <| p_v (v := .bool false) rfl rfl rfl (zah rfl) <| zaa <| zar Tryd.func25 (res1 rfl (zax (v := .bool false) rfl)) ?_
   have q0 : (zbs m : Bool) = false := by
    exact right_no6 m hI9.1 (by omega) (by assumption)
   refine ⟨_, rfl, h9, ?_, ?_⟩
   · exact S16.sub [] (by decide) rfl _ rfl
   · first | rfl | (simp only [q0]; rfl) | (simp only [q0])
  refine zau <| zat <| zad (l := [0, 1, 2]) rfl <| p_v (v := .int .i64 i) rfl rfl rfl (zag r9_4) <| p_v (v := .int .i64 (i + 1)) rfl rfl rfl (zct rfl rfl (zao (by omega) (by omega))) <| p_v (v := .int .i64 (i + 1)) rfl rfl rfl (zah rfl) <| zaa ?_
  refine ih9 (i + 1) _ _ (by dsimp only; omega) ⟨h9, le9, S16.sub [0] (by decide) rfl _ rfl, r9_1, r9_3, rfl, (zao (by omega) (by omega)), (by exact ⟨by omega, by omega, allTo_step hI9.1 hI9.2.2 (by unfold rowOk; rw [Int.toNat_of_nonneg hI9.1, decide_eq_true (by omega), (by assumption : zds _ _ _ = true)]; rfl)⟩)⟩
 refine zbn rfl <| zab <| zad (l := [0]) rfl <| p_v (v := .bool true) rfl rfl rfl (zah rfl) <| zaa <| zar Tryd.func25 (res1 rfl (zax (v := .bool true) rfl)) ?_
 have q0 : (zbs m : Bool) = true := by
  exact right_ok m (by omega) (by assumption) (by assumption) (by assumption) (by assumption) hI9.2.2
 refine ⟨_, rfl, h9, ?_, ?_⟩
 · exact S9.sub [] (by decide) rfl _ rfl
 · (simp only [q0])
theorem step_calls (w : World) (m : Mach) (A0_0 : Option Addr) (c0_0 : Nat) (b0_0 : m.spots.length ≤ c0_0 ∧ c0_0 ≤ maxLen) (l0_0 : zbe zel (hp w) A0_0 m.spots) (A0_1 : Option Addr) (c0_1 : Nat) (b0_1 : m.first.length ≤ c0_1 ∧ c0_1 ≤ maxLen) (l0_1 : zbe (Kd.int .i64) (hp w) A0_1 m.first) (A0_2 : Option Addr) (c0_2 : Nat) (b0_2 : m.follow.length ≤ c0_2 ∧ c0_2 ≤ maxLen) (l0_2 : zbe (Kd.int .i64).slice (hp w) A0_2 m.follow) (A0_3 : Option Addr) (c0_3 : Nat) (b0_3 : m.last.length ≤ c0_3 ∧ c0_3 ≤ maxLen) (l0_3 : zbe Kd.bool (hp w) A0_3 m.last) (xat : List Int) (A1 : Option Addr) (c1 : Nat) (b1 : xat.length ≤ c1 ∧ c1 ≤ maxLen) (l1 : zbe (Kd.int .i64) (hp w) A1 xat) (first : Bool) (c : Int) (i3 : inK .u8 c) (pre0 : Right m ∧ ∀ x ∈ xat, 0 ≤ x ∧ x < (m.spots.length : Int)) :
    Calls Tryd.prog 139 #[.agg #[.slice A0_0 m.spots.length c0_0, .slice A0_1 m.first.length c0_1, .slice A0_2 m.follow.length c0_2, .slice A0_3 m.last.length c0_3, .bool m.empty], .slice A1 xat.length c1, .bool first, .int .u8 c] w fun e w' => ∃ v, e = .returned v ∧ ∃ (hn : Ghost) (r0 : Value), St w.heap.size w hn w' [row 3 (Kd.int .i64) r0 (stepP m xat first c)] ∧ v = r0 := by
 refine zaq Tryd.func139 rfl Tryd.ntmps139 rfl ?_
 have S0 := St.init w
 have bb0_0 := b0_0.1; have bc0_0 := b0_0.2; simp only [maxLen] at bc0_0
 have bb0_1 := b0_1.1; have bc0_1 := b0_1.2; simp only [maxLen] at bc0_1
 have bb0_2 := b0_2.1; have bc0_2 := b0_2.2; simp only [maxLen] at bc0_2
 have bb0_3 := b0_3.1; have bc0_3 := b0_3.2; simp only [maxLen] at bc0_3
 have bb1 := b1.1; have bc1 := b1.2; simp only [maxLen] at bc1
 have lo3 := zeu i3; have hi3 := zfa i3
 have hsm_ := pre0.1.small; have hfo_ := pre0.1.follow; have hla_ := pre0.1.last
 refine zab <| zad (l := [0, 1]) rfl ?_
 obtain ⟨b1, w1, r1, g1, T1⟩ := zb2 (P := Tryd.prog) S0 27 (v := .agg #[.slice A0_0 m.spots.length c0_0, .slice A0_1 m.first.length c0_1, .slice A0_2 m.follow.length c0_2, .slice A0_3 m.last.length c0_3, .bool m.empty]) [.slice A0_0 m.spots.length c0_0, .slice A0_1 m.first.length c0_1, .slice A0_2 m.follow.length c0_2, .slice A0_3 m.last.length c0_3, .bool m.empty] rfl
 have S2 := T1
 dsimp only [lAa, lAn, lA0, lAs] at S2
 refine p_v (v := .pointer (some ⟨b1, 0, none⟩)) rfl rfl rfl (zc8 rfl r1) <| p_v (v := .slice none 0 0) rfl rfl rfl (zah rfl) <| zaa <| zab <| zad (l := [0]) rfl <| p_v (v := .slice none 0 0) rfl rfl rfl (zah rfl) <| zaa <| zab <| zab <| zad (l := [0]) rfl <| p_v (v := .int .i64 0) rfl rfl rfl (zah rfl) <| zaa ?_
 refine zas ?_
 have T3 := S2.row_nil 3 (Kd.int .i64)
 obtain ⟨vn3, ev3, T3⟩ : ∃ v, v = (.slice none 0 0 : Value) ∧ St w.heap.size w (fun _ => none) w1 ([box b1 27 [.slice A0_0 m.spots.length c0_0, .slice A0_1 m.first.length c0_1, .slice A0_2 m.follow.length c0_2, .slice A0_3 m.last.length c0_3, .bool m.empty]] ++ [row 3 (Kd.int .i64) v []]) := ⟨_, rfl, T3⟩
 have S4 := T3
 dsimp only [lAa, lAn, lA0, lAs] at S4
 refine zbo (S := (List Int) × Int) (fun (q_ : (List Int) × Int) ρ w' => match q_ with | (out, n) => ∃ (h : Ghost) (v_out : Value), Le (fun _ => none) h ∧ St w.heap.size w h w' [box b1 27 [.slice A0_0 m.spots.length c0_0, .slice A0_1 m.first.length c0_1, .slice A0_2 m.follow.length c0_2, .slice A0_3 m.last.length c0_3, .bool m.empty], row 3 (Kd.int .i64) v_out out] ∧ ρ 1 = .slice A1 xat.length c1 ∧ ρ 2 = .bool first ∧ ρ 3 = .int .u8 c ∧ ρ 4 = .pointer (some ⟨b1, 0, none⟩) ∧ ρ 9 = v_out ∧ ρ 10 = .int .i64 n ∧ inK .i64 n ∧ (0 ≤ n ∧ n ≤ (m.spots.length : Int) ∧ out = zep (zdt m xat first c) n)) (fun q_ => match q_ with | (out, n) => (m.spots.length - n).toNat) (([] : List Int), 0) ⟨(fun _ => none), vn3, Le.refl _, S4.sub [0, 1] (by decide) rfl _ rfl, rfl, rfl, rfl, rfl, (ev3.symm), rfl, (zao (by omega) (by omega)), (by exact ⟨by omega, by omega, (posTo_0 _).symm⟩)⟩ ?_
 rintro ⟨out, n⟩ ih5 ρ5 w5 ⟨h5, v_out, le5, S5, r5_1, r5_2, r5_3, r5_4, r5_9, r5_10, f5_0, hI5⟩
 have lf5_0 := za7 f5_0; have hf5_0 := za8 f5_0
 have rl5_1 := S5.row_le (j := 1) rfl; simp only [maxLen] at rl5_1
 have hl_ : (out.length : Int) ≤ n := by rw [hI5.2.2]; exact posTo_len _ hI5.1
 refine zab <| zab <| zad (l := [0, 1, 2, 3, 4]) rfl <| p_v (v := .int .i64 n) rfl rfl rfl (zag r5_10) <| p_v (v := .pointer (some ⟨b1, 0, none⟩)) rfl rfl rfl (zan fd27_0 ty22 rfl r5_4) <| p_v (v := .slice A0_0 m.spots.length c0_0) rfl rfl rfl (zal (seg := [.slice A0_0 m.spots.length c0_0]) ty22 rfl (by simp) rfl (CF.box (m := 1) (S5.box_at (j := 0) rfl) rfl)) <| p_v (v := .int .i64 (m.spots.length : Int)) rfl rfl rfl (za0 u22 rfl) <| p_v (v := .bool (decide (n < (m.spots.length : Int)))) rfl rfl rfl (zdc rfl rfl) <| zaa ?_
 refine zap (p := n < (m.spots.length : Int)) rfl (fun hc6 => ?_) (fun hc6 => ?_)
 ·skip
  refine zau <| zab <| zas <| zab <| zad (l := [0, 1, 2, 3, 4, 5, 6, 7]) rfl <| p_v (v := .bool first) rfl rfl rfl (zag r5_2) <| p_v (v := .bool first) rfl rfl rfl (zag rfl) ?_
  rcases Bool.eq_false_or_eq_true first with hc7 | hc7
  ·skip
   refine p_v (v := .pointer (some ⟨b1, 1, none⟩)) rfl (wo 1 21 rfl rfl (congrArg Value.bool hc7) rfl) rfl (zan fd27_1 ty23 rfl r5_4) <| p_v (v := .slice A0_1 m.first.length c0_1) rfl (wo 1 21 rfl rfl (congrArg Value.bool hc7) rfl) rfl (zal (seg := [.slice A0_1 m.first.length c0_1]) ty23 rfl (by simp) rfl (CF.box (m := 1) (S5.box_at (j := 0) rfl) rfl)) <| p_v (v := .int .i64 n) rfl (wo 1 21 rfl rfl (congrArg Value.bool hc7) rfl) rfl (zag r5_10) <| p_c rfl (wo 1 21 rfl rfl (congrArg Value.bool hc7) rfl) rfl (za6 (args := [.slice A0_1 m.first.length c0_1, .int .i64 n]) ca163 rfl rfl) (hasn_calls w5 m.first A0_1 c0_1 b0_1 (l0_1.mono (St.le0 S5)) n f5_0) ?_
   rintro _ w8 ⟨h8, T8, rfl⟩
   have S9 := S5.keep (Chg.of_below T8.below)
   refine p_v (v := .bool (decide (n ∈ m.first))) rfl rfl rfl (za5 (congrArg Value.bool hc7) rfl) <| p_v (v := .bool (decide (n ∈ m.first))) rfl rfl rfl (zah rfl) <| zaa <| zab <| zab <| zad (l := [0]) rfl <| p_v (v := .int .i64 0) rfl rfl rfl (zah rfl) <| zaa <| zas <| zbo (S := Bool × Int) (fun (q_ : Bool × Int) ρ w' => match q_ with | (may, i) => ∃ (h : Ghost), Le h5 h ∧ St w.heap.size w h w' [box b1 27 [.slice A0_0 m.spots.length c0_0, .slice A0_1 m.first.length c0_1, .slice A0_2 m.follow.length c0_2, .slice A0_3 m.last.length c0_3, .bool m.empty], row 3 (Kd.int .i64) v_out out] ∧ ρ 1 = .slice A1 xat.length c1 ∧ ρ 2 = .bool true ∧ ρ 3 = .int .u8 c ∧ ρ 4 = .pointer (some ⟨b1, 0, none⟩) ∧ ρ 9 = v_out ∧ ρ 10 = .int .i64 n ∧ ρ 11 = .bool may ∧ ρ 12 = .int .i64 i ∧ inK .i64 i ∧ (0 ≤ i ∧ i ≤ (xat.length : Int) ∧ may = mayTo m xat first n i)) (fun q_ => match q_ with | (may, i) => (xat.length - i).toNat) (decide (n ∈ m.first), 0) ⟨h5, Le.refl _, S9.sub [0, 1] (by decide) rfl _ rfl, r5_1, (r5_2.trans (congrArg Value.bool hc7)), r5_3, r5_4, r5_9, r5_10, rfl, rfl, (zao (by omega) (by omega)), (by exact ⟨by omega, by omega, by rw [← may_0]; first | (rw [(by assumption : first = true)]; rfl) | (rw [(by assumption : first = false)]; rfl)⟩)⟩ ?_
   rintro ⟨may, i⟩ ih10 ρ10 w10 ⟨h10, le10, S10, r10_1, r10_2, r10_3, r10_4, r10_9, r10_10, r10_11, r10_12, f10_0, hI10⟩
   have lf10_0 := za7 f10_0; have hf10_0 := za8 f10_0
   have rl10_1 := S10.row_le (j := 1) rfl; simp only [maxLen] at rl10_1
   have hx_ : i < (xat.length : Int) → 0 ≤ at_ xat i ∧ at_ xat i < (m.spots.length : Int) := fun h => pre0.2 _ (zdv hI10.1 h)
   refine zab <| zab <| zad (l := [0, 1, 2, 3, 4, 5, 6, 7]) rfl <| p_v (v := .int .i64 i) rfl rfl rfl (zag r10_12) <| p_v (v := .slice A1 xat.length c1) rfl rfl rfl (zag r10_1) <| p_v (v := .int .i64 (xat.length : Int)) rfl rfl rfl (za0 u23 rfl) <| p_v (v := .bool (decide (i < (xat.length : Int)))) rfl rfl rfl (zdc rfl rfl) <| p_v (v := .bool (decide (i < (xat.length : Int)))) rfl rfl rfl (zag rfl) ?_
   by_cases hc11 : i < (xat.length : Int)
   ·skip
    refine p_v (v := .bool may) rfl (wo 4 31 rfl rfl (bT hc11) rfl) rfl (zag r10_11) <| p_v (v := .bool (!may)) rfl (wo 4 31 rfl rfl (bT hc11) rfl) rfl (ze2 rfl) <| p_v (v := .bool (!may)) rfl rfl rfl (za5 (bT hc11) rfl) <| zaa ?_
    refine zch (b := may) rfl (fun hc12 => ?_) (fun hc12 => ?_)
    ·skip
     refine zau <| zab <| zas ?_
     obtain ⟨ad13, seg13, a13, rp13, ce13⟩ := zaz (q := i) (m := 1) l1 rfl (by omega) (by omega)
     obtain ⟨rfl, in13⟩ := rp13
     have lo13 := za7 in13; have hi13 := za8 in13
     obtain ⟨ad14, seg14, a14, rp14, ce14⟩ := zaz (q := at_ xat i) (m := 1) l0_2 rfl (by omega) (by omega)
     obtain ⟨A14, c14, rfl, lc14, cm14, ld14⟩ := rp14
     have cn14 := cm14; simp only [maxLen] at cn14
     have hf16 : (CFs ⟨b1, 2, none⟩ [.slice A0_2 m.follow.length c0_2]).1 w10 := (CF.box (m := 1) (S10.box_at (j := 0) rfl) rfl)
     have hf17 : (CFs ad13 [.int .i64 (at_ xat i)]).1 w10 := (CF.ghost ce13 (St.le0 S10))
     have hf18 : (CFs ad14 [.slice A14 (at_ m.follow (at_ xat i)).length c14]).1 w10 := (CF.ghost ce14 (St.le0 S10))
     have hf19 : (zbx (Kd.int .i64) A14 (at_ m.follow (at_ xat i))).1 w10 := (ld14.mono (St.le0 S10))
     refine daS (hkC 1 hf16 (hkC 5 hf17 (hkC 7 hf18 (hkC 9 hf19 (hkN (w := w10)))))) 11 rfl mixed ?_
     intro wd20 gd20 hd20
     have S21 := S10.keep gd20
     have hf22 := spUp gd20 hf16
     have hf23 := spUp gd20 hf17
     have hf24 := spUp gd20 hf18
     have hf25 := spUp gd20 hf19
     refine qd0 (i := 0) (v := .pointer (some ⟨b1, 2, none⟩)) rfl (by decide +kernel) rfl rfl (zan fd27_2 ty24 rfl r10_4) (zaj rfl) <| qd1 0 (i := 1) (v := .slice A0_2 m.follow.length c0_2) rfl rfl (by decide +kernel) rfl rfl (fun wq hq => (zal (seg := [.slice A0_2 m.follow.length c0_2]) ty24 rfl (by simp) rfl hq)) (za9 hf22 (zaj rfl)) <| qd0 (i := 2) (v := .slice A1 xat.length c1) rfl (by decide +kernel) rfl rfl (zag r10_1) (zaj rfl) <| qd0 (i := 3) (v := .int .i64 i) rfl (by decide +kernel) rfl rfl (zag r10_12) (zaj rfl) <| qd0 (i := 4) (v := .pointer (some ad13)) rfl (by decide +kernel) rfl rfl (zaw u23 ty3 rfl rfl a13 (by omega) (by omega)) (zaj rfl) <| qd1 1 (i := 5) (v := .int .i64 (at_ xat i)) rfl rfl (by decide +kernel) rfl rfl (fun wq hq => (zal (seg := [.int .i64 (at_ xat i)]) ty3 rfl (by simp) rfl hq)) (za1 rfl (za9 hf23 (zaj rfl))) <| qd0 (i := 6) (v := .pointer (some ad14)) rfl (by decide +kernel) rfl rfl (zaw u24 ty23 rfl rfl a14 (by omega) (by omega)) (zaj rfl) <| qd1 2 (i := 7) (v := .slice A14 (at_ m.follow (at_ xat i)).length c14) rfl rfl (by decide +kernel) rfl rfl (fun wq hq => (zal (seg := [.slice A14 (at_ m.follow (at_ xat i)).length c14]) ty23 rfl (by simp) rfl hq)) (za1 rfl (za1 rfl (za9 hf24 (zaj rfl)))) <| qd0 (i := 8) (v := .int .i64 n) rfl (by decide +kernel) rfl rfl (zag r10_10) (zaj rfl) <| d_m (i := 9) (v := .bool (decide (n ∈ (at_ m.follow (at_ xat i))))) (fun wf => zbe (Kd.int .i64) (hp wf) A14 (at_ m.follow (at_ xat i))) (fun _ ho => ho _ (List.mem_of_getElem? (i := 3) rfl) rfl) rfl (by decide +kernel) (by decide +kernel) (by decide +kernel) rfl rfl (fun wq => (za6 (args := [.slice A14 (at_ m.follow (at_ xat i)).length c14, .int .i64 n]) ca163 rfl rfl)) (fun wq hq => (hasn_calls wq (at_ m.follow (at_ xat i)) A14 c14 (And.intro lc14 cm14) hq n f5_0).mono fun e w2 he => by obtain ⟨_, rfl, _, T, rfl⟩ := he; exact ⟨rfl, Chg.of_below T.below⟩) (za1 rfl (za1 rfl (za1 rfl (za9 hf25 (zaj rfl))))) <| qd0 (i := 10) (v := .bool (decide (n ∈ (at_ m.follow (at_ xat i))))) rfl (by decide +kernel) rfl rfl (zah rfl) (zaj rfl) <| zb3 (by decide +kernel) ?_
     intro wd26 gd26
     have S27 := S21.keep gd26
     refine zat <| zad (l := [0, 1, 2]) rfl <| p_v (v := .int .i64 i) rfl rfl rfl (zag r10_12) <| p_v (v := .int .i64 (i + 1)) rfl rfl rfl (zct rfl rfl (zao (by omega) (by omega))) <| p_v (v := .int .i64 (i + 1)) rfl rfl rfl (zah rfl) <| zaa ?_
     refine ih10 (decide (n ∈ (at_ m.follow (at_ xat i))), i + 1) _ _ (by dsimp only; omega) ⟨h10, le10, S27.sub [0, 1] (by decide) rfl _ rfl, r10_1, r10_2, r10_3, r10_4, r10_9, r10_10, rfl, rfl, (zao (by omega) (by omega)), (by exact ⟨by omega, by omega, may_step m xat first n hI10.1 (by omega) (by rw [← hI10.2.2]; assumption)⟩)⟩
    refine zbn rfl <| zab <| zad (l := [0, 1, 2, 3, 4, 5, 6, 7, 8, 9, 10]) rfl <| p_v (v := .bool true) rfl rfl rfl (zag (r10_11.trans (congrArg Value.bool hc12))) <| p_v (v := .bool true) rfl rfl rfl (zag rfl) <| p_v (v := .pointer (some ⟨b1, 0, none⟩)) rfl rfl rfl (zan fd27_0 ty22 rfl r10_4) <| p_v (v := .slice A0_0 m.spots.length c0_0) rfl rfl rfl (zal (seg := [.slice A0_0 m.spots.length c0_0]) ty22 rfl (by simp) rfl (CF.box (m := 1) (S10.box_at (j := 0) rfl) rfl)) <| p_v (v := .int .i64 n) rfl rfl rfl (zag r10_10) ?_
    obtain ⟨ad28, seg28, a28, rp28, ce28⟩ := zaz (q := n) (m := 5) l0_0 rfl (by omega) (by omega)
    refine p_v (v := .pointer (some ad28)) rfl rfl rfl (zaw u22 ty101 rfl rfl a28 (by omega) (by omega)) ?_
    obtain ⟨rfl, ok28⟩ := rp28
    have slook28 := zeu ok28; have shiok28 := zfa ok28
    refine p_v (v := .pointer (some (ad28.add 0))) rfl rfl rfl (zcx fd101_0 ty74 rfl rfl) <| p_v (v := .agg (zak ((at_ m.spots n).set)).toArray) rfl rfl rfl (zal (seg := (zak ((at_ m.spots n).set))) ty74 rfl (by simp) rfl (CF.ghost (zdp (o := 0) (m := 4) (ds := (zak ((at_ m.spots n).set))) ce28 rfl) (St.le0 S10))) <| p_v (v := .int .u8 c) rfl rfl rfl (zag r10_3) <| p_c rfl rfl rfl (za6 (args := [.agg (zak ((at_ m.spots n).set)).toArray, .int .u8 c]) ca164 rfl rfl) (in_calls w10 ((at_ m.spots n).set) c (zec (by omega) (by omega))) ?_
    rintro _ w30 ⟨h30, T30, rfl⟩
    have S31 := S10.keep (Chg.of_below T30.below)
    refine p_v (v := .bool (has ((at_ m.spots n).set) c)) rfl rfl rfl (za5 rfl rfl) <| zaa ?_
    refine zbr (b := has ((at_ m.spots n).set) c) rfl (fun hc32 => ?_) (fun hc32 => ?_)
    ·skip
     refine zad (l := [0, 1, 2, 3, 4]) rfl <| p_v (v := v_out) rfl rfl rfl (zag r10_9) <| p_v (v := .int .i64 n) rfl rfl rfl (zag r10_10) ?_
     obtain ⟨v33, w33, r33, g33, T33⟩ := za4 (kd := (Kd.int .i64)) (xs := ([n] : List Int)) (len := 1) [.int .i64 n] S31 u23 ty3 rfl rfl rfl rfl rfl (zbi rfl zbq) [.int .i64 n] (zcg.single (k := (Kd.int .i64)) (h := h10) (x := n) (cs := [.int .i64 n]) ⟨rfl, f5_0⟩) rfl
     have S34 := T33
     dsimp only [lAa, lAn, lA0, lAs] at S34
     refine p_v (v := v33) rfl rfl rfl (zav (pv := [(0, .int .i64 n)]) rfl r33) ?_
     obtain ⟨A36, c36, ev36, lc36, cm36⟩ := S34.row_val (j := 2) rfl
     obtain ⟨v37, w37, r37, g37, T37⟩ := zcd (kd := (Kd.int .i64)) (A := A36) (c := c36) (ys := ([n] : List Int)) (len := ([n] : List Int).length) 23 S34 u23 ty3 rfl rfl (j := 1) rfl rfl (zcl S34 (j := 2) rfl ev36) (by first|omega|(simp;omega)|assumption) (by first|omega|(simp;omega)|assumption)
     have S38 := T37.fx 1 (row 3 (Kd.int .i64) v37 (out ++ ([n] : List Int))) rfl
     dsimp only [lAa, lAn, lA0, lAs] at S38
     refine p_v (v := v37) rfl rfl rfl (zcc rfl ev36 r37) <| p_v (v := v37) rfl rfl rfl (zah rfl) <| zaa <| zat <| zad (l := [0, 1, 2]) rfl <| p_v (v := .int .i64 n) rfl rfl rfl (zag r10_10) <| p_v (v := .int .i64 (n + 1)) rfl rfl rfl (zct rfl rfl (zao (by omega) (by omega))) <| p_v (v := .int .i64 (n + 1)) rfl rfl rfl (zah rfl) <| zaa ?_
     refine ih5 (out ++ ([n] : List Int), n + 1) _ _ (by dsimp only; omega) ⟨h10, v37, ((le5).trans le10), S38.sub [0, 1] (by decide) rfl _ rfl, r10_1, (Eq.trans r10_2 (congrArg Value.bool hc7).symm), r10_3, r10_4, rfl, rfl, (zao (by omega) (by omega)), (by have hk_ : zdt m xat first c n.toNat = (may && has (at_ m.spots n).set c) := (by unfold zdt; rw [Int.toNat_of_nonneg hI5.1, hI10.2.2, may_end m xat first n (by first | (left; omega) | (right; rw [← hI10.2.2]; assumption))]); exact ⟨by omega, by omega, by rw [hI5.2.2]; first | exact ze6 _ hI5.1 (by rw [hk_, (by assumption : may = true), (by assumption : has (at_ m.spots n).set c = true)]; rfl) | exact zdu _ hI5.1 (by rw [hk_, (by assumption : may = false)]; rfl) | exact zdu _ hI5.1 (by rw [hk_, (by assumption : has (at_ m.spots n).set c = false)]; simp)⟩)⟩
    refine zau <| zat <| zad (l := [0, 1, 2]) rfl <| p_v (v := .int .i64 n) rfl rfl rfl (zag r10_10) <| p_v (v := .int .i64 (n + 1)) rfl rfl rfl (zct rfl rfl (zao (by omega) (by omega))) <| p_v (v := .int .i64 (n + 1)) rfl rfl rfl (zah rfl) <| zaa ?_
    refine ih5 (out, n + 1) _ _ (by dsimp only; omega) ⟨h10, v_out, ((le5).trans le10), S31.sub [0, 1] (by decide) rfl _ rfl, r10_1, (Eq.trans r10_2 (congrArg Value.bool hc7).symm), r10_3, r10_4, r10_9, rfl, (zao (by omega) (by omega)), (by have hk_ : zdt m xat first c n.toNat = (may && has (at_ m.spots n).set c) := (by unfold zdt; rw [Int.toNat_of_nonneg hI5.1, hI10.2.2, may_end m xat first n (by first | (left; omega) | (right; rw [← hI10.2.2]; assumption))]); exact ⟨by omega, by omega, by rw [hI5.2.2]; first | exact ze6 _ hI5.1 (by rw [hk_, (by assumption : may = true), (by assumption : has (at_ m.spots n).set c = true)]; rfl) | exact zdu _ hI5.1 (by rw [hk_, (by assumption : may = false)]; rfl) | exact zdu _ hI5.1 (by rw [hk_, (by assumption : has (at_ m.spots n).set c = false)]; simp)⟩)⟩
   refine za2 rfl (wo 4 31 rfl rfl (bF hc11) rfl) rfl <| za2 rfl (wo 4 31 rfl rfl (bF hc11) rfl) rfl <| p_v (v := .bool false) rfl rfl rfl (zbk (bF hc11) rfl) <| zaa <| zb4 (b := false) rfl ?_
   simp only [if_true, if_false, Bool.false_eq_true]
   refine zbn rfl <| zab <| zad (l := [0, 1, 2, 3, 4, 5, 6, 7, 8, 9, 10]) rfl <| p_v (v := .bool may) rfl rfl rfl (zag r10_11) <| p_v (v := .bool may) rfl rfl rfl (zag rfl) ?_
   rcases Bool.eq_false_or_eq_true may with hc39 | hc39
   ·skip
    refine p_v (v := .pointer (some ⟨b1, 0, none⟩)) rfl (wo 1 48 rfl rfl (congrArg Value.bool hc39) rfl) rfl (zan fd27_0 ty22 rfl r10_4) <| p_v (v := .slice A0_0 m.spots.length c0_0) rfl (wo 1 48 rfl rfl (congrArg Value.bool hc39) rfl) rfl (zal (seg := [.slice A0_0 m.spots.length c0_0]) ty22 rfl (by simp) rfl (CF.box (m := 1) (S10.box_at (j := 0) rfl) rfl)) <| p_v (v := .int .i64 n) rfl (wo 1 48 rfl rfl (congrArg Value.bool hc39) rfl) rfl (zag r10_10) ?_
    obtain ⟨ad40, seg40, a40, rp40, ce40⟩ := zaz (q := n) (m := 5) l0_0 rfl (by omega) (by omega)
    refine p_v (v := .pointer (some ad40)) rfl (wo 1 48 rfl rfl (congrArg Value.bool hc39) rfl) rfl (zaw u22 ty101 rfl rfl a40 (by omega) (by omega)) ?_
    obtain ⟨rfl, ok40⟩ := rp40
    have slook40 := zeu ok40; have shiok40 := zfa ok40
    refine p_v (v := .pointer (some (ad40.add 0))) rfl (wo 1 48 rfl rfl (congrArg Value.bool hc39) rfl) rfl (zcx fd101_0 ty74 rfl rfl) <| p_v (v := .agg (zak ((at_ m.spots n).set)).toArray) rfl (wo 1 48 rfl rfl (congrArg Value.bool hc39) rfl) rfl (zal (seg := (zak ((at_ m.spots n).set))) ty74 rfl (by simp) rfl (CF.ghost (zdp (o := 0) (m := 4) (ds := (zak ((at_ m.spots n).set))) ce40 rfl) (St.le0 S10))) <| p_v (v := .int .u8 c) rfl (wo 1 48 rfl rfl (congrArg Value.bool hc39) rfl) rfl (zag r10_3) <| p_c rfl (wo 1 48 rfl rfl (congrArg Value.bool hc39) rfl) rfl (za6 (args := [.agg (zak ((at_ m.spots n).set)).toArray, .int .u8 c]) ca164 rfl rfl) (in_calls w10 ((at_ m.spots n).set) c (zec (by omega) (by omega))) ?_
    rintro _ w42 ⟨h42, T42, rfl⟩
    have S43 := S10.keep (Chg.of_below T42.below)
    refine p_v (v := .bool (has ((at_ m.spots n).set) c)) rfl rfl rfl (za5 (congrArg Value.bool hc39) rfl) <| zaa ?_
    refine zbr (b := has ((at_ m.spots n).set) c) rfl (fun hc44 => ?_) (fun hc44 => ?_)
    ·skip
     refine zad (l := [0, 1, 2, 3, 4]) rfl <| p_v (v := v_out) rfl rfl rfl (zag r10_9) <| p_v (v := .int .i64 n) rfl rfl rfl (zag r10_10) ?_
     obtain ⟨v45, w45, r45, g45, T45⟩ := za4 (kd := (Kd.int .i64)) (xs := ([n] : List Int)) (len := 1) [.int .i64 n] S43 u23 ty3 rfl rfl rfl rfl rfl (zbi rfl zbq) [.int .i64 n] (zcg.single (k := (Kd.int .i64)) (h := h10) (x := n) (cs := [.int .i64 n]) ⟨rfl, f5_0⟩) rfl
     have S46 := T45
     dsimp only [lAa, lAn, lA0, lAs] at S46
     refine p_v (v := v45) rfl rfl rfl (zav (pv := [(0, .int .i64 n)]) rfl r45) ?_
     obtain ⟨A48, c48, ev48, lc48, cm48⟩ := S46.row_val (j := 2) rfl
     obtain ⟨v49, w49, r49, g49, T49⟩ := zcd (kd := (Kd.int .i64)) (A := A48) (c := c48) (ys := ([n] : List Int)) (len := ([n] : List Int).length) 23 S46 u23 ty3 rfl rfl (j := 1) rfl rfl (zcl S46 (j := 2) rfl ev48) (by first|omega|(simp;omega)|assumption) (by first|omega|(simp;omega)|assumption)
     have S50 := T49.fx 1 (row 3 (Kd.int .i64) v49 (out ++ ([n] : List Int))) rfl
     dsimp only [lAa, lAn, lA0, lAs] at S50
     refine p_v (v := v49) rfl rfl rfl (zcc rfl ev48 r49) <| p_v (v := v49) rfl rfl rfl (zah rfl) <| zaa <| zat <| zad (l := [0, 1, 2]) rfl <| p_v (v := .int .i64 n) rfl rfl rfl (zag r10_10) <| p_v (v := .int .i64 (n + 1)) rfl rfl rfl (zct rfl rfl (zao (by omega) (by omega))) <| p_v (v := .int .i64 (n + 1)) rfl rfl rfl (zah rfl) <| zaa ?_
     refine ih5 (out ++ ([n] : List Int), n + 1) _ _ (by dsimp only; omega) ⟨h10, v49, ((le5).trans le10), S50.sub [0, 1] (by decide) rfl _ rfl, r10_1, (Eq.trans r10_2 (congrArg Value.bool hc7).symm), r10_3, r10_4, rfl, rfl, (zao (by omega) (by omega)), (by have hk_ : zdt m xat first c n.toNat = (may && has (at_ m.spots n).set c) := (by unfold zdt; rw [Int.toNat_of_nonneg hI5.1, hI10.2.2, may_end m xat first n (by first | (left; omega) | (right; rw [← hI10.2.2]; assumption))]); exact ⟨by omega, by omega, by rw [hI5.2.2]; first | exact ze6 _ hI5.1 (by rw [hk_, (by assumption : may = true), (by assumption : has (at_ m.spots n).set c = true)]; rfl) | exact zdu _ hI5.1 (by rw [hk_, (by assumption : may = false)]; rfl) | exact zdu _ hI5.1 (by rw [hk_, (by assumption : has (at_ m.spots n).set c = false)]; simp)⟩)⟩
    refine zau <| zat <| zad (l := [0, 1, 2]) rfl <| p_v (v := .int .i64 n) rfl rfl rfl (zag r10_10) <| p_v (v := .int .i64 (n + 1)) rfl rfl rfl (zct rfl rfl (zao (by omega) (by omega))) <| p_v (v := .int .i64 (n + 1)) rfl rfl rfl (zah rfl) <| zaa ?_
    refine ih5 (out, n + 1) _ _ (by dsimp only; omega) ⟨h10, v_out, ((le5).trans le10), S43.sub [0, 1] (by decide) rfl _ rfl, r10_1, (Eq.trans r10_2 (congrArg Value.bool hc7).symm), r10_3, r10_4, r10_9, rfl, (zao (by omega) (by omega)), (by have hk_ : zdt m xat first c n.toNat = (may && has (at_ m.spots n).set c) := (by unfold zdt; rw [Int.toNat_of_nonneg hI5.1, hI10.2.2, may_end m xat first n (by first | (left; omega) | (right; rw [← hI10.2.2]; assumption))]); exact ⟨by omega, by omega, by rw [hI5.2.2]; first | exact ze6 _ hI5.1 (by rw [hk_, (by assumption : may = true), (by assumption : has (at_ m.spots n).set c = true)]; rfl) | exact zdu _ hI5.1 (by rw [hk_, (by assumption : may = false)]; rfl) | exact zdu _ hI5.1 (by rw [hk_, (by assumption : has (at_ m.spots n).set c = false)]; simp)⟩)⟩
   refine za2 rfl (wo 1 48 rfl rfl (congrArg Value.bool hc39) rfl) rfl <| za2 rfl (wo 1 48 rfl rfl (congrArg Value.bool hc39) rfl) rfl <| za2 rfl (wo 1 48 rfl rfl (congrArg Value.bool hc39) rfl) rfl <| za2 rfl (wo 1 48 rfl rfl (congrArg Value.bool hc39) rfl) rfl <| za2 rfl (wo 1 48 rfl rfl (congrArg Value.bool hc39) rfl) rfl <| za2 rfl (wo 1 48 rfl rfl (congrArg Value.bool hc39) rfl) rfl <| za2 rfl (wo 1 48 rfl rfl (congrArg Value.bool hc39) rfl) rfl <| za2 rfl (wo 1 48 rfl rfl (congrArg Value.bool hc39) rfl) rfl <| p_v (v := .bool false) rfl rfl rfl (zbk (congrArg Value.bool hc39) rfl) <| zaa <| zb4 (b := false) rfl ?_
   simp only [if_true, if_false, Bool.false_eq_true]
   refine zau <| zat <| zad (l := [0, 1, 2]) rfl <| p_v (v := .int .i64 n) rfl rfl rfl (zag r10_10) <| p_v (v := .int .i64 (n + 1)) rfl rfl rfl (zct rfl rfl (zao (by omega) (by omega))) <| p_v (v := .int .i64 (n + 1)) rfl rfl rfl (zah rfl) <| zaa ?_
   refine ih5 (out, n + 1) _ _ (by dsimp only; omega) ⟨h10, v_out, ((le5).trans le10), S10.sub [0, 1] (by decide) rfl _ rfl, r10_1, (Eq.trans r10_2 (congrArg Value.bool hc7).symm), r10_3, r10_4, r10_9, rfl, (zao (by omega) (by omega)), (by have hk_ : zdt m xat first c n.toNat = (may && has (at_ m.spots n).set c) := (by unfold zdt; rw [Int.toNat_of_nonneg hI5.1, hI10.2.2, may_end m xat first n (by first | (left; omega) | (right; rw [← hI10.2.2]; assumption))]); exact ⟨by omega, by omega, by rw [hI5.2.2]; first | exact ze6 _ hI5.1 (by rw [hk_, (by assumption : may = true), (by assumption : has (at_ m.spots n).set c = true)]; rfl) | exact zdu _ hI5.1 (by rw [hk_, (by assumption : may = false)]; rfl) | exact zdu _ hI5.1 (by rw [hk_, (by assumption : has (at_ m.spots n).set c = false)]; simp)⟩)⟩
  refine za2 rfl (wo 1 21 rfl rfl (congrArg Value.bool hc7) rfl) rfl <| za2 rfl (wo 1 21 rfl rfl (congrArg Value.bool hc7) rfl) rfl <| za2 rfl (wo 1 21 rfl rfl (congrArg Value.bool hc7) rfl) rfl <| za2 rfl (wo 1 21 rfl rfl (congrArg Value.bool hc7) rfl) rfl <| p_v (v := .bool false) rfl rfl rfl (zbk (congrArg Value.bool hc7) rfl) <| p_v (v := .bool false) rfl rfl rfl (zah rfl) <| zaa <| zab <| zab <| zad (l := [0]) rfl <| p_v (v := .int .i64 0) rfl rfl rfl (zah rfl) <| zaa ?_
  refine zas <| zbo (S := Bool × Int) (fun (q_ : Bool × Int) ρ w' => match q_ with | (may, i) => ∃ (h : Ghost), Le h5 h ∧ St w.heap.size w h w' [box b1 27 [.slice A0_0 m.spots.length c0_0, .slice A0_1 m.first.length c0_1, .slice A0_2 m.follow.length c0_2, .slice A0_3 m.last.length c0_3, .bool m.empty], row 3 (Kd.int .i64) v_out out] ∧ ρ 1 = .slice A1 xat.length c1 ∧ ρ 2 = .bool false ∧ ρ 3 = .int .u8 c ∧ ρ 4 = .pointer (some ⟨b1, 0, none⟩) ∧ ρ 9 = v_out ∧ ρ 10 = .int .i64 n ∧ ρ 11 = .bool may ∧ ρ 12 = .int .i64 i ∧ inK .i64 i ∧ (0 ≤ i ∧ i ≤ (xat.length : Int) ∧ may = mayTo m xat first n i)) (fun q_ => match q_ with | (may, i) => (xat.length - i).toNat) (false, 0) ⟨h5, Le.refl _, S5.sub [0, 1] (by decide) rfl _ rfl, r5_1, (r5_2.trans (congrArg Value.bool hc7)), r5_3, r5_4, r5_9, r5_10, rfl, rfl, (zao (by omega) (by omega)), (by exact ⟨by omega, by omega, by rw [← may_0]; first | (rw [(by assumption : first = true)]; rfl) | (rw [(by assumption : first = false)]; rfl)⟩)⟩ ?_
  rintro ⟨may, i⟩ ih51 ρ51 w51 ⟨h51, le51, S51, r51_1, r51_2, r51_3, r51_4, r51_9, r51_10, r51_11, r51_12, f51_0, hI51⟩
  have lf51_0 := za7 f51_0; have hf51_0 := za8 f51_0
  have rl51_1 := S51.row_le (j := 1) rfl; simp only [maxLen] at rl51_1
  have hx_ : i < (xat.length : Int) → 0 ≤ at_ xat i ∧ at_ xat i < (m.spots.length : Int) := fun h => pre0.2 _ (zdv hI51.1 h)
  refine zab <| zab <| zad (l := [0, 1, 2, 3, 4, 5, 6, 7]) rfl <| p_v (v := .int .i64 i) rfl rfl rfl (zag r51_12) <| p_v (v := .slice A1 xat.length c1) rfl rfl rfl (zag r51_1) <| p_v (v := .int .i64 (xat.length : Int)) rfl rfl rfl (za0 u23 rfl) <| p_v (v := .bool (decide (i < (xat.length : Int)))) rfl rfl rfl (zdc rfl rfl) <| p_v (v := .bool (decide (i < (xat.length : Int)))) rfl rfl rfl (zag rfl) ?_
  by_cases hc52 : i < (xat.length : Int)
  ·skip
   refine p_v (v := .bool may) rfl (wo 4 31 rfl rfl (bT hc52) rfl) rfl (zag r51_11) <| p_v (v := .bool (!may)) rfl (wo 4 31 rfl rfl (bT hc52) rfl) rfl (ze2 rfl) <| p_v (v := .bool (!may)) rfl rfl rfl (za5 (bT hc52) rfl) <| zaa ?_
   refine zch (b := may) rfl (fun hc53 => ?_) (fun hc53 => ?_)
   ·skip
    refine zau <| zab <| zas ?_
    obtain ⟨ad54, seg54, a54, rp54, ce54⟩ := zaz (q := i) (m := 1) l1 rfl (by omega) (by omega)
    obtain ⟨rfl, in54⟩ := rp54
    have lo54 := za7 in54; have hi54 := za8 in54
    obtain ⟨ad55, seg55, a55, rp55, ce55⟩ := zaz (q := at_ xat i) (m := 1) l0_2 rfl (by omega) (by omega)
    obtain ⟨A55, c55, rfl, lc55, cm55, ld55⟩ := rp55
    have cn55 := cm55; simp only [maxLen] at cn55
    have hf57 : (CFs ⟨b1, 2, none⟩ [.slice A0_2 m.follow.length c0_2]).1 w51 := (CF.box (m := 1) (S51.box_at (j := 0) rfl) rfl)
    have hf58 : (CFs ad54 [.int .i64 (at_ xat i)]).1 w51 := (CF.ghost ce54 (St.le0 S51))
    have hf59 : (CFs ad55 [.slice A55 (at_ m.follow (at_ xat i)).length c55]).1 w51 := (CF.ghost ce55 (St.le0 S51))
    have hf60 : (zbx (Kd.int .i64) A55 (at_ m.follow (at_ xat i))).1 w51 := (ld55.mono (St.le0 S51))
    refine daS (hkC 1 hf57 (hkC 5 hf58 (hkC 7 hf59 (hkC 9 hf60 (hkN (w := w51)))))) 11 rfl mixed ?_
    intro wd61 gd61 hd61
    have S62 := S51.keep gd61
    have hf63 := spUp gd61 hf57
    have hf64 := spUp gd61 hf58
    have hf65 := spUp gd61 hf59
    have hf66 := spUp gd61 hf60
    refine qd0 (i := 0) (v := .pointer (some ⟨b1, 2, none⟩)) rfl (by decide +kernel) rfl rfl (zan fd27_2 ty24 rfl r51_4) (zaj rfl) <| qd1 0 (i := 1) (v := .slice A0_2 m.follow.length c0_2) rfl rfl (by decide +kernel) rfl rfl (fun wq hq => (zal (seg := [.slice A0_2 m.follow.length c0_2]) ty24 rfl (by simp) rfl hq)) (za9 hf63 (zaj rfl)) <| qd0 (i := 2) (v := .slice A1 xat.length c1) rfl (by decide +kernel) rfl rfl (zag r51_1) (zaj rfl) <| qd0 (i := 3) (v := .int .i64 i) rfl (by decide +kernel) rfl rfl (zag r51_12) (zaj rfl) <| qd0 (i := 4) (v := .pointer (some ad54)) rfl (by decide +kernel) rfl rfl (zaw u23 ty3 rfl rfl a54 (by omega) (by omega)) (zaj rfl) <| qd1 1 (i := 5) (v := .int .i64 (at_ xat i)) rfl rfl (by decide +kernel) rfl rfl (fun wq hq => (zal (seg := [.int .i64 (at_ xat i)]) ty3 rfl (by simp) rfl hq)) (za1 rfl (za9 hf64 (zaj rfl))) <| qd0 (i := 6) (v := .pointer (some ad55)) rfl (by decide +kernel) rfl rfl (zaw u24 ty23 rfl rfl a55 (by omega) (by omega)) (zaj rfl) <| qd1 2 (i := 7) (v := .slice A55 (at_ m.follow (at_ xat i)).length c55) rfl rfl (by decide +kernel) rfl rfl (fun wq hq => (zal (seg := [.slice A55 (at_ m.follow (at_ xat i)).length c55]) ty23 rfl (by simp) rfl hq)) (za1 rfl (za1 rfl (za9 hf65 (zaj rfl)))) <| qd0 (i := 8) (v := .int .i64 n) rfl (by decide +kernel) rfl rfl (zag r51_10) (zaj rfl) <| d_m (i := 9) (v := .bool (decide (n ∈ (at_ m.follow (at_ xat i))))) (fun wf => zbe (Kd.int .i64) (hp wf) A55 (at_ m.follow (at_ xat i))) (fun _ ho => ho _ (List.mem_of_getElem? (i := 3) rfl) rfl) rfl (by decide +kernel) (by decide +kernel) (by decide +kernel) rfl rfl (fun wq => (za6 (args := [.slice A55 (at_ m.follow (at_ xat i)).length c55, .int .i64 n]) ca163 rfl rfl)) (fun wq hq => (hasn_calls wq (at_ m.follow (at_ xat i)) A55 c55 (And.intro lc55 cm55) hq n f5_0).mono fun e w2 he => by obtain ⟨_, rfl, _, T, rfl⟩ := he; exact ⟨rfl, Chg.of_below T.below⟩) (za1 rfl (za1 rfl (za1 rfl (za9 hf66 (zaj rfl))))) <| qd0 (i := 10) (v := .bool (decide (n ∈ (at_ m.follow (at_ xat i))))) rfl (by decide +kernel) rfl rfl (zah rfl) (zaj rfl) <| zb3 (by decide +kernel) ?_
    intro wd67 gd67
    have S68 := S62.keep gd67
    refine zat <| zad (l := [0, 1, 2]) rfl <| p_v (v := .int .i64 i) rfl rfl rfl (zag r51_12) <| p_v (v := .int .i64 (i + 1)) rfl rfl rfl (zct rfl rfl (zao (by omega) (by omega))) <| p_v (v := .int .i64 (i + 1)) rfl rfl rfl (zah rfl) <| zaa ?_
    refine ih51 (decide (n ∈ (at_ m.follow (at_ xat i))), i + 1) _ _ (by dsimp only; omega) ⟨h51, le51, S68.sub [0, 1] (by decide) rfl _ rfl, r51_1, r51_2, r51_3, r51_4, r51_9, r51_10, rfl, rfl, (zao (by omega) (by omega)), (by exact ⟨by omega, by omega, may_step m xat first n hI51.1 (by omega) (by rw [← hI51.2.2]; assumption)⟩)⟩
   refine zbn rfl <| zab <| zad (l := [0, 1, 2, 3, 4, 5, 6, 7, 8, 9, 10]) rfl <| p_v (v := .bool true) rfl rfl rfl (zag (r51_11.trans (congrArg Value.bool hc53))) <| p_v (v := .bool true) rfl rfl rfl (zag rfl) <| p_v (v := .pointer (some ⟨b1, 0, none⟩)) rfl rfl rfl (zan fd27_0 ty22 rfl r51_4) <| p_v (v := .slice A0_0 m.spots.length c0_0) rfl rfl rfl (zal (seg := [.slice A0_0 m.spots.length c0_0]) ty22 rfl (by simp) rfl (CF.box (m := 1) (S51.box_at (j := 0) rfl) rfl)) <| p_v (v := .int .i64 n) rfl rfl rfl (zag r51_10) ?_
   obtain ⟨ad69, seg69, a69, rp69, ce69⟩ := zaz (q := n) (m := 5) l0_0 rfl (by omega) (by omega)
   refine p_v (v := .pointer (some ad69)) rfl rfl rfl (zaw u22 ty101 rfl rfl a69 (by omega) (by omega)) ?_
   obtain ⟨rfl, ok69⟩ := rp69
   have slook69 := zeu ok69; have shiok69 := zfa ok69
   refine p_v (v := .pointer (some (ad69.add 0))) rfl rfl rfl (zcx fd101_0 ty74 rfl rfl) <| p_v (v := .agg (zak ((at_ m.spots n).set)).toArray) rfl rfl rfl (zal (seg := (zak ((at_ m.spots n).set))) ty74 rfl (by simp) rfl (CF.ghost (zdp (o := 0) (m := 4) (ds := (zak ((at_ m.spots n).set))) ce69 rfl) (St.le0 S51))) <| p_v (v := .int .u8 c) rfl rfl rfl (zag r51_3) <| p_c rfl rfl rfl (za6 (args := [.agg (zak ((at_ m.spots n).set)).toArray, .int .u8 c]) ca164 rfl rfl) (in_calls w51 ((at_ m.spots n).set) c (zec (by omega) (by omega))) ?_
   rintro _ w71 ⟨h71, T71, rfl⟩
   have S72 := S51.keep (Chg.of_below T71.below)
   refine p_v (v := .bool (has ((at_ m.spots n).set) c)) rfl rfl rfl (za5 rfl rfl) <| zaa ?_
   refine zbr (b := has ((at_ m.spots n).set) c) rfl (fun hc73 => ?_) (fun hc73 => ?_)
   ·skip
    refine zad (l := [0, 1, 2, 3, 4]) rfl <| p_v (v := v_out) rfl rfl rfl (zag r51_9) <| p_v (v := .int .i64 n) rfl rfl rfl (zag r51_10) ?_
    obtain ⟨v74, w74, r74, g74, T74⟩ := za4 (kd := (Kd.int .i64)) (xs := ([n] : List Int)) (len := 1) [.int .i64 n] S72 u23 ty3 rfl rfl rfl rfl rfl (zbi rfl zbq) [.int .i64 n] (zcg.single (k := (Kd.int .i64)) (h := h51) (x := n) (cs := [.int .i64 n]) ⟨rfl, f5_0⟩) rfl
    have S75 := T74
    dsimp only [lAa, lAn, lA0, lAs] at S75
    refine p_v (v := v74) rfl rfl rfl (zav (pv := [(0, .int .i64 n)]) rfl r74) ?_
    obtain ⟨A77, c77, ev77, lc77, cm77⟩ := S75.row_val (j := 2) rfl
    obtain ⟨v78, w78, r78, g78, T78⟩ := zcd (kd := (Kd.int .i64)) (A := A77) (c := c77) (ys := ([n] : List Int)) (len := ([n] : List Int).length) 23 S75 u23 ty3 rfl rfl (j := 1) rfl rfl (zcl S75 (j := 2) rfl ev77) (by first|omega|(simp;omega)|assumption) (by first|omega|(simp;omega)|assumption)
    have S79 := T78.fx 1 (row 3 (Kd.int .i64) v78 (out ++ ([n] : List Int))) rfl
    dsimp only [lAa, lAn, lA0, lAs] at S79
    refine p_v (v := v78) rfl rfl rfl (zcc rfl ev77 r78) <| p_v (v := v78) rfl rfl rfl (zah rfl) <| zaa <| zat <| zad (l := [0, 1, 2]) rfl <| p_v (v := .int .i64 n) rfl rfl rfl (zag r51_10) <| p_v (v := .int .i64 (n + 1)) rfl rfl rfl (zct rfl rfl (zao (by omega) (by omega))) <| p_v (v := .int .i64 (n + 1)) rfl rfl rfl (zah rfl) <| zaa ?_
    refine ih5 (out ++ ([n] : List Int), n + 1) _ _ (by dsimp only; omega) ⟨h51, v78, ((le5).trans le51), S79.sub [0, 1] (by decide) rfl _ rfl, r51_1, (Eq.trans r51_2 (congrArg Value.bool hc7).symm), r51_3, r51_4, rfl, rfl, (zao (by omega) (by omega)), (by have hk_ : zdt m xat first c n.toNat = (may && has (at_ m.spots n).set c) := (by unfold zdt; rw [Int.toNat_of_nonneg hI5.1, hI51.2.2, may_end m xat first n (by first | (left; omega) | (right; rw [← hI51.2.2]; assumption))]); exact ⟨by omega, by omega, by rw [hI5.2.2]; first | exact ze6 _ hI5.1 (by rw [hk_, (by assumption : may = true), (by assumption : has (at_ m.spots n).set c = true)]; rfl) | exact zdu _ hI5.1 (by rw [hk_, (by assumption : may = false)]; rfl) | exact zdu _ hI5.1 (by rw [hk_, (by assumption : has (at_ m.spots n).set c = false)]; simp)⟩)⟩
   refine zau <| zat <| zad (l := [0, 1, 2]) rfl <| p_v (v := .int .i64 n) rfl rfl rfl (zag r51_10) <| p_v (v := .int .i64 (n + 1)) rfl rfl rfl (zct rfl rfl (zao (by omega) (by omega))) <| p_v (v := .int .i64 (n + 1)) rfl rfl rfl (zah rfl) <| zaa ?_
   refine ih5 (out, n + 1) _ _ (by dsimp only; omega) ⟨h51, v_out, ((le5).trans le51), S72.sub [0, 1] (by decide) rfl _ rfl, r51_1, (Eq.trans r51_2 (congrArg Value.bool hc7).symm), r51_3, r51_4, r51_9, rfl, (zao (by omega) (by omega)), (by have hk_ : zdt m xat first c n.toNat = (may && has (at_ m.spots n).set c) := (by unfold zdt; rw [Int.toNat_of_nonneg hI5.1, hI51.2.2, may_end m xat first n (by first | (left; omega) | (right; rw [← hI51.2.2]; assumption))]); exact ⟨by omega, by omega, by rw [hI5.2.2]; first | exact ze6 _ hI5.1 (by rw [hk_, (by assumption : may = true), (by assumption : has (at_ m.spots n).set c = true)]; rfl) | exact zdu _ hI5.1 (by rw [hk_, (by assumption : may = false)]; rfl) | exact zdu _ hI5.1 (by rw [hk_, (by assumption : has (at_ m.spots n).set c = false)]; simp)⟩)⟩
  refine za2 rfl (wo 4 31 rfl rfl (bF hc52) rfl) rfl <| za2 rfl (wo 4 31 rfl rfl (bF hc52) rfl) rfl <| p_v (v := .bool false) rfl rfl rfl (zbk (bF hc52) rfl) <| zaa <| zb4 (b := false) rfl ?_
  simp only [if_true, if_false, Bool.false_eq_true]
  refine zbn rfl <| zab <| zad (l := [0, 1, 2, 3, 4, 5, 6, 7, 8, 9, 10]) rfl <| p_v (v := .bool may) rfl rfl rfl (zag r51_11) <| p_v (v := .bool may) rfl rfl rfl (zag rfl) ?_
  rcases Bool.eq_false_or_eq_true may with hc80 | hc80
  ·skip
   refine p_v (v := .pointer (some ⟨b1, 0, none⟩)) rfl (wo 1 48 rfl rfl (congrArg Value.bool hc80) rfl) rfl (zan fd27_0 ty22 rfl r51_4) <| p_v (v := .slice A0_0 m.spots.length c0_0) rfl (wo 1 48 rfl rfl (congrArg Value.bool hc80) rfl) rfl (zal (seg := [.slice A0_0 m.spots.length c0_0]) ty22 rfl (by simp) rfl (CF.box (m := 1) (S51.box_at (j := 0) rfl) rfl)) <| p_v (v := .int .i64 n) rfl (wo 1 48 rfl rfl (congrArg Value.bool hc80) rfl) rfl (zag r51_10) ?_
   obtain ⟨ad81, seg81, a81, rp81, ce81⟩ := zaz (q := n) (m := 5) l0_0 rfl (by omega) (by omega)
   refine p_v (v := .pointer (some ad81)) rfl (wo 1 48 rfl rfl (congrArg Value.bool hc80) rfl) rfl (zaw u22 ty101 rfl rfl a81 (by omega) (by omega)) ?_
   obtain ⟨rfl, ok81⟩ := rp81
   have slook81 := zeu ok81; have shiok81 := zfa ok81
   refine p_v (v := .pointer (some (ad81.add 0))) rfl (wo 1 48 rfl rfl (congrArg Value.bool hc80) rfl) rfl (zcx fd101_0 ty74 rfl rfl) <| p_v (v := .agg (zak ((at_ m.spots n).set)).toArray) rfl (wo 1 48 rfl rfl (congrArg Value.bool hc80) rfl) rfl (zal (seg := (zak ((at_ m.spots n).set))) ty74 rfl (by simp) rfl (CF.ghost (zdp (o := 0) (m := 4) (ds := (zak ((at_ m.spots n).set))) ce81 rfl) (St.le0 S51))) <| p_v (v := .int .u8 c) rfl (wo 1 48 rfl rfl (congrArg Value.bool hc80) rfl) rfl (zag r51_3) <| p_c rfl (wo 1 48 rfl rfl (congrArg Value.bool hc80) rfl) rfl (za6 (args := [.agg (zak ((at_ m.spots n).set)).toArray, .int .u8 c]) ca164 rfl rfl) (in_calls w51 ((at_ m.spots n).set) c (zec (by omega) (by omega))) ?_
   rintro _ w83 ⟨h83, T83, rfl⟩
   have S84 := S51.keep (Chg.of_below T83.below)
   refine p_v (v := .bool (has ((at_ m.spots n).set) c)) rfl rfl rfl (za5 (congrArg Value.bool hc80) rfl) <| zaa ?_
   refine zbr (b := has ((at_ m.spots n).set) c) rfl (fun hc85 => ?_) (fun hc85 => ?_)
   ·skip
    refine zad (l := [0, 1, 2, 3, 4]) rfl <| p_v (v := v_out) rfl rfl rfl (zag r51_9) <| p_v (v := .int .i64 n) rfl rfl rfl (zag r51_10) ?_
    obtain ⟨v86, w86, r86, g86, T86⟩ := za4 (kd := (Kd.int .i64)) (xs := ([n] : List Int)) (len := 1) [.int .i64 n] S84 u23 ty3 rfl rfl rfl rfl rfl (zbi rfl zbq) [.int .i64 n] (zcg.single (k := (Kd.int .i64)) (h := h51) (x := n) (cs := [.int .i64 n]) ⟨rfl, f5_0⟩) rfl
    have S87 := T86
    dsimp only [lAa, lAn, lA0, lAs] at S87
    refine p_v (v := v86) rfl rfl rfl (zav (pv := [(0, .int .i64 n)]) rfl r86) ?_
    obtain ⟨A89, c89, ev89, lc89, cm89⟩ := S87.row_val (j := 2) rfl
    obtain ⟨v90, w90, r90, g90, T90⟩ := zcd (kd := (Kd.int .i64)) (A := A89) (c := c89) (ys := ([n] : List Int)) (len := ([n] : List Int).length) 23 S87 u23 ty3 rfl rfl (j := 1) rfl rfl (zcl S87 (j := 2) rfl ev89) (by first|omega|(simp;omega)|assumption) (by first|omega|(simp;omega)|assumption)
    have S91 := T90.fx 1 (row 3 (Kd.int .i64) v90 (out ++ ([n] : List Int))) rfl
    dsimp only [lAa, lAn, lA0, lAs] at S91
    refine p_v (v := v90) rfl rfl rfl (zcc rfl ev89 r90) <| p_v (v := v90) rfl rfl rfl (zah rfl) <| zaa <| zat <| zad (l := [0, 1, 2]) rfl <| p_v (v := .int .i64 n) rfl rfl rfl (zag r51_10) <| p_v (v := .int .i64 (n + 1)) rfl rfl rfl (zct rfl rfl (zao (by omega) (by omega))) <| p_v (v := .int .i64 (n + 1)) rfl rfl rfl (zah rfl) <| zaa ?_
    refine ih5 (out ++ ([n] : List Int), n + 1) _ _ (by dsimp only; omega) ⟨h51, v90, ((le5).trans le51), S91.sub [0, 1] (by decide) rfl _ rfl, r51_1, (Eq.trans r51_2 (congrArg Value.bool hc7).symm), r51_3, r51_4, rfl, rfl, (zao (by omega) (by omega)), (by have hk_ : zdt m xat first c n.toNat = (may && has (at_ m.spots n).set c) := (by unfold zdt; rw [Int.toNat_of_nonneg hI5.1, hI51.2.2, may_end m xat first n (by first | (left; omega) | (right; rw [← hI51.2.2]; assumption))]); exact ⟨by omega, by omega, by rw [hI5.2.2]; first | exact ze6 _ hI5.1 (by rw [hk_, (by assumption : may = true), (by assumption : has (at_ m.spots n).set c = true)]; rfl) | exact zdu _ hI5.1 (by rw [hk_, (by assumption : may = false)]; rfl) | exact zdu _ hI5.1 (by rw [hk_, (by assumption : has (at_ m.spots n).set c = false)]; simp)⟩)⟩
   refine zau <| zat <| zad (l := [0, 1, 2]) rfl <| p_v (v := .int .i64 n) rfl rfl rfl (zag r51_10) <| p_v (v := .int .i64 (n + 1)) rfl rfl rfl (zct rfl rfl (zao (by omega) (by omega))) <| p_v (v := .int .i64 (n + 1)) rfl rfl rfl (zah rfl) <| zaa ?_
   refine ih5 (out, n + 1) _ _ (by dsimp only; omega) ⟨h51, v_out, ((le5).trans le51), S84.sub [0, 1] (by decide) rfl _ rfl, r51_1, (Eq.trans r51_2 (congrArg Value.bool hc7).symm), r51_3, r51_4, r51_9, rfl, (zao (by omega) (by omega)), (by have hk_ : zdt m xat first c n.toNat = (may && has (at_ m.spots n).set c) := (by unfold zdt; rw [Int.toNat_of_nonneg hI5.1, hI51.2.2, may_end m xat first n (by first | (left; omega) | (right; rw [← hI51.2.2]; assumption))]); exact ⟨by omega, by omega, by rw [hI5.2.2]; first | exact ze6 _ hI5.1 (by rw [hk_, (by assumption : may = true), (by assumption : has (at_ m.spots n).set c = true)]; rfl) | exact zdu _ hI5.1 (by rw [hk_, (by assumption : may = false)]; rfl) | exact zdu _ hI5.1 (by rw [hk_, (by assumption : has (at_ m.spots n).set c = false)]; simp)⟩)⟩
  refine za2 rfl (wo 1 48 rfl rfl (congrArg Value.bool hc80) rfl) rfl <| za2 rfl (wo 1 48 rfl rfl (congrArg Value.bool hc80) rfl) rfl <| za2 rfl (wo 1 48 rfl rfl (congrArg Value.bool hc80) rfl) rfl <| za2 rfl (wo 1 48 rfl rfl (congrArg Value.bool hc80) rfl) rfl <| za2 rfl (wo 1 48 rfl rfl (congrArg Value.bool hc80) rfl) rfl <| za2 rfl (wo 1 48 rfl rfl (congrArg Value.bool hc80) rfl) rfl <| za2 rfl (wo 1 48 rfl rfl (congrArg Value.bool hc80) rfl) rfl <| za2 rfl (wo 1 48 rfl rfl (congrArg Value.bool hc80) rfl) rfl <| p_v (v := .bool false) rfl rfl rfl (zbk (congrArg Value.bool hc80) rfl) <| zaa <| zb4 (b := false) rfl ?_
  simp only [if_true, if_false, Bool.false_eq_true]
  refine zau <| zat <| zad (l := [0, 1, 2]) rfl <| p_v (v := .int .i64 n) rfl rfl rfl (zag r51_10) <| p_v (v := .int .i64 (n + 1)) rfl rfl rfl (zct rfl rfl (zao (by omega) (by omega))) <| p_v (v := .int .i64 (n + 1)) rfl rfl rfl (zah rfl) <| zaa ?_
  refine ih5 (out, n + 1) _ _ (by dsimp only; omega) ⟨h51, v_out, ((le5).trans le51), S51.sub [0, 1] (by decide) rfl _ rfl, r51_1, (Eq.trans r51_2 (congrArg Value.bool hc7).symm), r51_3, r51_4, r51_9, rfl, (zao (by omega) (by omega)), (by have hk_ : zdt m xat first c n.toNat = (may && has (at_ m.spots n).set c) := (by unfold zdt; rw [Int.toNat_of_nonneg hI5.1, hI51.2.2, may_end m xat first n (by first | (left; omega) | (right; rw [← hI51.2.2]; assumption))]); exact ⟨by omega, by omega, by rw [hI5.2.2]; first | exact ze6 _ hI5.1 (by rw [hk_, (by assumption : may = true), (by assumption : has (at_ m.spots n).set c = true)]; rfl) | exact zdu _ hI5.1 (by rw [hk_, (by assumption : may = false)]; rfl) | exact zdu _ hI5.1 (by rw [hk_, (by assumption : has (at_ m.spots n).set c = false)]; simp)⟩)⟩
 refine zbn rfl <| zab <| zad (l := [0, 1]) rfl <| p_v (v := v_out) rfl rfl rfl (zag r5_9) <| p_v (v := v_out) rfl rfl rfl (zah rfl) <| zaa <| zar Tryd.func139 (res1 rfl (zax (v := v_out) rfl)) ?_
 have q0 : (stepP m xat first c : List Int) = out := by
  rw [hI5.2.2, show n = (m.spots.length : Int) by omega]; exact stepP_eq m xat first c
 refine ⟨_, rfl, h5, v_out, ?_, ?_⟩
 · rw [q0]; exact S5.sub [1] (by decide) rfl _ rfl
 · rfl
end Go.Proofs.YtfoemogojbnfhaaDoor
