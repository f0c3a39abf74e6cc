/- My own library for walks through the translated code, and the walks of the functions that the law FstMarks comes to, part 3; no conditions but those that each contract tells. -/
import Derived.Maps.RangeRun
import Derived.Laws.BytesArg
import Derived.Laws.Pointers
import Derived.Test.YtpdanfggijmnmaaLFstMarks1
namespace Go.Proofs.Ytpdanfggijmnmaa
open Go Go.RowKit Gx
set_option maxHeartbeats 1000000
set_option linter.unusedVariables false
set_option linter.unusedSimpArgs false
set_option maxRecDepth 8000
attribute [local irreducible] count first has zb9 wbits Lib.ctz zcf zbd rowOk tab markP intoP intoTo zcr zb8 zcs runTo endsIn endTo runM zd6 mayP zb5 zcb mayTo atP lastTo zcv zd3 docAt anyTo allTo
theorem rising_calls (w : World) (l : List Int) (A0 : Option Addr) (c0 : Nat) (b0 : l.length ≤ c0 ∧ c0 ≤ maxLen) (l0 : za4 (Kd.int .i64) (hp w) A0 l) (bound : Int) (i1 : inK .i64 bound) :
    Calls Try.prog 44 #[.slice A0 l.length c0, .int .i64 bound] w fun e w' => ∃ v, e = .returned v ∧ ∃ (hn : Ghost), St w.heap.size w hn w' [] ∧ v = .bool (zcf bound (-1) l) := by
 refine zas Try.func44 rfl Try.ntmps44 rfl ?_
 have S0 := St.init w
 have bb0 := b0.1; have bc0 := b0.2; simp only [maxLen] at bc0
 have lo1 := za0 i1; have hi1 := za1 i1
 refine zab <| zac (l := [0]) rfl <| p_v (v := .bool false) rfl rfl rfl (zae rfl) <| zaa <| zab <| zac (l := [0]) rfl <| p_v (v := .int .i64 (-1)) rfl rfl rfl (zae rfl) <| zaa <| zab <| zab <| zac (l := [0, 1, 2]) rfl <| p_v (v := .slice A0 l.length c0) rfl rfl rfl (zad rfl) ?_
 refine p_v (v := .int .i64 (l.length : Int)) rfl rfl rfl (zat u23 rfl) <| p_v (v := .int .i64 0) rfl rfl rfl (zad rfl) <| zaa <| zam <| za6 (S := Int × Int) (fun (q_ : Int × Int) ρ w' => match q_ with | (last, t10) => ∃ (h : Ghost), Le (fun _ => none) h ∧ St w.heap.size w h w' [] ∧ ρ 1 = .int .i64 bound ∧ ρ 5 = .int .i64 last ∧ ρ 8 = .slice A0 l.length c0 ∧ ρ 9 = .int .i64 (l.length : Int) ∧ ρ 10 = .int .i64 t10 ∧ inK .i64 last ∧ inK .i64 t10 ∧ (0 ≤ t10 ∧ t10 ≤ (l.length : Int) ∧ zcf bound (-1) l = zcf bound last (l.drop t10.toNat))) (fun q_ => match q_ with | (last, t10) => (l.length - t10).toNat) ((-1), 0) ⟨(fun _ => none), Le.refl _, S0.sub [] (by decide) rfl _ rfl, rfl, rfl, rfl, rfl, rfl, (zai (by first|omega|(simp;omega)|assumption) (by first|omega|(simp;omega)|assumption)), (zai (by first|omega|(simp;omega)|assumption) (by first|omega|(simp;omega)|assumption)), (by exact ⟨by omega, by omega, rfl⟩)⟩ ?_
 rintro ⟨last, t10⟩ ih1 ρ1 w1 ⟨h1, le1, S1, r1_1, r1_5, r1_8, r1_9, r1_10, f1_0, f1_1, hI1⟩
 have lf1_0 := za0 f1_0; have hf1_0 := za1 f1_0
 have lf1_1 := za0 f1_1; have hf1_1 := za1 f1_1
 refine zab <| zac (l := [0]) rfl <| p_v (v := .bool (decide (t10 < (l.length : Int)))) rfl rfl rfl (zcp r1_10 r1_9) <| zaa <| zab ?_
 refine zaj (p := t10 < (l.length : Int)) rfl (fun hc2 => ?_) (fun hc2 => ?_)
 ·skip
  refine zap <| zab <| zam <| zab <| zac (l := [0, 1, 2]) rfl ?_
  obtain ⟨ad3, seg3, a3, rp3, ce3⟩ := zao (q := t10) (m := 1) l0 rfl (by first|omega|(simp;omega)|assumption) (by first|omega|(simp;omega)|assumption)
  refine p_v (v := .pointer (some ad3)) rfl rfl rfl (zan u23 ty3 r1_8 r1_10 a3 (by first|omega|(simp;omega)|assumption) (by first|omega|(simp;omega)|assumption)) ?_
  obtain ⟨rfl, in3⟩ := rp3
  have lo3 := za0 in3; have hi3 := za1 in3
  refine p_v (v := .int .i64 (at_ l t10)) rfl rfl rfl (zah (seg := [.int .i64 (at_ l t10)]) ty3 rfl (by simp) rfl (CF.ghost ce3 (St.le0 S1))) <| p_v (v := .int .i64 (at_ l t10)) rfl rfl rfl (zae rfl) <| zaa <| zab <| zab <| zac (l := [0, 1, 2, 3, 4, 5, 6, 7]) rfl <| p_v (v := .int .i64 (at_ l t10)) rfl rfl rfl (zad rfl) <| p_v (v := .int .i64 last) rfl rfl rfl (zad r1_5) <| p_v (v := .bool (decide ((at_ l t10) ≤ last))) rfl rfl rfl (x_leq rfl rfl) <| p_v (v := .bool (decide ((at_ l t10) ≤ last))) rfl rfl rfl (zad rfl) ?_
  by_cases hc4 : (at_ l t10) ≤ last
  ·skip
   refine zaw rfl (wo 3 17 rfl rfl (bT hc4) rfl) rfl <| zaw rfl (wo 3 17 rfl rfl (bT hc4) rfl) rfl <| zaw rfl (wo 3 17 rfl rfl (bT hc4) rfl) rfl <| p_v (v := .bool true) rfl rfl rfl (za5 (bT hc4) rfl) <| zaa <| zbp (b := true) rfl ?_
   simp only [if_true, if_false, Bool.false_eq_true]
   refine zab <| zac (l := [0]) rfl <| p_v (v := .bool false) rfl rfl rfl (zae rfl) <| zaa <| zau Try.func44 (res1 rfl (zav (v := .bool false) rfl)) ?_
   have q0 : (zcf bound (-1) l : Bool) = false := by
    rw [hI1.2.2, zb1 l hI1.1 (by omega), decide_eq_false (by omega)]; rfl
   refine ⟨_, rfl, h1, ?_, ?_⟩
   · exact S1.sub [] (by decide) rfl _ rfl
   · first | rfl | (simp only [q0]; rfl) | (simp only [q0])
  refine p_v (v := .int .i64 (at_ l t10)) rfl (wo 3 17 rfl rfl (bF hc4) rfl) rfl (zad rfl) <| p_v (v := .int .i64 bound) rfl (wo 3 17 rfl rfl (bF hc4) rfl) rfl (zad r1_1) <| p_v (v := .bool (decide (bound ≤ (at_ l t10)))) rfl (wo 3 17 rfl rfl (bF hc4) rfl) rfl (x_geq rfl rfl) <| p_v (v := .bool (decide (bound ≤ (at_ l t10)))) rfl rfl rfl (zbo (bF hc4) rfl) <| zaa ?_
  refine zaj (p := bound ≤ (at_ l t10)) rfl (fun hc5 => ?_) (fun hc5 => ?_)
  ·skip
   refine zab <| zac (l := [0]) rfl <| p_v (v := .bool false) rfl rfl rfl (zae rfl) <| zaa <| zau Try.func44 (res1 rfl (zav (v := .bool false) rfl)) ?_
   have q0 : (zcf bound (-1) l : Bool) = false := by
    rw [hI1.2.2, zb1 l hI1.1 (by omega), decide_eq_true (by omega), decide_eq_false (by omega)]; rfl
   refine ⟨_, rfl, h1, ?_, ?_⟩
   · exact S1.sub [] (by decide) rfl _ rfl
   · first | rfl | (simp only [q0]; rfl) | (simp only [q0])
  refine zap <| zac (l := [0, 1]) rfl <| p_v (v := .int .i64 (at_ l t10)) rfl rfl rfl (zad rfl) <| p_v (v := .int .i64 (at_ l t10)) rfl rfl rfl (zae rfl) <| zaa <| zak <| zac (l := [0, 1]) rfl <| p_v (v := .int .i64 (t10 + 1)) rfl rfl rfl (zbm r1_10 rfl (zai (by first|omega|(simp;omega)|assumption) (by first|omega|(simp;omega)|assumption))) <| p_v (v := .int .i64 (t10 + 1)) rfl rfl rfl (zad rfl) <| zaa ?_
  refine ih1 (at_ l t10, t10 + 1) _ _ (by dsimp only; omega) ⟨h1, le1, S1.sub [] (by decide) rfl _ rfl, r1_1, rfl, r1_8, r1_9, rfl, (zai (by first|omega|(simp;omega)|assumption) (by first|omega|(simp;omega)|assumption)), (zai (by first|omega|(simp;omega)|assumption) (by first|omega|(simp;omega)|assumption)), (by exact ⟨by omega, by omega, by rw [hI1.2.2, zb1 l hI1.1 (by omega), decide_eq_true (by omega), decide_eq_true (by omega)]; rfl⟩)⟩
 refine za3 rfl <| zab <| zac (l := [0]) rfl <| p_v (v := .bool true) rfl rfl rfl (zae rfl) <| zaa <| zau Try.func44 (res1 rfl (zav (v := .bool true) rfl)) ?_
 have q0 : (zcf bound (-1) l : Bool) = true := by
  rw [hI1.2.2, drop_end l (by omega), rises_nil]
 refine ⟨_, rfl, h1, ?_, ?_⟩
 · exact S1.sub [] (by decide) rfl _ rfl
 · first | rfl | (simp only [q0]; rfl) | (simp only [q0])
theorem list10_calls (w : World) (l : List Int) (A0 : Option Addr) (c0 : Nat) (b0 : l.length ≤ c0 ∧ c0 ≤ maxLen) (l0 : za4 (Kd.int .i64) (hp w) A0 l) (bound : Int) (i1 : inK .i64 bound) :
    Calls Try.prog 49 #[.slice A0 l.length c0, .int .i64 bound] w fun e w' => ∃ v, e = .returned v ∧ ∃ (hn : Ghost), St w.heap.size w hn w' [] ∧ v = .bool (zcf bound (-1) l) := by
 refine zas Try.func49 rfl Try.ntmps49 rfl ?_
 have S0 := St.init w
 have bb0 := b0.1; have bc0 := b0.2; simp only [maxLen] at bc0
 have lo1 := za0 i1; have hi1 := za1 i1
 refine zab <| zac (l := [0]) rfl <| p_v (v := .bool false) rfl rfl rfl (zae rfl) <| zaa <| zab <| zab <| zac (l := [0]) rfl <| p_v (v := .int .i64 0) rfl rfl rfl (zae rfl) <| zaa <| zam <| za6 (S := Int) (fun (q_ : Int) ρ w' => match q_ with | i => ∃ (h : Ghost), Le (fun _ => none) h ∧ St w.heap.size w h w' [] ∧ ρ 0 = .slice A0 l.length c0 ∧ ρ 1 = .int .i64 bound ∧ ρ 5 = .int .i64 i ∧ inK .i64 i ∧ (0 ≤ i ∧ i ≤ (l.length : Int) ∧ -1 ≤ prevOf l i ∧ zcf bound (-1) l = zcf bound (prevOf l i) (l.drop i.toNat))) (fun q_ => match q_ with | i => (l.length - i).toNat) (0) ⟨(fun _ => none), Le.refl _, S0.sub [] (by decide) rfl _ rfl, rfl, rfl, rfl, (zai (by first|omega|(simp;omega)|assumption) (by first|omega|(simp;omega)|assumption)), (by exact ⟨by omega, by omega, by unfold prevOf; simp, by unfold prevOf; simp⟩)⟩ ?_
 rintro i ih1 ρ1 w1 ⟨h1, le1, S1, r1_0, r1_1, r1_5, f1_0, hI1⟩
 have lf1_0 := za0 f1_0; have hf1_0 := za1 f1_0
 have hp0_ : ¬ 0 < i → prevOf l i = -1 := fun h => if_pos (by omega)
 have hp1_ : 0 < i → prevOf l i = at_ l (i - 1) := fun h => if_neg (by omega)
 have hp2_ : 0 ≤ i → prevOf l (i + 1) = at_ l i := fun h => (if_neg (by omega)).trans (by rw [show i + 1 - 1 = i by omega])
 refine zab <| zab <| zac (l := [0, 1, 2, 3]) rfl <| p_v (v := .int .i64 i) rfl rfl rfl (zad r1_5) <| p_v (v := .slice A0 l.length c0) rfl rfl rfl (zad r1_0) <| p_v (v := .int .i64 (l.length : Int)) rfl rfl rfl (zat u23 rfl) <| p_v (v := .bool (decide (i < (l.length : Int)))) rfl rfl rfl (zcp rfl rfl) <| zaa ?_
 refine zaj (p := i < (l.length : Int)) rfl (fun hc2 => ?_) (fun hc2 => ?_)
 ·skip
  refine zap <| zab <| zam <| zab ?_
  obtain ⟨ad3, seg3, a3, rp3, ce3⟩ := zao (q := i) (m := 1) l0 rfl (by first|omega|(simp;omega)|assumption) (by first|omega|(simp;omega)|assumption)
  obtain ⟨rfl, in3⟩ := rp3
  have lo3 := za0 in3; have hi3 := za1 in3
  by_cases hc4 : (at_ l i) < 0
  ·skip
   have hf5 : (CFs ad3 [.int .i64 (at_ l i)]).1 w1 := (CF.ghost ce3 (St.le0 S1))
   refine daS (hkC 3 hf5 (hkN (w := w1))) 29 rfl zc9 ?_
   intro wd6 gd6 hd6
   have S7 := S1.keep gd6
   have hf8 := spUp gd6 hf5
   refine qd0 (i := 0) (v := .slice A0 l.length c0) rfl (by decide +kernel) rfl rfl (zad r1_0) (zaf rfl) <| qd0 (i := 1) (v := .int .i64 i) rfl (by decide +kernel) rfl rfl (zad r1_5) (zaf rfl) <| qd0 (i := 2) (v := .pointer (some ad3)) rfl (by decide +kernel) rfl rfl (zan u23 ty3 rfl rfl a3 (by first|omega|(simp;omega)|assumption) (by first|omega|(simp;omega)|assumption)) (zaf rfl) <| qd1 0 (i := 3) (v := .int .i64 (at_ l i)) rfl rfl (by decide +kernel) rfl rfl (fun wq hq => (zah (seg := [.int .i64 (at_ l i)]) ty3 rfl (by simp) rfl hq)) (zaz hf8 (of_nil _ _)) <| qd0 (i := 4) (v := .bool (decide ((at_ l i) < 0))) rfl (by decide +kernel) rfl rfl (zcp rfl rfl) (zaf rfl) <| qd0 (i := 5) (v := .bool (decide ((at_ l i) < 0))) rfl (by decide +kernel) rfl rfl (zad rfl) (zaf rfl) <| zbf (i := 6) rfl (by decide +kernel) (by decide +kernel) (by decide +kernel) (wo 5 17 rfl rfl (bT hc4) rfl) rfl (zaf rfl) <| zbf (i := 7) rfl (by decide +kernel) (by decide +kernel) (by decide +kernel) (wo 5 17 rfl rfl (bT hc4) rfl) rfl (zaf rfl) <| zbf (i := 8) rfl (by decide +kernel) (by decide +kernel) (by decide +kernel) (wo 5 17 rfl rfl (bT hc4) rfl) rfl (zaf rfl) <| zbf (i := 9) rfl (by decide +kernel) (by decide +kernel) (by decide +kernel) (wo 5 17 rfl rfl (bT hc4) rfl) rfl (zaf rfl) <| zbf (i := 10) rfl (by decide +kernel) (by decide +kernel) (by decide +kernel) (wo 5 17 rfl rfl (bT hc4) rfl) rfl (zaf rfl) <| zbf (i := 11) rfl (by decide +kernel) (by decide +kernel) (by decide +kernel) (wo 5 17 rfl rfl (bT hc4) rfl) rfl (zaf rfl) ?_
   refine qd0 (i := 12) (v := .bool true) rfl (by decide +kernel) rfl rfl (za5 (bT hc4) rfl) (zaf rfl) <| qd0 (i := 13) (v := .bool true) rfl (by decide +kernel) rfl rfl (zad rfl) (zaf rfl) <| zbf (i := 14) rfl (by decide +kernel) (by decide +kernel) (by decide +kernel) rfl rfl (zaf rfl) <| zbf (i := 15) rfl (by decide +kernel) (by decide +kernel) (by decide +kernel) rfl rfl (zaf rfl) <| zbf (i := 16) rfl (by decide +kernel) (by decide +kernel) (by decide +kernel) rfl rfl (zaf rfl) <| zbf (i := 17) rfl (by decide +kernel) (by decide +kernel) (by decide +kernel) rfl rfl (zaf rfl) <| zbf (i := 18) rfl (by decide +kernel) (by decide +kernel) (by decide +kernel) rfl rfl (zaf rfl) <| zbf (i := 19) rfl (by decide +kernel) (by decide +kernel) (by decide +kernel) rfl rfl (zaf rfl) <| zbf (i := 20) rfl (by decide +kernel) (by decide +kernel) (by decide +kernel) rfl rfl (zaf rfl) <| zbf (i := 21) rfl (by decide +kernel) (by decide +kernel) (by decide +kernel) rfl rfl (zaf rfl) <| zbf (i := 22) rfl (by decide +kernel) (by decide +kernel) (by decide +kernel) rfl rfl (zaf rfl) <| zbf (i := 23) rfl (by decide +kernel) (by decide +kernel) (by decide +kernel) rfl rfl (zaf rfl) ?_
   refine zbf (i := 24) rfl (by decide +kernel) (by decide +kernel) (by decide +kernel) rfl rfl (zaf rfl) <| zbf (i := 25) rfl (by decide +kernel) (by decide +kernel) (by decide +kernel) rfl rfl (zaf rfl) <| zbf (i := 26) rfl (by decide +kernel) (by decide +kernel) (by decide +kernel) rfl rfl (zaf rfl) <| zbf (i := 27) rfl (by decide +kernel) (by decide +kernel) (by decide +kernel) rfl rfl (zaf rfl) <| qd0 (i := 28) (v := .bool true) rfl (by decide +kernel) rfl rfl (za5 rfl rfl) (zaf rfl) <| zbh (by decide +kernel) ?_
   intro wd9 gd9
   have S10 := S7.keep gd9
   refine zbp (b := true) rfl ?_
   simp only [if_true, if_false, Bool.false_eq_true]
   refine zab <| zac (l := [0]) rfl <| p_v (v := .bool false) rfl rfl rfl (zae rfl) <| zaa <| zau Try.func49 (res1 rfl (zav (v := .bool false) rfl)) ?_
   have q0 : (zcf bound (-1) l : Bool) = false := by
    first | (rw [hI1.2.2.2, drop_end l (by omega), rises_nil]) | (rw [hI1.2.2.2, zb1 l hI1.1 (by omega), decide_eq_false (by omega : ¬ prevOf l i < at_ l i)]; rfl; done) | (rw [hI1.2.2.2, zb1 l hI1.1 (by omega), decide_eq_false (by omega : ¬ at_ l i < bound)]; simp; done) | (rw [hI1.2.2.2, zb1 l hI1.1 (by omega), hp1_ (by omega), decide_eq_false (by omega)]; rfl)
   refine ⟨_, rfl, h1, ?_, ?_⟩
   · exact S10.sub [] (by decide) rfl _ rfl
   · first | rfl | (simp only [q0]; rfl) | (simp only [q0])
  obtain ⟨ad11, seg11, a11, rp11, ce11⟩ := zao (q := i) (m := 1) l0 rfl (by first|omega|(simp;omega)|assumption) (by first|omega|(simp;omega)|assumption)
  obtain ⟨rfl, in11⟩ := rp11
  have lo11 := za0 in11; have hi11 := za1 in11
  by_cases hc12 : bound ≤ (at_ l i)
  ·skip
   have hf13 : (CFs ad3 [.int .i64 (at_ l i)]).1 w1 := (CF.ghost ce3 (St.le0 S1))
   have hf14 : (CFs ad11 [.int .i64 (at_ l i)]).1 w1 := (CF.ghost ce11 (St.le0 S1))
   refine daS (hkC 3 hf13 (hkC 9 hf14 (hkN (w := w1)))) 29 rfl zc9 ?_
   intro wd15 gd15 hd15
   have S16 := S1.keep gd15
   have hf17 := spUp gd15 hf13
   have hf18 := spUp gd15 hf14
   refine qd0 (i := 0) (v := .slice A0 l.length c0) rfl (by decide +kernel) rfl rfl (zad r1_0) (zaf rfl) <| qd0 (i := 1) (v := .int .i64 i) rfl (by decide +kernel) rfl rfl (zad r1_5) (zaf rfl) <| qd0 (i := 2) (v := .pointer (some ad3)) rfl (by decide +kernel) rfl rfl (zan u23 ty3 rfl rfl a3 (by first|omega|(simp;omega)|assumption) (by first|omega|(simp;omega)|assumption)) (zaf rfl) <| qd1 0 (i := 3) (v := .int .i64 (at_ l i)) rfl rfl (by decide +kernel) rfl rfl (fun wq hq => (zah (seg := [.int .i64 (at_ l i)]) ty3 rfl (by simp) rfl hq)) (zaz hf17 (zaf rfl)) <| qd0 (i := 4) (v := .bool (decide ((at_ l i) < 0))) rfl (by decide +kernel) rfl rfl (zcp rfl rfl) (zaf rfl) <| qd0 (i := 5) (v := .bool (decide ((at_ l i) < 0))) rfl (by decide +kernel) rfl rfl (zad rfl) (zaf rfl) <| qd0 (i := 6) (v := .slice A0 l.length c0) rfl (by decide +kernel) (wo 5 17 rfl rfl (bF hc4) rfl) rfl (zad r1_0) (zaf rfl) <| qd0 (i := 7) (v := .int .i64 i) rfl (by decide +kernel) (wo 5 17 rfl rfl (bF hc4) rfl) rfl (zad r1_5) (zaf rfl) <| qd0 (i := 8) (v := .pointer (some ad11)) rfl (by decide +kernel) (wo 5 17 rfl rfl (bF hc4) rfl) rfl (zan u23 ty3 rfl rfl a11 (by first|omega|(simp;omega)|assumption) (by first|omega|(simp;omega)|assumption)) (zaf rfl) <| qd1 1 (i := 9) (v := .int .i64 (at_ l i)) rfl rfl (by decide +kernel) (wo 5 17 rfl rfl (bF hc4) rfl) rfl (fun wq hq => (zah (seg := [.int .i64 (at_ l i)]) ty3 rfl (by simp) rfl hq)) (zar rfl (zaz hf18 (zaf rfl))) <| qd0 (i := 10) (v := .int .i64 bound) rfl (by decide +kernel) (wo 5 17 rfl rfl (bF hc4) rfl) rfl (zad r1_1) (zaf rfl) <| qd0 (i := 11) (v := .bool (decide (bound ≤ (at_ l i)))) rfl (by decide +kernel) (wo 5 17 rfl rfl (bF hc4) rfl) rfl (x_geq rfl rfl) (zaf rfl) ?_
   refine qd0 (i := 12) (v := .bool (decide (bound ≤ (at_ l i)))) rfl (by decide +kernel) rfl rfl (zbo (bF hc4) rfl) (zaf rfl) <| qd0 (i := 13) (v := .bool (decide (bound ≤ (at_ l i)))) rfl (by decide +kernel) rfl rfl (zad rfl) (zaf rfl) <| zbf (i := 14) rfl (by decide +kernel) (by decide +kernel) (by decide +kernel) (wo 13 25 rfl rfl (bT hc12) rfl) rfl (zaf rfl) <| zbf (i := 15) rfl (by decide +kernel) (by decide +kernel) (by decide +kernel) (wo 13 25 rfl rfl (bT hc12) rfl) rfl (zaf rfl) <| zbf (i := 16) rfl (by decide +kernel) (by decide +kernel) (by decide +kernel) (wo 13 25 rfl rfl (bT hc12) rfl) rfl (zaf rfl) <| zbf (i := 17) rfl (by decide +kernel) (by decide +kernel) (by decide +kernel) rfl rfl (zaf rfl) <| zbf (i := 18) rfl (by decide +kernel) (by decide +kernel) (by decide +kernel) rfl rfl (zaf rfl) <| zbf (i := 19) rfl (by decide +kernel) (by decide +kernel) (by decide +kernel) rfl rfl (zaf rfl) <| zbf (i := 20) rfl (by decide +kernel) (by decide +kernel) (by decide +kernel) rfl rfl (zaf rfl) <| zbf (i := 21) rfl (by decide +kernel) (by decide +kernel) (by decide +kernel) rfl rfl (zaf rfl) <| zbf (i := 22) rfl (by decide +kernel) (by decide +kernel) (by decide +kernel) rfl rfl (zaf rfl) <| zbf (i := 23) rfl (by decide +kernel) (by decide +kernel) (by decide +kernel) rfl rfl (zaf rfl) ?_
   refine zbf (i := 24) rfl (by decide +kernel) (by decide +kernel) (by decide +kernel) rfl rfl (zaf rfl) <| zbf (i := 25) rfl (by decide +kernel) (by decide +kernel) (by decide +kernel) rfl rfl (zaf rfl) <| zbf (i := 26) rfl (by decide +kernel) (by decide +kernel) (by decide +kernel) rfl rfl (zaf rfl) <| zbf (i := 27) rfl (by decide +kernel) (by decide +kernel) (by decide +kernel) (wo 13 25 rfl rfl (bT hc12) rfl) rfl (zaf rfl) <| qd0 (i := 28) (v := .bool true) rfl (by decide +kernel) rfl rfl (za5 (bT hc12) rfl) (zaf rfl) <| zbh (by decide +kernel) ?_
   intro wd19 gd19
   have S20 := S16.keep gd19
   refine zbp (b := true) rfl ?_
   simp only [if_true, if_false, Bool.false_eq_true]
   refine zab <| zac (l := [0]) rfl <| p_v (v := .bool false) rfl rfl rfl (zae rfl) <| zaa <| zau Try.func49 (res1 rfl (zav (v := .bool false) rfl)) ?_
   have q0 : (zcf bound (-1) l : Bool) = false := by
    first | (rw [hI1.2.2.2, drop_end l (by omega), rises_nil]) | (rw [hI1.2.2.2, zb1 l hI1.1 (by omega), decide_eq_false (by omega : ¬ prevOf l i < at_ l i)]; rfl; done) | (rw [hI1.2.2.2, zb1 l hI1.1 (by omega), decide_eq_false (by omega : ¬ at_ l i < bound)]; simp; done) | (rw [hI1.2.2.2, zb1 l hI1.1 (by omega), hp1_ (by omega), decide_eq_false (by omega)]; rfl)
   refine ⟨_, rfl, h1, ?_, ?_⟩
   · exact S20.sub [] (by decide) rfl _ rfl
   · first | rfl | (simp only [q0]; rfl) | (simp only [q0])
  by_cases hc21 : 0 < i
  ·skip
   obtain ⟨ad22, seg22, a22, rp22, ce22⟩ := zao (q := i) (m := 1) l0 rfl (by first|omega|(simp;omega)|assumption) (by first|omega|(simp;omega)|assumption)
   obtain ⟨rfl, in22⟩ := rp22
   have lo22 := za0 in22; have hi22 := za1 in22
   obtain ⟨ad23, seg23, a23, rp23, ce23⟩ := zao (q := i - 1) (m := 1) l0 rfl (by first|omega|(simp;omega)|assumption) (by first|omega|(simp;omega)|assumption)
   obtain ⟨rfl, in23⟩ := rp23
   have lo23 := za0 in23; have hi23 := za1 in23
   have hf24 : (CFs ad3 [.int .i64 (at_ l i)]).1 w1 := (CF.ghost ce3 (St.le0 S1))
   have hf25 : (CFs ad11 [.int .i64 (at_ l i)]).1 w1 := (CF.ghost ce11 (St.le0 S1))
   have hf26 : (CFs ad22 [.int .i64 (at_ l i)]).1 w1 := (CF.ghost ce22 (St.le0 S1))
   have hf27 : (CFs ad23 [.int .i64 (at_ l (i - 1))]).1 w1 := (CF.ghost ce23 (St.le0 S1))
   refine daS (hkC 3 hf24 (hkC 9 hf25 (hkC 20 hf26 (hkC 25 hf27 (hkN (w := w1)))))) 29 rfl zc9 ?_
   intro wd28 gd28 hd28
   have S29 := S1.keep gd28
   have hf30 := spUp gd28 hf24
   have hf31 := spUp gd28 hf25
   have hf32 := spUp gd28 hf26
   have hf33 := spUp gd28 hf27
   refine qd0 (i := 0) (v := .slice A0 l.length c0) rfl (by decide +kernel) rfl rfl (zad r1_0) (zaf rfl) <| qd0 (i := 1) (v := .int .i64 i) rfl (by decide +kernel) rfl rfl (zad r1_5) (zaf rfl) <| qd0 (i := 2) (v := .pointer (some ad3)) rfl (by decide +kernel) rfl rfl (zan u23 ty3 rfl rfl a3 (by first|omega|(simp;omega)|assumption) (by first|omega|(simp;omega)|assumption)) (zaf rfl) <| qd1 0 (i := 3) (v := .int .i64 (at_ l i)) rfl rfl (by decide +kernel) rfl rfl (fun wq hq => (zah (seg := [.int .i64 (at_ l i)]) ty3 rfl (by simp) rfl hq)) (zaz hf30 (zaf rfl)) <| qd0 (i := 4) (v := .bool (decide ((at_ l i) < 0))) rfl (by decide +kernel) rfl rfl (zcp rfl rfl) (zaf rfl) <| qd0 (i := 5) (v := .bool (decide ((at_ l i) < 0))) rfl (by decide +kernel) rfl rfl (zad rfl) (zaf rfl) <| qd0 (i := 6) (v := .slice A0 l.length c0) rfl (by decide +kernel) (wo 5 17 rfl rfl (bF hc4) rfl) rfl (zad r1_0) (zaf rfl) <| qd0 (i := 7) (v := .int .i64 i) rfl (by decide +kernel) (wo 5 17 rfl rfl (bF hc4) rfl) rfl (zad r1_5) (zaf rfl) <| qd0 (i := 8) (v := .pointer (some ad11)) rfl (by decide +kernel) (wo 5 17 rfl rfl (bF hc4) rfl) rfl (zan u23 ty3 rfl rfl a11 (by first|omega|(simp;omega)|assumption) (by first|omega|(simp;omega)|assumption)) (zaf rfl) <| qd1 1 (i := 9) (v := .int .i64 (at_ l i)) rfl rfl (by decide +kernel) (wo 5 17 rfl rfl (bF hc4) rfl) rfl (fun wq hq => (zah (seg := [.int .i64 (at_ l i)]) ty3 rfl (by simp) rfl hq)) (zar rfl (zaz hf31 (zaf rfl))) <| qd0 (i := 10) (v := .int .i64 bound) rfl (by decide +kernel) (wo 5 17 rfl rfl (bF hc4) rfl) rfl (zad r1_1) (zaf rfl) <| qd0 (i := 11) (v := .bool (decide (bound ≤ (at_ l i)))) rfl (by decide +kernel) (wo 5 17 rfl rfl (bF hc4) rfl) rfl (x_geq rfl rfl) (zaf rfl) ?_
   refine qd0 (i := 12) (v := .bool (decide (bound ≤ (at_ l i)))) rfl (by decide +kernel) rfl rfl (zbo (bF hc4) rfl) (zaf rfl) <| qd0 (i := 13) (v := .bool (decide (bound ≤ (at_ l i)))) rfl (by decide +kernel) rfl rfl (zad rfl) (zaf rfl) <| qd0 (i := 14) (v := .int .i64 i) rfl (by decide +kernel) (wo 13 25 rfl rfl (bF hc12) rfl) rfl (zad r1_5) (zaf rfl) <| qd0 (i := 15) (v := .bool (decide (0 < i))) rfl (by decide +kernel) (wo 13 25 rfl rfl (bF hc12) rfl) rfl (x_gtr rfl rfl) (zaf rfl) <| qd0 (i := 16) (v := .bool (decide (0 < i))) rfl (by decide +kernel) (wo 13 25 rfl rfl (bF hc12) rfl) rfl (zad rfl) (zaf rfl) <| qd0 (i := 17) (v := .slice A0 l.length c0) rfl (by decide +kernel) (wo 16 28 rfl rfl (bT hc21) rfl) rfl (zad r1_0) (zaf rfl) <| qd0 (i := 18) (v := .int .i64 i) rfl (by decide +kernel) (wo 16 28 rfl rfl (bT hc21) rfl) rfl (zad r1_5) (zaf rfl) <| qd0 (i := 19) (v := .pointer (some ad22)) rfl (by decide +kernel) (wo 16 28 rfl rfl (bT hc21) rfl) rfl (zan u23 ty3 rfl rfl a22 (by first|omega|(simp;omega)|assumption) (by first|omega|(simp;omega)|assumption)) (zaf rfl) <| qd1 2 (i := 20) (v := .int .i64 (at_ l i)) rfl rfl (by decide +kernel) (wo 16 28 rfl rfl (bT hc21) rfl) rfl (fun wq hq => (zah (seg := [.int .i64 (at_ l i)]) ty3 rfl (by simp) rfl hq)) (zar rfl (zar rfl (zaz hf32 (zaf rfl)))) <| qd0 (i := 21) (v := .slice A0 l.length c0) rfl (by decide +kernel) (wo 16 28 rfl rfl (bT hc21) rfl) rfl (zad r1_0) (zaf rfl) <| qd0 (i := 22) (v := .int .i64 i) rfl (by decide +kernel) (wo 16 28 rfl rfl (bT hc21) rfl) rfl (zad r1_5) (zaf rfl) <| qd0 (i := 23) (v := .int .i64 (i - 1)) rfl (by decide +kernel) (wo 16 28 rfl rfl (bT hc21) rfl) rfl (x_sub rfl rfl (zai (by first|omega|(simp;omega)|assumption) (by first|omega|(simp;omega)|assumption))) (zaf rfl) ?_
   refine qd0 (i := 24) (v := .pointer (some ad23)) rfl (by decide +kernel) (wo 16 28 rfl rfl (bT hc21) rfl) rfl (zan u23 ty3 rfl rfl a23 (by first|omega|(simp;omega)|assumption) (by first|omega|(simp;omega)|assumption)) (zaf rfl) <| qd1 3 (i := 25) (v := .int .i64 (at_ l (i - 1))) rfl rfl (by decide +kernel) (wo 16 28 rfl rfl (bT hc21) rfl) rfl (fun wq hq => (zah (seg := [.int .i64 (at_ l (i - 1))]) ty3 rfl (by simp) rfl hq)) (zar rfl (zar rfl (zar rfl (zaz hf33 (zaf rfl))))) <| qd0 (i := 26) (v := .bool (decide ((at_ l i) ≤ (at_ l (i - 1))))) rfl (by decide +kernel) (wo 16 28 rfl rfl (bT hc21) rfl) rfl (x_leq rfl rfl) (zaf rfl) <| qd0 (i := 27) (v := .bool (decide ((at_ l i) ≤ (at_ l (i - 1))))) rfl (by decide +kernel) (wo 13 25 rfl rfl (bF hc12) rfl) rfl (za5 (bT hc21) rfl) (zaf rfl) <| qd0 (i := 28) (v := .bool (decide ((at_ l i) ≤ (at_ l (i - 1))))) rfl (by decide +kernel) rfl rfl (zbo (bF hc12) rfl) (zaf rfl) <| zbh (by decide +kernel) ?_
   intro wd34 gd34
   have S35 := S29.keep gd34
   refine zaj (p := (at_ l i) ≤ (at_ l (i - 1))) rfl (fun hc36 => ?_) (fun hc36 => ?_)
   ·skip
    refine zab <| zac (l := [0]) rfl <| p_v (v := .bool false) rfl rfl rfl (zae rfl) <| zaa <| zau Try.func49 (res1 rfl (zav (v := .bool false) rfl)) ?_
    have q0 : (zcf bound (-1) l : Bool) = false := by
     first | (rw [hI1.2.2.2, drop_end l (by omega), rises_nil]) | (rw [hI1.2.2.2, zb1 l hI1.1 (by omega), decide_eq_false (by omega : ¬ prevOf l i < at_ l i)]; rfl; done) | (rw [hI1.2.2.2, zb1 l hI1.1 (by omega), decide_eq_false (by omega : ¬ at_ l i < bound)]; simp; done) | (rw [hI1.2.2.2, zb1 l hI1.1 (by omega), hp1_ (by omega), decide_eq_false (by omega)]; rfl)
    refine ⟨_, rfl, h1, ?_, ?_⟩
    · exact S35.sub [] (by decide) rfl _ rfl
    · first | rfl | (simp only [q0]; rfl) | (simp only [q0])
   refine zap <| zak <| zac (l := [0, 1, 2]) rfl <| p_v (v := .int .i64 i) rfl rfl rfl (zad r1_5) <| p_v (v := .int .i64 (i + 1)) rfl rfl rfl (zbm rfl rfl (zai (by first|omega|(simp;omega)|assumption) (by first|omega|(simp;omega)|assumption))) <| p_v (v := .int .i64 (i + 1)) rfl rfl rfl (zae rfl) <| zaa ?_
   refine ih1 (i + 1) _ _ (by dsimp only; omega) ⟨h1, le1, S35.sub [] (by decide) rfl _ rfl, r1_0, r1_1, rfl, (zai (by first|omega|(simp;omega)|assumption) (by first|omega|(simp;omega)|assumption)), (by exact ⟨by omega, by omega, by rw [hp2_ (by omega)]; omega, by rw [hI1.2.2.2, zb1 l hI1.1 (by omega), hp2_ (by omega), decide_eq_true (by first | (rw [hp0_ (by omega)]; omega) | (rw [hp1_ (by omega)]; omega)), decide_eq_true (by omega)]; rfl⟩)⟩
  have hf37 : (CFs ad3 [.int .i64 (at_ l i)]).1 w1 := (CF.ghost ce3 (St.le0 S1))
  have hf38 : (CFs ad11 [.int .i64 (at_ l i)]).1 w1 := (CF.ghost ce11 (St.le0 S1))
  refine daS (hkC 3 hf37 (hkC 9 hf38 (hkN (w := w1)))) 29 rfl zc9 ?_
  intro wd39 gd39 hd39
  have S40 := S1.keep gd39
  have hf41 := spUp gd39 hf37
  have hf42 := spUp gd39 hf38
  refine qd0 (i := 0) (v := .slice A0 l.length c0) rfl (by decide +kernel) rfl rfl (zad r1_0) (zaf rfl) <| qd0 (i := 1) (v := .int .i64 i) rfl (by decide +kernel) rfl rfl (zad r1_5) (zaf rfl) <| qd0 (i := 2) (v := .pointer (some ad3)) rfl (by decide +kernel) rfl rfl (zan u23 ty3 rfl rfl a3 (by first|omega|(simp;omega)|assumption) (by first|omega|(simp;omega)|assumption)) (zaf rfl) <| qd1 0 (i := 3) (v := .int .i64 (at_ l i)) rfl rfl (by decide +kernel) rfl rfl (fun wq hq => (zah (seg := [.int .i64 (at_ l i)]) ty3 rfl (by simp) rfl hq)) (zaz hf41 (zaf rfl)) <| qd0 (i := 4) (v := .bool (decide ((at_ l i) < 0))) rfl (by decide +kernel) rfl rfl (zcp rfl rfl) (zaf rfl) <| qd0 (i := 5) (v := .bool (decide ((at_ l i) < 0))) rfl (by decide +kernel) rfl rfl (zad rfl) (zaf rfl) <| qd0 (i := 6) (v := .slice A0 l.length c0) rfl (by decide +kernel) (wo 5 17 rfl rfl (bF hc4) rfl) rfl (zad r1_0) (zaf rfl) <| qd0 (i := 7) (v := .int .i64 i) rfl (by decide +kernel) (wo 5 17 rfl rfl (bF hc4) rfl) rfl (zad r1_5) (zaf rfl) <| qd0 (i := 8) (v := .pointer (some ad11)) rfl (by decide +kernel) (wo 5 17 rfl rfl (bF hc4) rfl) rfl (zan u23 ty3 rfl rfl a11 (by first|omega|(simp;omega)|assumption) (by first|omega|(simp;omega)|assumption)) (zaf rfl) <| qd1 1 (i := 9) (v := .int .i64 (at_ l i)) rfl rfl (by decide +kernel) (wo 5 17 rfl rfl (bF hc4) rfl) rfl (fun wq hq => (zah (seg := [.int .i64 (at_ l i)]) ty3 rfl (by simp) rfl hq)) (zar rfl (zaz hf42 (zaf rfl))) <| qd0 (i := 10) (v := .int .i64 bound) rfl (by decide +kernel) (wo 5 17 rfl rfl (bF hc4) rfl) rfl (zad r1_1) (zaf rfl) <| qd0 (i := 11) (v := .bool (decide (bound ≤ (at_ l i)))) rfl (by decide +kernel) (wo 5 17 rfl rfl (bF hc4) rfl) rfl (x_geq rfl rfl) (zaf rfl) ?_
  refine qd0 (i := 12) (v := .bool (decide (bound ≤ (at_ l i)))) rfl (by decide +kernel) rfl rfl (zbo (bF hc4) rfl) (zaf rfl) <| qd0 (i := 13) (v := .bool (decide (bound ≤ (at_ l i)))) rfl (by decide +kernel) rfl rfl (zad rfl) (zaf rfl) <| qd0 (i := 14) (v := .int .i64 i) rfl (by decide +kernel) (wo 13 25 rfl rfl (bF hc12) rfl) rfl (zad r1_5) (zaf rfl) <| qd0 (i := 15) (v := .bool (decide (0 < i))) rfl (by decide +kernel) (wo 13 25 rfl rfl (bF hc12) rfl) rfl (x_gtr rfl rfl) (zaf rfl) <| qd0 (i := 16) (v := .bool (decide (0 < i))) rfl (by decide +kernel) (wo 13 25 rfl rfl (bF hc12) rfl) rfl (zad rfl) (zaf rfl) <| zbf (i := 17) rfl (by decide +kernel) (by decide +kernel) (by decide +kernel) (wo 16 28 rfl rfl (bF hc21) rfl) rfl (zaf rfl) <| zbf (i := 18) rfl (by decide +kernel) (by decide +kernel) (by decide +kernel) (wo 16 28 rfl rfl (bF hc21) rfl) rfl (zaf rfl) <| zbf (i := 19) rfl (by decide +kernel) (by decide +kernel) (by decide +kernel) (wo 16 28 rfl rfl (bF hc21) rfl) rfl (zaf rfl) <| zbf (i := 20) rfl (by decide +kernel) (by decide +kernel) (by decide +kernel) (wo 16 28 rfl rfl (bF hc21) rfl) rfl (zaf rfl) <| zbf (i := 21) rfl (by decide +kernel) (by decide +kernel) (by decide +kernel) (wo 16 28 rfl rfl (bF hc21) rfl) rfl (zaf rfl) <| zbf (i := 22) rfl (by decide +kernel) (by decide +kernel) (by decide +kernel) (wo 16 28 rfl rfl (bF hc21) rfl) rfl (zaf rfl) <| zbf (i := 23) rfl (by decide +kernel) (by decide +kernel) (by decide +kernel) (wo 16 28 rfl rfl (bF hc21) rfl) rfl (zaf rfl) ?_
  refine zbf (i := 24) rfl (by decide +kernel) (by decide +kernel) (by decide +kernel) (wo 16 28 rfl rfl (bF hc21) rfl) rfl (zaf rfl) <| zbf (i := 25) rfl (by decide +kernel) (by decide +kernel) (by decide +kernel) (wo 16 28 rfl rfl (bF hc21) rfl) rfl (zaf rfl) <| zbf (i := 26) rfl (by decide +kernel) (by decide +kernel) (by decide +kernel) (wo 16 28 rfl rfl (bF hc21) rfl) rfl (zaf rfl) <| qd0 (i := 27) (v := .bool false) rfl (by decide +kernel) (wo 13 25 rfl rfl (bF hc12) rfl) rfl (zbo (bF hc21) rfl) (zaf rfl) <| qd0 (i := 28) (v := .bool false) rfl (by decide +kernel) rfl rfl (zbo (bF hc12) rfl) (zaf rfl) <| zbh (by decide +kernel) ?_
  intro wd43 gd43
  have S44 := S40.keep gd43
  refine zbp (b := false) rfl ?_
  simp only [if_true, if_false, Bool.false_eq_true]
  refine zap <| zak <| zac (l := [0, 1, 2]) rfl <| p_v (v := .int .i64 i) rfl rfl rfl (zad r1_5) <| p_v (v := .int .i64 (i + 1)) rfl rfl rfl (zbm rfl rfl (zai (by first|omega|(simp;omega)|assumption) (by first|omega|(simp;omega)|assumption))) <| p_v (v := .int .i64 (i + 1)) rfl rfl rfl (zae rfl) <| zaa ?_
  refine ih1 (i + 1) _ _ (by dsimp only; omega) ⟨h1, le1, S44.sub [] (by decide) rfl _ rfl, r1_0, r1_1, rfl, (zai (by first|omega|(simp;omega)|assumption) (by first|omega|(simp;omega)|assumption)), (by exact ⟨by omega, by omega, by rw [hp2_ (by omega)]; omega, by rw [hI1.2.2.2, zb1 l hI1.1 (by omega), hp2_ (by omega), decide_eq_true (by first | (rw [hp0_ (by omega)]; omega) | (rw [hp1_ (by omega)]; omega)), decide_eq_true (by omega)]; rfl⟩)⟩
 refine za3 rfl <| zab <| zac (l := [0]) rfl <| p_v (v := .bool true) rfl rfl rfl (zae rfl) <| zaa <| zau Try.func49 (res1 rfl (zav (v := .bool true) rfl)) ?_
 have q0 : (zcf bound (-1) l : Bool) = true := by
  first | (rw [hI1.2.2.2, drop_end l (by omega), rises_nil]) | (rw [hI1.2.2.2, zb1 l hI1.1 (by omega), decide_eq_false (by omega : ¬ prevOf l i < at_ l i)]; rfl; done) | (rw [hI1.2.2.2, zb1 l hI1.1 (by omega), decide_eq_false (by omega : ¬ at_ l i < bound)]; simp; done) | (rw [hI1.2.2.2, zb1 l hI1.1 (by omega), hp1_ (by omega), decide_eq_false (by omega)]; rfl)
 refine ⟨_, rfl, h1, ?_, ?_⟩
 · exact S1.sub [] (by decide) rfl _ rfl
 · first | rfl | (simp only [q0]; rfl) | (simp only [q0])
theorem hasn_calls (w : World) (l : List Int) (A0 : Option Addr) (c0 : Nat) (b0 : l.length ≤ c0 ∧ c0 ≤ maxLen) (l0 : za4 (Kd.int .i64) (hp w) A0 l) (n : Int) (i1 : inK .i64 n) :
    Calls Try.prog 40 #[.slice A0 l.length c0, .int .i64 n] w fun e w' => ∃ v, e = .returned v ∧ ∃ (hn : Ghost), St w.heap.size w hn w' [] ∧ v = .bool (decide (n ∈ l)) := by
 refine zas Try.func40 rfl Try.ntmps40 rfl ?_
 have S0 := St.init w
 have bb0 := b0.1; have bc0 := b0.2; simp only [maxLen] at bc0
 have lo1 := za0 i1; have hi1 := za1 i1
 refine zab <| zac (l := [0]) rfl <| p_v (v := .bool false) rfl rfl rfl (zae rfl) <| zaa <| zab <| zab <| zac (l := [0]) rfl <| p_v (v := .int .i64 0) rfl rfl rfl (zae rfl) <| zaa <| zam <| za6 (S := Int) (fun (q_ : Int) ρ w' => match q_ with | i => ∃ (h : Ghost), Le (fun _ => none) h ∧ St w.heap.size w h w' [] ∧ ρ 0 = .slice A0 l.length c0 ∧ ρ 1 = .int .i64 n ∧ ρ 5 = .int .i64 i ∧ inK .i64 i ∧ (0 ≤ i ∧ i ≤ (l.length : Int) ∧ n ∉ l.take i.toNat)) (fun q_ => match q_ with | i => (l.length - i).toNat) (0) ⟨(fun _ => none), Le.refl _, S0.sub [] (by decide) rfl _ rfl, rfl, rfl, rfl, (zai (by first|omega|(simp;omega)|assumption) (by first|omega|(simp;omega)|assumption)), (by exact ⟨by omega, by omega, by simp⟩)⟩ ?_
 rintro i ih1 ρ1 w1 ⟨h1, le1, S1, r1_0, r1_1, r1_5, f1_0, hI1⟩
 have lf1_0 := za0 f1_0; have hf1_0 := za1 f1_0
 refine zab <| zab <| zac (l := [0, 1, 2, 3]) rfl <| p_v (v := .int .i64 i) rfl rfl rfl (zad r1_5) <| p_v (v := .slice A0 l.length c0) rfl rfl rfl (zad r1_0) <| p_v (v := .int .i64 (l.length : Int)) rfl rfl rfl (zat u23 rfl) <| p_v (v := .bool (decide (i < (l.length : Int)))) rfl rfl rfl (zcp rfl rfl) <| zaa ?_
 refine zaj (p := i < (l.length : Int)) rfl (fun hc2 => ?_) (fun hc2 => ?_)
 ·skip
  refine zap <| zab <| zam <| zab <| zac (l := [0, 1, 2, 3, 4, 5]) rfl <| p_v (v := .slice A0 l.length c0) rfl rfl rfl (zad r1_0) <| p_v (v := .int .i64 i) rfl rfl rfl (zad r1_5) ?_
  obtain ⟨ad3, seg3, a3, rp3, ce3⟩ := zao (q := i) (m := 1) l0 rfl (by first|omega|(simp;omega)|assumption) (by first|omega|(simp;omega)|assumption)
  refine p_v (v := .pointer (some ad3)) rfl rfl rfl (zan u23 ty3 rfl rfl a3 (by first|omega|(simp;omega)|assumption) (by first|omega|(simp;omega)|assumption)) ?_
  obtain ⟨rfl, in3⟩ := rp3
  have lo3 := za0 in3; have hi3 := za1 in3
  refine p_v (v := .int .i64 (at_ l i)) rfl rfl rfl (zah (seg := [.int .i64 (at_ l i)]) ty3 rfl (by simp) rfl (CF.ghost ce3 (St.le0 S1))) <| p_v (v := .int .i64 n) rfl rfl rfl (zad r1_1) <| p_v (v := .bool (decide ((at_ l i) = n))) rfl rfl rfl (x_eql rfl rfl) <| zaa ?_
  refine zaj (p := (at_ l i) = n) rfl (fun hc4 => ?_) (fun hc4 => ?_)
  ·skip
   refine zab <| zac (l := [0]) rfl <| p_v (v := .bool true) rfl rfl rfl (zae rfl) <| zaa <| zau Try.func40 (res1 rfl (zav (v := .bool true) rfl)) ?_
   have q0 : (decide (n ∈ l) : Bool) = true := by
    first | exact num_yes l hI1.1 (by omega) (by assumption) | exact num_no l (by omega) hI1.2.2
   refine ⟨_, rfl, h1, ?_, ?_⟩
   · exact S1.sub [] (by decide) rfl _ rfl
   · first | rfl | (simp only [q0]; rfl) | (simp only [q0])
  refine zap <| zak <| zac (l := [0, 1, 2]) rfl <| p_v (v := .int .i64 i) rfl rfl rfl (zad r1_5) <| p_v (v := .int .i64 (i + 1)) rfl rfl rfl (zbm rfl rfl (zai (by first|omega|(simp;omega)|assumption) (by first|omega|(simp;omega)|assumption))) <| p_v (v := .int .i64 (i + 1)) rfl rfl rfl (zae rfl) <| zaa ?_
  refine ih1 (i + 1) _ _ (by dsimp only; omega) ⟨h1, le1, S1.sub [] (by decide) rfl _ rfl, r1_0, r1_1, rfl, (zai (by first|omega|(simp;omega)|assumption) (by first|omega|(simp;omega)|assumption)), (by exact ⟨by omega, by omega, num_step l hI1.1 (by omega) hI1.2.2 (by assumption)⟩)⟩
 refine za3 rfl <| zab <| zac (l := [0]) rfl <| p_v (v := .bool false) rfl rfl rfl (zae rfl) <| zaa <| zau Try.func40 (res1 rfl (zav (v := .bool false) rfl)) ?_
 have q0 : (decide (n ∈ l) : Bool) = false := by
  first | exact num_yes l hI1.1 (by omega) (by assumption) | exact num_no l (by omega) hI1.2.2
 refine ⟨_, rfl, h1, ?_, ?_⟩
 · exact S1.sub [] (by decide) rfl _ rfl
 · first | rfl | (simp only [q0]; rfl) | (simp only [q0])
theorem in_calls (w : World) (s : BSet) (c : Int) (i1 : inK .u8 c) :
    Calls Try.prog 41 #[.agg (zax s).toArray, .int .u8 c] w fun e w' => ∃ v, e = .returned v ∧ ∃ (hn : Ghost), St w.heap.size w hn w' [] ∧ v = .bool (has s c) := by
 refine zas Try.func41 rfl Try.ntmps41 rfl ?_
 have S0 := St.init w
 have lo1 := zd9 i1; have hi1 := zea i1
 refine zab <| zac (l := [0, 1]) rfl ?_
 obtain ⟨b1, w1, r1, g1, T1⟩ := zct (P := Try.prog) S0 41 (v := .agg (zax s).toArray) (zax s) rfl
 have S2 := T1
 dsimp only [lAa, lAn, lA0, lAs] at S2
 refine p_v (v := .pointer (some ⟨b1, 0, none⟩)) rfl rfl rfl (x_box rfl r1) <| p_v (v := .bool false) rfl rfl rfl (zae rfl) <| zaa <| zab <| zac (l := [0, 1, 2, 3, 4]) rfl <| p_v (v := .int .u8 c) rfl rfl rfl (zad rfl) <| p_v (v := .int .u8 (c / 64)) rfl rfl rfl (x_quo rfl rfl (by first|omega|(simp;omega)|assumption) (by first|omega|(simp;omega)|assumption) (in_u8 (by first|omega|(simp;omega)|assumption) (by first|omega|(simp;omega)|assumption))) <| p_v (v := .pointer (some ⟨b1, 0 + (c / 64).toNat * 1, none⟩)) rfl rfl rfl (za8 u41 ty39 rfl rfl (by first|omega|(simp;omega)|assumption) (by first|omega|(simp;omega)|assumption)) ?_
 have S3 : St w.heap.size w (fun _ => none) w1 [box b1 41 (zbv .u64 (za9 s))] := S2
 have in4 := zd7 (zdz s) (i := c / 64) (by first|omega|(simp;omega)|assumption) (by first|omega|(simp;omega)|assumption)
 have lo4 := zco in4; have hi4 := zcu in4
 refine p_v (v := .int .u64 (at_ (za9 s) (c / 64))) rfl rfl rfl (zah (seg := [.int .u64 (at_ (za9 s) (c / 64))]) ty39 rfl (by simp) rfl (CF.box (m := 1) (S3.box_at (j := 0) rfl) (cs := (zbv .u64 (za9 s))) (encInts_at (zdz s) (by first|omega|(simp;omega)|assumption) (by first|omega|(simp;omega)|assumption)))) <| p_v (v := .int .u64 (at_ (za9 s) (c / 64))) rfl rfl rfl (zae rfl) <| zaa <| zab <| zab <| zac (l := [0]) rfl <| p_v (v := .int .u8 0) rfl rfl rfl (zae rfl) <| zaa <| zam <| za6 (S := Int × Int) (fun (q_ : Int × Int) ρ w' => match q_ with | (n, i) => ∃ (h : Ghost), Le (fun _ => none) h ∧ St w.heap.size w h w' [] ∧ ρ 1 = .int .u8 c ∧ ρ 5 = .int .u64 n ∧ ρ 6 = .int .u8 i ∧ inK .u64 n ∧ inK .u8 i ∧ (0 ≤ i ∧ i ≤ c % 64 ∧ n = at_ (za9 s) (c / 64) / 2 ^ i.toNat)) (fun q_ => match q_ with | (n, i) => (64 - i).toNat) (at_ (za9 s) (c / 64), 0) ⟨(fun _ => none), Le.refl _, S3.sub [] (by decide) rfl _ rfl, rfl, rfl, rfl, (zca (by first|omega|(simp;omega)|assumption) (by first|omega|(simp;omega)|assumption)), (in_u8 (by first|omega|(simp;omega)|assumption) (by first|omega|(simp;omega)|assumption)), (by exact ⟨by omega, by omega, by simp⟩)⟩ ?_
 rintro ⟨n, i⟩ ih5 ρ5 w5 ⟨h5, le5, S5, r5_1, r5_5, r5_6, f5_0, f5_1, hI5⟩
 have lf5_0 := zco f5_0; have hf5_0 := zcu f5_0
 have lf5_1 := zd9 f5_1; have hf5_1 := zea f5_1
 refine zab <| zab <| zac (l := [0, 1, 2, 3]) rfl <| p_v (v := .int .u8 i) rfl rfl rfl (zad r5_6) <| p_v (v := .int .u8 c) rfl rfl rfl (zad r5_1) <| p_v (v := .int .u8 (c % 64)) rfl rfl rfl (x_rem rfl rfl (by first|omega|(simp;omega)|assumption) (by first|omega|(simp;omega)|assumption)) <| p_v (v := .bool (decide (i < (c % 64)))) rfl rfl rfl (zcp rfl rfl) <| zaa ?_
 refine zaj (p := i < (c % 64)) rfl (fun hc6 => ?_) (fun hc6 => ?_)
 ·skip
  refine zap <| zab <| zam <| zac (l := [0, 1, 2]) rfl <| p_v (v := .int .u64 n) rfl rfl rfl (zad r5_5) <| p_v (v := .int .u64 (n / 2)) rfl rfl rfl (x_quo rfl rfl (by first|omega|(simp;omega)|assumption) (by first|omega|(simp;omega)|assumption) (zca (by first|omega|(simp;omega)|assumption) (by first|omega|(simp;omega)|assumption))) <| p_v (v := .int .u64 (n / 2)) rfl rfl rfl (zae rfl) <| zaa <| zak <| zac (l := [0, 1, 2]) rfl <| p_v (v := .int .u8 i) rfl rfl rfl (zad r5_6) <| p_v (v := .int .u8 (i + 1)) rfl rfl rfl (zbm rfl rfl (in_u8 (by first|omega|(simp;omega)|assumption) (by first|omega|(simp;omega)|assumption))) ?_
  refine p_v (v := .int .u8 (i + 1)) rfl rfl rfl (zae rfl) <| zaa ?_
  refine ih5 (n / 2, i + 1) _ _ (by dsimp only; omega) ⟨h5, le5, S5.sub [] (by decide) rfl _ rfl, r5_1, rfl, rfl, (zca (by first|omega|(simp;omega)|assumption) (by first|omega|(simp;omega)|assumption)), (in_u8 (by first|omega|(simp;omega)|assumption) (by first|omega|(simp;omega)|assumption)), (by exact ⟨by omega, by omega, by rw [hI5.2.2]; exact half_step _ _ hI5.1⟩)⟩
 refine za3 rfl <| zab <| zac (l := [0, 1, 2, 3]) rfl <| p_v (v := .int .u64 n) rfl rfl rfl (zad r5_5) <| p_v (v := .int .u64 (n % 2)) rfl rfl rfl (x_rem rfl rfl (by first|omega|(simp;omega)|assumption) (by first|omega|(simp;omega)|assumption)) <| p_v (v := .bool (decide ((n % 2) = 1))) rfl rfl rfl (x_eql rfl rfl) <| p_v (v := .bool (decide ((n % 2) = 1))) rfl rfl rfl (zae rfl) <| zaa <| zau Try.func41 (res1 rfl (zav (v := .bool (decide ((n % 2) = 1))) rfl)) ?_
 have q0 : (has s c : Bool) = decide ((n % 2) = 1) := by
  rw [hI5.2.2]; exact (bit_half s (by omega) (by omega) (by omega)).symm
 refine ⟨_, rfl, h5, ?_, ?_⟩
 · exact S5.sub [] (by decide) rfl _ rfl
 · first | rfl | (simp only [q0]; rfl) | (simp only [q0])
theorem rightN_calls (w : World) (m : Mach) (A0_0 : Option Addr) (c0_0 : Nat) (b0_0 : m.spots.length ≤ c0_0 ∧ c0_0 ≤ maxLen) (l0_0 : za4 zec (hp w) A0_0 m.spots) (A0_1 : Option Addr) (c0_1 : Nat) (b0_1 : m.first.length ≤ c0_1 ∧ c0_1 ≤ maxLen) (l0_1 : za4 (Kd.int .i64) (hp w) A0_1 m.first) (A0_2 : Option Addr) (c0_2 : Nat) (b0_2 : m.follow.length ≤ c0_2 ∧ c0_2 ≤ maxLen) (l0_2 : za4 (Kd.int .i64).slice (hp w) A0_2 m.follow) (A0_3 : Option Addr) (c0_3 : Nat) (b0_3 : m.last.length ≤ c0_3 ∧ c0_3 ≤ maxLen) (l0_3 : za4 Kd.bool (hp w) A0_3 m.last) :
    Calls Try.prog 24 #[.agg #[.slice A0_0 m.spots.length c0_0, .slice A0_1 m.first.length c0_1, .slice A0_2 m.follow.length c0_2, .slice A0_3 m.last.length c0_3, .bool m.empty]] w fun e w' => ∃ v, e = .returned v ∧ ∃ (hn : Ghost), St w.heap.size w hn w' [] ∧ v = .bool (zbd m) := by
 refine zas Try.func24 rfl Try.ntmps24 rfl ?_
 have S0 := St.init w
 have bb0_0 := b0_0.1; have bc0_0 := b0_0.2; simp only [maxLen] at bc0_0
 have bb0_1 := b0_1.1; have bc0_1 := b0_1.2; simp only [maxLen] at bc0_1
 have bb0_2 := b0_2.1; have bc0_2 := b0_2.2; simp only [maxLen] at bc0_2
 have bb0_3 := b0_3.1; have bc0_3 := b0_3.2; simp only [maxLen] at bc0_3
 refine zab <| zac (l := [0, 1]) rfl ?_
 obtain ⟨b1, w1, r1, g1, T1⟩ := zct (P := Try.prog) S0 27 (v := .agg #[.slice A0_0 m.spots.length c0_0, .slice A0_1 m.first.length c0_1, .slice A0_2 m.follow.length c0_2, .slice A0_3 m.last.length c0_3, .bool m.empty]) [.slice A0_0 m.spots.length c0_0, .slice A0_1 m.first.length c0_1, .slice A0_2 m.follow.length c0_2, .slice A0_3 m.last.length c0_3, .bool m.empty] rfl
 have S2 := T1
 dsimp only [lAa, lAn, lA0, lAs] at S2
 refine p_v (v := .pointer (some ⟨b1, 0, none⟩)) rfl rfl rfl (x_box rfl r1) <| p_v (v := .bool false) rfl rfl rfl (zae rfl) <| zaa <| zab <| zac (l := [0, 1, 2, 3]) rfl <| p_v (v := .pointer (some ⟨b1, 0, none⟩)) rfl rfl rfl (zal zdi ty22 rfl rfl) <| p_v (v := .slice A0_0 m.spots.length c0_0) rfl rfl rfl (zah (seg := [.slice A0_0 m.spots.length c0_0]) ty22 rfl (by simp) rfl (CF.box (m := 1) (S2.box_at (j := 0) rfl) rfl)) <| p_v (v := .int .i64 (m.spots.length : Int)) rfl rfl rfl (zat u22 rfl) <| p_v (v := .int .i64 (m.spots.length : Int)) rfl rfl rfl (zae rfl) <| zaa <| zab <| zab ?_
 refine zac (l := [0, 1, 2, 3, 4, 5, 6, 7, 8, 9, 10, 11, 12, 13, 14, 15, 16, 17, 18, 19, 20, 21, 22]) rfl <| p_v (v := .int .i64 (m.spots.length : Int)) rfl rfl rfl (zad rfl) <| p_v (v := .bool (decide (250 < (m.spots.length : Int)))) rfl rfl rfl (x_gtr rfl rfl) <| p_v (v := .bool (decide (250 < (m.spots.length : Int)))) rfl rfl rfl (zad rfl) ?_
 by_cases hc3 : 250 < (m.spots.length : Int)
 ·skip
  refine zaw rfl (wo 2 11 rfl rfl (bT hc3) rfl) rfl <| zaw rfl (wo 2 11 rfl rfl (bT hc3) rfl) rfl <| zaw rfl (wo 2 11 rfl rfl (bT hc3) rfl) rfl <| zaw rfl (wo 2 11 rfl rfl (bT hc3) rfl) rfl <| zaw rfl (wo 2 11 rfl rfl (bT hc3) rfl) rfl <| p_v (v := .bool true) rfl rfl rfl (za5 (bT hc3) rfl) <| p_v (v := .bool true) rfl rfl rfl (zad rfl) <| zaw rfl rfl rfl <| zaw rfl rfl rfl <| zaw rfl rfl rfl <| zaw rfl rfl rfl <| zaw rfl rfl rfl ?_
  refine p_v (v := .bool true) rfl rfl rfl (za5 rfl rfl) <| p_v (v := .bool true) rfl rfl rfl (zad rfl) <| zaw rfl rfl rfl <| zaw rfl rfl rfl <| zaw rfl rfl rfl <| zaw rfl rfl rfl <| zaw rfl rfl rfl <| p_v (v := .bool true) rfl rfl rfl (za5 rfl rfl) <| zaa <| zbp (b := true) rfl ?_
  simp only [if_true, if_false, Bool.false_eq_true]
  refine zab <| zac (l := [0]) rfl <| p_v (v := .bool false) rfl rfl rfl (zae rfl) <| zaa <| zau Try.func24 (res1 rfl (zav (v := .bool false) rfl)) ?_
  have q0 : (zbd m : Bool) = false := by
   first | exact zc6 m (by assumption) | exact zc5 m (by assumption) | exact zc4 m (by assumption) | exact zc3 m (by assumption) | exact zc2 m hI_.1 (by omega) (by assumption) | exact zc1 m hI_.1 (by omega) (by assumption) | exact zdl m (by omega) (by assumption) (by assumption) (by assumption) (by assumption) hI_.2.2
  refine ⟨_, rfl, (fun _ => none), ?_, ?_⟩
  · exact S2.sub [] (by decide) rfl _ rfl
  · first | rfl | (simp only [q0]; rfl) | (simp only [q0])
 refine p_v (v := .pointer (some ⟨b1, 2, none⟩)) rfl (wo 2 11 rfl rfl (bF hc3) rfl) rfl (zal fd27_2 ty24 rfl rfl) <| p_v (v := .slice A0_2 m.follow.length c0_2) rfl (wo 2 11 rfl rfl (bF hc3) rfl) rfl (zah (seg := [.slice A0_2 m.follow.length c0_2]) ty24 rfl (by simp) rfl (CF.box (m := 1) (S2.box_at (j := 0) rfl) rfl)) <| p_v (v := .int .i64 (m.follow.length : Int)) rfl (wo 2 11 rfl rfl (bF hc3) rfl) rfl (zat u24 rfl) <| p_v (v := .int .i64 (m.spots.length : Int)) rfl (wo 2 11 rfl rfl (bF hc3) rfl) rfl (zad rfl) <| p_v (v := .bool (decide ((m.follow.length : Int) ≠ (m.spots.length : Int)))) rfl (wo 2 11 rfl rfl (bF hc3) rfl) rfl (x_neq rfl rfl) <| p_v (v := .bool (decide ((m.follow.length : Int) ≠ (m.spots.length : Int)))) rfl rfl rfl (zbo (bF hc3) rfl) <| p_v (v := .bool (decide ((m.follow.length : Int) ≠ (m.spots.length : Int)))) rfl rfl rfl (zad rfl) ?_
 by_cases hc4 : (m.follow.length : Int) ≠ (m.spots.length : Int)
 ·skip
  refine zaw rfl (wo 9 18 rfl rfl (bT hc4) rfl) rfl <| zaw rfl (wo 9 18 rfl rfl (bT hc4) rfl) rfl <| zaw rfl (wo 9 18 rfl rfl (bT hc4) rfl) rfl <| zaw rfl (wo 9 18 rfl rfl (bT hc4) rfl) rfl <| zaw rfl (wo 9 18 rfl rfl (bT hc4) rfl) rfl <| p_v (v := .bool true) rfl rfl rfl (za5 (bT hc4) rfl) <| p_v (v := .bool true) rfl rfl rfl (zad rfl) <| zaw rfl rfl rfl <| zaw rfl rfl rfl <| zaw rfl rfl rfl <| zaw rfl rfl rfl <| zaw rfl rfl rfl ?_
  refine p_v (v := .bool true) rfl rfl rfl (za5 rfl rfl) <| zaa <| zbp (b := true) rfl ?_
  simp only [if_true, if_false, Bool.false_eq_true]
  refine zab <| zac (l := [0]) rfl <| p_v (v := .bool false) rfl rfl rfl (zae rfl) <| zaa <| zau Try.func24 (res1 rfl (zav (v := .bool false) rfl)) ?_
  have q0 : (zbd m : Bool) = false := by
   first | exact zc6 m (by assumption) | exact zc5 m (by assumption) | exact zc4 m (by assumption) | exact zc3 m (by assumption) | exact zc2 m hI_.1 (by omega) (by assumption) | exact zc1 m hI_.1 (by omega) (by assumption) | exact zdl m (by omega) (by assumption) (by assumption) (by assumption) (by assumption) hI_.2.2
  refine ⟨_, rfl, (fun _ => none), ?_, ?_⟩
  · exact S2.sub [] (by decide) rfl _ rfl
  · first | rfl | (simp only [q0]; rfl) | (simp only [q0])
 refine p_v (v := .pointer (some ⟨b1, 3, none⟩)) rfl (wo 9 18 rfl rfl (bF hc4) rfl) rfl (zal fd27_3 ty25 rfl rfl) <| p_v (v := .slice A0_3 m.last.length c0_3) rfl (wo 9 18 rfl rfl (bF hc4) rfl) rfl (zah (seg := [.slice A0_3 m.last.length c0_3]) ty25 rfl (by simp) rfl (CF.box (m := 1) (S2.box_at (j := 0) rfl) rfl)) <| p_v (v := .int .i64 (m.last.length : Int)) rfl (wo 9 18 rfl rfl (bF hc4) rfl) rfl (zat u25 rfl) <| p_v (v := .int .i64 (m.spots.length : Int)) rfl (wo 9 18 rfl rfl (bF hc4) rfl) rfl (zad rfl) <| p_v (v := .bool (decide ((m.last.length : Int) ≠ (m.spots.length : Int)))) rfl (wo 9 18 rfl rfl (bF hc4) rfl) rfl (x_neq rfl rfl) <| p_v (v := .bool (decide ((m.last.length : Int) ≠ (m.spots.length : Int)))) rfl rfl rfl (zbo (bF hc4) rfl) <| p_v (v := .bool (decide ((m.last.length : Int) ≠ (m.spots.length : Int)))) rfl rfl rfl (zad rfl) ?_
 by_cases hc5 : (m.last.length : Int) ≠ (m.spots.length : Int)
 ·skip
  refine zaw rfl (wo 16 25 rfl rfl (bT hc5) rfl) rfl <| zaw rfl (wo 16 25 rfl rfl (bT hc5) rfl) rfl <| zaw rfl (wo 16 25 rfl rfl (bT hc5) rfl) rfl <| zaw rfl (wo 16 25 rfl rfl (bT hc5) rfl) rfl <| zaw rfl (wo 16 25 rfl rfl (bT hc5) rfl) rfl <| p_v (v := .bool true) rfl rfl rfl (za5 (bT hc5) rfl) <| zaa <| zbp (b := true) rfl ?_
  simp only [if_true, if_false, Bool.false_eq_true]
  refine zab <| zac (l := [0]) rfl <| p_v (v := .bool false) rfl rfl rfl (zae rfl) <| zaa <| zau Try.func24 (res1 rfl (zav (v := .bool false) rfl)) ?_
  have q0 : (zbd m : Bool) = false := by
   first | exact zc6 m (by assumption) | exact zc5 m (by assumption) | exact zc4 m (by assumption) | exact zc3 m (by assumption) | exact zc2 m hI_.1 (by omega) (by assumption) | exact zc1 m hI_.1 (by omega) (by assumption) | exact zdl m (by omega) (by assumption) (by assumption) (by assumption) (by assumption) hI_.2.2
  refine ⟨_, rfl, (fun _ => none), ?_, ?_⟩
  · exact S2.sub [] (by decide) rfl _ rfl
  · first | rfl | (simp only [q0]; rfl) | (simp only [q0])
 refine p_v (v := .pointer (some ⟨b1, 1, none⟩)) rfl (wo 16 25 rfl rfl (bF hc5) rfl) rfl (zal fd27_1 ty23 rfl rfl) <| p_v (v := .slice A0_1 m.first.length c0_1) rfl (wo 16 25 rfl rfl (bF hc5) rfl) rfl (zah (seg := [.slice A0_1 m.first.length c0_1]) ty23 rfl (by simp) rfl (CF.box (m := 1) (S2.box_at (j := 0) rfl) rfl)) <| p_v (v := .int .i64 (m.spots.length : Int)) rfl (wo 16 25 rfl rfl (bF hc5) rfl) rfl (zad rfl) <| p_c rfl (wo 16 25 rfl rfl (bF hc5) rfl) rfl (zba (args := [.slice A0_1 m.first.length c0_1, .int .i64 (m.spots.length : Int)]) ca44 rfl rfl) (rising_calls w1 m.first A0_1 c0_1 b0_1 (l0_1.mono (St.le0 S2)) (m.spots.length : Int) (zai (by first|omega|(simp;omega)|assumption) (by first|omega|(simp;omega)|assumption))) ?_
 rintro _ w6 ⟨h6, T6, rfl⟩
 have S7 := S2.keep (Chg.of_below T6.below)
 refine p_v (v := .bool (!(zcf (m.spots.length : Int) (-1) m.first))) rfl (wo 16 25 rfl rfl (bF hc5) rfl) rfl (x_not rfl) <| p_v (v := .bool (!(zcf (m.spots.length : Int) (-1) m.first))) rfl rfl rfl (zbo (bF hc5) rfl) <| zaa ?_
 refine zbk (b := zcf (m.spots.length : Int) (-1) m.first) rfl (fun hc8 => ?_) (fun hc8 => ?_)
 ·skip
  refine zab <| zac (l := [0]) rfl <| p_v (v := .bool false) rfl rfl rfl (zae rfl) <| zaa <| zau Try.func24 (res1 rfl (zav (v := .bool false) rfl)) ?_
  have q0 : (zbd m : Bool) = false := by
   first | exact zc6 m (by assumption) | exact zc5 m (by assumption) | exact zc4 m (by assumption) | exact zc3 m (by assumption) | exact zc2 m hI_.1 (by omega) (by assumption) | exact zc1 m hI_.1 (by omega) (by assumption) | exact zdl m (by omega) (by assumption) (by assumption) (by assumption) (by assumption) hI_.2.2
  refine ⟨_, rfl, (fun _ => none), ?_, ?_⟩
  · exact S7.sub [] (by decide) rfl _ rfl
  · first | rfl | (simp only [q0]; rfl) | (simp only [q0])
 refine zap <| zab <| zab <| zac (l := [0, 1, 2, 3]) rfl <| p_v (v := .pointer (some ⟨b1, 0, none⟩)) rfl rfl rfl (zal zdi ty22 rfl rfl) <| p_v (v := .slice A0_0 m.spots.length c0_0) rfl rfl rfl (zah (seg := [.slice A0_0 m.spots.length c0_0]) ty22 rfl (by simp) rfl (CF.box (m := 1) (S7.box_at (j := 0) rfl) rfl)) <| p_v (v := .int .i64 (m.spots.length : Int)) rfl rfl rfl (zat u22 rfl) <| p_v (v := .int .i64 0) rfl rfl rfl (zad rfl) <| zaa <| zam <| za6 (S := Int) (fun (q_ : Int) ρ w' => match q_ with | t35 => ∃ (h : Ghost), Le (fun _ => none) h ∧ St w.heap.size w h w' [box b1 27 [.slice A0_0 m.spots.length c0_0, .slice A0_1 m.first.length c0_1, .slice A0_2 m.follow.length c0_2, .slice A0_3 m.last.length c0_3, .bool m.empty]] ∧ ρ 1 = .pointer (some ⟨b1, 0, none⟩) ∧ ρ 3 = .int .i64 (m.spots.length : Int) ∧ ρ 33 = .slice A0_0 m.spots.length c0_0 ∧ ρ 34 = .int .i64 (m.spots.length : Int) ∧ ρ 35 = .int .i64 t35 ∧ inK .i64 t35 ∧ (0 ≤ t35 ∧ t35 ≤ (m.spots.length : Int) ∧ allTo (rowOk m) t35 = true)) (fun q_ => match q_ with | t35 => (m.spots.length - t35).toNat) (0) ⟨(fun _ => none), Le.refl _, S7.sub [0] (by decide) rfl _ rfl, rfl, rfl, rfl, rfl, rfl, (zai (by first|omega|(simp;omega)|assumption) (by first|omega|(simp;omega)|assumption)), (by exact ⟨by omega, by omega, allTo_0 _⟩)⟩ ?_
 rintro t35 ih9 ρ9 w9 ⟨h9, le9, S9, r9_1, r9_3, r9_33, r9_34, r9_35, f9_0, hI9⟩
 have lf9_0 := za0 f9_0; have hf9_0 := za1 f9_0
 refine zab <| zac (l := [0]) rfl <| p_v (v := .bool (decide (t35 < (m.spots.length : Int)))) rfl rfl rfl (zcp r9_35 r9_34) <| zaa <| zab ?_
 refine zaj (p := t35 < (m.spots.length : Int)) rfl (fun hc10 => ?_) (fun hc10 => ?_)
 ·skip
  refine zap <| zab <| zam <| zab <| zac (l := [0, 1, 2, 3, 4, 5]) rfl <| p_v (v := .int .i64 t35) rfl rfl rfl (zad r9_35) ?_
  obtain ⟨ad11, seg11, a11, rp11, ce11⟩ := zao (q := t35) (m := 5) l0_0 rfl (by first|omega|(simp;omega)|assumption) (by first|omega|(simp;omega)|assumption)
  refine p_v (v := .pointer (some ad11)) rfl rfl rfl (zan u22 ty43 r9_33 r9_35 a11 (by first|omega|(simp;omega)|assumption) (by first|omega|(simp;omega)|assumption)) ?_
  obtain ⟨rfl, ok11⟩ := rp11
  have slook11 := zd9 ok11; have shiok11 := zea ok11
  refine p_v (v := .agg (za7 (at_ m.spots t35)).toArray) rfl rfl rfl (zah (seg := (za7 (at_ m.spots t35))) ty43 rfl (by simp) rfl (CF.ghost ce11 (St.le0 S9))) ?_
  obtain ⟨b12, w12, r12, g12, T12⟩ := zct (P := Try.prog) S9 43 (v := (.agg #[.int .u64 0, .int .u64 0, .int .u64 0, .int .u64 0, .int .u8 0])) (za7 (⟨0, 0⟩ : Spot)) rfl
  have S13 := T12
  dsimp only [lAa, lAn, lA0, lAs] at S13
  refine p_v (v := .pointer (some ⟨b12, 0, none⟩)) rfl rfl rfl (zcq ty43 r12) <| p_v (v := .int .i64 t35) rfl rfl rfl (zae rfl) ?_
  obtain ⟨w14, r14, g14, T14⟩ := zb0 (P := Try.prog) (off := 0) (v := .agg (za7 (at_ m.spots t35)).toArray) (vs := (za7 (at_ m.spots t35))) S13 ty43 rfl rfl (j := 1) rfl (by first | decide | exact Nat.le_of_ble_eq_true rfl) (encSpot_one _)
  have S15 := T14.fx 1 (box b12 43 (za7 (at_ m.spots t35))) rfl
  dsimp only [lAa, lAn, lA0, lAs] at S15
  refine p_s rfl rfl (zbn rfl rfl r14) <| zaa <| zab <| zac (l := [0, 1, 2, 3, 4, 5, 6, 7, 8, 9, 10, 11, 12]) rfl <| p_v (v := .pointer (some ⟨b12, 4, none⟩)) rfl rfl rfl (zal fd43_1 ty5 rfl rfl) <| p_v (v := .int .u8 ((at_ m.spots t35).tag)) rfl rfl rfl (zah (seg := [.int .u8 ((at_ m.spots t35).tag)]) ty5 rfl (by simp) rfl (CF.box (m := 1) (S15.box_at (j := 1) rfl) rfl)) <| p_v (v := .bool (decide (2 < ((at_ m.spots t35).tag)))) rfl rfl rfl (x_gtr rfl rfl) <| p_v (v := .bool (decide (2 < ((at_ m.spots t35).tag)))) rfl rfl rfl (zad rfl) ?_
  by_cases hc16 : 2 < ((at_ m.spots t35).tag)
  ·skip
   refine zaw rfl (wo 3 43 rfl rfl (bT hc16) rfl) rfl <| zaw rfl (wo 3 43 rfl rfl (bT hc16) rfl) rfl <| zaw rfl (wo 3 43 rfl rfl (bT hc16) rfl) rfl <| zaw rfl (wo 3 43 rfl rfl (bT hc16) rfl) rfl <| zaw rfl (wo 3 43 rfl rfl (bT hc16) rfl) rfl <| zaw rfl (wo 3 43 rfl rfl (bT hc16) rfl) rfl <| zaw rfl (wo 3 43 rfl rfl (bT hc16) rfl) rfl <| zaw rfl (wo 3 43 rfl rfl (bT hc16) rfl) rfl <| p_v (v := .bool true) rfl rfl rfl (za5 (bT hc16) rfl) <| zaa <| zbp (b := true) rfl ?_
   simp only [if_true, if_false, Bool.false_eq_true]
   refine zab <| zac (l := [0]) rfl <| p_v (v := .bool false) rfl rfl rfl (zae rfl) <| zaa <| zau Try.func24 (res1 rfl (zav (v := .bool false) rfl)) ?_
   have q0 : (zbd m : Bool) = false := by
    first | exact zc6 m (by assumption) | exact zc5 m (by assumption) | exact zc4 m (by assumption) | exact zc3 m (by assumption) | exact zc2 m hI9.1 (by omega) (by assumption) | exact zc1 m hI9.1 (by omega) (by assumption) | exact zdl m (by omega) (by assumption) (by assumption) (by assumption) (by assumption) hI9.2.2
   refine ⟨_, rfl, h9, ?_, ?_⟩
   · exact S15.sub [] (by decide) rfl _ rfl
   · first | rfl | (simp only [q0]; rfl) | (simp only [q0])
  refine p_v (v := .pointer (some ⟨b1, 2, none⟩)) rfl (wo 3 43 rfl rfl (bF hc16) rfl) rfl (zal fd27_2 ty24 rfl r9_1) <| p_v (v := .slice A0_2 m.follow.length c0_2) rfl (wo 3 43 rfl rfl (bF hc16) rfl) rfl (zah (seg := [.slice A0_2 m.follow.length c0_2]) ty24 rfl (by simp) rfl (CF.box (m := 1) (S15.box_at (j := 0) rfl) rfl)) <| p_v (v := .int .i64 t35) rfl (wo 3 43 rfl rfl (bF hc16) rfl) rfl (zad rfl) ?_
  obtain ⟨ad17, seg17, a17, rp17, ce17⟩ := zao (q := t35) (m := 1) l0_2 rfl (by first|omega|(simp;omega)|assumption) (by first|omega|(simp;omega)|assumption)
  refine p_v (v := .pointer (some ad17)) rfl (wo 3 43 rfl rfl (bF hc16) rfl) rfl (zan u24 ty23 rfl rfl a17 (by first|omega|(simp;omega)|assumption) (by first|omega|(simp;omega)|assumption)) ?_
  obtain ⟨A17, c17, rfl, lc17, cm17, ld17⟩ := rp17
  have cn17 := cm17; simp only [maxLen] at cn17
  refine p_v (v := .slice A17 (at_ m.follow t35).length c17) rfl (wo 3 43 rfl rfl (bF hc16) rfl) rfl (zah (seg := [.slice A17 (at_ m.follow t35).length c17]) ty23 rfl (by simp) rfl (CF.ghost ce17 (St.le0 S15))) <| p_v (v := .int .i64 (m.spots.length : Int)) rfl (wo 3 43 rfl rfl (bF hc16) rfl) rfl (zad r9_3) <| p_c rfl (wo 3 43 rfl rfl (bF hc16) rfl) rfl (zba (args := [.slice A17 (at_ m.follow t35).length c17, .int .i64 (m.spots.length : Int)]) ca44 rfl rfl) (rising_calls w14 (at_ m.follow t35) A17 c17 (And.intro lc17 cm17) (ld17.mono (St.le0 S15)) (m.spots.length : Int) (zai (by first|omega|(simp;omega)|assumption) (by first|omega|(simp;omega)|assumption))) ?_
  rintro _ w18 ⟨h18, T18, rfl⟩
  have S19 := S15.keep (Chg.of_below T18.below)
  refine p_v (v := .bool (!(zcf (m.spots.length : Int) (-1) (at_ m.follow t35)))) rfl (wo 3 43 rfl rfl (bF hc16) rfl) rfl (x_not rfl) <| p_v (v := .bool (!(zcf (m.spots.length : Int) (-1) (at_ m.follow t35)))) rfl rfl rfl (zbo (bF hc16) rfl) <| zaa ?_
  refine zbk (b := zcf (m.spots.length : Int) (-1) (at_ m.follow t35)) rfl (fun hc20 => ?_) (fun hc20 => ?_)
  ·skip
   refine zab <| zac (l := [0]) rfl <| p_v (v := .bool false) rfl rfl rfl (zae rfl) <| zaa <| zau Try.func24 (res1 rfl (zav (v := .bool false) rfl)) ?_
   have q0 : (zbd m : Bool) = false := by
    first | exact zc6 m (by assumption) | exact zc5 m (by assumption) | exact zc4 m (by assumption) | exact zc3 m (by assumption) | exact zc2 m hI9.1 (by omega) (by assumption) | exact zc1 m hI9.1 (by omega) (by assumption) | exact zdl m (by omega) (by assumption) (by assumption) (by assumption) (by assumption) hI9.2.2
   refine ⟨_, rfl, h9, ?_, ?_⟩
   · exact S19.sub [] (by decide) rfl _ rfl
   · first | rfl | (simp only [q0]; rfl) | (simp only [q0])
  refine zap <| zak <| zac (l := [0, 1]) rfl <| p_v (v := .int .i64 (t35 + 1)) rfl rfl rfl (zbm r9_35 rfl (zai (by first|omega|(simp;omega)|assumption) (by first|omega|(simp;omega)|assumption))) <| p_v (v := .int .i64 (t35 + 1)) rfl rfl rfl (zad rfl) <| zaa ?_
  refine ih9 (t35 + 1) _ _ (by dsimp only; omega) ⟨h9, le9, S19.sub [0] (by decide) rfl _ rfl, r9_1, r9_3, r9_33, r9_34, rfl, (zai (by first|omega|(simp;omega)|assumption) (by first|omega|(simp;omega)|assumption)), (by exact ⟨by omega, by omega, allTo_step hI9.1 hI9.2.2 (by unfold rowOk; rw [Int.toNat_of_nonneg hI9.1, decide_eq_true (by omega), (by assumption : zcf _ _ _ = true)]; rfl)⟩)⟩
 refine za3 rfl <| zab <| zac (l := [0]) rfl <| p_v (v := .bool true) rfl rfl rfl (zae rfl) <| zaa <| zau Try.func24 (res1 rfl (zav (v := .bool true) rfl)) ?_
 have q0 : (zbd m : Bool) = true := by
  first | exact zc6 m (by assumption) | exact zc5 m (by assumption) | exact zc4 m (by assumption) | exact zc3 m (by assumption) | exact zc2 m hI9.1 (by omega) (by assumption) | exact zc1 m hI9.1 (by omega) (by assumption) | exact zdl m (by omega) (by assumption) (by assumption) (by assumption) (by assumption) hI9.2.2
 refine ⟨_, rfl, h9, ?_, ?_⟩
 · exact S9.sub [] (by decide) rfl _ rfl
 · first | rfl | (simp only [q0]; rfl) | (simp only [q0])
theorem right10_calls (w : World) (m : Mach) (A0_0 : Option Addr) (c0_0 : Nat) (b0_0 : m.spots.length ≤ c0_0 ∧ c0_0 ≤ maxLen) (l0_0 : za4 zec (hp w) A0_0 m.spots) (A0_1 : Option Addr) (c0_1 : Nat) (b0_1 : m.first.length ≤ c0_1 ∧ c0_1 ≤ maxLen) (l0_1 : za4 (Kd.int .i64) (hp w) A0_1 m.first) (A0_2 : Option Addr) (c0_2 : Nat) (b0_2 : m.follow.length ≤ c0_2 ∧ c0_2 ≤ maxLen) (l0_2 : za4 (Kd.int .i64).slice (hp w) A0_2 m.follow) (A0_3 : Option Addr) (c0_3 : Nat) (b0_3 : m.last.length ≤ c0_3 ∧ c0_3 ≤ maxLen) (l0_3 : za4 Kd.bool (hp w) A0_3 m.last) :
    Calls Try.prog 32 #[.agg #[.slice A0_0 m.spots.length c0_0, .slice A0_1 m.first.length c0_1, .slice A0_2 m.follow.length c0_2, .slice A0_3 m.last.length c0_3, .bool m.empty]] w fun e w' => ∃ v, e = .returned v ∧ ∃ (hn : Ghost), St w.heap.size w hn w' [] ∧ v = .bool (zbd m) := by
 refine zas Try.func32 rfl Try.ntmps32 rfl ?_
 have S0 := St.init w
 have bb0_0 := b0_0.1; have bc0_0 := b0_0.2; simp only [maxLen] at bc0_0
 have bb0_1 := b0_1.1; have bc0_1 := b0_1.2; simp only [maxLen] at bc0_1
 have bb0_2 := b0_2.1; have bc0_2 := b0_2.2; simp only [maxLen] at bc0_2
 have bb0_3 := b0_3.1; have bc0_3 := b0_3.2; simp only [maxLen] at bc0_3
 refine zab <| zac (l := [0, 1]) rfl ?_
 obtain ⟨b1, w1, r1, g1, T1⟩ := zct (P := Try.prog) S0 27 (v := .agg #[.slice A0_0 m.spots.length c0_0, .slice A0_1 m.first.length c0_1, .slice A0_2 m.follow.length c0_2, .slice A0_3 m.last.length c0_3, .bool m.empty]) [.slice A0_0 m.spots.length c0_0, .slice A0_1 m.first.length c0_1, .slice A0_2 m.follow.length c0_2, .slice A0_3 m.last.length c0_3, .bool m.empty] rfl
 have S2 := T1
 dsimp only [lAa, lAn, lA0, lAs] at S2
 refine p_v (v := .pointer (some ⟨b1, 0, none⟩)) rfl rfl rfl (x_box rfl r1) <| p_v (v := .bool false) rfl rfl rfl (zae rfl) <| zaa <| zab <| zac (l := [0, 1, 2, 3]) rfl <| p_v (v := .pointer (some ⟨b1, 0, none⟩)) rfl rfl rfl (zal zdi ty22 rfl rfl) <| p_v (v := .slice A0_0 m.spots.length c0_0) rfl rfl rfl (zah (seg := [.slice A0_0 m.spots.length c0_0]) ty22 rfl (by simp) rfl (CF.box (m := 1) (S2.box_at (j := 0) rfl) rfl)) <| p_v (v := .int .i64 (m.spots.length : Int)) rfl rfl rfl (zat u22 rfl) <| p_v (v := .int .i64 (m.spots.length : Int)) rfl rfl rfl (zae rfl) <| zaa <| zab <| zab ?_
 refine zac (l := [0, 1, 2, 3, 4, 5, 6, 7, 8, 9, 10, 11, 12, 13, 14, 15, 16, 17, 18, 19, 20, 21, 22]) rfl <| p_v (v := .int .i64 (m.spots.length : Int)) rfl rfl rfl (zad rfl) <| p_v (v := .bool (decide (250 < (m.spots.length : Int)))) rfl rfl rfl (x_gtr rfl rfl) <| p_v (v := .bool (decide (250 < (m.spots.length : Int)))) rfl rfl rfl (zad rfl) ?_
 by_cases hc3 : 250 < (m.spots.length : Int)
 ·skip
  refine zaw rfl (wo 2 10 rfl rfl (bT hc3) rfl) rfl <| zaw rfl (wo 2 10 rfl rfl (bT hc3) rfl) rfl <| zaw rfl (wo 2 10 rfl rfl (bT hc3) rfl) rfl <| zaw rfl (wo 2 10 rfl rfl (bT hc3) rfl) rfl <| zaw rfl (wo 2 10 rfl rfl (bT hc3) rfl) rfl <| p_v (v := .bool true) rfl rfl rfl (za5 (bT hc3) rfl) <| p_v (v := .bool true) rfl rfl rfl (zad rfl) <| zaw rfl rfl rfl <| zaw rfl rfl rfl <| zaw rfl rfl rfl <| zaw rfl rfl rfl <| zaw rfl rfl rfl ?_
  refine p_v (v := .bool true) rfl rfl rfl (za5 rfl rfl) <| p_v (v := .bool true) rfl rfl rfl (zad rfl) <| zaw rfl rfl rfl <| zaw rfl rfl rfl <| zaw rfl rfl rfl <| zaw rfl rfl rfl <| zaw rfl rfl rfl <| p_v (v := .bool true) rfl rfl rfl (za5 rfl rfl) <| zaa <| zbp (b := true) rfl ?_
  simp only [if_true, if_false, Bool.false_eq_true]
  refine zab <| zac (l := [0]) rfl <| p_v (v := .bool false) rfl rfl rfl (zae rfl) <| zaa <| zau Try.func32 (res1 rfl (zav (v := .bool false) rfl)) ?_
  have q0 : (zbd m : Bool) = false := by
   first | exact zc6 m (by assumption) | exact zc5 m (by assumption) | exact zc4 m (by assumption) | exact zc3 m (by assumption) | exact zc2 m hI_.1 (by omega) (by assumption) | exact zc1 m hI_.1 (by omega) (by assumption) | exact zdl m (by omega) (by assumption) (by assumption) (by assumption) (by assumption) hI_.2.2
  refine ⟨_, rfl, (fun _ => none), ?_, ?_⟩
  · exact S2.sub [] (by decide) rfl _ rfl
  · first | rfl | (simp only [q0]; rfl) | (simp only [q0])
 refine p_v (v := .pointer (some ⟨b1, 2, none⟩)) rfl (wo 2 10 rfl rfl (bF hc3) rfl) rfl (zal fd27_2 ty24 rfl rfl) <| p_v (v := .slice A0_2 m.follow.length c0_2) rfl (wo 2 10 rfl rfl (bF hc3) rfl) rfl (zah (seg := [.slice A0_2 m.follow.length c0_2]) ty24 rfl (by simp) rfl (CF.box (m := 1) (S2.box_at (j := 0) rfl) rfl)) <| p_v (v := .int .i64 (m.follow.length : Int)) rfl (wo 2 10 rfl rfl (bF hc3) rfl) rfl (zat u24 rfl) <| p_v (v := .int .i64 (m.spots.length : Int)) rfl (wo 2 10 rfl rfl (bF hc3) rfl) rfl (zad rfl) <| p_v (v := .bool (decide ((m.follow.length : Int) ≠ (m.spots.length : Int)))) rfl (wo 2 10 rfl rfl (bF hc3) rfl) rfl (x_neq rfl rfl) <| p_v (v := .bool (decide ((m.follow.length : Int) ≠ (m.spots.length : Int)))) rfl rfl rfl (zbo (bF hc3) rfl) <| p_v (v := .bool (decide ((m.follow.length : Int) ≠ (m.spots.length : Int)))) rfl rfl rfl (zad rfl) ?_
 by_cases hc4 : (m.follow.length : Int) ≠ (m.spots.length : Int)
 ·skip
  refine zaw rfl (wo 9 17 rfl rfl (bT hc4) rfl) rfl <| zaw rfl (wo 9 17 rfl rfl (bT hc4) rfl) rfl <| zaw rfl (wo 9 17 rfl rfl (bT hc4) rfl) rfl <| zaw rfl (wo 9 17 rfl rfl (bT hc4) rfl) rfl <| zaw rfl (wo 9 17 rfl rfl (bT hc4) rfl) rfl <| p_v (v := .bool true) rfl rfl rfl (za5 (bT hc4) rfl) <| p_v (v := .bool true) rfl rfl rfl (zad rfl) <| zaw rfl rfl rfl <| zaw rfl rfl rfl <| zaw rfl rfl rfl <| zaw rfl rfl rfl <| zaw rfl rfl rfl ?_
  refine p_v (v := .bool true) rfl rfl rfl (za5 rfl rfl) <| zaa <| zbp (b := true) rfl ?_
  simp only [if_true, if_false, Bool.false_eq_true]
  refine zab <| zac (l := [0]) rfl <| p_v (v := .bool false) rfl rfl rfl (zae rfl) <| zaa <| zau Try.func32 (res1 rfl (zav (v := .bool false) rfl)) ?_
  have q0 : (zbd m : Bool) = false := by
   first | exact zc6 m (by assumption) | exact zc5 m (by assumption) | exact zc4 m (by assumption) | exact zc3 m (by assumption) | exact zc2 m hI_.1 (by omega) (by assumption) | exact zc1 m hI_.1 (by omega) (by assumption) | exact zdl m (by omega) (by assumption) (by assumption) (by assumption) (by assumption) hI_.2.2
  refine ⟨_, rfl, (fun _ => none), ?_, ?_⟩
  · exact S2.sub [] (by decide) rfl _ rfl
  · first | rfl | (simp only [q0]; rfl) | (simp only [q0])
 refine p_v (v := .pointer (some ⟨b1, 3, none⟩)) rfl (wo 9 17 rfl rfl (bF hc4) rfl) rfl (zal fd27_3 ty25 rfl rfl) <| p_v (v := .slice A0_3 m.last.length c0_3) rfl (wo 9 17 rfl rfl (bF hc4) rfl) rfl (zah (seg := [.slice A0_3 m.last.length c0_3]) ty25 rfl (by simp) rfl (CF.box (m := 1) (S2.box_at (j := 0) rfl) rfl)) <| p_v (v := .int .i64 (m.last.length : Int)) rfl (wo 9 17 rfl rfl (bF hc4) rfl) rfl (zat u25 rfl) <| p_v (v := .int .i64 (m.spots.length : Int)) rfl (wo 9 17 rfl rfl (bF hc4) rfl) rfl (zad rfl) <| p_v (v := .bool (decide ((m.last.length : Int) ≠ (m.spots.length : Int)))) rfl (wo 9 17 rfl rfl (bF hc4) rfl) rfl (x_neq rfl rfl) <| p_v (v := .bool (decide ((m.last.length : Int) ≠ (m.spots.length : Int)))) rfl rfl rfl (zbo (bF hc4) rfl) <| p_v (v := .bool (decide ((m.last.length : Int) ≠ (m.spots.length : Int)))) rfl rfl rfl (zad rfl) ?_
 by_cases hc5 : (m.last.length : Int) ≠ (m.spots.length : Int)
 ·skip
  refine zaw rfl (wo 16 24 rfl rfl (bT hc5) rfl) rfl <| zaw rfl (wo 16 24 rfl rfl (bT hc5) rfl) rfl <| zaw rfl (wo 16 24 rfl rfl (bT hc5) rfl) rfl <| zaw rfl (wo 16 24 rfl rfl (bT hc5) rfl) rfl <| zaw rfl (wo 16 24 rfl rfl (bT hc5) rfl) rfl <| p_v (v := .bool true) rfl rfl rfl (za5 (bT hc5) rfl) <| zaa <| zbp (b := true) rfl ?_
  simp only [if_true, if_false, Bool.false_eq_true]
  refine zab <| zac (l := [0]) rfl <| p_v (v := .bool false) rfl rfl rfl (zae rfl) <| zaa <| zau Try.func32 (res1 rfl (zav (v := .bool false) rfl)) ?_
  have q0 : (zbd m : Bool) = false := by
   first | exact zc6 m (by assumption) | exact zc5 m (by assumption) | exact zc4 m (by assumption) | exact zc3 m (by assumption) | exact zc2 m hI_.1 (by omega) (by assumption) | exact zc1 m hI_.1 (by omega) (by assumption) | exact zdl m (by omega) (by assumption) (by assumption) (by assumption) (by assumption) hI_.2.2
  refine ⟨_, rfl, (fun _ => none), ?_, ?_⟩
  · exact S2.sub [] (by decide) rfl _ rfl
  · first | rfl | (simp only [q0]; rfl) | (simp only [q0])
 refine p_v (v := .pointer (some ⟨b1, 1, none⟩)) rfl (wo 16 24 rfl rfl (bF hc5) rfl) rfl (zal fd27_1 ty23 rfl rfl) <| p_v (v := .slice A0_1 m.first.length c0_1) rfl (wo 16 24 rfl rfl (bF hc5) rfl) rfl (zah (seg := [.slice A0_1 m.first.length c0_1]) ty23 rfl (by simp) rfl (CF.box (m := 1) (S2.box_at (j := 0) rfl) rfl)) <| p_v (v := .int .i64 (m.spots.length : Int)) rfl (wo 16 24 rfl rfl (bF hc5) rfl) rfl (zad rfl) <| p_c rfl (wo 16 24 rfl rfl (bF hc5) rfl) rfl (zba (args := [.slice A0_1 m.first.length c0_1, .int .i64 (m.spots.length : Int)]) ca49 rfl rfl) (list10_calls w1 m.first A0_1 c0_1 b0_1 (l0_1.mono (St.le0 S2)) (m.spots.length : Int) (zai (by first|omega|(simp;omega)|assumption) (by first|omega|(simp;omega)|assumption))) ?_
 rintro _ w6 ⟨h6, T6, rfl⟩
 have S7 := S2.keep (Chg.of_below T6.below)
 refine p_v (v := .bool (!(zcf (m.spots.length : Int) (-1) m.first))) rfl (wo 16 24 rfl rfl (bF hc5) rfl) rfl (x_not rfl) <| p_v (v := .bool (!(zcf (m.spots.length : Int) (-1) m.first))) rfl rfl rfl (zbo (bF hc5) rfl) <| zaa ?_
 refine zbk (b := zcf (m.spots.length : Int) (-1) m.first) rfl (fun hc8 => ?_) (fun hc8 => ?_)
 ·skip
  refine zab <| zac (l := [0]) rfl <| p_v (v := .bool false) rfl rfl rfl (zae rfl) <| zaa <| zau Try.func32 (res1 rfl (zav (v := .bool false) rfl)) ?_
  have q0 : (zbd m : Bool) = false := by
   first | exact zc6 m (by assumption) | exact zc5 m (by assumption) | exact zc4 m (by assumption) | exact zc3 m (by assumption) | exact zc2 m hI_.1 (by omega) (by assumption) | exact zc1 m hI_.1 (by omega) (by assumption) | exact zdl m (by omega) (by assumption) (by assumption) (by assumption) (by assumption) hI_.2.2
  refine ⟨_, rfl, (fun _ => none), ?_, ?_⟩
  · exact S7.sub [] (by decide) rfl _ rfl
  · first | rfl | (simp only [q0]; rfl) | (simp only [q0])
 refine zap <| zab <| zab <| zac (l := [0]) rfl <| p_v (v := .int .i64 0) rfl rfl rfl (zae rfl) <| zaa <| zam <| za6 (S := Int) (fun (q_ : Int) ρ w' => match q_ with | i => ∃ (h : Ghost), Le (fun _ => none) h ∧ St w.heap.size w h w' [box b1 27 [.slice A0_0 m.spots.length c0_0, .slice A0_1 m.first.length c0_1, .slice A0_2 m.follow.length c0_2, .slice A0_3 m.last.length c0_3, .bool m.empty]] ∧ ρ 1 = .pointer (some ⟨b1, 0, none⟩) ∧ ρ 3 = .int .i64 (m.spots.length : Int) ∧ ρ 4 = .int .i64 i ∧ inK .i64 i ∧ (0 ≤ i ∧ i ≤ (m.spots.length : Int) ∧ allTo (rowOk m) i = true)) (fun q_ => match q_ with | i => (m.spots.length - i).toNat) (0) ⟨(fun _ => none), Le.refl _, S7.sub [0] (by decide) rfl _ rfl, rfl, rfl, rfl, (zai (by first|omega|(simp;omega)|assumption) (by first|omega|(simp;omega)|assumption)), (by exact ⟨by omega, by omega, allTo_0 _⟩)⟩ ?_
 rintro i ih9 ρ9 w9 ⟨h9, le9, S9, r9_1, r9_3, r9_4, f9_0, hI9⟩
 have lf9_0 := za0 f9_0; have hf9_0 := za1 f9_0
 refine zab <| zab <| zac (l := [0, 1, 2]) rfl <| p_v (v := .int .i64 i) rfl rfl rfl (zad r9_4) <| p_v (v := .int .i64 (m.spots.length : Int)) rfl rfl rfl (zad r9_3) <| p_v (v := .bool (decide (i < (m.spots.length : Int)))) rfl rfl rfl (zcp rfl rfl) <| zaa ?_
 refine zaj (p := i < (m.spots.length : Int)) rfl (fun hc10 => ?_) (fun hc10 => ?_)
 ·skip
  refine zap <| zab <| zam <| zab <| zac (l := [0, 1, 2, 3, 4, 5, 6, 7, 8, 9, 10, 11, 12, 13, 14, 15, 16]) rfl <| p_v (v := .pointer (some ⟨b1, 0, none⟩)) rfl rfl rfl (zal zdi ty22 rfl r9_1) <| p_v (v := .slice A0_0 m.spots.length c0_0) rfl rfl rfl (zah (seg := [.slice A0_0 m.spots.length c0_0]) ty22 rfl (by simp) rfl (CF.box (m := 1) (S9.box_at (j := 0) rfl) rfl)) <| p_v (v := .int .i64 i) rfl rfl rfl (zad r9_4) ?_
  obtain ⟨ad11, seg11, a11, rp11, ce11⟩ := zao (q := i) (m := 5) l0_0 rfl (by first|omega|(simp;omega)|assumption) (by first|omega|(simp;omega)|assumption)
  refine p_v (v := .pointer (some ad11)) rfl rfl rfl (zan u22 ty43 rfl rfl a11 (by first|omega|(simp;omega)|assumption) (by first|omega|(simp;omega)|assumption)) ?_
  obtain ⟨rfl, ok11⟩ := rp11
  have slook11 := zd9 ok11; have shiok11 := zea ok11
  refine p_v (v := .pointer (some (ad11.add 4))) rfl rfl rfl (zcz fd43_1 ty5 rfl rfl) <| p_v (v := .int .u8 ((at_ m.spots i).tag)) rfl rfl rfl (zah (seg := [.int .u8 ((at_ m.spots i).tag)]) ty5 rfl (by simp) rfl (CF.ghost (zeb (o := 4) (m := 1) (ds := [.int .u8 ((at_ m.spots i).tag)]) ce11 rfl) (St.le0 S9))) <| p_v (v := .bool (decide (2 < ((at_ m.spots i).tag)))) rfl rfl rfl (x_gtr rfl rfl) <| p_v (v := .bool (decide (2 < ((at_ m.spots i).tag)))) rfl rfl rfl (zad rfl) ?_
  by_cases hc13 : 2 < ((at_ m.spots i).tag)
  ·skip
   refine zaw rfl (wo 7 43 rfl rfl (bT hc13) rfl) rfl <| zaw rfl (wo 7 43 rfl rfl (bT hc13) rfl) rfl <| zaw rfl (wo 7 43 rfl rfl (bT hc13) rfl) rfl <| zaw rfl (wo 7 43 rfl rfl (bT hc13) rfl) rfl <| zaw rfl (wo 7 43 rfl rfl (bT hc13) rfl) rfl <| zaw rfl (wo 7 43 rfl rfl (bT hc13) rfl) rfl <| zaw rfl (wo 7 43 rfl rfl (bT hc13) rfl) rfl <| zaw rfl (wo 7 43 rfl rfl (bT hc13) rfl) rfl <| p_v (v := .bool true) rfl rfl rfl (za5 (bT hc13) rfl) <| zaa <| zbp (b := true) rfl ?_
   simp only [if_true, if_false, Bool.false_eq_true]
   refine zab <| zac (l := [0]) rfl <| p_v (v := .bool false) rfl rfl rfl (zae rfl) <| zaa <| zau Try.func32 (res1 rfl (zav (v := .bool false) rfl)) ?_
   have q0 : (zbd m : Bool) = false := by
    first | exact zc6 m (by assumption) | exact zc5 m (by assumption) | exact zc4 m (by assumption) | exact zc3 m (by assumption) | exact zc2 m hI9.1 (by omega) (by assumption) | exact zc1 m hI9.1 (by omega) (by assumption) | exact zdl m (by omega) (by assumption) (by assumption) (by assumption) (by assumption) hI9.2.2
   refine ⟨_, rfl, h9, ?_, ?_⟩
   · exact S9.sub [] (by decide) rfl _ rfl
   · first | rfl | (simp only [q0]; rfl) | (simp only [q0])
  refine p_v (v := .pointer (some ⟨b1, 2, none⟩)) rfl (wo 7 43 rfl rfl (bF hc13) rfl) rfl (zal fd27_2 ty24 rfl r9_1) <| p_v (v := .slice A0_2 m.follow.length c0_2) rfl (wo 7 43 rfl rfl (bF hc13) rfl) rfl (zah (seg := [.slice A0_2 m.follow.length c0_2]) ty24 rfl (by simp) rfl (CF.box (m := 1) (S9.box_at (j := 0) rfl) rfl)) <| p_v (v := .int .i64 i) rfl (wo 7 43 rfl rfl (bF hc13) rfl) rfl (zad r9_4) ?_
  obtain ⟨ad14, seg14, a14, rp14, ce14⟩ := zao (q := i) (m := 1) l0_2 rfl (by first|omega|(simp;omega)|assumption) (by first|omega|(simp;omega)|assumption)
  refine p_v (v := .pointer (some ad14)) rfl (wo 7 43 rfl rfl (bF hc13) rfl) rfl (zan u24 ty23 rfl rfl a14 (by first|omega|(simp;omega)|assumption) (by first|omega|(simp;omega)|assumption)) ?_
  obtain ⟨A14, c14, rfl, lc14, cm14, ld14⟩ := rp14
  have cn14 := cm14; simp only [maxLen] at cn14
  refine p_v (v := .slice A14 (at_ m.follow i).length c14) rfl (wo 7 43 rfl rfl (bF hc13) rfl) rfl (zah (seg := [.slice A14 (at_ m.follow i).length c14]) ty23 rfl (by simp) rfl (CF.ghost ce14 (St.le0 S9))) <| p_v (v := .int .i64 (m.spots.length : Int)) rfl (wo 7 43 rfl rfl (bF hc13) rfl) rfl (zad r9_3) <| p_c rfl (wo 7 43 rfl rfl (bF hc13) rfl) rfl (zba (args := [.slice A14 (at_ m.follow i).length c14, .int .i64 (m.spots.length : Int)]) ca49 rfl rfl) (list10_calls w9 (at_ m.follow i) A14 c14 (And.intro lc14 cm14) (ld14.mono (St.le0 S9)) (m.spots.length : Int) (zai (by first|omega|(simp;omega)|assumption) (by first|omega|(simp;omega)|assumption))) ?_
  rintro _ w15 ⟨h15, T15, rfl⟩
  have S16 := S9.keep (Chg.of_below T15.below)
  refine p_v (v := .bool (!(zcf (m.spots.length : Int) (-1) (at_ m.follow i)))) rfl (wo 7 43 rfl rfl (bF hc13) rfl) rfl (x_not rfl) <| p_v (v := .bool (!(zcf (m.spots.length : Int) (-1) (at_ m.follow i)))) rfl rfl rfl (zbo (bF hc13) rfl) <| zaa ?_
  refine zbk (b := zcf (m.spots.length : Int) (-1) (at_ m.follow i)) rfl (fun hc17 => ?_) (fun hc17 => ?_)
  ·skip
   refine zab <| zac (l := [0]) rfl <| p_v (v := .bool false) rfl rfl rfl (zae rfl) <| zaa <| zau Try.func32 (res1 rfl (zav (v := .bool false) rfl)) ?_
   have q0 : (zbd m : Bool) = false := by
    first | exact zc6 m (by assumption) | exact zc5 m (by assumption) | exact zc4 m (by assumption) | exact zc3 m (by assumption) | exact zc2 m hI9.1 (by omega) (by assumption) | exact zc1 m hI9.1 (by omega) (by assumption) | exact zdl m (by omega) (by assumption) (by assumption) (by assumption) (by assumption) hI9.2.2
   refine ⟨_, rfl, h9, ?_, ?_⟩
   · exact S16.sub [] (by decide) rfl _ rfl
   · first | rfl | (simp only [q0]; rfl) | (simp only [q0])
  refine zap <| zak <| zac (l := [0, 1, 2]) rfl <| p_v (v := .int .i64 i) rfl rfl rfl (zad r9_4) <| p_v (v := .int .i64 (i + 1)) rfl rfl rfl (zbm rfl rfl (zai (by first|omega|(simp;omega)|assumption) (by first|omega|(simp;omega)|assumption))) <| p_v (v := .int .i64 (i + 1)) rfl rfl rfl (zae rfl) <| zaa ?_
  refine ih9 (i + 1) _ _ (by dsimp only; omega) ⟨h9, le9, S16.sub [0] (by decide) rfl _ rfl, r9_1, r9_3, rfl, (zai (by first|omega|(simp;omega)|assumption) (by first|omega|(simp;omega)|assumption)), (by exact ⟨by omega, by omega, allTo_step hI9.1 hI9.2.2 (by unfold rowOk; rw [Int.toNat_of_nonneg hI9.1, decide_eq_true (by omega), (by assumption : zcf _ _ _ = true)]; rfl)⟩)⟩
 refine za3 rfl <| zab <| zac (l := [0]) rfl <| p_v (v := .bool true) rfl rfl rfl (zae rfl) <| zaa <| zau Try.func32 (res1 rfl (zav (v := .bool true) rfl)) ?_
 have q0 : (zbd m : Bool) = true := by
  first | exact zc6 m (by assumption) | exact zc5 m (by assumption) | exact zc4 m (by assumption) | exact zc3 m (by assumption) | exact zc2 m hI9.1 (by omega) (by assumption) | exact zc1 m hI9.1 (by omega) (by assumption) | exact zdl m (by omega) (by assumption) (by assumption) (by assumption) (by assumption) hI9.2.2
 refine ⟨_, rfl, h9, ?_, ?_⟩
 · exact S9.sub [] (by decide) rfl _ rfl
 · first | rfl | (simp only [q0]; rfl) | (simp only [q0])
theorem into_calls (w : World) (m : Mach) (A0_0 : Option Addr) (c0_0 : Nat) (b0_0 : m.spots.length ≤ c0_0 ∧ c0_0 ≤ maxLen) (l0_0 : za4 zec (hp w) A0_0 m.spots) (A0_1 : Option Addr) (c0_1 : Nat) (b0_1 : m.first.length ≤ c0_1 ∧ c0_1 ≤ maxLen) (l0_1 : za4 (Kd.int .i64) (hp w) A0_1 m.first) (A0_2 : Option Addr) (c0_2 : Nat) (b0_2 : m.follow.length ≤ c0_2 ∧ c0_2 ≤ maxLen) (l0_2 : za4 (Kd.int .i64).slice (hp w) A0_2 m.follow) (A0_3 : Option Addr) (c0_3 : Nat) (b0_3 : m.last.length ≤ c0_3 ∧ c0_3 ≤ maxLen) (l0_3 : za4 Kd.bool (hp w) A0_3 m.last) (next : List Bool) (A1 : Option Addr) (c1 : Nat) (b1 : next.length ≤ c1 ∧ c1 ≤ maxLen) (l1 : za4 Kd.bool (hp w) A1 next) (c : Int) (i2 : inK .u8 c) (pre0 : Right m ∧ (next.length : Int) = m.spots.length) :
    Calls Try.prog 37 #[.agg #[.slice A0_0 m.spots.length c0_0, .slice A0_1 m.first.length c0_1, .slice A0_2 m.follow.length c0_2, .slice A0_3 m.last.length c0_3, .bool m.empty], .slice A1 next.length c1, .int .u8 c] w fun e w' => ∃ v, e = .returned v ∧ ∃ (hn : Ghost) (r0 : Value), St w.heap.size w hn w' [row 4 Kd.bool r0 (intoP m next c)] ∧ v = r0 := by
 refine zas Try.func37 rfl Try.ntmps37 rfl ?_
 have S0 := St.init w
 have bb0_0 := b0_0.1; have bc0_0 := b0_0.2; simp only [maxLen] at bc0_0
 have bb0_1 := b0_1.1; have bc0_1 := b0_1.2; simp only [maxLen] at bc0_1
 have bb0_2 := b0_2.1; have bc0_2 := b0_2.2; simp only [maxLen] at bc0_2
 have bb0_3 := b0_3.1; have bc0_3 := b0_3.2; simp only [maxLen] at bc0_3
 have bb1 := b1.1; have bc1 := b1.2; simp only [maxLen] at bc1
 have lo2 := zd9 i2; have hi2 := zea i2
 have hsm_ := pre0.1.small; have hfo_ := pre0.1.follow; have hla_ := pre0.1.last
 refine zab <| zac (l := [0, 1]) rfl ?_
 obtain ⟨b1, w1, r1, g1, T1⟩ := zct (P := Try.prog) S0 27 (v := .agg #[.slice A0_0 m.spots.length c0_0, .slice A0_1 m.first.length c0_1, .slice A0_2 m.follow.length c0_2, .slice A0_3 m.last.length c0_3, .bool m.empty]) [.slice A0_0 m.spots.length c0_0, .slice A0_1 m.first.length c0_1, .slice A0_2 m.follow.length c0_2, .slice A0_3 m.last.length c0_3, .bool m.empty] rfl
 have S2 := T1
 dsimp only [lAa, lAn, lA0, lAs] at S2
 refine p_v (v := .pointer (some ⟨b1, 0, none⟩)) rfl rfl rfl (x_box rfl r1) <| p_v (v := .slice none 0 0) rfl rfl rfl (zae rfl) <| zaa <| zab <| zac (l := [0, 1, 2, 3, 4]) rfl <| p_v (v := .pointer (some ⟨b1, 0, none⟩)) rfl rfl rfl (zal zdi ty22 rfl rfl) <| p_v (v := .slice A0_0 m.spots.length c0_0) rfl rfl rfl (zah (seg := [.slice A0_0 m.spots.length c0_0]) ty22 rfl (by simp) rfl (CF.box (m := 1) (S2.box_at (j := 0) rfl) rfl)) <| p_v (v := .int .i64 (m.spots.length : Int)) rfl rfl rfl (zat u22 rfl) ?_
 obtain ⟨v3, w3, r3, g3, T3⟩ := e_make (kk := .i64) (kk' := .i64) (kd := Kd.bool) (q := (m.spots.length : Int)) (z := false) (zc := [.bool false]) S2 u25 ty4 rfl rfl ⟨rfl, trivial⟩ (by first|omega|(simp;omega)|assumption) (by first|omega|(simp;omega)|assumption) (by first|omega|(simp;omega)|assumption)
 have S4 := T3
 dsimp only [lAa, lAn, lA0, lAs] at S4
 refine p_v (v := v3) rfl rfl rfl (x_make rfl rfl r3) <| p_v (v := v3) rfl rfl rfl (zae rfl) <| zaa <| zab <| zab <| zac (l := [0, 1, 2, 3]) rfl <| p_v (v := .pointer (some ⟨b1, 0, none⟩)) rfl rfl rfl (zal zdi ty22 rfl rfl) <| p_v (v := .slice A0_0 m.spots.length c0_0) rfl rfl rfl (zah (seg := [.slice A0_0 m.spots.length c0_0]) ty22 rfl (by simp) rfl (CF.box (m := 1) (S4.box_at (j := 0) rfl) rfl)) <| p_v (v := .int .i64 (m.spots.length : Int)) rfl rfl rfl (zat u22 rfl) <| p_v (v := .int .i64 0) rfl rfl rfl (zad rfl) <| zaa <| zam ?_
 refine za6 (S := (List Bool) × Int) (fun (q_ : (List Bool) × Int) ρ w' => match q_ with | (out, t17) => ∃ (h : Ghost) (v_out : Value), Le (fun _ => none) h ∧ St w.heap.size w h w' [row 4 Kd.bool v_out out] ∧ ρ 1 = .slice A1 next.length c1 ∧ ρ 2 = .int .u8 c ∧ ρ 7 = v_out ∧ ρ 15 = .slice A0_0 m.spots.length c0_0 ∧ ρ 16 = .int .i64 (m.spots.length : Int) ∧ ρ 17 = .int .i64 t17 ∧ inK .i64 t17 ∧ (0 ≤ t17 ∧ t17 ≤ (m.spots.length : Int) ∧ out = intoTo m next c t17)) (fun q_ => match q_ with | (out, t17) => (m.spots.length - t17).toNat) (List.replicate ((m.spots.length : Int)).toNat false, 0) ⟨(fun _ => none), v3, Le.refl _, S4.sub [1] (by decide) rfl _ rfl, rfl, rfl, rfl, rfl, rfl, rfl, (zai (by first|omega|(simp;omega)|assumption) (by first|omega|(simp;omega)|assumption)), (by exact ⟨by omega, by omega, into_0 m next c (by omega)⟩)⟩ ?_
 rintro ⟨out, t17⟩ ih5 ρ5 w5 ⟨h5, v_out, le5, S5, r5_1, r5_2, r5_7, r5_15, r5_16, r5_17, f5_0, hI5⟩
 have lf5_0 := za0 f5_0; have hf5_0 := za1 f5_0
 have rl5_0 := S5.row_le (j := 0) rfl; simp only [maxLen] at rl5_0
 have hl_ : (out.length : Int) = m.spots.length := by rw [hI5.2.2, intoTo_len]
 refine zab <| zac (l := [0]) rfl <| p_v (v := .bool (decide (t17 < (m.spots.length : Int)))) rfl rfl rfl (zcp r5_17 r5_16) <| zaa <| zab ?_
 refine zaj (p := t17 < (m.spots.length : Int)) rfl (fun hc6 => ?_) (fun hc6 => ?_)
 ·skip
  refine zap <| zab <| zam <| zab <| zac (l := [0, 1, 2, 3, 4, 5]) rfl <| p_v (v := .int .i64 t17) rfl rfl rfl (zad r5_17) ?_
  obtain ⟨ad7, seg7, a7, rp7, ce7⟩ := zao (q := t17) (m := 5) l0_0 rfl (by first|omega|(simp;omega)|assumption) (by first|omega|(simp;omega)|assumption)
  refine p_v (v := .pointer (some ad7)) rfl rfl rfl (zan u22 ty43 r5_15 r5_17 a7 (by first|omega|(simp;omega)|assumption) (by first|omega|(simp;omega)|assumption)) ?_
  obtain ⟨rfl, ok7⟩ := rp7
  have slook7 := zd9 ok7; have shiok7 := zea ok7
  refine p_v (v := .agg (za7 (at_ m.spots t17)).toArray) rfl rfl rfl (zah (seg := (za7 (at_ m.spots t17))) ty43 rfl (by simp) rfl (CF.ghost ce7 (St.le0 S5))) ?_
  obtain ⟨b8, w8, r8, g8, T8⟩ := zct (P := Try.prog) S5 43 (v := (.agg #[.int .u64 0, .int .u64 0, .int .u64 0, .int .u64 0, .int .u8 0])) (za7 (⟨0, 0⟩ : Spot)) rfl
  have S9 := T8
  dsimp only [lAa, lAn, lA0, lAs] at S9
  refine p_v (v := .pointer (some ⟨b8, 0, none⟩)) rfl rfl rfl (zcq ty43 r8) <| p_v (v := .int .i64 t17) rfl rfl rfl (zae rfl) ?_
  obtain ⟨w10, r10, g10, T10⟩ := zb0 (P := Try.prog) (off := 0) (v := .agg (za7 (at_ m.spots t17)).toArray) (vs := (za7 (at_ m.spots t17))) S9 ty43 rfl rfl (j := 1) rfl (by first | decide | exact Nat.le_of_ble_eq_true rfl) (encSpot_one _)
  have S11 := T10.fx 1 (box b8 43 (za7 (at_ m.spots t17))) rfl
  dsimp only [lAa, lAn, lA0, lAs] at S11
  refine p_s rfl rfl (zbn rfl rfl r10) <| zaa <| zac (l := [0, 1, 2, 3, 4, 5, 6, 7, 8, 9, 10, 11, 12, 13]) rfl <| p_v (v := v_out) rfl rfl rfl (zad r5_7) <| p_v (v := .int .i64 t17) rfl rfl rfl (zad rfl) <| p_v (v := .slice A1 next.length c1) rfl rfl rfl (zad r5_1) <| p_v (v := .int .i64 t17) rfl rfl rfl (zad rfl) ?_
  obtain ⟨ad12, seg12, a12, rp12, ce12⟩ := zao (q := t17) (m := 1) l1 rfl (by first|omega|(simp;omega)|assumption) (by first|omega|(simp;omega)|assumption)
  refine p_v (v := .pointer (some ad12)) rfl rfl rfl (zan u25 ty4 rfl rfl a12 (by first|omega|(simp;omega)|assumption) (by first|omega|(simp;omega)|assumption)) ?_
  obtain ⟨rfl, _⟩ := rp12
  refine p_v (v := .bool (at_ next t17)) rfl rfl rfl (zah (seg := [.bool (at_ next t17)]) ty4 rfl (by simp) rfl (CF.ghost ce12 (St.le0 S11))) <| p_v (v := .bool (at_ next t17)) rfl rfl rfl (zad rfl) ?_
  rcases Bool.eq_false_or_eq_true (at_ next t17) with hc13 | hc13
  ·skip
   refine p_v (v := .pointer (some ⟨b8, 0, none⟩)) rfl (wo 6 28 rfl rfl (congrArg Value.bool hc13) rfl) rfl (zal fd43_0 ty41 rfl rfl) <| p_v (v := .agg (zax ((at_ m.spots t17).set)).toArray) rfl (wo 6 28 rfl rfl (congrArg Value.bool hc13) rfl) rfl (zah (seg := (zax ((at_ m.spots t17).set))) ty41 rfl (by simp) rfl (CF.box (m := 4) (S11.box_at (j := 1) rfl) rfl)) <| p_v (v := .int .u8 c) rfl (wo 6 28 rfl rfl (congrArg Value.bool hc13) rfl) rfl (zad r5_2) <| p_c rfl (wo 6 28 rfl rfl (congrArg Value.bool hc13) rfl) rfl (zba (args := [.agg (zax ((at_ m.spots t17).set)).toArray, .int .u8 c]) ca45 rfl rfl) (has_calls w10 ((at_ m.spots t17).set) c (in_u8 (by first|omega|(simp;omega)|assumption) (by first|omega|(simp;omega)|assumption))) ?_
   rintro _ w14 ⟨h14, T14, rfl⟩
   have S15 := S11.keep (Chg.of_below T14.below)
   refine p_v (v := .bool (has ((at_ m.spots t17).set) c)) rfl rfl rfl (za5 (congrArg Value.bool hc13) rfl) ?_
   obtain ⟨ad16, a16, at16⟩ := zbl (q := t17) (m := 1) S15 (j := 0) rfl rfl (by first|omega|(simp;omega)|assumption) (by first|omega|(simp;omega)|assumption)
   refine p_v (v := .pointer (some ad16)) rfl rfl rfl (zbj u25 ty4 rfl rfl a16 (by first|omega|(simp;omega)|assumption) (by first|omega|(simp;omega)|assumption)) ?_
   obtain ⟨w17, r17, g17, T17⟩ := zdv (u := .bool (has ((at_ m.spots t17).set) c)) (q := t17) (has ((at_ m.spots t17).set) c) (vs := [.bool (has ((at_ m.spots t17).set) c)]) S15 ty4 rfl (j := 0) rfl rfl ⟨rfl, trivial⟩ at16 (by first|omega|(simp;omega)|assumption) (by first|omega|(simp;omega)|assumption)
   have S18 := T17.fx 0 (row 4 Kd.bool v_out (out.set (t17).toNat (has ((at_ m.spots t17).set) c))) rfl
   dsimp only [lAa, lAn, lA0, lAs] at S18
   refine p_s rfl rfl (zbn rfl rfl r17) <| zaa <| zak <| zac (l := [0, 1]) rfl <| p_v (v := .int .i64 (t17 + 1)) rfl rfl rfl (zbm r5_17 rfl (zai (by first|omega|(simp;omega)|assumption) (by first|omega|(simp;omega)|assumption))) <| p_v (v := .int .i64 (t17 + 1)) rfl rfl rfl (zad rfl) <| zaa ?_
   refine ih5 (out.set (t17).toNat (has ((at_ m.spots t17).set) c), t17 + 1) _ _ (by dsimp only; omega) ⟨h5, v_out, le5, S18.sub [0] (by decide) rfl _ rfl, r5_1, r5_2, r5_7, r5_15, r5_16, rfl, (zai (by first|omega|(simp;omega)|assumption) (by first|omega|(simp;omega)|assumption)), (by exact ⟨by omega, by omega, by rw [hI5.2.2]; exact into_step m next c hI5.1 (by first | (rw [(by assumption : at_ next t17 = true)]; rfl) | (rw [(by assumption : at_ next t17 = false)]; rfl))⟩)⟩
  refine zaw rfl (wo 6 28 rfl rfl (congrArg Value.bool hc13) rfl) rfl <| zaw rfl (wo 6 28 rfl rfl (congrArg Value.bool hc13) rfl) rfl <| zaw rfl (wo 6 28 rfl rfl (congrArg Value.bool hc13) rfl) rfl <| zaw rfl (wo 6 28 rfl rfl (congrArg Value.bool hc13) rfl) rfl <| p_v (v := .bool false) rfl rfl rfl (zbo (congrArg Value.bool hc13) rfl) ?_
  obtain ⟨ad19, a19, at19⟩ := zbl (q := t17) (m := 1) S11 (j := 0) rfl rfl (by first|omega|(simp;omega)|assumption) (by first|omega|(simp;omega)|assumption)
  refine p_v (v := .pointer (some ad19)) rfl rfl rfl (zbj u25 ty4 rfl rfl a19 (by first|omega|(simp;omega)|assumption) (by first|omega|(simp;omega)|assumption)) ?_
  obtain ⟨w20, r20, g20, T20⟩ := zdv (u := .bool false) (q := t17) false (vs := [.bool false]) S11 ty4 rfl (j := 0) rfl rfl ⟨rfl, trivial⟩ at19 (by first|omega|(simp;omega)|assumption) (by first|omega|(simp;omega)|assumption)
  have S21 := T20.fx 0 (row 4 Kd.bool v_out (out.set (t17).toNat false)) rfl
  dsimp only [lAa, lAn, lA0, lAs] at S21
  refine p_s rfl rfl (zbn rfl rfl r20) <| zaa <| zak <| zac (l := [0, 1]) rfl <| p_v (v := .int .i64 (t17 + 1)) rfl rfl rfl (zbm r5_17 rfl (zai (by first|omega|(simp;omega)|assumption) (by first|omega|(simp;omega)|assumption))) <| p_v (v := .int .i64 (t17 + 1)) rfl rfl rfl (zad rfl) <| zaa ?_
  refine ih5 (out.set (t17).toNat false, t17 + 1) _ _ (by dsimp only; omega) ⟨h5, v_out, le5, S21.sub [0] (by decide) rfl _ rfl, r5_1, r5_2, r5_7, r5_15, r5_16, rfl, (zai (by first|omega|(simp;omega)|assumption) (by first|omega|(simp;omega)|assumption)), (by exact ⟨by omega, by omega, by rw [hI5.2.2]; exact into_step m next c hI5.1 (by first | (rw [(by assumption : at_ next t17 = true)]; rfl) | (rw [(by assumption : at_ next t17 = false)]; rfl))⟩)⟩
 refine za3 rfl <| zab <| zac (l := [0, 1]) rfl <| p_v (v := v_out) rfl rfl rfl (zad r5_7) <| p_v (v := v_out) rfl rfl rfl (zae rfl) <| zaa <| zau Try.func37 (res1 rfl (zav (v := v_out) rfl)) ?_
 have q0 : (intoP m next c : List Bool) = out := by
  rw [hI5.2.2]; exact (into_end m next c (by omega)).symm
 refine ⟨_, rfl, h5, v_out, ?_, ?_⟩
 · rw [q0]; exact S5.sub [0] (by decide) rfl _ rfl
 · first | rfl | (simp only [q0]; rfl) | (simp only [q0])
theorem marked_calls (w : World) (m : Mach) (A0_0 : Option Addr) (c0_0 : Nat) (b0_0 : m.spots.length ≤ c0_0 ∧ c0_0 ≤ maxLen) (l0_0 : za4 zec (hp w) A0_0 m.spots) (A0_1 : Option Addr) (c0_1 : Nat) (b0_1 : m.first.length ≤ c0_1 ∧ c0_1 ≤ maxLen) (l0_1 : za4 (Kd.int .i64) (hp w) A0_1 m.first) (A0_2 : Option Addr) (c0_2 : Nat) (b0_2 : m.follow.length ≤ c0_2 ∧ c0_2 ≤ maxLen) (l0_2 : za4 (Kd.int .i64).slice (hp w) A0_2 m.follow) (A0_3 : Option Addr) (c0_3 : Nat) (b0_3 : m.last.length ≤ c0_3 ∧ c0_3 ≤ maxLen) (l0_3 : za4 Kd.bool (hp w) A0_3 m.last) (l : List Int) (A1 : Option Addr) (c1 : Nat) (b1 : l.length ≤ c1 ∧ c1 ≤ maxLen) (l1 : za4 (Kd.int .i64) (hp w) A1 l) (pre0 : Right m ∧ ∀ x ∈ l, 0 ≤ x ∧ x < (m.spots.length : Int)) :
    Calls Try.prog 38 #[.agg #[.slice A0_0 m.spots.length c0_0, .slice A0_1 m.first.length c0_1, .slice A0_2 m.follow.length c0_2, .slice A0_3 m.last.length c0_3, .bool m.empty], .slice A1 l.length c1] w fun e w' => ∃ v, e = .returned v ∧ ∃ (hn : Ghost) (r0 : Value), St w.heap.size w hn w' [row 4 Kd.bool r0 (markP m.spots.length l)] ∧ v = r0 := by
 refine zas Try.func38 rfl Try.ntmps38 rfl ?_
 have S0 := St.init w
 have bb0_0 := b0_0.1; have bc0_0 := b0_0.2; simp only [maxLen] at bc0_0
 have bb0_1 := b0_1.1; have bc0_1 := b0_1.2; simp only [maxLen] at bc0_1
 have bb0_2 := b0_2.1; have bc0_2 := b0_2.2; simp only [maxLen] at bc0_2
 have bb0_3 := b0_3.1; have bc0_3 := b0_3.2; simp only [maxLen] at bc0_3
 have bb1 := b1.1; have bc1 := b1.2; simp only [maxLen] at bc1
 have hsm_ := pre0.1.small; have hfo_ := pre0.1.follow; have hla_ := pre0.1.last
 refine zab <| zac (l := [0, 1]) rfl ?_
 obtain ⟨b1, w1, r1, g1, T1⟩ := zct (P := Try.prog) S0 27 (v := .agg #[.slice A0_0 m.spots.length c0_0, .slice A0_1 m.first.length c0_1, .slice A0_2 m.follow.length c0_2, .slice A0_3 m.last.length c0_3, .bool m.empty]) [.slice A0_0 m.spots.length c0_0, .slice A0_1 m.first.length c0_1, .slice A0_2 m.follow.length c0_2, .slice A0_3 m.last.length c0_3, .bool m.empty] rfl
 have S2 := T1
 dsimp only [lAa, lAn, lA0, lAs] at S2
 refine p_v (v := .pointer (some ⟨b1, 0, none⟩)) rfl rfl rfl (x_box rfl r1) <| p_v (v := .slice none 0 0) rfl rfl rfl (zae rfl) <| zaa <| zab <| zac (l := [0, 1, 2, 3, 4]) rfl <| p_v (v := .pointer (some ⟨b1, 0, none⟩)) rfl rfl rfl (zal zdi ty22 rfl rfl) <| p_v (v := .slice A0_0 m.spots.length c0_0) rfl rfl rfl (zah (seg := [.slice A0_0 m.spots.length c0_0]) ty22 rfl (by simp) rfl (CF.box (m := 1) (S2.box_at (j := 0) rfl) rfl)) <| p_v (v := .int .i64 (m.spots.length : Int)) rfl rfl rfl (zat u22 rfl) ?_
 obtain ⟨v3, w3, r3, g3, T3⟩ := e_make (kk := .i64) (kk' := .i64) (kd := Kd.bool) (q := (m.spots.length : Int)) (z := false) (zc := [.bool false]) S2 u25 ty4 rfl rfl ⟨rfl, trivial⟩ (by first|omega|(simp;omega)|assumption) (by first|omega|(simp;omega)|assumption) (by first|omega|(simp;omega)|assumption)
 have S4 := T3
 dsimp only [lAa, lAn, lA0, lAs] at S4
 refine p_v (v := v3) rfl rfl rfl (x_make rfl rfl r3) <| p_v (v := v3) rfl rfl rfl (zae rfl) <| zaa <| zab <| zab <| zac (l := [0, 1, 2]) rfl <| p_v (v := .slice A1 l.length c1) rfl rfl rfl (zad rfl) <| p_v (v := .int .i64 (l.length : Int)) rfl rfl rfl (zat u23 rfl) <| p_v (v := .int .i64 0) rfl rfl rfl (zad rfl) <| zaa <| zam <| za6 (S := (List Bool) × Int) (fun (q_ : (List Bool) × Int) ρ w' => match q_ with | (out, t14) => ∃ (h : Ghost) (v_out : Value), Le (fun _ => none) h ∧ St w.heap.size w h w' [row 4 Kd.bool v_out out] ∧ ρ 5 = v_out ∧ ρ 12 = .slice A1 l.length c1 ∧ ρ 13 = .int .i64 (l.length : Int) ∧ ρ 14 = .int .i64 t14 ∧ inK .i64 t14 ∧ (0 ≤ t14 ∧ t14 ≤ (l.length : Int) ∧ out = markP m.spots.length (l.take t14.toNat))) (fun q_ => match q_ with | (out, t14) => (l.length - t14).toNat) (List.replicate ((m.spots.length : Int)).toNat false, 0) ⟨(fun _ => none), v3, Le.refl _, S4.sub [1] (by decide) rfl _ rfl, rfl, rfl, rfl, rfl, (zai (by first|omega|(simp;omega)|assumption) (by first|omega|(simp;omega)|assumption)), (by exact ⟨by omega, by omega, by rw [Int.toNat_natCast]; exact mark_0 _ _⟩)⟩ ?_
 rintro ⟨out, t14⟩ ih5 ρ5 w5 ⟨h5, v_out, le5, S5, r5_5, r5_12, r5_13, r5_14, f5_0, hI5⟩
 have lf5_0 := za0 f5_0; have hf5_0 := za1 f5_0
 have rl5_0 := S5.row_le (j := 0) rfl; simp only [maxLen] at rl5_0
 have hl_ : (out.length : Int) = m.spots.length := by rw [hI5.2.2, markP_len]
 have hx_ : t14 < (l.length : Int) → 0 ≤ at_ l t14 ∧ at_ l t14 < (m.spots.length : Int) := fun h => pre0.2 _ (zbw hI5.1 h)
 refine zab <| zac (l := [0]) rfl <| p_v (v := .bool (decide (t14 < (l.length : Int)))) rfl rfl rfl (zcp r5_14 r5_13) <| zaa <| zab ?_
 refine zaj (p := t14 < (l.length : Int)) rfl (fun hc6 => ?_) (fun hc6 => ?_)
 ·skip
  refine zap <| zab <| zam <| zab <| zac (l := [0, 1, 2]) rfl ?_
  obtain ⟨ad7, seg7, a7, rp7, ce7⟩ := zao (q := t14) (m := 1) l1 rfl (by first|omega|(simp;omega)|assumption) (by first|omega|(simp;omega)|assumption)
  refine p_v (v := .pointer (some ad7)) rfl rfl rfl (zan u23 ty3 r5_12 r5_14 a7 (by first|omega|(simp;omega)|assumption) (by first|omega|(simp;omega)|assumption)) ?_
  obtain ⟨rfl, in7⟩ := rp7
  have lo7 := za0 in7; have hi7 := za1 in7
  refine p_v (v := .int .i64 (at_ l t14)) rfl rfl rfl (zah (seg := [.int .i64 (at_ l t14)]) ty3 rfl (by simp) rfl (CF.ghost ce7 (St.le0 S5))) <| p_v (v := .int .i64 (at_ l t14)) rfl rfl rfl (zae rfl) <| zaa <| zac (l := [0, 1, 2, 3]) rfl <| p_v (v := v_out) rfl rfl rfl (zad r5_5) <| p_v (v := .int .i64 (at_ l t14)) rfl rfl rfl (zad rfl) ?_
  obtain ⟨ad8, a8, at8⟩ := zbl (q := at_ l t14) (m := 1) S5 (j := 0) rfl rfl (by first|omega|(simp;omega)|assumption) (by first|omega|(simp;omega)|assumption)
  refine p_v (v := .pointer (some ad8)) rfl rfl rfl (zbj u25 ty4 rfl rfl a8 (by first|omega|(simp;omega)|assumption) (by first|omega|(simp;omega)|assumption)) ?_
  obtain ⟨w9, r9, g9, T9⟩ := zdv (u := .bool true) (q := at_ l t14) true (vs := [.bool true]) S5 ty4 rfl (j := 0) rfl rfl ⟨rfl, trivial⟩ at8 (by first|omega|(simp;omega)|assumption) (by first|omega|(simp;omega)|assumption)
  have S10 := T9.fx 0 (row 4 Kd.bool v_out (out.set (at_ l t14).toNat true)) rfl
  dsimp only [lAa, lAn, lA0, lAs] at S10
  refine p_s rfl rfl (zbn rfl rfl r9) <| zaa <| zak <| zac (l := [0, 1]) rfl <| p_v (v := .int .i64 (t14 + 1)) rfl rfl rfl (zbm r5_14 rfl (zai (by first|omega|(simp;omega)|assumption) (by first|omega|(simp;omega)|assumption))) <| p_v (v := .int .i64 (t14 + 1)) rfl rfl rfl (zad rfl) <| zaa ?_
  refine ih5 (out.set (at_ l t14).toNat true, t14 + 1) _ _ (by dsimp only; omega) ⟨h5, v_out, le5, S10.sub [0] (by decide) rfl _ rfl, r5_5, r5_12, r5_13, rfl, (zai (by first|omega|(simp;omega)|assumption) (by first|omega|(simp;omega)|assumption)), (by exact ⟨by omega, by omega, by rw [hI5.2.2]; exact mark_step l hI5.1 (by omega) (hx_ (by omega)).1⟩)⟩
 refine za3 rfl <| zab <| zac (l := [0, 1]) rfl <| p_v (v := v_out) rfl rfl rfl (zad r5_5) <| p_v (v := v_out) rfl rfl rfl (zae rfl) <| zaa <| zau Try.func38 (res1 rfl (zav (v := v_out) rfl)) ?_
 have q0 : (markP m.spots.length l : List Bool) = out := by
  rw [hI5.2.2]; exact (mark_end l (by omega)).symm
 refine ⟨_, rfl, h5, v_out, ?_, ?_⟩
 · rw [q0]; exact S5.sub [0] (by decide) rfl _ rfl
 · first | rfl | (simp only [q0]; rfl) | (simp only [q0])
theorem behind_calls (w : World) (m : Mach) (A0_0 : Option Addr) (c0_0 : Nat) (b0_0 : m.spots.length ≤ c0_0 ∧ c0_0 ≤ maxLen) (l0_0 : za4 zec (hp w) A0_0 m.spots) (A0_1 : Option Addr) (c0_1 : Nat) (b0_1 : m.first.length ≤ c0_1 ∧ c0_1 ≤ maxLen) (l0_1 : za4 (Kd.int .i64) (hp w) A0_1 m.first) (A0_2 : Option Addr) (c0_2 : Nat) (b0_2 : m.follow.length ≤ c0_2 ∧ c0_2 ≤ maxLen) (l0_2 : za4 (Kd.int .i64).slice (hp w) A0_2 m.follow) (A0_3 : Option Addr) (c0_3 : Nat) (b0_3 : m.last.length ≤ c0_3 ∧ c0_3 ≤ maxLen) (l0_3 : za4 Kd.bool (hp w) A0_3 m.last) (xat : List Bool) (A1 : Option Addr) (c1 : Nat) (b1 : xat.length ≤ c1 ∧ c1 ≤ maxLen) (l1 : za4 Kd.bool (hp w) A1 xat) (pre0 : Right m ∧ (xat.length : Int) = m.spots.length) :
    Calls Try.prog 39 #[.agg #[.slice A0_0 m.spots.length c0_0, .slice A0_1 m.first.length c0_1, .slice A0_2 m.follow.length c0_2, .slice A0_3 m.last.length c0_3, .bool m.empty], .slice A1 xat.length c1] w fun e w' => ∃ v, e = .returned v ∧ ∃ (hn : Ghost) (r0 : Value), St w.heap.size w hn w' [row 4 Kd.bool r0 (zcr m xat)] ∧ v = r0 := by
 refine zas Try.func39 rfl Try.ntmps39 rfl ?_
 have S0 := St.init w
 have bb0_0 := b0_0.1; have bc0_0 := b0_0.2; simp only [maxLen] at bc0_0
 have bb0_1 := b0_1.1; have bc0_1 := b0_1.2; simp only [maxLen] at bc0_1
 have bb0_2 := b0_2.1; have bc0_2 := b0_2.2; simp only [maxLen] at bc0_2
 have bb0_3 := b0_3.1; have bc0_3 := b0_3.2; simp only [maxLen] at bc0_3
 have bb1 := b1.1; have bc1 := b1.2; simp only [maxLen] at bc1
 have hsm_ := pre0.1.small; have hfo_ := pre0.1.follow; have hla_ := pre0.1.last
 refine zab <| zac (l := [0, 1]) rfl ?_
 obtain ⟨b1, w1, r1, g1, T1⟩ := zct (P := Try.prog) S0 27 (v := .agg #[.slice A0_0 m.spots.length c0_0, .slice A0_1 m.first.length c0_1, .slice A0_2 m.follow.length c0_2, .slice A0_3 m.last.length c0_3, .bool m.empty]) [.slice A0_0 m.spots.length c0_0, .slice A0_1 m.first.length c0_1, .slice A0_2 m.follow.length c0_2, .slice A0_3 m.last.length c0_3, .bool m.empty] rfl
 have S2 := T1
 dsimp only [lAa, lAn, lA0, lAs] at S2
 refine p_v (v := .pointer (some ⟨b1, 0, none⟩)) rfl rfl rfl (x_box rfl r1) <| p_v (v := .slice none 0 0) rfl rfl rfl (zae rfl) <| zaa <| zab <| zac (l := [0, 1, 2, 3, 4]) rfl <| p_v (v := .pointer (some ⟨b1, 0, none⟩)) rfl rfl rfl (zal zdi ty22 rfl rfl) <| p_v (v := .slice A0_0 m.spots.length c0_0) rfl rfl rfl (zah (seg := [.slice A0_0 m.spots.length c0_0]) ty22 rfl (by simp) rfl (CF.box (m := 1) (S2.box_at (j := 0) rfl) rfl)) <| p_v (v := .int .i64 (m.spots.length : Int)) rfl rfl rfl (zat u22 rfl) ?_
 obtain ⟨v3, w3, r3, g3, T3⟩ := e_make (kk := .i64) (kk' := .i64) (kd := Kd.bool) (q := (m.spots.length : Int)) (z := false) (zc := [.bool false]) S2 u25 ty4 rfl rfl ⟨rfl, trivial⟩ (by first|omega|(simp;omega)|assumption) (by first|omega|(simp;omega)|assumption) (by first|omega|(simp;omega)|assumption)
 have S4 := T3
 dsimp only [lAa, lAn, lA0, lAs] at S4
 refine p_v (v := v3) rfl rfl rfl (x_make rfl rfl r3) <| p_v (v := v3) rfl rfl rfl (zae rfl) <| zaa <| zab <| zab <| zac (l := [0, 1, 2]) rfl <| p_v (v := .slice A1 xat.length c1) rfl rfl rfl (zad rfl) <| p_v (v := .int .i64 (xat.length : Int)) rfl rfl rfl (zat u25 rfl) <| p_v (v := .int .i64 0) rfl rfl rfl (zad rfl) <| zaa <| zam <| za6 (S := (List Bool) × Int) (fun (q_ : (List Bool) × Int) ρ w' => match q_ with | (out, t16) => ∃ (h : Ghost) (v_out : Value), Le (fun _ => none) h ∧ St w.heap.size w h w' [box b1 27 [.slice A0_0 m.spots.length c0_0, .slice A0_1 m.first.length c0_1, .slice A0_2 m.follow.length c0_2, .slice A0_3 m.last.length c0_3, .bool m.empty], row 4 Kd.bool v_out out] ∧ ρ 2 = .pointer (some ⟨b1, 0, none⟩) ∧ ρ 5 = v_out ∧ ρ 14 = .slice A1 xat.length c1 ∧ ρ 15 = .int .i64 (xat.length : Int) ∧ ρ 16 = .int .i64 t16 ∧ inK .i64 t16 ∧ (0 ≤ t16 ∧ t16 ≤ (xat.length : Int) ∧ out = zb8 m xat t16)) (fun q_ => match q_ with | (out, t16) => (xat.length - t16).toNat) (List.replicate ((m.spots.length : Int)).toNat false, 0) ⟨(fun _ => none), v3, Le.refl _, S4.sub [0, 1] (by decide) rfl _ rfl, rfl, rfl, rfl, rfl, rfl, (zai (by first|omega|(simp;omega)|assumption) (by first|omega|(simp;omega)|assumption)), (by exact ⟨by omega, by omega, behind_0 m xat (by omega)⟩)⟩ ?_
 rintro ⟨out, t16⟩ ih5 ρ5 w5 ⟨h5, v_out, le5, S5, r5_2, r5_5, r5_14, r5_15, r5_16, f5_0, hI5⟩
 have lf5_0 := za0 f5_0; have hf5_0 := za1 f5_0
 have rl5_1 := S5.row_le (j := 1) rfl; simp only [maxLen] at rl5_1
 have hf_ := pre0.1.follow; have hn_ := pre0.2
 have hl_ : (out.length : Int) = m.spots.length := by rw [hI5.2.2, behindTo_len]
 refine zab <| zac (l := [0]) rfl <| p_v (v := .bool (decide (t16 < (xat.length : Int)))) rfl rfl rfl (zcp r5_16 r5_15) <| zaa <| zab ?_
 refine zaj (p := t16 < (xat.length : Int)) rfl (fun hc6 => ?_) (fun hc6 => ?_)
 ·skip
  refine zap <| zab <| zam <| zab <| zac (l := [0, 1, 2, 3, 4]) rfl <| p_v (v := .int .i64 t16) rfl rfl rfl (zad r5_16) ?_
  obtain ⟨ad7, seg7, a7, rp7, ce7⟩ := zao (q := t16) (m := 1) l1 rfl (by first|omega|(simp;omega)|assumption) (by first|omega|(simp;omega)|assumption)
  refine p_v (v := .pointer (some ad7)) rfl rfl rfl (zan u25 ty4 r5_14 r5_16 a7 (by first|omega|(simp;omega)|assumption) (by first|omega|(simp;omega)|assumption)) ?_
  obtain ⟨rfl, _⟩ := rp7
  refine p_v (v := .bool (at_ xat t16)) rfl rfl rfl (zah (seg := [.bool (at_ xat t16)]) ty4 rfl (by simp) rfl (CF.ghost ce7 (St.le0 S5))) <| p_v (v := .int .i64 t16) rfl rfl rfl (zae rfl) <| p_v (v := .bool (at_ xat t16)) rfl rfl rfl (zae rfl) <| zaa <| zab <| zab <| zac (l := [0, 1]) rfl <| p_v (v := .bool (at_ xat t16)) rfl rfl rfl (zad rfl) <| p_v (v := .bool (!(at_ xat t16))) rfl rfl rfl (x_not rfl) <| zaa ?_
  refine zbk (b := at_ xat t16) rfl (fun hc8 => ?_) (fun hc8 => ?_)
  ·skip
   refine za3 rfl <| zac (l := [0, 1]) rfl <| p_v (v := .int .i64 (t16 + 1)) rfl rfl rfl (zbm r5_16 rfl (zai (by first|omega|(simp;omega)|assumption) (by first|omega|(simp;omega)|assumption))) <| p_v (v := .int .i64 (t16 + 1)) rfl rfl rfl (zad rfl) <| zaa ?_
   refine ih5 (out, t16 + 1) _ _ (by dsimp only; omega) ⟨h5, v_out, le5, S5.sub [0, 1] (by decide) rfl _ rfl, r5_2, r5_5, r5_14, r5_15, rfl, (zai (by first|omega|(simp;omega)|assumption) (by first|omega|(simp;omega)|assumption)), (by first | exact ⟨by omega, by omega, by rw [hI5.2.2]; exact behind_no m xat hI5.1 (by assumption)⟩ | exact ⟨by omega, by omega, by rw [hI9.2.2]; exact behind_in1 m xat hI5.1 (by omega) (by assumption)⟩)⟩
  refine zap <| zab <| zac (l := [0, 1, 2, 3, 4, 5, 6]) rfl <| p_v (v := .pointer (some ⟨b1, 2, none⟩)) rfl rfl rfl (zal fd27_2 ty24 rfl r5_2) <| p_v (v := .slice A0_2 m.follow.length c0_2) rfl rfl rfl (zah (seg := [.slice A0_2 m.follow.length c0_2]) ty24 rfl (by simp) rfl (CF.box (m := 1) (S5.box_at (j := 0) rfl) rfl)) <| p_v (v := .int .i64 t16) rfl rfl rfl (zad rfl) ?_
  obtain ⟨ad9, seg9, a9, rp9, ce9⟩ := zao (q := t16) (m := 1) l0_2 rfl (by first|omega|(simp;omega)|assumption) (by first|omega|(simp;omega)|assumption)
  refine p_v (v := .pointer (some ad9)) rfl rfl rfl (zan u24 ty23 rfl rfl a9 (by first|omega|(simp;omega)|assumption) (by first|omega|(simp;omega)|assumption)) ?_
  obtain ⟨A9, c9, rfl, lc9, cm9, ld9⟩ := rp9
  have cn9 := cm9; simp only [maxLen] at cn9
  refine p_v (v := .slice A9 (at_ m.follow t16).length c9) rfl rfl rfl (zah (seg := [.slice A9 (at_ m.follow t16).length c9]) ty23 rfl (by simp) rfl (CF.ghost ce9 (St.le0 S5))) <| p_v (v := .int .i64 ((at_ m.follow t16).length : Int)) rfl rfl rfl (zat u23 rfl) <| p_v (v := .int .i64 0) rfl rfl rfl (zad rfl) <| zaa <| zam <| za6 (S := (List Bool) × Int) (fun (q_ : (List Bool) × Int) ρ w' => match q_ with | (out2, t29) => ∃ (h : Ghost) (v_out2 : Value), Le h5 h ∧ St w.heap.size w h w' [box b1 27 [.slice A0_0 m.spots.length c0_0, .slice A0_1 m.first.length c0_1, .slice A0_2 m.follow.length c0_2, .slice A0_3 m.last.length c0_3, .bool m.empty], row 4 Kd.bool v_out2 out2] ∧ ρ 2 = .pointer (some ⟨b1, 0, none⟩) ∧ ρ 5 = v_out2 ∧ ρ 14 = .slice A1 xat.length c1 ∧ ρ 15 = .int .i64 (xat.length : Int) ∧ ρ 16 = .int .i64 t16 ∧ ρ 27 = .slice A9 (at_ m.follow t16).length c9 ∧ ρ 28 = .int .i64 ((at_ m.follow t16).length : Int) ∧ ρ 29 = .int .i64 t29 ∧ inK .i64 t29 ∧ (0 ≤ t29 ∧ t29 ≤ ((at_ m.follow t16).length : Int) ∧ out2 = zcs m xat t16 t29)) (fun q_ => match q_ with | (out2, t29) => ((at_ m.follow t16).length - t29).toNat) (out, 0) ⟨h5, v_out, Le.refl _, S5.sub [0, 1] (by decide) rfl _ rfl, r5_2, r5_5, r5_14, r5_15, r5_16, rfl, rfl, rfl, (zai (by first|omega|(simp;omega)|assumption) (by first|omega|(simp;omega)|assumption)), (by exact ⟨by omega, by omega, by rw [hI5.2.2]; exact behind_in0 m xat t16⟩)⟩ ?_
  rintro ⟨out2, t29⟩ ih10 ρ10 w10 ⟨h10, v_out2, le10, S10, r10_2, r10_5, r10_14, r10_15, r10_16, r10_27, r10_28, r10_29, f10_0, hI10⟩
  have lf10_0 := za0 f10_0; have hf10_0 := za1 f10_0
  have rl10_1 := S10.row_le (j := 1) rfl; simp only [maxLen] at rl10_1
  have hl2_ : (out2.length : Int) = m.spots.length := by rw [hI10.2.2, behindIn_len]
  have hx_ : t29 < ((at_ m.follow t16).length : Int) → 0 ≤ at_ (at_ m.follow t16) t29 ∧ at_ (at_ m.follow t16) t29 < (m.spots.length : Int) := fun h => pre0.1.rows hI5.1 (by omega) _ (zbw hI10.1 h)
  refine zab <| zac (l := [0]) rfl <| p_v (v := .bool (decide (t29 < ((at_ m.follow t16).length : Int)))) rfl rfl rfl (zcp r10_29 r10_28) <| zaa <| zab ?_
  refine zaj (p := t29 < ((at_ m.follow t16).length : Int)) rfl (fun hc11 => ?_) (fun hc11 => ?_)
  ·skip
   refine zap <| zab <| zam <| zab <| zac (l := [0, 1, 2]) rfl ?_
   obtain ⟨ad12, seg12, a12, rp12, ce12⟩ := zao (q := t29) (m := 1) ld9 rfl (by first|omega|(simp;omega)|assumption) (by first|omega|(simp;omega)|assumption)
   refine p_v (v := .pointer (some ad12)) rfl rfl rfl (zan u23 ty3 r10_27 r10_29 a12 (by first|omega|(simp;omega)|assumption) (by first|omega|(simp;omega)|assumption)) ?_
   obtain ⟨rfl, in12⟩ := rp12
   have lo12 := za0 in12; have hi12 := za1 in12
   refine p_v (v := .int .i64 (at_ (at_ m.follow t16) t29)) rfl rfl rfl (zah (seg := [.int .i64 (at_ (at_ m.follow t16) t29)]) ty3 rfl (by simp) rfl (CF.ghost ce12 (St.le0 S10))) <| p_v (v := .int .i64 (at_ (at_ m.follow t16) t29)) rfl rfl rfl (zae rfl) <| zaa <| zac (l := [0, 1, 2, 3]) rfl <| p_v (v := v_out2) rfl rfl rfl (zad r10_5) <| p_v (v := .int .i64 (at_ (at_ m.follow t16) t29)) rfl rfl rfl (zad rfl) ?_
   obtain ⟨ad13, a13, at13⟩ := zbl (q := at_ (at_ m.follow t16) t29) (m := 1) S10 (j := 1) rfl rfl (by first|omega|(simp;omega)|assumption) (by first|omega|(simp;omega)|assumption)
   refine p_v (v := .pointer (some ad13)) rfl rfl rfl (zbj u25 ty4 rfl rfl a13 (by first|omega|(simp;omega)|assumption) (by first|omega|(simp;omega)|assumption)) ?_
   obtain ⟨w14, r14, g14, T14⟩ := zdv (u := .bool true) (q := at_ (at_ m.follow t16) t29) true (vs := [.bool true]) S10 ty4 rfl (j := 1) rfl rfl ⟨rfl, trivial⟩ at13 (by first|omega|(simp;omega)|assumption) (by first|omega|(simp;omega)|assumption)
   have S15 := T14.fx 1 (row 4 Kd.bool v_out2 (out2.set (at_ (at_ m.follow t16) t29).toNat true)) rfl
   dsimp only [lAa, lAn, lA0, lAs] at S15
   refine p_s rfl rfl (zbn rfl rfl r14) <| zaa <| zak <| zac (l := [0, 1]) rfl <| p_v (v := .int .i64 (t29 + 1)) rfl rfl rfl (zbm r10_29 rfl (zai (by first|omega|(simp;omega)|assumption) (by first|omega|(simp;omega)|assumption))) <| p_v (v := .int .i64 (t29 + 1)) rfl rfl rfl (zad rfl) <| zaa ?_
   refine ih10 (out2.set (at_ (at_ m.follow t16) t29).toNat true, t29 + 1) _ _ (by dsimp only; omega) ⟨h10, v_out2, le10, S15.sub [0, 1] (by decide) rfl _ rfl, r10_2, r10_5, r10_14, r10_15, r10_16, r10_27, r10_28, rfl, (zai (by first|omega|(simp;omega)|assumption) (by first|omega|(simp;omega)|assumption)), (by exact ⟨by omega, by omega, by rw [hI10.2.2]; exact behind_step m xat hI10.1 (by omega) (hx_ (by omega)).1⟩)⟩
  refine za3 rfl <| zak <| zac (l := [0, 1]) rfl <| p_v (v := .int .i64 (t16 + 1)) rfl rfl rfl (zbm r10_16 rfl (zai (by first|omega|(simp;omega)|assumption) (by first|omega|(simp;omega)|assumption))) <| p_v (v := .int .i64 (t16 + 1)) rfl rfl rfl (zad rfl) <| zaa ?_
  refine ih5 (out2, t16 + 1) _ _ (by dsimp only; omega) ⟨h10, v_out2, ((le5).trans le10), S10.sub [0, 1] (by decide) rfl _ rfl, r10_2, r10_5, r10_14, r10_15, rfl, (zai (by first|omega|(simp;omega)|assumption) (by first|omega|(simp;omega)|assumption)), (by first | exact ⟨by omega, by omega, by rw [hI5.2.2]; exact behind_no m xat hI5.1 (by assumption)⟩ | exact ⟨by omega, by omega, by rw [hI10.2.2]; exact behind_in1 m xat hI5.1 (by omega) (by assumption)⟩)⟩
 refine za3 rfl <| zab <| zac (l := [0, 1]) rfl <| p_v (v := v_out) rfl rfl rfl (zad r5_5) <| p_v (v := v_out) rfl rfl rfl (zae rfl) <| zaa <| zau Try.func39 (res1 rfl (zav (v := v_out) rfl)) ?_
 have q0 : (zcr m xat : List Bool) = out := by
  rw [hI5.2.2]; exact behind_end2 m xat (by omega)
 refine ⟨_, rfl, h5, v_out, ?_, ?_⟩
 · rw [q0]; exact S5.sub [1] (by decide) rfl _ rfl
 · first | rfl | (simp only [q0]; rfl) | (simp only [q0])
theorem step_calls (w : World) (m : Mach) (A0_0 : Option Addr) (c0_0 : Nat) (b0_0 : m.spots.length ≤ c0_0 ∧ c0_0 ≤ maxLen) (l0_0 : za4 zec (hp w) A0_0 m.spots) (A0_1 : Option Addr) (c0_1 : Nat) (b0_1 : m.first.length ≤ c0_1 ∧ c0_1 ≤ maxLen) (l0_1 : za4 (Kd.int .i64) (hp w) A0_1 m.first) (A0_2 : Option Addr) (c0_2 : Nat) (b0_2 : m.follow.length ≤ c0_2 ∧ c0_2 ≤ maxLen) (l0_2 : za4 (Kd.int .i64).slice (hp w) A0_2 m.follow) (A0_3 : Option Addr) (c0_3 : Nat) (b0_3 : m.last.length ≤ c0_3 ∧ c0_3 ≤ maxLen) (l0_3 : za4 Kd.bool (hp w) A0_3 m.last) (xat : List Int) (A1 : Option Addr) (c1 : Nat) (b1 : xat.length ≤ c1 ∧ c1 ≤ maxLen) (l1 : za4 (Kd.int .i64) (hp w) A1 xat) (first : Bool) (c : Int) (i3 : inK .u8 c) (pre0 : Right m ∧ ∀ x ∈ xat, 0 ≤ x ∧ x < (m.spots.length : Int)) :
    Calls Try.prog 21 #[.agg #[.slice A0_0 m.spots.length c0_0, .slice A0_1 m.first.length c0_1, .slice A0_2 m.follow.length c0_2, .slice A0_3 m.last.length c0_3, .bool m.empty], .slice A1 xat.length c1, .bool first, .int .u8 c] w fun e w' => ∃ v, e = .returned v ∧ ∃ (hn : Ghost) (r0 : Value), St w.heap.size w hn w' [row 3 (Kd.int .i64) r0 (zcb m xat first c)] ∧ v = r0 := by
 refine zas Try.func21 rfl Try.ntmps21 rfl ?_
 have S0 := St.init w
 have bb0_0 := b0_0.1; have bc0_0 := b0_0.2; simp only [maxLen] at bc0_0
 have bb0_1 := b0_1.1; have bc0_1 := b0_1.2; simp only [maxLen] at bc0_1
 have bb0_2 := b0_2.1; have bc0_2 := b0_2.2; simp only [maxLen] at bc0_2
 have bb0_3 := b0_3.1; have bc0_3 := b0_3.2; simp only [maxLen] at bc0_3
 have bb1 := b1.1; have bc1 := b1.2; simp only [maxLen] at bc1
 have lo3 := zd9 i3; have hi3 := zea i3
 have hsm_ := pre0.1.small; have hfo_ := pre0.1.follow; have hla_ := pre0.1.last
 refine zab <| zac (l := [0, 1]) rfl ?_
 obtain ⟨b1, w1, r1, g1, T1⟩ := zct (P := Try.prog) S0 27 (v := .agg #[.slice A0_0 m.spots.length c0_0, .slice A0_1 m.first.length c0_1, .slice A0_2 m.follow.length c0_2, .slice A0_3 m.last.length c0_3, .bool m.empty]) [.slice A0_0 m.spots.length c0_0, .slice A0_1 m.first.length c0_1, .slice A0_2 m.follow.length c0_2, .slice A0_3 m.last.length c0_3, .bool m.empty] rfl
 have S2 := T1
 dsimp only [lAa, lAn, lA0, lAs] at S2
 refine p_v (v := .pointer (some ⟨b1, 0, none⟩)) rfl rfl rfl (x_box rfl r1) <| p_v (v := .slice none 0 0) rfl rfl rfl (zae rfl) <| zaa <| zab <| zac (l := [0]) rfl <| p_v (v := .slice none 0 0) rfl rfl rfl (zae rfl) <| zaa <| zab <| zab <| zac (l := [0]) rfl <| p_v (v := .int .i64 0) rfl rfl rfl (zae rfl) <| zaa ?_
 refine zam ?_
 have T3 := S2.row_nil 3 (Kd.int .i64)
 obtain ⟨vn3, ev3, T3⟩ : ∃ v, v = (.slice none 0 0 : Value) ∧ St w.heap.size w (fun _ => none) w1 ([box b1 27 [.slice A0_0 m.spots.length c0_0, .slice A0_1 m.first.length c0_1, .slice A0_2 m.follow.length c0_2, .slice A0_3 m.last.length c0_3, .bool m.empty]] ++ [row 3 (Kd.int .i64) v []]) := ⟨_, rfl, T3⟩
 have S4 := T3
 dsimp only [lAa, lAn, lA0, lAs] at S4
 refine za6 (S := (List Int) × Int) (fun (q_ : (List Int) × Int) ρ w' => match q_ with | (out, n) => ∃ (h : Ghost) (v_out : Value), Le (fun _ => none) h ∧ St w.heap.size w h w' [box b1 27 [.slice A0_0 m.spots.length c0_0, .slice A0_1 m.first.length c0_1, .slice A0_2 m.follow.length c0_2, .slice A0_3 m.last.length c0_3, .bool m.empty], row 3 (Kd.int .i64) v_out out] ∧ ρ 1 = .slice A1 xat.length c1 ∧ ρ 2 = .bool first ∧ ρ 3 = .int .u8 c ∧ ρ 4 = .pointer (some ⟨b1, 0, none⟩) ∧ ρ 9 = v_out ∧ ρ 10 = .int .i64 n ∧ inK .i64 n ∧ (0 ≤ n ∧ n ≤ (m.spots.length : Int) ∧ out = zd6 (zb5 m xat first c) n)) (fun q_ => match q_ with | (out, n) => (m.spots.length - n).toNat) (([] : List Int), 0) ⟨(fun _ => none), vn3, Le.refl _, S4.sub [0, 1] (by decide) rfl _ rfl, rfl, rfl, rfl, rfl, (ev3.symm), rfl, (zai (by first|omega|(simp;omega)|assumption) (by first|omega|(simp;omega)|assumption)), (by exact ⟨by omega, by omega, (posTo_0 _).symm⟩)⟩ ?_
 rintro ⟨out, n⟩ ih5 ρ5 w5 ⟨h5, v_out, le5, S5, r5_1, r5_2, r5_3, r5_4, r5_9, r5_10, f5_0, hI5⟩
 have lf5_0 := za0 f5_0; have hf5_0 := za1 f5_0
 have rl5_1 := S5.row_le (j := 1) rfl; simp only [maxLen] at rl5_1
 have hl_ : (out.length : Int) ≤ n := by rw [hI5.2.2]; exact posTo_len _ hI5.1
 refine zab <| zab <| zac (l := [0, 1, 2, 3, 4]) rfl <| p_v (v := .int .i64 n) rfl rfl rfl (zad r5_10) <| p_v (v := .pointer (some ⟨b1, 0, none⟩)) rfl rfl rfl (zal zdi ty22 rfl r5_4) <| p_v (v := .slice A0_0 m.spots.length c0_0) rfl rfl rfl (zah (seg := [.slice A0_0 m.spots.length c0_0]) ty22 rfl (by simp) rfl (CF.box (m := 1) (S5.box_at (j := 0) rfl) rfl)) <| p_v (v := .int .i64 (m.spots.length : Int)) rfl rfl rfl (zat u22 rfl) <| p_v (v := .bool (decide (n < (m.spots.length : Int)))) rfl rfl rfl (zcp rfl rfl) <| zaa ?_
 refine zaj (p := n < (m.spots.length : Int)) rfl (fun hc6 => ?_) (fun hc6 => ?_)
 ·skip
  refine zap <| zab <| zam <| zab <| zac (l := [0, 1, 2, 3, 4, 5, 6, 7]) rfl <| p_v (v := .bool first) rfl rfl rfl (zad r5_2) <| p_v (v := .bool first) rfl rfl rfl (zad rfl) ?_
  rcases Bool.eq_false_or_eq_true first with hc7 | hc7
  ·skip
   refine p_v (v := .pointer (some ⟨b1, 1, none⟩)) rfl (wo 1 21 rfl rfl (congrArg Value.bool hc7) rfl) rfl (zal fd27_1 ty23 rfl r5_4) <| p_v (v := .slice A0_1 m.first.length c0_1) rfl (wo 1 21 rfl rfl (congrArg Value.bool hc7) rfl) rfl (zah (seg := [.slice A0_1 m.first.length c0_1]) ty23 rfl (by simp) rfl (CF.box (m := 1) (S5.box_at (j := 0) rfl) rfl)) <| p_v (v := .int .i64 n) rfl (wo 1 21 rfl rfl (congrArg Value.bool hc7) rfl) rfl (zad r5_10) <| p_c rfl (wo 1 21 rfl rfl (congrArg Value.bool hc7) rfl) rfl (zba (args := [.slice A0_1 m.first.length c0_1, .int .i64 n]) ca40 rfl rfl) (hasn_calls w5 m.first A0_1 c0_1 b0_1 (l0_1.mono (St.le0 S5)) n f5_0) ?_
   rintro _ w8 ⟨h8, T8, rfl⟩
   have S9 := S5.keep (Chg.of_below T8.below)
   refine p_v (v := .bool (decide (n ∈ m.first))) rfl rfl rfl (za5 (congrArg Value.bool hc7) rfl) <| p_v (v := .bool (decide (n ∈ m.first))) rfl rfl rfl (zae rfl) <| zaa <| zab <| zab <| zac (l := [0]) rfl <| p_v (v := .int .i64 0) rfl rfl rfl (zae rfl) <| zaa <| zam <| za6 (S := Bool × Int) (fun (q_ : Bool × Int) ρ w' => match q_ with | (may, i) => ∃ (h : Ghost), Le h5 h ∧ St w.heap.size w h w' [box b1 27 [.slice A0_0 m.spots.length c0_0, .slice A0_1 m.first.length c0_1, .slice A0_2 m.follow.length c0_2, .slice A0_3 m.last.length c0_3, .bool m.empty], row 3 (Kd.int .i64) v_out out] ∧ ρ 1 = .slice A1 xat.length c1 ∧ ρ 2 = .bool true ∧ ρ 3 = .int .u8 c ∧ ρ 4 = .pointer (some ⟨b1, 0, none⟩) ∧ ρ 9 = v_out ∧ ρ 10 = .int .i64 n ∧ ρ 11 = .bool may ∧ ρ 12 = .int .i64 i ∧ inK .i64 i ∧ (0 ≤ i ∧ i ≤ (xat.length : Int) ∧ may = mayTo m xat first n i)) (fun q_ => match q_ with | (may, i) => (xat.length - i).toNat) (decide (n ∈ m.first), 0) ⟨h5, Le.refl _, S9.sub [0, 1] (by decide) rfl _ rfl, r5_1, (r5_2.trans (congrArg Value.bool hc7)), r5_3, r5_4, r5_9, r5_10, rfl, rfl, (zai (by first|omega|(simp;omega)|assumption) (by first|omega|(simp;omega)|assumption)), (by exact ⟨by omega, by omega, by rw [← may_0]; first | (rw [(by assumption : first = true)]; rfl) | (rw [(by assumption : first = false)]; rfl)⟩)⟩ ?_
   rintro ⟨may, i⟩ ih10 ρ10 w10 ⟨h10, le10, S10, r10_1, r10_2, r10_3, r10_4, r10_9, r10_10, r10_11, r10_12, f10_0, hI10⟩
   have lf10_0 := za0 f10_0; have hf10_0 := za1 f10_0
   have rl10_1 := S10.row_le (j := 1) rfl; simp only [maxLen] at rl10_1
   have hx_ : i < (xat.length : Int) → 0 ≤ at_ xat i ∧ at_ xat i < (m.spots.length : Int) := fun h => pre0.2 _ (zbw hI10.1 h)
   refine zab <| zab <| zac (l := [0, 1, 2, 3, 4, 5, 6, 7]) rfl <| p_v (v := .int .i64 i) rfl rfl rfl (zad r10_12) <| p_v (v := .slice A1 xat.length c1) rfl rfl rfl (zad r10_1) <| p_v (v := .int .i64 (xat.length : Int)) rfl rfl rfl (zat u23 rfl) <| p_v (v := .bool (decide (i < (xat.length : Int)))) rfl rfl rfl (zcp rfl rfl) <| p_v (v := .bool (decide (i < (xat.length : Int)))) rfl rfl rfl (zad rfl) ?_
   by_cases hc11 : i < (xat.length : Int)
   ·skip
    refine p_v (v := .bool may) rfl (wo 4 31 rfl rfl (bT hc11) rfl) rfl (zad r10_11) <| p_v (v := .bool (!may)) rfl (wo 4 31 rfl rfl (bT hc11) rfl) rfl (x_not rfl) <| p_v (v := .bool (!may)) rfl rfl rfl (za5 (bT hc11) rfl) <| zaa ?_
    refine zbk (b := may) rfl (fun hc12 => ?_) (fun hc12 => ?_)
    ·skip
     refine zap <| zab <| zam ?_
     obtain ⟨ad13, seg13, a13, rp13, ce13⟩ := zao (q := i) (m := 1) l1 rfl (by first|omega|(simp;omega)|assumption) (by first|omega|(simp;omega)|assumption)
     obtain ⟨rfl, in13⟩ := rp13
     have lo13 := za0 in13; have hi13 := za1 in13
     obtain ⟨ad14, seg14, a14, rp14, ce14⟩ := zao (q := at_ xat i) (m := 1) l0_2 rfl (by first|omega|(simp;omega)|assumption) (by first|omega|(simp;omega)|assumption)
     obtain ⟨A14, c14, rfl, lc14, cm14, ld14⟩ := rp14
     have cn14 := cm14; simp only [maxLen] at cn14
     have hf16 : (CFs ⟨b1, 2, none⟩ [.slice A0_2 m.follow.length c0_2]).1 w10 := (CF.box (m := 1) (S10.box_at (j := 0) rfl) rfl)
     have hf17 : (CFs ad13 [.int .i64 (at_ xat i)]).1 w10 := (CF.ghost ce13 (St.le0 S10))
     have hf18 : (CFs ad14 [.slice A14 (at_ m.follow (at_ xat i)).length c14]).1 w10 := (CF.ghost ce14 (St.le0 S10))
     have hf19 : (LeadsS (Kd.int .i64) A14 (at_ m.follow (at_ xat i))).1 w10 := (ld14.mono (St.le0 S10))
     refine daS (hkC 1 hf16 (hkC 5 hf17 (hkC 7 hf18 (hkC 9 hf19 (hkN (w := w10)))))) 11 rfl zc9 ?_
     intro wd20 gd20 hd20
     have S21 := S10.keep gd20
     have hf22 := spUp gd20 hf16
     have hf23 := spUp gd20 hf17
     have hf24 := spUp gd20 hf18
     have hf25 := spUp gd20 hf19
     refine qd0 (i := 0) (v := .pointer (some ⟨b1, 2, none⟩)) rfl (by decide +kernel) rfl rfl (zal fd27_2 ty24 rfl r10_4) (zaf rfl) <| qd1 0 (i := 1) (v := .slice A0_2 m.follow.length c0_2) rfl rfl (by decide +kernel) rfl rfl (fun wq hq => (zah (seg := [.slice A0_2 m.follow.length c0_2]) ty24 rfl (by simp) rfl hq)) (zaz hf22 (zaf rfl)) <| qd0 (i := 2) (v := .slice A1 xat.length c1) rfl (by decide +kernel) rfl rfl (zad r10_1) (zaf rfl) <| qd0 (i := 3) (v := .int .i64 i) rfl (by decide +kernel) rfl rfl (zad r10_12) (zaf rfl) <| qd0 (i := 4) (v := .pointer (some ad13)) rfl (by decide +kernel) rfl rfl (zan u23 ty3 rfl rfl a13 (by first|omega|(simp;omega)|assumption) (by first|omega|(simp;omega)|assumption)) (zaf rfl) <| qd1 1 (i := 5) (v := .int .i64 (at_ xat i)) rfl rfl (by decide +kernel) rfl rfl (fun wq hq => (zah (seg := [.int .i64 (at_ xat i)]) ty3 rfl (by simp) rfl hq)) (zar rfl (zaz hf23 (zaf rfl))) <| qd0 (i := 6) (v := .pointer (some ad14)) rfl (by decide +kernel) rfl rfl (zan u24 ty23 rfl rfl a14 (by first|omega|(simp;omega)|assumption) (by first|omega|(simp;omega)|assumption)) (zaf rfl) <| qd1 2 (i := 7) (v := .slice A14 (at_ m.follow (at_ xat i)).length c14) rfl rfl (by decide +kernel) rfl rfl (fun wq hq => (zah (seg := [.slice A14 (at_ m.follow (at_ xat i)).length c14]) ty23 rfl (by simp) rfl hq)) (zar rfl (zar rfl (zaz hf24 (zaf rfl)))) <| qd0 (i := 8) (v := .int .i64 n) rfl (by decide +kernel) rfl rfl (zad r10_10) (zaf rfl) <| d_m (i := 9) (v := .bool (decide (n ∈ (at_ m.follow (at_ xat i))))) (fun wf => za4 (Kd.int .i64) (hp wf) A14 (at_ m.follow (at_ xat i))) (fun _ ho => ho _ (List.mem_of_getElem? (i := 3) rfl) rfl) rfl (by decide +kernel) (by decide +kernel) (by decide +kernel) rfl rfl (fun wq => (zba (args := [.slice A14 (at_ m.follow (at_ xat i)).length c14, .int .i64 n]) ca40 rfl rfl)) (fun wq hq => (hasn_calls wq (at_ m.follow (at_ xat i)) A14 c14 (And.intro lc14 cm14) hq n f5_0).mono fun e w2 he => by obtain ⟨_, rfl, _, T, rfl⟩ := he; exact ⟨rfl, Chg.of_below T.below⟩) (zar rfl (zar rfl (zar rfl (zaz hf25 (zaf rfl))))) <| qd0 (i := 10) (v := .bool (decide (n ∈ (at_ m.follow (at_ xat i))))) rfl (by decide +kernel) rfl rfl (zae rfl) (zaf rfl) <| zbh (by decide +kernel) ?_
     intro wd26 gd26
     have S27 := S21.keep gd26
     refine zak <| zac (l := [0, 1, 2]) rfl <| p_v (v := .int .i64 i) rfl rfl rfl (zad r10_12) <| p_v (v := .int .i64 (i + 1)) rfl rfl rfl (zbm rfl rfl (zai (by first|omega|(simp;omega)|assumption) (by first|omega|(simp;omega)|assumption))) <| p_v (v := .int .i64 (i + 1)) rfl rfl rfl (zae rfl) <| zaa ?_
     refine ih10 (decide (n ∈ (at_ m.follow (at_ xat i))), i + 1) _ _ (by dsimp only; omega) ⟨h10, le10, S27.sub [0, 1] (by decide) rfl _ rfl, r10_1, r10_2, r10_3, r10_4, r10_9, r10_10, rfl, rfl, (zai (by first|omega|(simp;omega)|assumption) (by first|omega|(simp;omega)|assumption)), (by exact ⟨by omega, by omega, may_step m xat first n hI10.1 (by omega) (by rw [← hI10.2.2]; assumption)⟩)⟩
    refine za3 rfl <| zab <| zac (l := [0, 1, 2, 3, 4, 5, 6, 7, 8, 9, 10]) rfl <| p_v (v := .bool true) rfl rfl rfl (zad (r10_11.trans (congrArg Value.bool hc12))) <| p_v (v := .bool true) rfl rfl rfl (zad rfl) <| p_v (v := .pointer (some ⟨b1, 0, none⟩)) rfl rfl rfl (zal zdi ty22 rfl r10_4) <| p_v (v := .slice A0_0 m.spots.length c0_0) rfl rfl rfl (zah (seg := [.slice A0_0 m.spots.length c0_0]) ty22 rfl (by simp) rfl (CF.box (m := 1) (S10.box_at (j := 0) rfl) rfl)) <| p_v (v := .int .i64 n) rfl rfl rfl (zad r10_10) ?_
    obtain ⟨ad28, seg28, a28, rp28, ce28⟩ := zao (q := n) (m := 5) l0_0 rfl (by first|omega|(simp;omega)|assumption) (by first|omega|(simp;omega)|assumption)
    refine p_v (v := .pointer (some ad28)) rfl rfl rfl (zan u22 ty43 rfl rfl a28 (by first|omega|(simp;omega)|assumption) (by first|omega|(simp;omega)|assumption)) ?_
    obtain ⟨rfl, ok28⟩ := rp28
    have slook28 := zd9 ok28; have shiok28 := zea ok28
    refine p_v (v := .pointer (some (ad28.add 0))) rfl rfl rfl (zcz fd43_0 ty41 rfl rfl) <| p_v (v := .agg (zax ((at_ m.spots n).set)).toArray) rfl rfl rfl (zah (seg := (zax ((at_ m.spots n).set))) ty41 rfl (by simp) rfl (CF.ghost (zeb (o := 0) (m := 4) (ds := (zax ((at_ m.spots n).set))) ce28 rfl) (St.le0 S10))) <| p_v (v := .int .u8 c) rfl rfl rfl (zad r10_3) <| p_c rfl rfl rfl (zba (args := [.agg (zax ((at_ m.spots n).set)).toArray, .int .u8 c]) ca41 rfl rfl) (in_calls w10 ((at_ m.spots n).set) c (in_u8 (by first|omega|(simp;omega)|assumption) (by first|omega|(simp;omega)|assumption))) ?_
    rintro _ w30 ⟨h30, T30, rfl⟩
    have S31 := S10.keep (Chg.of_below T30.below)
    refine p_v (v := .bool (has ((at_ m.spots n).set) c)) rfl rfl rfl (za5 rfl rfl) <| zaa ?_
    refine zbt (b := has ((at_ m.spots n).set) c) rfl (fun hc32 => ?_) (fun hc32 => ?_)
    ·skip
     refine zac (l := [0, 1, 2, 3, 4]) rfl <| p_v (v := v_out) rfl rfl rfl (zad r10_9) <| p_v (v := .int .i64 n) rfl rfl rfl (zad r10_10) ?_
     obtain ⟨v33, w33, r33, g33, T33⟩ := zbb (kd := (Kd.int .i64)) (xs := ([n] : List Int)) (len := 1) [.int .i64 n] S31 u23 ty3 rfl rfl rfl rfl rfl (zbr rfl zcg) [.int .i64 n] (zbx.single (k := (Kd.int .i64)) (h := h10) (x := n) (cs := [.int .i64 n]) ⟨rfl, f5_0⟩) rfl
     have S34 := T33
     dsimp only [lAa, lAn, lA0, lAs] at S34
     refine p_v (v := v33) rfl rfl rfl (zay (pv := [(0, .int .i64 n)]) rfl r33) ?_
     obtain ⟨A36, c36, ev36, lc36, cm36⟩ := S34.row_val (j := 2) rfl
     obtain ⟨v37, w37, r37, g37, T37⟩ := zdn (kd := (Kd.int .i64)) (A := A36) (c := c36) (ys := ([n] : List Int)) (len := ([n] : List Int).length) 23 S34 u23 ty3 rfl rfl (j := 1) rfl rfl (zdy S34 (j := 2) rfl ev36) (by first|omega|(simp;omega)|assumption) (by first|omega|(simp;omega)|assumption)
     have S38 := T37.fx 1 (row 3 (Kd.int .i64) v37 (out ++ ([n] : List Int))) rfl
     dsimp only [lAa, lAn, lA0, lAs] at S38
     refine p_v (v := v37) rfl rfl rfl (zdj rfl ev36 r37) <| p_v (v := v37) rfl rfl rfl (zae rfl) <| zaa <| zak <| zac (l := [0, 1, 2]) rfl <| p_v (v := .int .i64 n) rfl rfl rfl (zad r10_10) <| p_v (v := .int .i64 (n + 1)) rfl rfl rfl (zbm rfl rfl (zai (by first|omega|(simp;omega)|assumption) (by first|omega|(simp;omega)|assumption))) <| p_v (v := .int .i64 (n + 1)) rfl rfl rfl (zae rfl) <| zaa ?_
     refine ih5 (out ++ ([n] : List Int), n + 1) _ _ (by dsimp only; omega) ⟨h10, v37, ((le5).trans le10), S38.sub [0, 1] (by decide) rfl _ rfl, r10_1, (Eq.trans r10_2 (congrArg Value.bool hc7).symm), r10_3, r10_4, rfl, rfl, (zai (by first|omega|(simp;omega)|assumption) (by first|omega|(simp;omega)|assumption)), (by have hk_ : zb5 m xat first c n.toNat = (may && has (at_ m.spots n).set c) := (by unfold zb5; rw [Int.toNat_of_nonneg hI5.1, hI10.2.2, may_end m xat first n (by first | (left; omega) | (right; rw [← hI10.2.2]; assumption))]); exact ⟨by omega, by omega, by rw [hI5.2.2]; first | exact zd5 _ hI5.1 (by rw [hk_, (by assumption : may = true), (by assumption : has (at_ m.spots n).set c = true)]; rfl) | exact zcj _ hI5.1 (by rw [hk_, (by assumption : may = false)]; rfl) | exact zcj _ hI5.1 (by rw [hk_, (by assumption : has (at_ m.spots n).set c = false)]; simp)⟩)⟩
    refine zap <| zak <| zac (l := [0, 1, 2]) rfl <| p_v (v := .int .i64 n) rfl rfl rfl (zad r10_10) <| p_v (v := .int .i64 (n + 1)) rfl rfl rfl (zbm rfl rfl (zai (by first|omega|(simp;omega)|assumption) (by first|omega|(simp;omega)|assumption))) <| p_v (v := .int .i64 (n + 1)) rfl rfl rfl (zae rfl) <| zaa ?_
    refine ih5 (out, n + 1) _ _ (by dsimp only; omega) ⟨h10, v_out, ((le5).trans le10), S31.sub [0, 1] (by decide) rfl _ rfl, r10_1, (Eq.trans r10_2 (congrArg Value.bool hc7).symm), r10_3, r10_4, r10_9, rfl, (zai (by first|omega|(simp;omega)|assumption) (by first|omega|(simp;omega)|assumption)), (by have hk_ : zb5 m xat first c n.toNat = (may && has (at_ m.spots n).set c) := (by unfold zb5; rw [Int.toNat_of_nonneg hI5.1, hI10.2.2, may_end m xat first n (by first | (left; omega) | (right; rw [← hI10.2.2]; assumption))]); exact ⟨by omega, by omega, by rw [hI5.2.2]; first | exact zd5 _ hI5.1 (by rw [hk_, (by assumption : may = true), (by assumption : has (at_ m.spots n).set c = true)]; rfl) | exact zcj _ hI5.1 (by rw [hk_, (by assumption : may = false)]; rfl) | exact zcj _ hI5.1 (by rw [hk_, (by assumption : has (at_ m.spots n).set c = false)]; simp)⟩)⟩
   refine zaw rfl (wo 4 31 rfl rfl (bF hc11) rfl) rfl <| zaw rfl (wo 4 31 rfl rfl (bF hc11) rfl) rfl <| p_v (v := .bool false) rfl rfl rfl (zbo (bF hc11) rfl) <| zaa <| zbp (b := false) rfl ?_
   simp only [if_true, if_false, Bool.false_eq_true]
   refine za3 rfl <| zab <| zac (l := [0, 1, 2, 3, 4, 5, 6, 7, 8, 9, 10]) rfl <| p_v (v := .bool may) rfl rfl rfl (zad r10_11) <| p_v (v := .bool may) rfl rfl rfl (zad rfl) ?_
   rcases Bool.eq_false_or_eq_true may with hc39 | hc39
   ·skip
    refine p_v (v := .pointer (some ⟨b1, 0, none⟩)) rfl (wo 1 48 rfl rfl (congrArg Value.bool hc39) rfl) rfl (zal zdi ty22 rfl r10_4) <| p_v (v := .slice A0_0 m.spots.length c0_0) rfl (wo 1 48 rfl rfl (congrArg Value.bool hc39) rfl) rfl (zah (seg := [.slice A0_0 m.spots.length c0_0]) ty22 rfl (by simp) rfl (CF.box (m := 1) (S10.box_at (j := 0) rfl) rfl)) <| p_v (v := .int .i64 n) rfl (wo 1 48 rfl rfl (congrArg Value.bool hc39) rfl) rfl (zad r10_10) ?_
    obtain ⟨ad40, seg40, a40, rp40, ce40⟩ := zao (q := n) (m := 5) l0_0 rfl (by first|omega|(simp;omega)|assumption) (by first|omega|(simp;omega)|assumption)
    refine p_v (v := .pointer (some ad40)) rfl (wo 1 48 rfl rfl (congrArg Value.bool hc39) rfl) rfl (zan u22 ty43 rfl rfl a40 (by first|omega|(simp;omega)|assumption) (by first|omega|(simp;omega)|assumption)) ?_
    obtain ⟨rfl, ok40⟩ := rp40
    have slook40 := zd9 ok40; have shiok40 := zea ok40
    refine p_v (v := .pointer (some (ad40.add 0))) rfl (wo 1 48 rfl rfl (congrArg Value.bool hc39) rfl) rfl (zcz fd43_0 ty41 rfl rfl) <| p_v (v := .agg (zax ((at_ m.spots n).set)).toArray) rfl (wo 1 48 rfl rfl (congrArg Value.bool hc39) rfl) rfl (zah (seg := (zax ((at_ m.spots n).set))) ty41 rfl (by simp) rfl (CF.ghost (zeb (o := 0) (m := 4) (ds := (zax ((at_ m.spots n).set))) ce40 rfl) (St.le0 S10))) <| p_v (v := .int .u8 c) rfl (wo 1 48 rfl rfl (congrArg Value.bool hc39) rfl) rfl (zad r10_3) <| p_c rfl (wo 1 48 rfl rfl (congrArg Value.bool hc39) rfl) rfl (zba (args := [.agg (zax ((at_ m.spots n).set)).toArray, .int .u8 c]) ca41 rfl rfl) (in_calls w10 ((at_ m.spots n).set) c (in_u8 (by first|omega|(simp;omega)|assumption) (by first|omega|(simp;omega)|assumption))) ?_
    rintro _ w42 ⟨h42, T42, rfl⟩
    have S43 := S10.keep (Chg.of_below T42.below)
    refine p_v (v := .bool (has ((at_ m.spots n).set) c)) rfl rfl rfl (za5 (congrArg Value.bool hc39) rfl) <| zaa ?_
    refine zbt (b := has ((at_ m.spots n).set) c) rfl (fun hc44 => ?_) (fun hc44 => ?_)
    ·skip
     refine zac (l := [0, 1, 2, 3, 4]) rfl <| p_v (v := v_out) rfl rfl rfl (zad r10_9) <| p_v (v := .int .i64 n) rfl rfl rfl (zad r10_10) ?_
     obtain ⟨v45, w45, r45, g45, T45⟩ := zbb (kd := (Kd.int .i64)) (xs := ([n] : List Int)) (len := 1) [.int .i64 n] S43 u23 ty3 rfl rfl rfl rfl rfl (zbr rfl zcg) [.int .i64 n] (zbx.single (k := (Kd.int .i64)) (h := h10) (x := n) (cs := [.int .i64 n]) ⟨rfl, f5_0⟩) rfl
     have S46 := T45
     dsimp only [lAa, lAn, lA0, lAs] at S46
     refine p_v (v := v45) rfl rfl rfl (zay (pv := [(0, .int .i64 n)]) rfl r45) ?_
     obtain ⟨A48, c48, ev48, lc48, cm48⟩ := S46.row_val (j := 2) rfl
     obtain ⟨v49, w49, r49, g49, T49⟩ := zdn (kd := (Kd.int .i64)) (A := A48) (c := c48) (ys := ([n] : List Int)) (len := ([n] : List Int).length) 23 S46 u23 ty3 rfl rfl (j := 1) rfl rfl (zdy S46 (j := 2) rfl ev48) (by first|omega|(simp;omega)|assumption) (by first|omega|(simp;omega)|assumption)
     have S50 := T49.fx 1 (row 3 (Kd.int .i64) v49 (out ++ ([n] : List Int))) rfl
     dsimp only [lAa, lAn, lA0, lAs] at S50
     refine p_v (v := v49) rfl rfl rfl (zdj rfl ev48 r49) <| p_v (v := v49) rfl rfl rfl (zae rfl) <| zaa <| zak <| zac (l := [0, 1, 2]) rfl <| p_v (v := .int .i64 n) rfl rfl rfl (zad r10_10) <| p_v (v := .int .i64 (n + 1)) rfl rfl rfl (zbm rfl rfl (zai (by first|omega|(simp;omega)|assumption) (by first|omega|(simp;omega)|assumption))) <| p_v (v := .int .i64 (n + 1)) rfl rfl rfl (zae rfl) <| zaa ?_
     refine ih5 (out ++ ([n] : List Int), n + 1) _ _ (by dsimp only; omega) ⟨h10, v49, ((le5).trans le10), S50.sub [0, 1] (by decide) rfl _ rfl, r10_1, (Eq.trans r10_2 (congrArg Value.bool hc7).symm), r10_3, r10_4, rfl, rfl, (zai (by first|omega|(simp;omega)|assumption) (by first|omega|(simp;omega)|assumption)), (by have hk_ : zb5 m xat first c n.toNat = (may && has (at_ m.spots n).set c) := (by unfold zb5; rw [Int.toNat_of_nonneg hI5.1, hI10.2.2, may_end m xat first n (by first | (left; omega) | (right; rw [← hI10.2.2]; assumption))]); exact ⟨by omega, by omega, by rw [hI5.2.2]; first | exact zd5 _ hI5.1 (by rw [hk_, (by assumption : may = true), (by assumption : has (at_ m.spots n).set c = true)]; rfl) | exact zcj _ hI5.1 (by rw [hk_, (by assumption : may = false)]; rfl) | exact zcj _ hI5.1 (by rw [hk_, (by assumption : has (at_ m.spots n).set c = false)]; simp)⟩)⟩
    refine zap <| zak <| zac (l := [0, 1, 2]) rfl <| p_v (v := .int .i64 n) rfl rfl rfl (zad r10_10) <| p_v (v := .int .i64 (n + 1)) rfl rfl rfl (zbm rfl rfl (zai (by first|omega|(simp;omega)|assumption) (by first|omega|(simp;omega)|assumption))) <| p_v (v := .int .i64 (n + 1)) rfl rfl rfl (zae rfl) <| zaa ?_
    refine ih5 (out, n + 1) _ _ (by dsimp only; omega) ⟨h10, v_out, ((le5).trans le10), S43.sub [0, 1] (by decide) rfl _ rfl, r10_1, (Eq.trans r10_2 (congrArg Value.bool hc7).symm), r10_3, r10_4, r10_9, rfl, (zai (by first|omega|(simp;omega)|assumption) (by first|omega|(simp;omega)|assumption)), (by have hk_ : zb5 m xat first c n.toNat = (may && has (at_ m.spots n).set c) := (by unfold zb5; rw [Int.toNat_of_nonneg hI5.1, hI10.2.2, may_end m xat first n (by first | (left; omega) | (right; rw [← hI10.2.2]; assumption))]); exact ⟨by omega, by omega, by rw [hI5.2.2]; first | exact zd5 _ hI5.1 (by rw [hk_, (by assumption : may = true), (by assumption : has (at_ m.spots n).set c = true)]; rfl) | exact zcj _ hI5.1 (by rw [hk_, (by assumption : may = false)]; rfl) | exact zcj _ hI5.1 (by rw [hk_, (by assumption : has (at_ m.spots n).set c = false)]; simp)⟩)⟩
   refine zaw rfl (wo 1 48 rfl rfl (congrArg Value.bool hc39) rfl) rfl <| zaw rfl (wo 1 48 rfl rfl (congrArg Value.bool hc39) rfl) rfl <| zaw rfl (wo 1 48 rfl rfl (congrArg Value.bool hc39) rfl) rfl <| zaw rfl (wo 1 48 rfl rfl (congrArg Value.bool hc39) rfl) rfl <| zaw rfl (wo 1 48 rfl rfl (congrArg Value.bool hc39) rfl) rfl <| zaw rfl (wo 1 48 rfl rfl (congrArg Value.bool hc39) rfl) rfl <| zaw rfl (wo 1 48 rfl rfl (congrArg Value.bool hc39) rfl) rfl <| zaw rfl (wo 1 48 rfl rfl (congrArg Value.bool hc39) rfl) rfl <| p_v (v := .bool false) rfl rfl rfl (zbo (congrArg Value.bool hc39) rfl) <| zaa <| zbp (b := false) rfl ?_
   simp only [if_true, if_false, Bool.false_eq_true]
   refine zap <| zak <| zac (l := [0, 1, 2]) rfl <| p_v (v := .int .i64 n) rfl rfl rfl (zad r10_10) <| p_v (v := .int .i64 (n + 1)) rfl rfl rfl (zbm rfl rfl (zai (by first|omega|(simp;omega)|assumption) (by first|omega|(simp;omega)|assumption))) <| p_v (v := .int .i64 (n + 1)) rfl rfl rfl (zae rfl) <| zaa ?_
   refine ih5 (out, n + 1) _ _ (by dsimp only; omega) ⟨h10, v_out, ((le5).trans le10), S10.sub [0, 1] (by decide) rfl _ rfl, r10_1, (Eq.trans r10_2 (congrArg Value.bool hc7).symm), r10_3, r10_4, r10_9, rfl, (zai (by first|omega|(simp;omega)|assumption) (by first|omega|(simp;omega)|assumption)), (by have hk_ : zb5 m xat first c n.toNat = (may && has (at_ m.spots n).set c) := (by unfold zb5; rw [Int.toNat_of_nonneg hI5.1, hI10.2.2, may_end m xat first n (by first | (left; omega) | (right; rw [← hI10.2.2]; assumption))]); exact ⟨by omega, by omega, by rw [hI5.2.2]; first | exact zd5 _ hI5.1 (by rw [hk_, (by assumption : may = true), (by assumption : has (at_ m.spots n).set c = true)]; rfl) | exact zcj _ hI5.1 (by rw [hk_, (by assumption : may = false)]; rfl) | exact zcj _ hI5.1 (by rw [hk_, (by assumption : has (at_ m.spots n).set c = false)]; simp)⟩)⟩
  refine zaw rfl (wo 1 21 rfl rfl (congrArg Value.bool hc7) rfl) rfl <| zaw rfl (wo 1 21 rfl rfl (congrArg Value.bool hc7) rfl) rfl <| zaw rfl (wo 1 21 rfl rfl (congrArg Value.bool hc7) rfl) rfl <| zaw rfl (wo 1 21 rfl rfl (congrArg Value.bool hc7) rfl) rfl <| p_v (v := .bool false) rfl rfl rfl (zbo (congrArg Value.bool hc7) rfl) <| p_v (v := .bool false) rfl rfl rfl (zae rfl) <| zaa <| zab <| zab <| zac (l := [0]) rfl <| p_v (v := .int .i64 0) rfl rfl rfl (zae rfl) <| zaa ?_
  refine zam <| za6 (S := Bool × Int) (fun (q_ : Bool × Int) ρ w' => match q_ with | (may, i) => ∃ (h : Ghost), Le h5 h ∧ St w.heap.size w h w' [box b1 27 [.slice A0_0 m.spots.length c0_0, .slice A0_1 m.first.length c0_1, .slice A0_2 m.follow.length c0_2, .slice A0_3 m.last.length c0_3, .bool m.empty], row 3 (Kd.int .i64) v_out out] ∧ ρ 1 = .slice A1 xat.length c1 ∧ ρ 2 = .bool false ∧ ρ 3 = .int .u8 c ∧ ρ 4 = .pointer (some ⟨b1, 0, none⟩) ∧ ρ 9 = v_out ∧ ρ 10 = .int .i64 n ∧ ρ 11 = .bool may ∧ ρ 12 = .int .i64 i ∧ inK .i64 i ∧ (0 ≤ i ∧ i ≤ (xat.length : Int) ∧ may = mayTo m xat first n i)) (fun q_ => match q_ with | (may, i) => (xat.length - i).toNat) (false, 0) ⟨h5, Le.refl _, S5.sub [0, 1] (by decide) rfl _ rfl, r5_1, (r5_2.trans (congrArg Value.bool hc7)), r5_3, r5_4, r5_9, r5_10, rfl, rfl, (zai (by first|omega|(simp;omega)|assumption) (by first|omega|(simp;omega)|assumption)), (by exact ⟨by omega, by omega, by rw [← may_0]; first | (rw [(by assumption : first = true)]; rfl) | (rw [(by assumption : first = false)]; rfl)⟩)⟩ ?_
  rintro ⟨may, i⟩ ih51 ρ51 w51 ⟨h51, le51, S51, r51_1, r51_2, r51_3, r51_4, r51_9, r51_10, r51_11, r51_12, f51_0, hI51⟩
  have lf51_0 := za0 f51_0; have hf51_0 := za1 f51_0
  have rl51_1 := S51.row_le (j := 1) rfl; simp only [maxLen] at rl51_1
  have hx_ : i < (xat.length : Int) → 0 ≤ at_ xat i ∧ at_ xat i < (m.spots.length : Int) := fun h => pre0.2 _ (zbw hI51.1 h)
  refine zab <| zab <| zac (l := [0, 1, 2, 3, 4, 5, 6, 7]) rfl <| p_v (v := .int .i64 i) rfl rfl rfl (zad r51_12) <| p_v (v := .slice A1 xat.length c1) rfl rfl rfl (zad r51_1) <| p_v (v := .int .i64 (xat.length : Int)) rfl rfl rfl (zat u23 rfl) <| p_v (v := .bool (decide (i < (xat.length : Int)))) rfl rfl rfl (zcp rfl rfl) <| p_v (v := .bool (decide (i < (xat.length : Int)))) rfl rfl rfl (zad rfl) ?_
  by_cases hc52 : i < (xat.length : Int)
  ·skip
   refine p_v (v := .bool may) rfl (wo 4 31 rfl rfl (bT hc52) rfl) rfl (zad r51_11) <| p_v (v := .bool (!may)) rfl (wo 4 31 rfl rfl (bT hc52) rfl) rfl (x_not rfl) <| p_v (v := .bool (!may)) rfl rfl rfl (za5 (bT hc52) rfl) <| zaa ?_
   refine zbk (b := may) rfl (fun hc53 => ?_) (fun hc53 => ?_)
   ·skip
    refine zap <| zab <| zam ?_
    obtain ⟨ad54, seg54, a54, rp54, ce54⟩ := zao (q := i) (m := 1) l1 rfl (by first|omega|(simp;omega)|assumption) (by first|omega|(simp;omega)|assumption)
    obtain ⟨rfl, in54⟩ := rp54
    have lo54 := za0 in54; have hi54 := za1 in54
    obtain ⟨ad55, seg55, a55, rp55, ce55⟩ := zao (q := at_ xat i) (m := 1) l0_2 rfl (by first|omega|(simp;omega)|assumption) (by first|omega|(simp;omega)|assumption)
    obtain ⟨A55, c55, rfl, lc55, cm55, ld55⟩ := rp55
    have cn55 := cm55; simp only [maxLen] at cn55
    have hf57 : (CFs ⟨b1, 2, none⟩ [.slice A0_2 m.follow.length c0_2]).1 w51 := (CF.box (m := 1) (S51.box_at (j := 0) rfl) rfl)
    have hf58 : (CFs ad54 [.int .i64 (at_ xat i)]).1 w51 := (CF.ghost ce54 (St.le0 S51))
    have hf59 : (CFs ad55 [.slice A55 (at_ m.follow (at_ xat i)).length c55]).1 w51 := (CF.ghost ce55 (St.le0 S51))
    have hf60 : (LeadsS (Kd.int .i64) A55 (at_ m.follow (at_ xat i))).1 w51 := (ld55.mono (St.le0 S51))
    refine daS (hkC 1 hf57 (hkC 5 hf58 (hkC 7 hf59 (hkC 9 hf60 (hkN (w := w51)))))) 11 rfl zc9 ?_
    intro wd61 gd61 hd61
    have S62 := S51.keep gd61
    have hf63 := spUp gd61 hf57
    have hf64 := spUp gd61 hf58
    have hf65 := spUp gd61 hf59
    have hf66 := spUp gd61 hf60
    refine qd0 (i := 0) (v := .pointer (some ⟨b1, 2, none⟩)) rfl (by decide +kernel) rfl rfl (zal fd27_2 ty24 rfl r51_4) (zaf rfl) <| qd1 0 (i := 1) (v := .slice A0_2 m.follow.length c0_2) rfl rfl (by decide +kernel) rfl rfl (fun wq hq => (zah (seg := [.slice A0_2 m.follow.length c0_2]) ty24 rfl (by simp) rfl hq)) (zaz hf63 (zaf rfl)) <| qd0 (i := 2) (v := .slice A1 xat.length c1) rfl (by decide +kernel) rfl rfl (zad r51_1) (zaf rfl) <| qd0 (i := 3) (v := .int .i64 i) rfl (by decide +kernel) rfl rfl (zad r51_12) (zaf rfl) <| qd0 (i := 4) (v := .pointer (some ad54)) rfl (by decide +kernel) rfl rfl (zan u23 ty3 rfl rfl a54 (by first|omega|(simp;omega)|assumption) (by first|omega|(simp;omega)|assumption)) (zaf rfl) <| qd1 1 (i := 5) (v := .int .i64 (at_ xat i)) rfl rfl (by decide +kernel) rfl rfl (fun wq hq => (zah (seg := [.int .i64 (at_ xat i)]) ty3 rfl (by simp) rfl hq)) (zar rfl (zaz hf64 (zaf rfl))) <| qd0 (i := 6) (v := .pointer (some ad55)) rfl (by decide +kernel) rfl rfl (zan u24 ty23 rfl rfl a55 (by first|omega|(simp;omega)|assumption) (by first|omega|(simp;omega)|assumption)) (zaf rfl) <| qd1 2 (i := 7) (v := .slice A55 (at_ m.follow (at_ xat i)).length c55) rfl rfl (by decide +kernel) rfl rfl (fun wq hq => (zah (seg := [.slice A55 (at_ m.follow (at_ xat i)).length c55]) ty23 rfl (by simp) rfl hq)) (zar rfl (zar rfl (zaz hf65 (zaf rfl)))) <| qd0 (i := 8) (v := .int .i64 n) rfl (by decide +kernel) rfl rfl (zad r51_10) (zaf rfl) <| d_m (i := 9) (v := .bool (decide (n ∈ (at_ m.follow (at_ xat i))))) (fun wf => za4 (Kd.int .i64) (hp wf) A55 (at_ m.follow (at_ xat i))) (fun _ ho => ho _ (List.mem_of_getElem? (i := 3) rfl) rfl) rfl (by decide +kernel) (by decide +kernel) (by decide +kernel) rfl rfl (fun wq => (zba (args := [.slice A55 (at_ m.follow (at_ xat i)).length c55, .int .i64 n]) ca40 rfl rfl)) (fun wq hq => (hasn_calls wq (at_ m.follow (at_ xat i)) A55 c55 (And.intro lc55 cm55) hq n f5_0).mono fun e w2 he => by obtain ⟨_, rfl, _, T, rfl⟩ := he; exact ⟨rfl, Chg.of_below T.below⟩) (zar rfl (zar rfl (zar rfl (zaz hf66 (zaf rfl))))) <| qd0 (i := 10) (v := .bool (decide (n ∈ (at_ m.follow (at_ xat i))))) rfl (by decide +kernel) rfl rfl (zae rfl) (zaf rfl) <| zbh (by decide +kernel) ?_
    intro wd67 gd67
    have S68 := S62.keep gd67
    refine zak <| zac (l := [0, 1, 2]) rfl <| p_v (v := .int .i64 i) rfl rfl rfl (zad r51_12) <| p_v (v := .int .i64 (i + 1)) rfl rfl rfl (zbm rfl rfl (zai (by first|omega|(simp;omega)|assumption) (by first|omega|(simp;omega)|assumption))) <| p_v (v := .int .i64 (i + 1)) rfl rfl rfl (zae rfl) <| zaa ?_
    refine ih51 (decide (n ∈ (at_ m.follow (at_ xat i))), i + 1) _ _ (by dsimp only; omega) ⟨h51, le51, S68.sub [0, 1] (by decide) rfl _ rfl, r51_1, r51_2, r51_3, r51_4, r51_9, r51_10, rfl, rfl, (zai (by first|omega|(simp;omega)|assumption) (by first|omega|(simp;omega)|assumption)), (by exact ⟨by omega, by omega, may_step m xat first n hI51.1 (by omega) (by rw [← hI51.2.2]; assumption)⟩)⟩
   refine za3 rfl <| zab <| zac (l := [0, 1, 2, 3, 4, 5, 6, 7, 8, 9, 10]) rfl <| p_v (v := .bool true) rfl rfl rfl (zad (r51_11.trans (congrArg Value.bool hc53))) <| p_v (v := .bool true) rfl rfl rfl (zad rfl) <| p_v (v := .pointer (some ⟨b1, 0, none⟩)) rfl rfl rfl (zal zdi ty22 rfl r51_4) <| p_v (v := .slice A0_0 m.spots.length c0_0) rfl rfl rfl (zah (seg := [.slice A0_0 m.spots.length c0_0]) ty22 rfl (by simp) rfl (CF.box (m := 1) (S51.box_at (j := 0) rfl) rfl)) <| p_v (v := .int .i64 n) rfl rfl rfl (zad r51_10) ?_
   obtain ⟨ad69, seg69, a69, rp69, ce69⟩ := zao (q := n) (m := 5) l0_0 rfl (by first|omega|(simp;omega)|assumption) (by first|omega|(simp;omega)|assumption)
   refine p_v (v := .pointer (some ad69)) rfl rfl rfl (zan u22 ty43 rfl rfl a69 (by first|omega|(simp;omega)|assumption) (by first|omega|(simp;omega)|assumption)) ?_
   obtain ⟨rfl, ok69⟩ := rp69
   have slook69 := zd9 ok69; have shiok69 := zea ok69
   refine p_v (v := .pointer (some (ad69.add 0))) rfl rfl rfl (zcz fd43_0 ty41 rfl rfl) <| p_v (v := .agg (zax ((at_ m.spots n).set)).toArray) rfl rfl rfl (zah (seg := (zax ((at_ m.spots n).set))) ty41 rfl (by simp) rfl (CF.ghost (zeb (o := 0) (m := 4) (ds := (zax ((at_ m.spots n).set))) ce69 rfl) (St.le0 S51))) <| p_v (v := .int .u8 c) rfl rfl rfl (zad r51_3) <| p_c rfl rfl rfl (zba (args := [.agg (zax ((at_ m.spots n).set)).toArray, .int .u8 c]) ca41 rfl rfl) (in_calls w51 ((at_ m.spots n).set) c (in_u8 (by first|omega|(simp;omega)|assumption) (by first|omega|(simp;omega)|assumption))) ?_
   rintro _ w71 ⟨h71, T71, rfl⟩
   have S72 := S51.keep (Chg.of_below T71.below)
   refine p_v (v := .bool (has ((at_ m.spots n).set) c)) rfl rfl rfl (za5 rfl rfl) <| zaa ?_
   refine zbt (b := has ((at_ m.spots n).set) c) rfl (fun hc73 => ?_) (fun hc73 => ?_)
   ·skip
    refine zac (l := [0, 1, 2, 3, 4]) rfl <| p_v (v := v_out) rfl rfl rfl (zad r51_9) <| p_v (v := .int .i64 n) rfl rfl rfl (zad r51_10) ?_
    obtain ⟨v74, w74, r74, g74, T74⟩ := zbb (kd := (Kd.int .i64)) (xs := ([n] : List Int)) (len := 1) [.int .i64 n] S72 u23 ty3 rfl rfl rfl rfl rfl (zbr rfl zcg) [.int .i64 n] (zbx.single (k := (Kd.int .i64)) (h := h51) (x := n) (cs := [.int .i64 n]) ⟨rfl, f5_0⟩) rfl
    have S75 := T74
    dsimp only [lAa, lAn, lA0, lAs] at S75
    refine p_v (v := v74) rfl rfl rfl (zay (pv := [(0, .int .i64 n)]) rfl r74) ?_
    obtain ⟨A77, c77, ev77, lc77, cm77⟩ := S75.row_val (j := 2) rfl
    obtain ⟨v78, w78, r78, g78, T78⟩ := zdn (kd := (Kd.int .i64)) (A := A77) (c := c77) (ys := ([n] : List Int)) (len := ([n] : List Int).length) 23 S75 u23 ty3 rfl rfl (j := 1) rfl rfl (zdy S75 (j := 2) rfl ev77) (by first|omega|(simp;omega)|assumption) (by first|omega|(simp;omega)|assumption)
    have S79 := T78.fx 1 (row 3 (Kd.int .i64) v78 (out ++ ([n] : List Int))) rfl
    dsimp only [lAa, lAn, lA0, lAs] at S79
    refine p_v (v := v78) rfl rfl rfl (zdj rfl ev77 r78) <| p_v (v := v78) rfl rfl rfl (zae rfl) <| zaa <| zak <| zac (l := [0, 1, 2]) rfl <| p_v (v := .int .i64 n) rfl rfl rfl (zad r51_10) <| p_v (v := .int .i64 (n + 1)) rfl rfl rfl (zbm rfl rfl (zai (by first|omega|(simp;omega)|assumption) (by first|omega|(simp;omega)|assumption))) <| p_v (v := .int .i64 (n + 1)) rfl rfl rfl (zae rfl) <| zaa ?_
    refine ih5 (out ++ ([n] : List Int), n + 1) _ _ (by dsimp only; omega) ⟨h51, v78, ((le5).trans le51), S79.sub [0, 1] (by decide) rfl _ rfl, r51_1, (Eq.trans r51_2 (congrArg Value.bool hc7).symm), r51_3, r51_4, rfl, rfl, (zai (by first|omega|(simp;omega)|assumption) (by first|omega|(simp;omega)|assumption)), (by have hk_ : zb5 m xat first c n.toNat = (may && has (at_ m.spots n).set c) := (by unfold zb5; rw [Int.toNat_of_nonneg hI5.1, hI51.2.2, may_end m xat first n (by first | (left; omega) | (right; rw [← hI51.2.2]; assumption))]); exact ⟨by omega, by omega, by rw [hI5.2.2]; first | exact zd5 _ hI5.1 (by rw [hk_, (by assumption : may = true), (by assumption : has (at_ m.spots n).set c = true)]; rfl) | exact zcj _ hI5.1 (by rw [hk_, (by assumption : may = false)]; rfl) | exact zcj _ hI5.1 (by rw [hk_, (by assumption : has (at_ m.spots n).set c = false)]; simp)⟩)⟩
   refine zap <| zak <| zac (l := [0, 1, 2]) rfl <| p_v (v := .int .i64 n) rfl rfl rfl (zad r51_10) <| p_v (v := .int .i64 (n + 1)) rfl rfl rfl (zbm rfl rfl (zai (by first|omega|(simp;omega)|assumption) (by first|omega|(simp;omega)|assumption))) <| p_v (v := .int .i64 (n + 1)) rfl rfl rfl (zae rfl) <| zaa ?_
   refine ih5 (out, n + 1) _ _ (by dsimp only; omega) ⟨h51, v_out, ((le5).trans le51), S72.sub [0, 1] (by decide) rfl _ rfl, r51_1, (Eq.trans r51_2 (congrArg Value.bool hc7).symm), r51_3, r51_4, r51_9, rfl, (zai (by first|omega|(simp;omega)|assumption) (by first|omega|(simp;omega)|assumption)), (by have hk_ : zb5 m xat first c n.toNat = (may && has (at_ m.spots n).set c) := (by unfold zb5; rw [Int.toNat_of_nonneg hI5.1, hI51.2.2, may_end m xat first n (by first | (left; omega) | (right; rw [← hI51.2.2]; assumption))]); exact ⟨by omega, by omega, by rw [hI5.2.2]; first | exact zd5 _ hI5.1 (by rw [hk_, (by assumption : may = true), (by assumption : has (at_ m.spots n).set c = true)]; rfl) | exact zcj _ hI5.1 (by rw [hk_, (by assumption : may = false)]; rfl) | exact zcj _ hI5.1 (by rw [hk_, (by assumption : has (at_ m.spots n).set c = false)]; simp)⟩)⟩
  refine zaw rfl (wo 4 31 rfl rfl (bF hc52) rfl) rfl <| zaw rfl (wo 4 31 rfl rfl (bF hc52) rfl) rfl <| p_v (v := .bool false) rfl rfl rfl (zbo (bF hc52) rfl) <| zaa <| zbp (b := false) rfl ?_
  simp only [if_true, if_false, Bool.false_eq_true]
  refine za3 rfl <| zab <| zac (l := [0, 1, 2, 3, 4, 5, 6, 7, 8, 9, 10]) rfl <| p_v (v := .bool may) rfl rfl rfl (zad r51_11) <| p_v (v := .bool may) rfl rfl rfl (zad rfl) ?_
  rcases Bool.eq_false_or_eq_true may with hc80 | hc80
  ·skip
   refine p_v (v := .pointer (some ⟨b1, 0, none⟩)) rfl (wo 1 48 rfl rfl (congrArg Value.bool hc80) rfl) rfl (zal zdi ty22 rfl r51_4) <| p_v (v := .slice A0_0 m.spots.length c0_0) rfl (wo 1 48 rfl rfl (congrArg Value.bool hc80) rfl) rfl (zah (seg := [.slice A0_0 m.spots.length c0_0]) ty22 rfl (by simp) rfl (CF.box (m := 1) (S51.box_at (j := 0) rfl) rfl)) <| p_v (v := .int .i64 n) rfl (wo 1 48 rfl rfl (congrArg Value.bool hc80) rfl) rfl (zad r51_10) ?_
   obtain ⟨ad81, seg81, a81, rp81, ce81⟩ := zao (q := n) (m := 5) l0_0 rfl (by first|omega|(simp;omega)|assumption) (by first|omega|(simp;omega)|assumption)
   refine p_v (v := .pointer (some ad81)) rfl (wo 1 48 rfl rfl (congrArg Value.bool hc80) rfl) rfl (zan u22 ty43 rfl rfl a81 (by first|omega|(simp;omega)|assumption) (by first|omega|(simp;omega)|assumption)) ?_
   obtain ⟨rfl, ok81⟩ := rp81
   have slook81 := zd9 ok81; have shiok81 := zea ok81
   refine p_v (v := .pointer (some (ad81.add 0))) rfl (wo 1 48 rfl rfl (congrArg Value.bool hc80) rfl) rfl (zcz fd43_0 ty41 rfl rfl) <| p_v (v := .agg (zax ((at_ m.spots n).set)).toArray) rfl (wo 1 48 rfl rfl (congrArg Value.bool hc80) rfl) rfl (zah (seg := (zax ((at_ m.spots n).set))) ty41 rfl (by simp) rfl (CF.ghost (zeb (o := 0) (m := 4) (ds := (zax ((at_ m.spots n).set))) ce81 rfl) (St.le0 S51))) <| p_v (v := .int .u8 c) rfl (wo 1 48 rfl rfl (congrArg Value.bool hc80) rfl) rfl (zad r51_3) <| p_c rfl (wo 1 48 rfl rfl (congrArg Value.bool hc80) rfl) rfl (zba (args := [.agg (zax ((at_ m.spots n).set)).toArray, .int .u8 c]) ca41 rfl rfl) (in_calls w51 ((at_ m.spots n).set) c (in_u8 (by first|omega|(simp;omega)|assumption) (by first|omega|(simp;omega)|assumption))) ?_
   rintro _ w83 ⟨h83, T83, rfl⟩
   have S84 := S51.keep (Chg.of_below T83.below)
   refine p_v (v := .bool (has ((at_ m.spots n).set) c)) rfl rfl rfl (za5 (congrArg Value.bool hc80) rfl) <| zaa ?_
   refine zbt (b := has ((at_ m.spots n).set) c) rfl (fun hc85 => ?_) (fun hc85 => ?_)
   ·skip
    refine zac (l := [0, 1, 2, 3, 4]) rfl <| p_v (v := v_out) rfl rfl rfl (zad r51_9) <| p_v (v := .int .i64 n) rfl rfl rfl (zad r51_10) ?_
    obtain ⟨v86, w86, r86, g86, T86⟩ := zbb (kd := (Kd.int .i64)) (xs := ([n] : List Int)) (len := 1) [.int .i64 n] S84 u23 ty3 rfl rfl rfl rfl rfl (zbr rfl zcg) [.int .i64 n] (zbx.single (k := (Kd.int .i64)) (h := h51) (x := n) (cs := [.int .i64 n]) ⟨rfl, f5_0⟩) rfl
    have S87 := T86
    dsimp only [lAa, lAn, lA0, lAs] at S87
    refine p_v (v := v86) rfl rfl rfl (zay (pv := [(0, .int .i64 n)]) rfl r86) ?_
    obtain ⟨A89, c89, ev89, lc89, cm89⟩ := S87.row_val (j := 2) rfl
    obtain ⟨v90, w90, r90, g90, T90⟩ := zdn (kd := (Kd.int .i64)) (A := A89) (c := c89) (ys := ([n] : List Int)) (len := ([n] : List Int).length) 23 S87 u23 ty3 rfl rfl (j := 1) rfl rfl (zdy S87 (j := 2) rfl ev89) (by first|omega|(simp;omega)|assumption) (by first|omega|(simp;omega)|assumption)
    have S91 := T90.fx 1 (row 3 (Kd.int .i64) v90 (out ++ ([n] : List Int))) rfl
    dsimp only [lAa, lAn, lA0, lAs] at S91
    refine p_v (v := v90) rfl rfl rfl (zdj rfl ev89 r90) <| p_v (v := v90) rfl rfl rfl (zae rfl) <| zaa <| zak <| zac (l := [0, 1, 2]) rfl <| p_v (v := .int .i64 n) rfl rfl rfl (zad r51_10) <| p_v (v := .int .i64 (n + 1)) rfl rfl rfl (zbm rfl rfl (zai (by first|omega|(simp;omega)|assumption) (by first|omega|(simp;omega)|assumption))) <| p_v (v := .int .i64 (n + 1)) rfl rfl rfl (zae rfl) <| zaa ?_
    refine ih5 (out ++ ([n] : List Int), n + 1) _ _ (by dsimp only; omega) ⟨h51, v90, ((le5).trans le51), S91.sub [0, 1] (by decide) rfl _ rfl, r51_1, (Eq.trans r51_2 (congrArg Value.bool hc7).symm), r51_3, r51_4, rfl, rfl, (zai (by first|omega|(simp;omega)|assumption) (by first|omega|(simp;omega)|assumption)), (by have hk_ : zb5 m xat first c n.toNat = (may && has (at_ m.spots n).set c) := (by unfold zb5; rw [Int.toNat_of_nonneg hI5.1, hI51.2.2, may_end m xat first n (by first | (left; omega) | (right; rw [← hI51.2.2]; assumption))]); exact ⟨by omega, by omega, by rw [hI5.2.2]; first | exact zd5 _ hI5.1 (by rw [hk_, (by assumption : may = true), (by assumption : has (at_ m.spots n).set c = true)]; rfl) | exact zcj _ hI5.1 (by rw [hk_, (by assumption : may = false)]; rfl) | exact zcj _ hI5.1 (by rw [hk_, (by assumption : has (at_ m.spots n).set c = false)]; simp)⟩)⟩
   refine zap <| zak <| zac (l := [0, 1, 2]) rfl <| p_v (v := .int .i64 n) rfl rfl rfl (zad r51_10) <| p_v (v := .int .i64 (n + 1)) rfl rfl rfl (zbm rfl rfl (zai (by first|omega|(simp;omega)|assumption) (by first|omega|(simp;omega)|assumption))) <| p_v (v := .int .i64 (n + 1)) rfl rfl rfl (zae rfl) <| zaa ?_
   refine ih5 (out, n + 1) _ _ (by dsimp only; omega) ⟨h51, v_out, ((le5).trans le51), S84.sub [0, 1] (by decide) rfl _ rfl, r51_1, (Eq.trans r51_2 (congrArg Value.bool hc7).symm), r51_3, r51_4, r51_9, rfl, (zai (by first|omega|(simp;omega)|assumption) (by first|omega|(simp;omega)|assumption)), (by have hk_ : zb5 m xat first c n.toNat = (may && has (at_ m.spots n).set c) := (by unfold zb5; rw [Int.toNat_of_nonneg hI5.1, hI51.2.2, may_end m xat first n (by first | (left; omega) | (right; rw [← hI51.2.2]; assumption))]); exact ⟨by omega, by omega, by rw [hI5.2.2]; first | exact zd5 _ hI5.1 (by rw [hk_, (by assumption : may = true), (by assumption : has (at_ m.spots n).set c = true)]; rfl) | exact zcj _ hI5.1 (by rw [hk_, (by assumption : may = false)]; rfl) | exact zcj _ hI5.1 (by rw [hk_, (by assumption : has (at_ m.spots n).set c = false)]; simp)⟩)⟩
  refine zaw rfl (wo 1 48 rfl rfl (congrArg Value.bool hc80) rfl) rfl <| zaw rfl (wo 1 48 rfl rfl (congrArg Value.bool hc80) rfl) rfl <| zaw rfl (wo 1 48 rfl rfl (congrArg Value.bool hc80) rfl) rfl <| zaw rfl (wo 1 48 rfl rfl (congrArg Value.bool hc80) rfl) rfl <| zaw rfl (wo 1 48 rfl rfl (congrArg Value.bool hc80) rfl) rfl <| zaw rfl (wo 1 48 rfl rfl (congrArg Value.bool hc80) rfl) rfl <| zaw rfl (wo 1 48 rfl rfl (congrArg Value.bool hc80) rfl) rfl <| zaw rfl (wo 1 48 rfl rfl (congrArg Value.bool hc80) rfl) rfl <| p_v (v := .bool false) rfl rfl rfl (zbo (congrArg Value.bool hc80) rfl) <| zaa <| zbp (b := false) rfl ?_
  simp only [if_true, if_false, Bool.false_eq_true]
  refine zap <| zak <| zac (l := [0, 1, 2]) rfl <| p_v (v := .int .i64 n) rfl rfl rfl (zad r51_10) <| p_v (v := .int .i64 (n + 1)) rfl rfl rfl (zbm rfl rfl (zai (by first|omega|(simp;omega)|assumption) (by first|omega|(simp;omega)|assumption))) <| p_v (v := .int .i64 (n + 1)) rfl rfl rfl (zae rfl) <| zaa ?_
  refine ih5 (out, n + 1) _ _ (by dsimp only; omega) ⟨h51, v_out, ((le5).trans le51), S51.sub [0, 1] (by decide) rfl _ rfl, r51_1, (Eq.trans r51_2 (congrArg Value.bool hc7).symm), r51_3, r51_4, r51_9, rfl, (zai (by first|omega|(simp;omega)|assumption) (by first|omega|(simp;omega)|assumption)), (by have hk_ : zb5 m xat first c n.toNat = (may && has (at_ m.spots n).set c) := (by unfold zb5; rw [Int.toNat_of_nonneg hI5.1, hI51.2.2, may_end m xat first n (by first | (left; omega) | (right; rw [← hI51.2.2]; assumption))]); exact ⟨by omega, by omega, by rw [hI5.2.2]; first | exact zd5 _ hI5.1 (by rw [hk_, (by assumption : may = true), (by assumption : has (at_ m.spots n).set c = true)]; rfl) | exact zcj _ hI5.1 (by rw [hk_, (by assumption : may = false)]; rfl) | exact zcj _ hI5.1 (by rw [hk_, (by assumption : has (at_ m.spots n).set c = false)]; simp)⟩)⟩
 refine za3 rfl <| zab <| zac (l := [0, 1]) rfl <| p_v (v := v_out) rfl rfl rfl (zad r5_9) <| p_v (v := v_out) rfl rfl rfl (zae rfl) <| zaa <| zau Try.func21 (res1 rfl (zav (v := v_out) rfl)) ?_
 have q0 : (zcb m xat first c : List Int) = out := by
  rw [hI5.2.2, show n = (m.spots.length : Int) by omega]; exact stepP_eq m xat first c
 refine ⟨_, rfl, h5, v_out, ?_, ?_⟩
 · rw [q0]; exact S5.sub [1] (by decide) rfl _ rfl
 · first | rfl | (simp only [q0]; rfl) | (simp only [q0])
theorem runN_calls (w : World) (m : Mach) (A0_0 : Option Addr) (c0_0 : Nat) (b0_0 : m.spots.length ≤ c0_0 ∧ c0_0 ≤ maxLen) (l0_0 : za4 zec (hp w) A0_0 m.spots) (A0_1 : Option Addr) (c0_1 : Nat) (b0_1 : m.first.length ≤ c0_1 ∧ c0_1 ≤ maxLen) (l0_1 : za4 (Kd.int .i64) (hp w) A0_1 m.first) (A0_2 : Option Addr) (c0_2 : Nat) (b0_2 : m.follow.length ≤ c0_2 ∧ c0_2 ≤ maxLen) (l0_2 : za4 (Kd.int .i64).slice (hp w) A0_2 m.follow) (A0_3 : Option Addr) (c0_3 : Nat) (b0_3 : m.last.length ≤ c0_3 ∧ c0_3 ≤ maxLen) (l0_3 : za4 Kd.bool (hp w) A0_3 m.last) (xw : ByteArray) (s1 : xw.size ≤ maxLen) :
    Calls Try.prog 20 #[.agg #[.slice A0_0 m.spots.length c0_0, .slice A0_1 m.first.length c0_1, .slice A0_2 m.follow.length c0_2, .slice A0_3 m.last.length c0_3, .bool m.empty], .string xw] w fun e w' => ∃ v, e = .returned v ∧ ∃ (hn : Ghost), St w.heap.size w hn w' [] ∧ v = .bool (runM m xw) := by
 refine zas Try.func20 rfl Try.ntmps20 rfl ?_
 have S0 := St.init w
 have bb0_0 := b0_0.1; have bc0_0 := b0_0.2; simp only [maxLen] at bc0_0
 have bb0_1 := b0_1.1; have bc0_1 := b0_1.2; simp only [maxLen] at bc0_1
 have bb0_2 := b0_2.1; have bc0_2 := b0_2.2; simp only [maxLen] at bc0_2
 have bb0_3 := b0_3.1; have bc0_3 := b0_3.2; simp only [maxLen] at bc0_3
 have sz1 := s1; simp only [maxLen] at sz1
 refine zab <| zac (l := [0, 1]) rfl ?_
 obtain ⟨b1, w1, r1, g1, T1⟩ := zct (P := Try.prog) S0 27 (v := .agg #[.slice A0_0 m.spots.length c0_0, .slice A0_1 m.first.length c0_1, .slice A0_2 m.follow.length c0_2, .slice A0_3 m.last.length c0_3, .bool m.empty]) [.slice A0_0 m.spots.length c0_0, .slice A0_1 m.first.length c0_1, .slice A0_2 m.follow.length c0_2, .slice A0_3 m.last.length c0_3, .bool m.empty] rfl
 have S2 := T1
 dsimp only [lAa, lAn, lA0, lAs] at S2
 refine p_v (v := .pointer (some ⟨b1, 0, none⟩)) rfl rfl rfl (x_box rfl r1) <| p_v (v := .bool false) rfl rfl rfl (zae rfl) <| zaa <| zab <| zab <| zac (l := [0, 1, 2]) rfl <| p_v (v := .agg #[.slice A0_0 m.spots.length c0_0, .slice A0_1 m.first.length c0_1, .slice A0_2 m.follow.length c0_2, .slice A0_3 m.last.length c0_3, .bool m.empty]) rfl rfl rfl (zah (seg := [.slice A0_0 m.spots.length c0_0, .slice A0_1 m.first.length c0_1, .slice A0_2 m.follow.length c0_2, .slice A0_3 m.last.length c0_3, .bool m.empty]) ty27 rfl (by simp) rfl (CF.box (m := 5) (S2.box_at (j := 0) rfl) rfl)) <| p_c rfl rfl rfl (zba (args := [.agg #[.slice A0_0 m.spots.length c0_0, .slice A0_1 m.first.length c0_1, .slice A0_2 m.follow.length c0_2, .slice A0_3 m.last.length c0_3, .bool m.empty]]) ca24 rfl rfl) (rightN_calls w1 m A0_0 c0_0 b0_0 (l0_0.mono (St.le0 S2)) A0_1 c0_1 b0_1 (l0_1.mono (St.le0 S2)) A0_2 c0_2 b0_2 (l0_2.mono (St.le0 S2)) A0_3 c0_3 b0_3 (l0_3.mono (St.le0 S2))) ?_
 rintro _ w3 ⟨h3, T3, rfl⟩
 have S4 := S2.keep (Chg.of_below T3.below)
 refine p_v (v := .bool (!(zbd m))) rfl rfl rfl (x_not rfl) <| zaa ?_
 refine zbk (b := zbd m) rfl (fun hc5 => ?_) (fun hc5 => ?_)
 ·skip
  refine zab <| zac (l := [0]) rfl <| p_v (v := .bool false) rfl rfl rfl (zae rfl) <| zaa <| zau Try.func20 (res1 rfl (zav (v := .bool false) rfl)) ?_
  have q0 : (runM m xw : Bool) = false := by
   first | exact run_wrong m xw (by assumption) | exact run_none m xw (by assumption) (size_empty (by assumption)) | (rw [run_some m xw (by assumption) hz_ (i := i) (by omega), ← hI_.2.2]; exact ends_yes m xat hI_.1 (by omega) (by assumption) (by assumption)) | (rw [run_some m xw (by assumption) hz_ (i := i) (by omega), ← hI_.2.2]; exact end_end m xat (by omega) hI_.2.2)
  refine ⟨_, rfl, (fun _ => none), ?_, ?_⟩
  · exact S4.sub [] (by decide) rfl _ rfl
  · first | rfl | (simp only [q0]; rfl) | (simp only [q0])
 have hR_ := right_iff.1 hc5
 have hsm_ := hR_.small; have hfo_ := hR_.follow; have hla_ := hR_.last
 refine zap <| zab <| zab <| zac (l := [0, 1]) rfl <| p_v (v := .string xw) rfl rfl rfl (zad rfl) <| p_v (v := .bool (decide (xw = (⟨#[]⟩ : ByteArray)))) rfl rfl rfl (x_eql_string rfl rfl) <| zaa ?_
 refine zaj (p := xw = (⟨#[]⟩ : ByteArray)) rfl (fun hc6 => ?_) (fun hc6 => ?_)
 ·skip
  refine zab <| zac (l := [0, 1, 2]) rfl <| p_v (v := .pointer (some ⟨b1, 4, none⟩)) rfl rfl rfl (zal fd27_4 ty4 rfl rfl) <| p_v (v := .bool m.empty) rfl rfl rfl (zah (seg := [.bool m.empty]) ty4 rfl (by simp) rfl (CF.box (m := 1) (S4.box_at (j := 0) rfl) rfl)) <| p_v (v := .bool m.empty) rfl rfl rfl (zae rfl) <| zaa <| zau Try.func20 (res1 rfl (zav (v := .bool m.empty) rfl)) ?_
  have q0 : (runM m xw : Bool) = m.empty := by
   first | exact run_wrong m xw (by assumption) | exact run_none m xw (by assumption) (size_empty (by assumption)) | (rw [run_some m xw (by assumption) hz_ (i := i) (by omega), ← hI_.2.2]; exact ends_yes m xat hI_.1 (by omega) (by assumption) (by assumption)) | (rw [run_some m xw (by assumption) hz_ (i := i) (by omega), ← hI_.2.2]; exact end_end m xat (by omega) hI_.2.2)
  refine ⟨_, rfl, (fun _ => none), ?_, ?_⟩
  · exact S4.sub [] (by decide) rfl _ rfl
  · first | rfl | (simp only [q0]; rfl) | (simp only [q0])
 have hz_ := size_some hc6
 refine zap <| zab ?_
 have by8 := byt_range xw 0
 have hf9 : (CFs ⟨b1, 0, none⟩ [.slice A0_0 m.spots.length c0_0, .slice A0_1 m.first.length c0_1, .slice A0_2 m.follow.length c0_2, .slice A0_3 m.last.length c0_3, .bool m.empty]).1 w3 := (CF.box (m := 5) (S4.box_at (j := 0) rfl) rfl)
 have hf10 : (CFs ⟨b1, 0, none⟩ [.slice A0_0 m.spots.length c0_0, .slice A0_1 m.first.length c0_1, .slice A0_2 m.follow.length c0_2, .slice A0_3 m.last.length c0_3, .bool m.empty]).1 w3 := (CF.box (m := 5) (S4.box_at (j := 0) rfl) rfl)
 have hf11 : (CFs ⟨b1, 1, none⟩ [.slice A0_1 m.first.length c0_1]).1 w3 := (CF.box (m := 1) (S4.box_at (j := 0) rfl) rfl)
 refine daS (hkC 0 hf9 (hkC 1 hf10 (hkC 3 hf11 (hkN (w := w3))))) 9 rfl zc9 ?_
 intro wd12 gd12 hd12
 have S13 := S4.keep gd12
 have hf14 := spUp gd12 hf9
 have hf15 := spUp gd12 hf10
 have hf16 := spUp gd12 hf11
 refine qd1 0 (i := 0) (v := .agg #[.slice A0_0 m.spots.length c0_0, .slice A0_1 m.first.length c0_1, .slice A0_2 m.follow.length c0_2, .slice A0_3 m.last.length c0_3, .bool m.empty]) rfl rfl (by decide +kernel) rfl rfl (fun wq hq => (zah (seg := [.slice A0_0 m.spots.length c0_0, .slice A0_1 m.first.length c0_1, .slice A0_2 m.follow.length c0_2, .slice A0_3 m.last.length c0_3, .bool m.empty]) ty27 rfl (by simp) rfl hq)) (zaz hf14 (zaf rfl)) <| qd1 1 (i := 1) (v := .agg #[.slice A0_0 m.spots.length c0_0, .slice A0_1 m.first.length c0_1, .slice A0_2 m.follow.length c0_2, .slice A0_3 m.last.length c0_3, .bool m.empty]) rfl rfl (by decide +kernel) rfl rfl (fun wq hq => (zah (seg := [.slice A0_0 m.spots.length c0_0, .slice A0_1 m.first.length c0_1, .slice A0_2 m.follow.length c0_2, .slice A0_3 m.last.length c0_3, .bool m.empty]) ty27 rfl (by simp) rfl hq)) (zar rfl (zaz hf15 (zaf rfl))) <| qd0 (i := 2) (v := .pointer (some ⟨b1, 1, none⟩)) rfl (by decide +kernel) rfl rfl (zal fd27_1 ty23 rfl rfl) (zaf rfl) <| qd1 2 (i := 3) (v := .slice A0_1 m.first.length c0_1) rfl rfl (by decide +kernel) rfl rfl (fun wq hq => (zah (seg := [.slice A0_1 m.first.length c0_1]) ty23 rfl (by simp) rfl hq)) (zar rfl (zar rfl (zaz hf16 (zaf rfl)))) <| qd0 (i := 5) (v := .string xw) rfl (by decide +kernel) rfl rfl (zad rfl) (zaf rfl) <| qd0 (i := 6) (v := .int .u8 (byt xw 0)) rfl (by decide +kernel) rfl rfl (zdo u9 rfl rfl (by first|omega|(simp;omega)|assumption) (by first|omega|(simp;omega)|assumption)) (zaf rfl) <| zc8 (i := 4) (by decide +kernel) ?_
 intro wd17 gd17
 have S18 := S13.keep gd17
 have hf19 := spUp gd17 hf14
 have hf20 := spUp gd17 hf15
 have hf21 := spUp gd17 hf16
 refine d_c rfl rfl rfl (zba (args := [.agg #[.slice A0_0 m.spots.length c0_0, .slice A0_1 m.first.length c0_1, .slice A0_2 m.follow.length c0_2, .slice A0_3 m.last.length c0_3, .bool m.empty], .slice A0_1 m.first.length c0_1]) ca38 rfl rfl) (marked_calls wd17 m A0_0 c0_0 b0_0 (l0_0.mono (St.le0 S18)) A0_1 c0_1 b0_1 (l0_1.mono (St.le0 S18)) A0_2 c0_2 b0_2 (l0_2.mono (St.le0 S18)) A0_3 c0_3 b0_3 (l0_3.mono (St.le0 S18)) m.first A0_1 c0_1 b0_1 (l0_1.mono (St.le0 S18)) (by first | assumption | exact ⟨by assumption, by assumption⟩ | exact ⟨by assumption, (by assumption : Right m).firsts⟩)) ?_
 rintro v22_0 w22 ⟨h22, _, T22, rfl⟩
 obtain ⟨k22, lk22, ll22, U22⟩ := zcd S18 T22
 have S23 := U22
 dsimp only [lAa, lAn, lA0, lAs] at S23
 have hf24 := spUp (Chg.of_below T22.below) hf19
 have hf25 := spUp (Chg.of_below T22.below) hf20
 have hf26 := spUp (Chg.of_below T22.below) hf21
 refine ⟨.inl (Chg.of_below T22.below), ?_⟩
 refine zc8 (i := 7) (by decide +kernel) ?_
 intro wd27 gd27
 have S28 := S23.keep gd27
 have hf29 := spUp gd27 hf24
 have hf30 := spUp gd27 hf25
 have hf31 := spUp gd27 hf26
 obtain ⟨A32, c32, ev32, lc32, cm32⟩ := S28.row_val (j := 1) rfl
 refine d_c rfl rfl rfl (zba (args := [.agg #[.slice A0_0 m.spots.length c0_0, .slice A0_1 m.first.length c0_1, .slice A0_2 m.follow.length c0_2, .slice A0_3 m.last.length c0_3, .bool m.empty], .slice A32 (markP m.spots.length m.first).length c32, .int .u8 (byt xw 0)]) ca37 rfl (zcc rfl (zcc ev32 (zcc rfl rfl)))) (into_calls wd27 m A0_0 c0_0 b0_0 (l0_0.mono (St.le0 S28)) A0_1 c0_1 b0_1 (l0_1.mono (St.le0 S28)) A0_2 c0_2 b0_2 (l0_2.mono (St.le0 S28)) A0_3 c0_3 b0_3 (l0_3.mono (St.le0 S28)) (markP m.spots.length m.first) A32 c32 (And.intro lc32 cm32) (zb7 S28 (j := 1) rfl ev32) (byt xw 0) (in_u8 (by first|omega|(simp;omega)|assumption) (by first|omega|(simp;omega)|assumption)) (by first | assumption | exact ⟨by assumption, by first | omega | simp [markP_len, behindP_len, runTo_len, intoP_len]⟩)) ?_
 rintro v33_0 w33 ⟨h33, _, T33, rfl⟩
 obtain ⟨k33, lk33, ll33, U33⟩ := zcd S28 T33
 have S34 := U33
 dsimp only [lAa, lAn, lA0, lAs] at S34
 have hf35 := spUp (Chg.of_below T33.below) hf29
 have hf36 := spUp (Chg.of_below T33.below) hf30
 have hf37 := spUp (Chg.of_below T33.below) hf31
 refine ⟨.inl (Chg.of_below T33.below), ?_⟩
 refine qd0 (i := 8) (v := v33_0) rfl (by decide +kernel) rfl rfl (zae rfl) (zaf rfl) <| zbh (by decide +kernel) ?_
 intro wd38 gd38
 have S39 := S34.keep gd38
 refine zab <| zab <| zac (l := [0]) rfl <| p_v (v := .int .i64 1) rfl rfl rfl (zae rfl) <| zaa <| zam <| za6 (S := (List Bool) × Int) (fun (q_ : (List Bool) × Int) ρ w' => match q_ with | (xat, i) => ∃ (h : Ghost) (v_xat : Value), Le k33 h ∧ St w.heap.size w h w' [box b1 27 [.slice A0_0 m.spots.length c0_0, .slice A0_1 m.first.length c0_1, .slice A0_2 m.follow.length c0_2, .slice A0_3 m.last.length c0_3, .bool m.empty], row 4 Kd.bool v_xat xat] ∧ ρ 1 = .string xw ∧ ρ 2 = .pointer (some ⟨b1, 0, none⟩) ∧ ρ 5 = v_xat ∧ ρ 6 = .int .i64 i ∧ inK .i64 i ∧ (1 ≤ i ∧ i ≤ (xw.size : Int) ∧ xat = runTo m xw (i - 1).toNat)) (fun q_ => match q_ with | (xat, i) => (xw.size - i).toNat) (intoP m (markP m.spots.length m.first) (byt xw 0), 1) ⟨k33, v33_0, Le.refl _, S39.sub [0, 2] (by decide) rfl _ rfl, rfl, rfl, rfl, rfl, (zai (by first|omega|(simp;omega)|assumption) (by first|omega|(simp;omega)|assumption)), (by exact ⟨by omega, by omega, run_0 _ _⟩)⟩ ?_
 rintro ⟨xat, i⟩ ih40 ρ40 w40 ⟨h40, v_xat, le40, S40, r40_1, r40_2, r40_5, r40_6, f40_0, hI40⟩
 have lf40_0 := za0 f40_0; have hf40_0 := za1 f40_0
 have rl40_1 := S40.row_le (j := 1) rfl; simp only [maxLen] at rl40_1
 have hl_ : (xat.length : Int) = m.spots.length := by rw [hI40.2.2, runTo_len]
 refine zab <| zab <| zac (l := [0, 1, 2, 3]) rfl <| p_v (v := .int .i64 i) rfl rfl rfl (zad r40_6) <| p_v (v := .string xw) rfl rfl rfl (zad r40_1) <| p_v (v := .int .i64 (xw.size : Int)) rfl rfl rfl (zcn u9 rfl) <| p_v (v := .bool (decide (i < (xw.size : Int)))) rfl rfl rfl (zcp rfl rfl) <| zaa ?_
 refine zaj (p := i < (xw.size : Int)) rfl (fun hc41 => ?_) (fun hc41 => ?_)
 ·skip
  refine zap <| zab <| zam ?_
  have by42 := byt_range xw i
  have hf43 : (CFs ⟨b1, 0, none⟩ [.slice A0_0 m.spots.length c0_0, .slice A0_1 m.first.length c0_1, .slice A0_2 m.follow.length c0_2, .slice A0_3 m.last.length c0_3, .bool m.empty]).1 w40 := (CF.box (m := 5) (S40.box_at (j := 0) rfl) rfl)
  have hf44 : (CFs ⟨b1, 0, none⟩ [.slice A0_0 m.spots.length c0_0, .slice A0_1 m.first.length c0_1, .slice A0_2 m.follow.length c0_2, .slice A0_3 m.last.length c0_3, .bool m.empty]).1 w40 := (CF.box (m := 5) (S40.box_at (j := 0) rfl) rfl)
  refine daS (hkC 0 hf43 (hkC 1 hf44 (hkN (w := w40)))) 9 rfl zc9 ?_
  intro wd45 gd45 hd45
  have S46 := S40.keep gd45
  have hf47 := spUp gd45 hf43
  have hf48 := spUp gd45 hf44
  refine qd1 0 (i := 0) (v := .agg #[.slice A0_0 m.spots.length c0_0, .slice A0_1 m.first.length c0_1, .slice A0_2 m.follow.length c0_2, .slice A0_3 m.last.length c0_3, .bool m.empty]) rfl rfl (by decide +kernel) rfl rfl (fun wq hq => (zah (seg := [.slice A0_0 m.spots.length c0_0, .slice A0_1 m.first.length c0_1, .slice A0_2 m.follow.length c0_2, .slice A0_3 m.last.length c0_3, .bool m.empty]) ty27 rfl (by simp) r40_2 hq)) (zaz hf47 (zaf rfl)) <| qd1 1 (i := 1) (v := .agg #[.slice A0_0 m.spots.length c0_0, .slice A0_1 m.first.length c0_1, .slice A0_2 m.follow.length c0_2, .slice A0_3 m.last.length c0_3, .bool m.empty]) rfl rfl (by decide +kernel) rfl rfl (fun wq hq => (zah (seg := [.slice A0_0 m.spots.length c0_0, .slice A0_1 m.first.length c0_1, .slice A0_2 m.follow.length c0_2, .slice A0_3 m.last.length c0_3, .bool m.empty]) ty27 rfl (by simp) r40_2 hq)) (zar rfl (zaz hf48 (zaf rfl))) <| qd0 (i := 2) (v := v_xat) rfl (by decide +kernel) rfl rfl (zad r40_5) (zaf rfl) <| qd0 (i := 4) (v := .string xw) rfl (by decide +kernel) rfl rfl (zad r40_1) (zaf rfl) <| qd0 (i := 5) (v := .int .i64 i) rfl (by decide +kernel) rfl rfl (zad r40_6) (zaf rfl) <| qd0 (i := 6) (v := .int .u8 (byt xw i)) rfl (by decide +kernel) rfl rfl (zdo u9 rfl rfl (by first|omega|(simp;omega)|assumption) (by first|omega|(simp;omega)|assumption)) (zaf rfl) <| zc8 (i := 3) (by decide +kernel) ?_
  intro wd49 gd49
  have S50 := S46.keep gd49
  have hf51 := spUp gd49 hf47
  have hf52 := spUp gd49 hf48
  obtain ⟨A53, c53, ev53, lc53, cm53⟩ := S50.row_val (j := 1) rfl
  refine d_c rfl rfl rfl (zba (args := [.agg #[.slice A0_0 m.spots.length c0_0, .slice A0_1 m.first.length c0_1, .slice A0_2 m.follow.length c0_2, .slice A0_3 m.last.length c0_3, .bool m.empty], .slice A53 xat.length c53]) ca39 rfl (zcc rfl (zcc ev53 rfl))) (behind_calls wd49 m A0_0 c0_0 b0_0 (l0_0.mono (St.le0 S50)) A0_1 c0_1 b0_1 (l0_1.mono (St.le0 S50)) A0_2 c0_2 b0_2 (l0_2.mono (St.le0 S50)) A0_3 c0_3 b0_3 (l0_3.mono (St.le0 S50)) xat A53 c53 (And.intro lc53 cm53) (zb7 S50 (j := 1) rfl ev53) (by first | assumption | exact ⟨by assumption, by first | omega | simp [markP_len, behindP_len, runTo_len, intoP_len]⟩)) ?_
  rintro v54_0 w54 ⟨h54, _, T54, rfl⟩
  obtain ⟨k54, lk54, ll54, U54⟩ := zcd S50 T54
  have S55 := U54
  dsimp only [lAa, lAn, lA0, lAs] at S55
  have hf56 := spUp (Chg.of_below T54.below) hf51
  have hf57 := spUp (Chg.of_below T54.below) hf52
  refine ⟨.inl (Chg.of_below T54.below), ?_⟩
  refine zc8 (i := 7) (by decide +kernel) ?_
  intro wd58 gd58
  have S59 := S55.keep gd58
  have hf60 := spUp gd58 hf56
  have hf61 := spUp gd58 hf57
  obtain ⟨A62, c62, ev62, lc62, cm62⟩ := S59.row_val (j := 2) rfl
  refine d_c rfl rfl rfl (zba (args := [.agg #[.slice A0_0 m.spots.length c0_0, .slice A0_1 m.first.length c0_1, .slice A0_2 m.follow.length c0_2, .slice A0_3 m.last.length c0_3, .bool m.empty], .slice A62 (zcr m xat).length c62, .int .u8 (byt xw i)]) ca37 rfl (zcc rfl (zcc ev62 (zcc rfl rfl)))) (into_calls wd58 m A0_0 c0_0 b0_0 (l0_0.mono (St.le0 S59)) A0_1 c0_1 b0_1 (l0_1.mono (St.le0 S59)) A0_2 c0_2 b0_2 (l0_2.mono (St.le0 S59)) A0_3 c0_3 b0_3 (l0_3.mono (St.le0 S59)) (zcr m xat) A62 c62 (And.intro lc62 cm62) (zb7 S59 (j := 2) rfl ev62) (byt xw i) (in_u8 (by first|omega|(simp;omega)|assumption) (by first|omega|(simp;omega)|assumption)) (by first | assumption | exact ⟨by assumption, by first | omega | simp [markP_len, behindP_len, runTo_len, intoP_len]⟩)) ?_
  rintro v63_0 w63 ⟨h63, _, T63, rfl⟩
  obtain ⟨k63, lk63, ll63, U63⟩ := zcd S59 T63
  have S64 := U63
  dsimp only [lAa, lAn, lA0, lAs] at S64
  have hf65 := spUp (Chg.of_below T63.below) hf60
  have hf66 := spUp (Chg.of_below T63.below) hf61
  refine ⟨.inl (Chg.of_below T63.below), ?_⟩
  refine qd0 (i := 8) (v := v63_0) rfl (by decide +kernel) rfl rfl (zae rfl) (zaf rfl) <| zbh (by decide +kernel) ?_
  intro wd67 gd67
  have S68 := S64.keep gd67
  refine zak <| zac (l := [0, 1, 2]) rfl <| p_v (v := .int .i64 i) rfl rfl rfl (zad r40_6) <| p_v (v := .int .i64 (i + 1)) rfl rfl rfl (zbm rfl rfl (zai (by first|omega|(simp;omega)|assumption) (by first|omega|(simp;omega)|assumption))) <| p_v (v := .int .i64 (i + 1)) rfl rfl rfl (zae rfl) <| zaa ?_
  refine ih40 (intoP m (zcr m xat) (byt xw i), i + 1) _ _ (by dsimp only; omega) ⟨k63, v63_0, ((le40.trans lk54).trans lk63), S68.sub [0, 3] (by decide) rfl _ rfl, r40_1, r40_2, rfl, rfl, (zai (by first|omega|(simp;omega)|assumption) (by first|omega|(simp;omega)|assumption)), (by exact ⟨by omega, by omega, by rw [hI40.2.2]; exact runTo_next m xw hI40.1⟩)⟩
 refine za3 rfl <| zab <| zab <| zac (l := [0, 1, 2]) rfl <| p_v (v := v_xat) rfl rfl rfl (zad r40_5) ?_
 have lb69 := S40.row_le (j := 1) rfl; simp only [maxLen] at lb69
 refine p_v (v := .int .i64 (xat.length : Int)) rfl rfl rfl (x_len_own u25 rfl (e_len_own S40 (j := 1) rfl)) <| p_v (v := .int .i64 0) rfl rfl rfl (zad rfl) <| zaa <| zam <| za6 (S := Int) (fun (q_ : Int) ρ w' => match q_ with | t40 => ∃ (h : Ghost), Le h40 h ∧ St w.heap.size w h w' [box b1 27 [.slice A0_0 m.spots.length c0_0, .slice A0_1 m.first.length c0_1, .slice A0_2 m.follow.length c0_2, .slice A0_3 m.last.length c0_3, .bool m.empty], row 4 Kd.bool v_xat xat] ∧ ρ 2 = .pointer (some ⟨b1, 0, none⟩) ∧ ρ 38 = v_xat ∧ ρ 39 = .int .i64 (xat.length : Int) ∧ ρ 40 = .int .i64 t40 ∧ inK .i64 t40 ∧ (0 ≤ t40 ∧ t40 ≤ (xat.length : Int) ∧ endTo m xat t40 = false)) (fun q_ => match q_ with | t40 => (xat.length - t40).toNat) (0) ⟨h40, Le.refl _, S40.sub [0, 1] (by decide) rfl _ rfl, r40_2, rfl, rfl, rfl, (zai (by first|omega|(simp;omega)|assumption) (by first|omega|(simp;omega)|assumption)), (by exact ⟨by omega, by omega, end_0 _ _⟩)⟩ ?_
 rintro t40 ih70 ρ70 w70 ⟨h70, le70, S70, r70_2, r70_38, r70_39, r70_40, f70_0, hI70⟩
 have lf70_0 := za0 f70_0; have hf70_0 := za1 f70_0
 have rl70_1 := S70.row_le (j := 1) rfl; simp only [maxLen] at rl70_1
 refine zab <| zac (l := [0]) rfl <| p_v (v := .bool (decide (t40 < (xat.length : Int)))) rfl rfl rfl (zcp r70_40 r70_39) <| zaa <| zab ?_
 refine zaj (p := t40 < (xat.length : Int)) rfl (fun hc71 => ?_) (fun hc71 => ?_)
 ·skip
  refine zap <| zab <| zam <| zab <| zac (l := [0, 1, 2, 3, 4]) rfl <| p_v (v := .int .i64 t40) rfl rfl rfl (zad r70_40) ?_
  obtain ⟨ad72, a72, at72⟩ := zbl (q := t40) (m := 1) S70 (j := 1) rfl rfl (by first|omega|(simp;omega)|assumption) (by first|omega|(simp;omega)|assumption)
  refine p_v (v := .pointer (some ad72)) rfl rfl rfl (zbj u25 ty4 r70_38 r70_40 a72 (by first|omega|(simp;omega)|assumption) (by first|omega|(simp;omega)|assumption)) ?_
  obtain ⟨seg73, rp73, cf73⟩ := zb3 (q := t40) S70 (j := 1) rfl rfl at72 (by first|omega|(simp;omega)|assumption) (by first|omega|(simp;omega)|assumption)
  obtain ⟨rfl, _⟩ := rp73
  refine p_v (v := .bool (at_ xat t40)) rfl rfl rfl (zah (seg := [.bool (at_ xat t40)]) ty4 rfl (by simp) rfl cf73) <| p_v (v := .int .i64 t40) rfl rfl rfl (zae rfl) <| p_v (v := .bool (at_ xat t40)) rfl rfl rfl (zae rfl) <| zaa <| zab <| zac (l := [0, 1, 2, 3, 4, 5, 6, 7]) rfl <| p_v (v := .bool (at_ xat t40)) rfl rfl rfl (zad rfl) <| p_v (v := .bool (at_ xat t40)) rfl rfl rfl (zad rfl) ?_
  rcases Bool.eq_false_or_eq_true (at_ xat t40) with hc74 | hc74
  ·skip
   refine p_v (v := .pointer (some ⟨b1, 3, none⟩)) rfl (wo 1 46 rfl rfl (congrArg Value.bool hc74) rfl) rfl (zal fd27_3 ty25 rfl r70_2) <| p_v (v := .slice A0_3 m.last.length c0_3) rfl (wo 1 46 rfl rfl (congrArg Value.bool hc74) rfl) rfl (zah (seg := [.slice A0_3 m.last.length c0_3]) ty25 rfl (by simp) rfl (CF.box (m := 1) (S70.box_at (j := 0) rfl) rfl)) <| p_v (v := .int .i64 t40) rfl (wo 1 46 rfl rfl (congrArg Value.bool hc74) rfl) rfl (zad rfl) ?_
   obtain ⟨ad75, seg75, a75, rp75, ce75⟩ := zao (q := t40) (m := 1) l0_3 rfl (by first|omega|(simp;omega)|assumption) (by first|omega|(simp;omega)|assumption)
   refine p_v (v := .pointer (some ad75)) rfl (wo 1 46 rfl rfl (congrArg Value.bool hc74) rfl) rfl (zan u25 ty4 rfl rfl a75 (by first|omega|(simp;omega)|assumption) (by first|omega|(simp;omega)|assumption)) ?_
   obtain ⟨rfl, _⟩ := rp75
   refine p_v (v := .bool (at_ m.last t40)) rfl (wo 1 46 rfl rfl (congrArg Value.bool hc74) rfl) rfl (zah (seg := [.bool (at_ m.last t40)]) ty4 rfl (by simp) rfl (CF.ghost ce75 (St.le0 S70))) <| p_v (v := .bool (at_ m.last t40)) rfl rfl rfl (za5 (congrArg Value.bool hc74) rfl) <| zaa ?_
   refine zbt (b := at_ m.last t40) rfl (fun hc76 => ?_) (fun hc76 => ?_)
   ·skip
    refine zab <| zac (l := [0]) rfl <| p_v (v := .bool true) rfl rfl rfl (zae rfl) <| zaa <| zau Try.func20 (res1 rfl (zav (v := .bool true) rfl)) ?_
    have q0 : (runM m xw : Bool) = true := by
     first | exact run_wrong m xw (by assumption) | exact run_none m xw (by assumption) (size_empty (by assumption)) | (rw [run_some m xw (by assumption) hz_ (i := i) (by omega), ← hI40.2.2]; exact ends_yes m xat hI70.1 (by omega) (by assumption) (by assumption)) | (rw [run_some m xw (by assumption) hz_ (i := i) (by omega), ← hI40.2.2]; exact end_end m xat (by omega) hI70.2.2)
    refine ⟨_, rfl, h70, ?_, ?_⟩
    · exact S70.sub [] (by decide) rfl _ rfl
    · first | rfl | (simp only [q0]; rfl) | (simp only [q0])
   refine zap <| zak <| zac (l := [0, 1]) rfl <| p_v (v := .int .i64 (t40 + 1)) rfl rfl rfl (zbm r70_40 rfl (zai (by first|omega|(simp;omega)|assumption) (by first|omega|(simp;omega)|assumption))) <| p_v (v := .int .i64 (t40 + 1)) rfl rfl rfl (zad rfl) <| zaa ?_
   refine ih70 (t40 + 1) _ _ (by dsimp only; omega) ⟨h70, le70, S70.sub [0, 1] (by decide) rfl _ rfl, r70_2, r70_38, r70_39, rfl, (zai (by first|omega|(simp;omega)|assumption) (by first|omega|(simp;omega)|assumption)), (by exact ⟨by omega, by omega, end_step m xat hI70.1 hI70.2.2 (by first | (rw [(by assumption : at_ xat t40 = false)]; rfl) | (rw [(by assumption : at_ m.last t40 = false)]; simp))⟩)⟩
  refine zaw rfl (wo 1 46 rfl rfl (congrArg Value.bool hc74) rfl) rfl <| zaw rfl (wo 1 46 rfl rfl (congrArg Value.bool hc74) rfl) rfl <| zaw rfl (wo 1 46 rfl rfl (congrArg Value.bool hc74) rfl) rfl <| zaw rfl (wo 1 46 rfl rfl (congrArg Value.bool hc74) rfl) rfl <| zaw rfl (wo 1 46 rfl rfl (congrArg Value.bool hc74) rfl) rfl <| p_v (v := .bool false) rfl rfl rfl (zbo (congrArg Value.bool hc74) rfl) <| zaa <| zbp (b := false) rfl ?_
  simp only [if_true, if_false, Bool.false_eq_true]
  refine zap <| zak <| zac (l := [0, 1]) rfl <| p_v (v := .int .i64 (t40 + 1)) rfl rfl rfl (zbm r70_40 rfl (zai (by first|omega|(simp;omega)|assumption) (by first|omega|(simp;omega)|assumption))) <| p_v (v := .int .i64 (t40 + 1)) rfl rfl rfl (zad rfl) <| zaa ?_
  refine ih70 (t40 + 1) _ _ (by dsimp only; omega) ⟨h70, le70, S70.sub [0, 1] (by decide) rfl _ rfl, r70_2, r70_38, r70_39, rfl, (zai (by first|omega|(simp;omega)|assumption) (by first|omega|(simp;omega)|assumption)), (by exact ⟨by omega, by omega, end_step m xat hI70.1 hI70.2.2 (by first | (rw [(by assumption : at_ xat t40 = false)]; rfl) | (rw [(by assumption : at_ m.last t40 = false)]; simp))⟩)⟩
 refine za3 rfl <| zab <| zac (l := [0]) rfl <| p_v (v := .bool false) rfl rfl rfl (zae rfl) <| zaa <| zau Try.func20 (res1 rfl (zav (v := .bool false) rfl)) ?_
 have q0 : (runM m xw : Bool) = false := by
  first | exact run_wrong m xw (by assumption) | exact run_none m xw (by assumption) (size_empty (by assumption)) | (rw [run_some m xw (by assumption) hz_ (i := i) (by omega), ← hI40.2.2]; exact ends_yes m xat hI70.1 (by omega) (by assumption) (by assumption)) | (rw [run_some m xw (by assumption) hz_ (i := i) (by omega), ← hI40.2.2]; exact end_end m xat (by omega) hI70.2.2)
 refine ⟨_, rfl, h70, ?_, ?_⟩
 · exact S70.sub [] (by decide) rfl _ rfl
 · first | rfl | (simp only [q0]; rfl) | (simp only [q0])
theorem run10_calls (w : World) (m : Mach) (A0_0 : Option Addr) (c0_0 : Nat) (b0_0 : m.spots.length ≤ c0_0 ∧ c0_0 ≤ maxLen) (l0_0 : za4 zec (hp w) A0_0 m.spots) (A0_1 : Option Addr) (c0_1 : Nat) (b0_1 : m.first.length ≤ c0_1 ∧ c0_1 ≤ maxLen) (l0_1 : za4 (Kd.int .i64) (hp w) A0_1 m.first) (A0_2 : Option Addr) (c0_2 : Nat) (b0_2 : m.follow.length ≤ c0_2 ∧ c0_2 ≤ maxLen) (l0_2 : za4 (Kd.int .i64).slice (hp w) A0_2 m.follow) (A0_3 : Option Addr) (c0_3 : Nat) (b0_3 : m.last.length ≤ c0_3 ∧ c0_3 ≤ maxLen) (l0_3 : za4 Kd.bool (hp w) A0_3 m.last) (xw : ByteArray) (s1 : xw.size ≤ maxLen) :
    Calls Try.prog 28 #[.agg #[.slice A0_0 m.spots.length c0_0, .slice A0_1 m.first.length c0_1, .slice A0_2 m.follow.length c0_2, .slice A0_3 m.last.length c0_3, .bool m.empty], .string xw] w fun e w' => ∃ v, e = .returned v ∧ ∃ (hn : Ghost), St w.heap.size w hn w' [] ∧ v = .bool (runM m xw) := by
 refine zas Try.func28 rfl Try.ntmps28 rfl ?_
 have S0 := St.init w
 have bb0_0 := b0_0.1; have bc0_0 := b0_0.2; simp only [maxLen] at bc0_0
 have bb0_1 := b0_1.1; have bc0_1 := b0_1.2; simp only [maxLen] at bc0_1
 have bb0_2 := b0_2.1; have bc0_2 := b0_2.2; simp only [maxLen] at bc0_2
 have bb0_3 := b0_3.1; have bc0_3 := b0_3.2; simp only [maxLen] at bc0_3
 have sz1 := s1; simp only [maxLen] at sz1
 refine zab <| zac (l := [0, 1]) rfl ?_
 obtain ⟨b1, w1, r1, g1, T1⟩ := zct (P := Try.prog) S0 27 (v := .agg #[.slice A0_0 m.spots.length c0_0, .slice A0_1 m.first.length c0_1, .slice A0_2 m.follow.length c0_2, .slice A0_3 m.last.length c0_3, .bool m.empty]) [.slice A0_0 m.spots.length c0_0, .slice A0_1 m.first.length c0_1, .slice A0_2 m.follow.length c0_2, .slice A0_3 m.last.length c0_3, .bool m.empty] rfl
 have S2 := T1
 dsimp only [lAa, lAn, lA0, lAs] at S2
 refine p_v (v := .pointer (some ⟨b1, 0, none⟩)) rfl rfl rfl (x_box rfl r1) <| p_v (v := .bool false) rfl rfl rfl (zae rfl) <| zaa <| zab <| zab <| zac (l := [0, 1, 2]) rfl <| p_v (v := .agg #[.slice A0_0 m.spots.length c0_0, .slice A0_1 m.first.length c0_1, .slice A0_2 m.follow.length c0_2, .slice A0_3 m.last.length c0_3, .bool m.empty]) rfl rfl rfl (zah (seg := [.slice A0_0 m.spots.length c0_0, .slice A0_1 m.first.length c0_1, .slice A0_2 m.follow.length c0_2, .slice A0_3 m.last.length c0_3, .bool m.empty]) ty27 rfl (by simp) rfl (CF.box (m := 5) (S2.box_at (j := 0) rfl) rfl)) <| p_c rfl rfl rfl (zba (args := [.agg #[.slice A0_0 m.spots.length c0_0, .slice A0_1 m.first.length c0_1, .slice A0_2 m.follow.length c0_2, .slice A0_3 m.last.length c0_3, .bool m.empty]]) ca32 rfl rfl) (right10_calls w1 m A0_0 c0_0 b0_0 (l0_0.mono (St.le0 S2)) A0_1 c0_1 b0_1 (l0_1.mono (St.le0 S2)) A0_2 c0_2 b0_2 (l0_2.mono (St.le0 S2)) A0_3 c0_3 b0_3 (l0_3.mono (St.le0 S2))) ?_
 rintro _ w3 ⟨h3, T3, rfl⟩
 have S4 := S2.keep (Chg.of_below T3.below)
 refine p_v (v := .bool (!(zbd m))) rfl rfl rfl (x_not rfl) <| zaa ?_
 refine zbk (b := zbd m) rfl (fun hc5 => ?_) (fun hc5 => ?_)
 ·skip
  refine zab <| zac (l := [0]) rfl <| p_v (v := .bool false) rfl rfl rfl (zae rfl) <| zaa <| zau Try.func28 (res1 rfl (zav (v := .bool false) rfl)) ?_
  have q0 : (runM m xw : Bool) = false := by
   first | exact run_wrong m xw (by assumption) | exact run_none m xw (by assumption) (by omega) | (rw [doc_some m xw (by assumption) (by omega) (i := i) (by omega) hI_.2.2]; exact last_yes m xat hI_.1 (by omega) (by assumption)) | (rw [doc_some m xw (by assumption) (by omega) (i := i) (by omega) hI_.2.2]; exact last_end m xat (by omega) hI_.2.2)
  refine ⟨_, rfl, (fun _ => none), ?_, ?_⟩
  · exact S4.sub [] (by decide) rfl _ rfl
  · first | rfl | (simp only [q0]; rfl) | (simp only [q0])
 have hR_ := right_iff.1 hc5
 have hsm_ := hR_.small; have hfo_ := hR_.follow; have hla_ := hR_.last
 refine zap <| zab <| zab <| zac (l := [0, 1, 2]) rfl <| p_v (v := .string xw) rfl rfl rfl (zad rfl) <| p_v (v := .int .i64 (xw.size : Int)) rfl rfl rfl (zcn u9 rfl) <| p_v (v := .bool (decide ((xw.size : Int) = 0))) rfl rfl rfl (x_eql rfl rfl) <| zaa ?_
 refine zaj (p := (xw.size : Int) = 0) rfl (fun hc6 => ?_) (fun hc6 => ?_)
 ·skip
  refine zab <| zac (l := [0, 1, 2]) rfl <| p_v (v := .pointer (some ⟨b1, 4, none⟩)) rfl rfl rfl (zal fd27_4 ty4 rfl rfl) <| p_v (v := .bool m.empty) rfl rfl rfl (zah (seg := [.bool m.empty]) ty4 rfl (by simp) rfl (CF.box (m := 1) (S4.box_at (j := 0) rfl) rfl)) <| p_v (v := .bool m.empty) rfl rfl rfl (zae rfl) <| zaa <| zau Try.func28 (res1 rfl (zav (v := .bool m.empty) rfl)) ?_
  have q0 : (runM m xw : Bool) = m.empty := by
   first | exact run_wrong m xw (by assumption) | exact run_none m xw (by assumption) (by omega) | (rw [doc_some m xw (by assumption) (by omega) (i := i) (by omega) hI_.2.2]; exact last_yes m xat hI_.1 (by omega) (by assumption)) | (rw [doc_some m xw (by assumption) (by omega) (i := i) (by omega) hI_.2.2]; exact last_end m xat (by omega) hI_.2.2)
  refine ⟨_, rfl, (fun _ => none), ?_, ?_⟩
  · exact S4.sub [] (by decide) rfl _ rfl
  · first | rfl | (simp only [q0]; rfl) | (simp only [q0])
 refine zap <| zab <| zac (l := [0]) rfl <| p_v (v := .slice none 0 0) rfl rfl rfl (zae rfl) <| zaa <| zab <| zab <| zac (l := [0]) rfl <| p_v (v := .int .i64 0) rfl rfl rfl (zae rfl) <| zaa <| zam ?_
 have T8 := S4.row_nil 3 (Kd.int .i64)
 obtain ⟨vn8, ev8, T8⟩ : ∃ v, v = (.slice none 0 0 : Value) ∧ St w.heap.size w (fun _ => none) w3 ([box b1 27 [.slice A0_0 m.spots.length c0_0, .slice A0_1 m.first.length c0_1, .slice A0_2 m.follow.length c0_2, .slice A0_3 m.last.length c0_3, .bool m.empty]] ++ [row 3 (Kd.int .i64) v []]) := ⟨_, rfl, T8⟩
 have S9 := T8
 dsimp only [lAa, lAn, lA0, lAs] at S9
 refine za6 (S := (List Int) × Int) (fun (q_ : (List Int) × Int) ρ w' => match q_ with | (xat, i) => ∃ (h : Ghost) (v_xat : Value), Le (fun _ => none) h ∧ St w.heap.size w h w' [box b1 27 [.slice A0_0 m.spots.length c0_0, .slice A0_1 m.first.length c0_1, .slice A0_2 m.follow.length c0_2, .slice A0_3 m.last.length c0_3, .bool m.empty], row 3 (Kd.int .i64) v_xat xat] ∧ ρ 1 = .string xw ∧ ρ 2 = .pointer (some ⟨b1, 0, none⟩) ∧ ρ 5 = v_xat ∧ ρ 6 = .int .i64 i ∧ inK .i64 i ∧ (0 ≤ i ∧ i ≤ (xw.size : Int) ∧ xat = docAt m xw i)) (fun q_ => match q_ with | (xat, i) => (xw.size - i).toNat) (([] : List Int), 0) ⟨(fun _ => none), vn8, Le.refl _, S9.sub [0, 1] (by decide) rfl _ rfl, rfl, rfl, (ev8.symm), rfl, (zai (by first|omega|(simp;omega)|assumption) (by first|omega|(simp;omega)|assumption)), (by exact ⟨by omega, by omega, docAt_0 _ _⟩)⟩ ?_
 rintro ⟨xat, i⟩ ih10 ρ10 w10 ⟨h10, v_xat, le10, S10, r10_1, r10_2, r10_5, r10_6, f10_0, hI10⟩
 have lf10_0 := za0 f10_0; have hf10_0 := za1 f10_0
 have rl10_1 := S10.row_le (j := 1) rfl; simp only [maxLen] at rl10_1
 have hat_ : ∀ x ∈ xat, 0 ≤ x ∧ x < (m.spots.length : Int) := by rw [hI10.2.2]; exact docAt_in
 refine zab <| zab <| zac (l := [0, 1, 2, 3]) rfl <| p_v (v := .int .i64 i) rfl rfl rfl (zad r10_6) <| p_v (v := .string xw) rfl rfl rfl (zad r10_1) <| p_v (v := .int .i64 (xw.size : Int)) rfl rfl rfl (zcn u9 rfl) <| p_v (v := .bool (decide (i < (xw.size : Int)))) rfl rfl rfl (zcp rfl rfl) <| zaa ?_
 refine zaj (p := i < (xw.size : Int)) rfl (fun hc11 => ?_) (fun hc11 => ?_)
 ·skip
  refine zap <| zab <| zam ?_
  have by12 := byt_range xw i
  have hf13 : (CFs ⟨b1, 0, none⟩ [.slice A0_0 m.spots.length c0_0, .slice A0_1 m.first.length c0_1, .slice A0_2 m.follow.length c0_2, .slice A0_3 m.last.length c0_3, .bool m.empty]).1 w10 := (CF.box (m := 5) (S10.box_at (j := 0) rfl) rfl)
  refine daS (hkC 0 hf13 (hkN (w := w10))) 9 rfl zc9 ?_
  intro wd14 gd14 hd14
  have S15 := S10.keep gd14
  have hf16 := spUp gd14 hf13
  refine qd1 0 (i := 0) (v := .agg #[.slice A0_0 m.spots.length c0_0, .slice A0_1 m.first.length c0_1, .slice A0_2 m.follow.length c0_2, .slice A0_3 m.last.length c0_3, .bool m.empty]) rfl rfl (by decide +kernel) rfl rfl (fun wq hq => (zah (seg := [.slice A0_0 m.spots.length c0_0, .slice A0_1 m.first.length c0_1, .slice A0_2 m.follow.length c0_2, .slice A0_3 m.last.length c0_3, .bool m.empty]) ty27 rfl (by simp) r10_2 hq)) (zaz hf16 (of_nil _ _)) <| qd0 (i := 1) (v := v_xat) rfl (by decide +kernel) rfl rfl (zad r10_5) (zaf rfl) <| qd0 (i := 2) (v := .int .i64 i) rfl (by decide +kernel) rfl rfl (zad r10_6) (zaf rfl) <| qd0 (i := 3) (v := .bool (decide (i = 0))) rfl (by decide +kernel) rfl rfl (x_eql rfl rfl) (zaf rfl) <| qd0 (i := 4) (v := .string xw) rfl (by decide +kernel) rfl rfl (zad r10_1) (zaf rfl) <| qd0 (i := 5) (v := .int .i64 i) rfl (by decide +kernel) rfl rfl (zad r10_6) (zaf rfl) <| qd0 (i := 6) (v := .int .u8 (byt xw i)) rfl (by decide +kernel) rfl rfl (zdo u9 rfl rfl (by first|omega|(simp;omega)|assumption) (by first|omega|(simp;omega)|assumption)) (zaf rfl) <| zc8 (i := 7) (by decide +kernel) ?_
  intro wd17 gd17
  have S18 := S15.keep gd17
  have hf19 := spUp gd17 hf16
  obtain ⟨A20, c20, ev20, lc20, cm20⟩ := S18.row_val (j := 1) rfl
  refine d_c rfl rfl rfl (zba (args := [.agg #[.slice A0_0 m.spots.length c0_0, .slice A0_1 m.first.length c0_1, .slice A0_2 m.follow.length c0_2, .slice A0_3 m.last.length c0_3, .bool m.empty], .slice A20 xat.length c20, .bool (decide (i = 0)), .int .u8 (byt xw i)]) ca21 rfl (zcc rfl (zcc ev20 (zcc rfl (zcc rfl rfl))))) (step_calls wd17 m A0_0 c0_0 b0_0 (l0_0.mono (St.le0 S18)) A0_1 c0_1 b0_1 (l0_1.mono (St.le0 S18)) A0_2 c0_2 b0_2 (l0_2.mono (St.le0 S18)) A0_3 c0_3 b0_3 (l0_3.mono (St.le0 S18)) xat A20 c20 (And.intro lc20 cm20) (zb7 S18 (j := 1) rfl ev20) (decide (i = 0)) (byt xw i) (in_u8 (by first|omega|(simp;omega)|assumption) (by first|omega|(simp;omega)|assumption)) (by first | assumption | exact ⟨by assumption, by assumption⟩)) ?_
  rintro v21_0 w21 ⟨h21, _, T21, rfl⟩
  obtain ⟨k21, lk21, ll21, U21⟩ := zcd S18 T21
  have S22 := U21
  dsimp only [lAa, lAn, lA0, lAs] at S22
  have hf23 := spUp (Chg.of_below T21.below) hf19
  refine ⟨.inl (Chg.of_below T21.below), ?_⟩
  refine qd0 (i := 8) (v := v21_0) rfl (by decide +kernel) rfl rfl (zae rfl) (zaf rfl) <| zbh (by decide +kernel) ?_
  intro wd24 gd24
  have S25 := S22.keep gd24
  refine zak <| zac (l := [0, 1, 2]) rfl <| p_v (v := .int .i64 i) rfl rfl rfl (zad r10_6) <| p_v (v := .int .i64 (i + 1)) rfl rfl rfl (zbm rfl rfl (zai (by first|omega|(simp;omega)|assumption) (by first|omega|(simp;omega)|assumption))) <| p_v (v := .int .i64 (i + 1)) rfl rfl rfl (zae rfl) <| zaa ?_
  refine ih10 (zcb m xat (decide (i = 0)) (byt xw i), i + 1) _ _ (by dsimp only; omega) ⟨k21, v21_0, (le10.trans lk21), S25.sub [0, 2] (by decide) rfl _ rfl, r10_1, r10_2, rfl, rfl, (zai (by first|omega|(simp;omega)|assumption) (by first|omega|(simp;omega)|assumption)), (by exact ⟨by omega, by omega, by rw [hI10.2.2]; exact docAt_step hR_ xw hI10.1⟩)⟩
 refine za3 rfl <| zab <| zab <| zac (l := [0]) rfl <| p_v (v := .int .i64 0) rfl rfl rfl (zae rfl) <| zaa <| zam <| za6 (S := Int) (fun (q_ : Int) ρ w' => match q_ with | i2 => ∃ (h : Ghost), Le h10 h ∧ St w.heap.size w h w' [box b1 27 [.slice A0_0 m.spots.length c0_0, .slice A0_1 m.first.length c0_1, .slice A0_2 m.follow.length c0_2, .slice A0_3 m.last.length c0_3, .bool m.empty], row 3 (Kd.int .i64) v_xat xat] ∧ ρ 2 = .pointer (some ⟨b1, 0, none⟩) ∧ ρ 5 = v_xat ∧ ρ 7 = .int .i64 i2 ∧ inK .i64 i2 ∧ (0 ≤ i2 ∧ i2 ≤ (xat.length : Int) ∧ lastTo m xat i2 = false)) (fun q_ => match q_ with | i2 => (xat.length - i2).toNat) (0) ⟨h10, Le.refl _, S10.sub [0, 1] (by decide) rfl _ rfl, r10_2, r10_5, rfl, (zai (by first|omega|(simp;omega)|assumption) (by first|omega|(simp;omega)|assumption)), (by exact ⟨by omega, by omega, last_0 _ _⟩)⟩ ?_
 rintro i2 ih26 ρ26 w26 ⟨h26, le26, S26, r26_2, r26_5, r26_7, f26_0, hI26⟩
 have lf26_0 := za0 f26_0; have hf26_0 := za1 f26_0
 have rl26_1 := S26.row_le (j := 1) rfl; simp only [maxLen] at rl26_1
 have hx_ : i2 < (xat.length : Int) → 0 ≤ at_ xat i2 ∧ at_ xat i2 < (m.spots.length : Int) := fun h => hat_ _ (zbw hI26.1 h)
 refine zab <| zab <| zac (l := [0, 1, 2, 3]) rfl <| p_v (v := .int .i64 i2) rfl rfl rfl (zad r26_7) <| p_v (v := v_xat) rfl rfl rfl (zad r26_5) ?_
 have lb27 := S26.row_le (j := 1) rfl; simp only [maxLen] at lb27
 refine p_v (v := .int .i64 (xat.length : Int)) rfl rfl rfl (x_len_own u23 rfl (e_len_own S26 (j := 1) rfl)) <| p_v (v := .bool (decide (i2 < (xat.length : Int)))) rfl rfl rfl (zcp rfl rfl) <| zaa ?_
 refine zaj (p := i2 < (xat.length : Int)) rfl (fun hc28 => ?_) (fun hc28 => ?_)
 ·skip
  refine zap <| zab <| zam <| zab ?_
  obtain ⟨ad29, a29, at29⟩ := zbl (q := i2) (m := 1) S26 (j := 1) rfl rfl (by first|omega|(simp;omega)|assumption) (by first|omega|(simp;omega)|assumption)
  obtain ⟨seg30, rp30, cf30⟩ := zb3 (q := i2) S26 (j := 1) rfl rfl at29 (by first|omega|(simp;omega)|assumption) (by first|omega|(simp;omega)|assumption)
  obtain ⟨rfl, in30⟩ := rp30
  have lo30 := za0 in30; have hi30 := za1 in30
  obtain ⟨ad31, seg31, a31, rp31, ce31⟩ := zao (q := at_ xat i2) (m := 1) l0_3 rfl (by first|omega|(simp;omega)|assumption) (by first|omega|(simp;omega)|assumption)
  obtain ⟨rfl, _⟩ := rp31
  have hf32 : (CFs ⟨b1, 3, none⟩ [.slice A0_3 m.last.length c0_3]).1 w26 := (CF.box (m := 1) (S26.box_at (j := 0) rfl) rfl)
  have hf33 : (CFs ad29 [.int .i64 (at_ xat i2)]).1 w26 := cf30
  have hf34 : (CFs ad31 [.bool (at_ m.last (at_ xat i2))]).1 w26 := (CF.ghost ce31 (St.le0 S26))
  refine daS (hkC 1 hf32 (hkC 5 hf33 (hkC 7 hf34 (hkN (w := w26))))) 8 rfl zc9 ?_
  intro wd35 gd35 hd35
  have S36 := S26.keep gd35
  have hf37 := spUp gd35 hf32
  have hf38 := spUp gd35 hf33
  have hf39 := spUp gd35 hf34
  refine qd0 (i := 0) (v := .pointer (some ⟨b1, 3, none⟩)) rfl (by decide +kernel) rfl rfl (zal fd27_3 ty25 rfl r26_2) (zaf rfl) <| qd1 0 (i := 1) (v := .slice A0_3 m.last.length c0_3) rfl rfl (by decide +kernel) rfl rfl (fun wq hq => (zah (seg := [.slice A0_3 m.last.length c0_3]) ty25 rfl (by simp) rfl hq)) (zaz hf37 (zaf rfl)) <| qd0 (i := 2) (v := v_xat) rfl (by decide +kernel) rfl rfl (zad r26_5) (zaf rfl) <| qd0 (i := 3) (v := .int .i64 i2) rfl (by decide +kernel) rfl rfl (zad r26_7) (zaf rfl) <| qd0 (i := 4) (v := .pointer (some ad29)) rfl (by decide +kernel) rfl rfl (zbj u23 ty3 rfl rfl a29 (by first|omega|(simp;omega)|assumption) (by first|omega|(simp;omega)|assumption)) (zaf rfl) <| qd1 1 (i := 5) (v := .int .i64 (at_ xat i2)) rfl rfl (by decide +kernel) rfl rfl (fun wq hq => (zah (seg := [.int .i64 (at_ xat i2)]) ty3 rfl (by simp) rfl hq)) (zar rfl (zaz hf38 (zaf rfl))) <| qd0 (i := 6) (v := .pointer (some ad31)) rfl (by decide +kernel) rfl rfl (zan u25 ty4 rfl rfl a31 (by first|omega|(simp;omega)|assumption) (by first|omega|(simp;omega)|assumption)) (zaf rfl) <| qd1 2 (i := 7) (v := .bool (at_ m.last (at_ xat i2))) rfl rfl (by decide +kernel) rfl rfl (fun wq hq => (zah (seg := [.bool (at_ m.last (at_ xat i2))]) ty4 rfl (by simp) rfl hq)) (zar rfl (zar rfl (zaz hf39 (zaf rfl)))) <| zbh (by decide +kernel) ?_
  intro wd40 gd40
  have S41 := S36.keep gd40
  refine zbt (b := at_ m.last (at_ xat i2)) rfl (fun hc42 => ?_) (fun hc42 => ?_)
  ·skip
   refine zab <| zac (l := [0]) rfl <| p_v (v := .bool true) rfl rfl rfl (zae rfl) <| zaa <| zau Try.func28 (res1 rfl (zav (v := .bool true) rfl)) ?_
   have q0 : (runM m xw : Bool) = true := by
    first | exact run_wrong m xw (by assumption) | exact run_none m xw (by assumption) (by omega) | (rw [doc_some m xw (by assumption) (by omega) (i := i) (by omega) hI10.2.2]; exact last_yes m xat hI26.1 (by omega) (by assumption)) | (rw [doc_some m xw (by assumption) (by omega) (i := i) (by omega) hI10.2.2]; exact last_end m xat (by omega) hI26.2.2)
   refine ⟨_, rfl, h26, ?_, ?_⟩
   · exact S41.sub [] (by decide) rfl _ rfl
   · first | rfl | (simp only [q0]; rfl) | (simp only [q0])
  refine zap <| zak <| zac (l := [0, 1, 2]) rfl <| p_v (v := .int .i64 i2) rfl rfl rfl (zad r26_7) <| p_v (v := .int .i64 (i2 + 1)) rfl rfl rfl (zbm rfl rfl (zai (by first|omega|(simp;omega)|assumption) (by first|omega|(simp;omega)|assumption))) <| p_v (v := .int .i64 (i2 + 1)) rfl rfl rfl (zae rfl) <| zaa ?_
  refine ih26 (i2 + 1) _ _ (by dsimp only; omega) ⟨h26, le26, S41.sub [0, 1] (by decide) rfl _ rfl, r26_2, r26_5, rfl, (zai (by first|omega|(simp;omega)|assumption) (by first|omega|(simp;omega)|assumption)), (by exact ⟨by omega, by omega, last_step m xat hI26.1 (by omega) hI26.2.2 (by assumption)⟩)⟩
 refine za3 rfl <| zab <| zac (l := [0]) rfl <| p_v (v := .bool false) rfl rfl rfl (zae rfl) <| zaa <| zau Try.func28 (res1 rfl (zav (v := .bool false) rfl)) ?_
 have q0 : (runM m xw : Bool) = false := by
  first | exact run_wrong m xw (by assumption) | exact run_none m xw (by assumption) (by omega) | (rw [doc_some m xw (by assumption) (by omega) (i := i) (by omega) hI10.2.2]; exact last_yes m xat hI26.1 (by omega) (by assumption)) | (rw [doc_some m xw (by assumption) (by omega) (i := i) (by omega) hI10.2.2]; exact last_end m xat (by omega) hI26.2.2)
 refine ⟨_, rfl, h26, ?_, ?_⟩
 · exact S26.sub [] (by decide) rfl _ rfl
 · first | rfl | (simp only [q0]; rfl) | (simp only [q0])
theorem great_calls (w : World) (m : Mach) (A0_0 : Option Addr) (c0_0 : Nat) (b0_0 : m.spots.length ≤ c0_0 ∧ c0_0 ≤ maxLen) (l0_0 : za4 zec (hp w) A0_0 m.spots) (A0_1 : Option Addr) (c0_1 : Nat) (b0_1 : m.first.length ≤ c0_1 ∧ c0_1 ≤ maxLen) (l0_1 : za4 (Kd.int .i64) (hp w) A0_1 m.first) (A0_2 : Option Addr) (c0_2 : Nat) (b0_2 : m.follow.length ≤ c0_2 ∧ c0_2 ≤ maxLen) (l0_2 : za4 (Kd.int .i64).slice (hp w) A0_2 m.follow) (A0_3 : Option Addr) (c0_3 : Nat) (b0_3 : m.last.length ≤ c0_3 ∧ c0_3 ≤ maxLen) (l0_3 : za4 Kd.bool (hp w) A0_3 m.last) :
    Calls Try.prog 9 #[.agg #[.slice A0_0 m.spots.length c0_0, .slice A0_1 m.first.length c0_1, .slice A0_2 m.follow.length c0_2, .slice A0_3 m.last.length c0_3, .bool m.empty]] w fun e w' => ∃ v, e = .returned v ∧ ∃ (hn : Ghost), St w.heap.size w hn w' [] ∧ v = .bool (zcv m) := by
 refine zas Try.func9 rfl Try.ntmps9 rfl ?_
 have S0 := St.init w
 have bb0_0 := b0_0.1; have bc0_0 := b0_0.2; simp only [maxLen] at bc0_0
 have bb0_1 := b0_1.1; have bc0_1 := b0_1.2; simp only [maxLen] at bc0_1
 have bb0_2 := b0_2.1; have bc0_2 := b0_2.2; simp only [maxLen] at bc0_2
 have bb0_3 := b0_3.1; have bc0_3 := b0_3.2; simp only [maxLen] at bc0_3
 refine zab <| zac (l := [0, 1]) rfl ?_
 obtain ⟨b1, w1, r1, g1, T1⟩ := zct (P := Try.prog) S0 27 (v := .agg #[.slice A0_0 m.spots.length c0_0, .slice A0_1 m.first.length c0_1, .slice A0_2 m.follow.length c0_2, .slice A0_3 m.last.length c0_3, .bool m.empty]) [.slice A0_0 m.spots.length c0_0, .slice A0_1 m.first.length c0_1, .slice A0_2 m.follow.length c0_2, .slice A0_3 m.last.length c0_3, .bool m.empty] rfl
 have S2 := T1
 dsimp only [lAa, lAn, lA0, lAs] at S2
 refine p_v (v := .pointer (some ⟨b1, 0, none⟩)) rfl rfl rfl (x_box rfl r1) <| p_v (v := .bool false) rfl rfl rfl (zae rfl) <| zaa <| zab <| zab <| zac (l := [0, 1, 2, 3, 4, 5, 6, 7, 8, 9, 10, 11, 12, 13, 14, 15, 16, 17, 18, 19, 20, 21]) rfl <| p_v (v := .pointer (some ⟨b1, 0, none⟩)) rfl rfl rfl (zal zdi ty22 rfl rfl) <| p_v (v := .slice A0_0 m.spots.length c0_0) rfl rfl rfl (zah (seg := [.slice A0_0 m.spots.length c0_0]) ty22 rfl (by simp) rfl (CF.box (m := 1) (S2.box_at (j := 0) rfl) rfl)) <| p_v (v := .int .i64 (m.spots.length : Int)) rfl rfl rfl (zat u22 rfl) <| p_v (v := .bool (decide (60 < (m.spots.length : Int)))) rfl rfl rfl (x_gtr rfl rfl) <| p_v (v := .bool (decide (60 < (m.spots.length : Int)))) rfl rfl rfl (zad rfl) ?_
 by_cases hc3 : 60 < (m.spots.length : Int)
 ·skip
  refine zaw rfl (wo 4 8 rfl rfl (bT hc3) rfl) rfl <| zaw rfl (wo 4 8 rfl rfl (bT hc3) rfl) rfl <| zaw rfl (wo 4 8 rfl rfl (bT hc3) rfl) rfl <| zaw rfl (wo 4 8 rfl rfl (bT hc3) rfl) rfl <| p_v (v := .bool true) rfl rfl rfl (za5 (bT hc3) rfl) <| p_v (v := .bool true) rfl rfl rfl (zad rfl) <| zaw rfl rfl rfl <| zaw rfl rfl rfl <| zaw rfl rfl rfl <| zaw rfl rfl rfl <| p_v (v := .bool true) rfl rfl rfl (za5 rfl rfl) <| p_v (v := .bool true) rfl rfl rfl (zad rfl) ?_
  refine zaw rfl rfl rfl <| zaw rfl rfl rfl <| zaw rfl rfl rfl <| zaw rfl rfl rfl <| p_v (v := .bool true) rfl rfl rfl (za5 rfl rfl) <| zaa <| zbp (b := true) rfl ?_
  simp only [if_true, if_false, Bool.false_eq_true]
  refine zab <| zac (l := [0]) rfl <| p_v (v := .bool true) rfl rfl rfl (zae rfl) <| zaa <| zau Try.func9 (res1 rfl (zav (v := .bool true) rfl)) ?_
  have q0 : (zcv m : Bool) = true := by
   first | exact great_1 m (by assumption) | exact great_2 m (by assumption) | exact great_3 m (by assumption) | exact great_4 m (by assumption) | exact great_5 m hI_.1 (by omega) (by assumption) | exact great_no m (by omega) (by assumption) (by assumption) (by assumption) (by assumption) hI_.2.2
  refine ⟨_, rfl, (fun _ => none), ?_, ?_⟩
  · exact S2.sub [] (by decide) rfl _ rfl
  · first | rfl | (simp only [q0]; rfl) | (simp only [q0])
 refine p_v (v := .pointer (some ⟨b1, 2, none⟩)) rfl (wo 4 8 rfl rfl (bF hc3) rfl) rfl (zal fd27_2 ty24 rfl rfl) <| p_v (v := .slice A0_2 m.follow.length c0_2) rfl (wo 4 8 rfl rfl (bF hc3) rfl) rfl (zah (seg := [.slice A0_2 m.follow.length c0_2]) ty24 rfl (by simp) rfl (CF.box (m := 1) (S2.box_at (j := 0) rfl) rfl)) <| p_v (v := .int .i64 (m.follow.length : Int)) rfl (wo 4 8 rfl rfl (bF hc3) rfl) rfl (zat u24 rfl) <| p_v (v := .bool (decide (60 < (m.follow.length : Int)))) rfl (wo 4 8 rfl rfl (bF hc3) rfl) rfl (x_gtr rfl rfl) <| p_v (v := .bool (decide (60 < (m.follow.length : Int)))) rfl rfl rfl (zbo (bF hc3) rfl) <| p_v (v := .bool (decide (60 < (m.follow.length : Int)))) rfl rfl rfl (zad rfl) ?_
 by_cases hc4 : 60 < (m.follow.length : Int)
 ·skip
  refine zaw rfl (wo 10 14 rfl rfl (bT hc4) rfl) rfl <| zaw rfl (wo 10 14 rfl rfl (bT hc4) rfl) rfl <| zaw rfl (wo 10 14 rfl rfl (bT hc4) rfl) rfl <| zaw rfl (wo 10 14 rfl rfl (bT hc4) rfl) rfl <| p_v (v := .bool true) rfl rfl rfl (za5 (bT hc4) rfl) <| p_v (v := .bool true) rfl rfl rfl (zad rfl) <| zaw rfl rfl rfl <| zaw rfl rfl rfl <| zaw rfl rfl rfl <| zaw rfl rfl rfl <| p_v (v := .bool true) rfl rfl rfl (za5 rfl rfl) <| zaa ?_
  refine zbp (b := true) rfl ?_
  simp only [if_true, if_false, Bool.false_eq_true]
  refine zab <| zac (l := [0]) rfl <| p_v (v := .bool true) rfl rfl rfl (zae rfl) <| zaa <| zau Try.func9 (res1 rfl (zav (v := .bool true) rfl)) ?_
  have q0 : (zcv m : Bool) = true := by
   first | exact great_1 m (by assumption) | exact great_2 m (by assumption) | exact great_3 m (by assumption) | exact great_4 m (by assumption) | exact great_5 m hI_.1 (by omega) (by assumption) | exact great_no m (by omega) (by assumption) (by assumption) (by assumption) (by assumption) hI_.2.2
  refine ⟨_, rfl, (fun _ => none), ?_, ?_⟩
  · exact S2.sub [] (by decide) rfl _ rfl
  · first | rfl | (simp only [q0]; rfl) | (simp only [q0])
 refine p_v (v := .pointer (some ⟨b1, 3, none⟩)) rfl (wo 10 14 rfl rfl (bF hc4) rfl) rfl (zal fd27_3 ty25 rfl rfl) <| p_v (v := .slice A0_3 m.last.length c0_3) rfl (wo 10 14 rfl rfl (bF hc4) rfl) rfl (zah (seg := [.slice A0_3 m.last.length c0_3]) ty25 rfl (by simp) rfl (CF.box (m := 1) (S2.box_at (j := 0) rfl) rfl)) <| p_v (v := .int .i64 (m.last.length : Int)) rfl (wo 10 14 rfl rfl (bF hc4) rfl) rfl (zat u25 rfl) <| p_v (v := .bool (decide (60 < (m.last.length : Int)))) rfl (wo 10 14 rfl rfl (bF hc4) rfl) rfl (x_gtr rfl rfl) <| p_v (v := .bool (decide (60 < (m.last.length : Int)))) rfl rfl rfl (zbo (bF hc4) rfl) <| p_v (v := .bool (decide (60 < (m.last.length : Int)))) rfl rfl rfl (zad rfl) ?_
 by_cases hc5 : 60 < (m.last.length : Int)
 ·skip
  refine zaw rfl (wo 16 20 rfl rfl (bT hc5) rfl) rfl <| zaw rfl (wo 16 20 rfl rfl (bT hc5) rfl) rfl <| zaw rfl (wo 16 20 rfl rfl (bT hc5) rfl) rfl <| zaw rfl (wo 16 20 rfl rfl (bT hc5) rfl) rfl <| p_v (v := .bool true) rfl rfl rfl (za5 (bT hc5) rfl) <| zaa <| zbp (b := true) rfl ?_
  simp only [if_true, if_false, Bool.false_eq_true]
  refine zab <| zac (l := [0]) rfl <| p_v (v := .bool true) rfl rfl rfl (zae rfl) <| zaa <| zau Try.func9 (res1 rfl (zav (v := .bool true) rfl)) ?_
  have q0 : (zcv m : Bool) = true := by
   first | exact great_1 m (by assumption) | exact great_2 m (by assumption) | exact great_3 m (by assumption) | exact great_4 m (by assumption) | exact great_5 m hI_.1 (by omega) (by assumption) | exact great_no m (by omega) (by assumption) (by assumption) (by assumption) (by assumption) hI_.2.2
  refine ⟨_, rfl, (fun _ => none), ?_, ?_⟩
  · exact S2.sub [] (by decide) rfl _ rfl
  · first | rfl | (simp only [q0]; rfl) | (simp only [q0])
 refine p_v (v := .pointer (some ⟨b1, 1, none⟩)) rfl (wo 16 20 rfl rfl (bF hc5) rfl) rfl (zal fd27_1 ty23 rfl rfl) <| p_v (v := .slice A0_1 m.first.length c0_1) rfl (wo 16 20 rfl rfl (bF hc5) rfl) rfl (zah (seg := [.slice A0_1 m.first.length c0_1]) ty23 rfl (by simp) rfl (CF.box (m := 1) (S2.box_at (j := 0) rfl) rfl)) <| p_v (v := .int .i64 (m.first.length : Int)) rfl (wo 16 20 rfl rfl (bF hc5) rfl) rfl (zat u23 rfl) <| p_v (v := .bool (decide (60 < (m.first.length : Int)))) rfl (wo 16 20 rfl rfl (bF hc5) rfl) rfl (x_gtr rfl rfl) <| p_v (v := .bool (decide (60 < (m.first.length : Int)))) rfl rfl rfl (zbo (bF hc5) rfl) <| zaa ?_
 refine zaj (p := 60 < (m.first.length : Int)) rfl (fun hc6 => ?_) (fun hc6 => ?_)
 ·skip
  refine zab <| zac (l := [0]) rfl <| p_v (v := .bool true) rfl rfl rfl (zae rfl) <| zaa <| zau Try.func9 (res1 rfl (zav (v := .bool true) rfl)) ?_
  have q0 : (zcv m : Bool) = true := by
   first | exact great_1 m (by assumption) | exact great_2 m (by assumption) | exact great_3 m (by assumption) | exact great_4 m (by assumption) | exact great_5 m hI_.1 (by omega) (by assumption) | exact great_no m (by omega) (by assumption) (by assumption) (by assumption) (by assumption) hI_.2.2
  refine ⟨_, rfl, (fun _ => none), ?_, ?_⟩
  · exact S2.sub [] (by decide) rfl _ rfl
  · first | rfl | (simp only [q0]; rfl) | (simp only [q0])
 refine zap <| zab <| zab <| zac (l := [0]) rfl <| p_v (v := .int .i64 0) rfl rfl rfl (zae rfl) <| zaa <| zam <| za6 (S := Int) (fun (q_ : Int) ρ w' => match q_ with | i => ∃ (h : Ghost), Le (fun _ => none) h ∧ St w.heap.size w h w' [box b1 27 [.slice A0_0 m.spots.length c0_0, .slice A0_1 m.first.length c0_1, .slice A0_2 m.follow.length c0_2, .slice A0_3 m.last.length c0_3, .bool m.empty]] ∧ ρ 1 = .pointer (some ⟨b1, 0, none⟩) ∧ ρ 3 = .int .i64 i ∧ inK .i64 i ∧ (0 ≤ i ∧ i ≤ (m.follow.length : Int) ∧ zd3 m i = false)) (fun q_ => match q_ with | i => (m.follow.length - i).toNat) (0) ⟨(fun _ => none), Le.refl _, S2.sub [0] (by decide) rfl _ rfl, rfl, rfl, (zai (by first|omega|(simp;omega)|assumption) (by first|omega|(simp;omega)|assumption)), (by exact ⟨by omega, by omega, great_0 _⟩)⟩ ?_
 rintro i ih7 ρ7 w7 ⟨h7, le7, S7, r7_1, r7_3, f7_0, hI7⟩
 have lf7_0 := za0 f7_0; have hf7_0 := za1 f7_0
 refine zab <| zab <| zac (l := [0, 1, 2, 3, 4]) rfl <| p_v (v := .int .i64 i) rfl rfl rfl (zad r7_3) <| p_v (v := .pointer (some ⟨b1, 2, none⟩)) rfl rfl rfl (zal fd27_2 ty24 rfl r7_1) <| p_v (v := .slice A0_2 m.follow.length c0_2) rfl rfl rfl (zah (seg := [.slice A0_2 m.follow.length c0_2]) ty24 rfl (by simp) rfl (CF.box (m := 1) (S7.box_at (j := 0) rfl) rfl)) <| p_v (v := .int .i64 (m.follow.length : Int)) rfl rfl rfl (zat u24 rfl) <| p_v (v := .bool (decide (i < (m.follow.length : Int)))) rfl rfl rfl (zcp rfl rfl) <| zaa ?_
 refine zaj (p := i < (m.follow.length : Int)) rfl (fun hc8 => ?_) (fun hc8 => ?_)
 ·skip
  refine zap <| zab <| zam <| zab <| zac (l := [0, 1, 2, 3, 4, 5, 6]) rfl <| p_v (v := .pointer (some ⟨b1, 2, none⟩)) rfl rfl rfl (zal fd27_2 ty24 rfl r7_1) <| p_v (v := .slice A0_2 m.follow.length c0_2) rfl rfl rfl (zah (seg := [.slice A0_2 m.follow.length c0_2]) ty24 rfl (by simp) rfl (CF.box (m := 1) (S7.box_at (j := 0) rfl) rfl)) <| p_v (v := .int .i64 i) rfl rfl rfl (zad r7_3) ?_
  obtain ⟨ad9, seg9, a9, rp9, ce9⟩ := zao (q := i) (m := 1) l0_2 rfl (by first|omega|(simp;omega)|assumption) (by first|omega|(simp;omega)|assumption)
  refine p_v (v := .pointer (some ad9)) rfl rfl rfl (zan u24 ty23 rfl rfl a9 (by first|omega|(simp;omega)|assumption) (by first|omega|(simp;omega)|assumption)) ?_
  obtain ⟨A9, c9, rfl, lc9, cm9, ld9⟩ := rp9
  have cn9 := cm9; simp only [maxLen] at cn9
  refine p_v (v := .slice A9 (at_ m.follow i).length c9) rfl rfl rfl (zah (seg := [.slice A9 (at_ m.follow i).length c9]) ty23 rfl (by simp) rfl (CF.ghost ce9 (St.le0 S7))) <| p_v (v := .int .i64 ((at_ m.follow i).length : Int)) rfl rfl rfl (zat u23 rfl) <| p_v (v := .bool (decide (60 < ((at_ m.follow i).length : Int)))) rfl rfl rfl (x_gtr rfl rfl) <| zaa ?_
  refine zaj (p := 60 < ((at_ m.follow i).length : Int)) rfl (fun hc10 => ?_) (fun hc10 => ?_)
  ·skip
   refine zab <| zac (l := [0]) rfl <| p_v (v := .bool true) rfl rfl rfl (zae rfl) <| zaa <| zau Try.func9 (res1 rfl (zav (v := .bool true) rfl)) ?_
   have q0 : (zcv m : Bool) = true := by
    first | exact great_1 m (by assumption) | exact great_2 m (by assumption) | exact great_3 m (by assumption) | exact great_4 m (by assumption) | exact great_5 m hI7.1 (by omega) (by assumption) | exact great_no m (by omega) (by assumption) (by assumption) (by assumption) (by assumption) hI7.2.2
   refine ⟨_, rfl, h7, ?_, ?_⟩
   · exact S7.sub [] (by decide) rfl _ rfl
   · first | rfl | (simp only [q0]; rfl) | (simp only [q0])
  refine zap <| zak <| zac (l := [0, 1, 2]) rfl <| p_v (v := .int .i64 i) rfl rfl rfl (zad r7_3) <| p_v (v := .int .i64 (i + 1)) rfl rfl rfl (zbm rfl rfl (zai (by first|omega|(simp;omega)|assumption) (by first|omega|(simp;omega)|assumption))) <| p_v (v := .int .i64 (i + 1)) rfl rfl rfl (zae rfl) <| zaa ?_
  refine ih7 (i + 1) _ _ (by dsimp only; omega) ⟨h7, le7, S7.sub [0] (by decide) rfl _ rfl, r7_1, rfl, (zai (by first|omega|(simp;omega)|assumption) (by first|omega|(simp;omega)|assumption)), (by exact ⟨by omega, by omega, great_step m hI7.1 (by omega) hI7.2.2 (by assumption)⟩)⟩
 refine za3 rfl <| zab <| zac (l := [0]) rfl <| p_v (v := .bool false) rfl rfl rfl (zae rfl) <| zaa <| zau Try.func9 (res1 rfl (zav (v := .bool false) rfl)) ?_
 have q0 : (zcv m : Bool) = false := by
  first | exact great_1 m (by assumption) | exact great_2 m (by assumption) | exact great_3 m (by assumption) | exact great_4 m (by assumption) | exact great_5 m hI7.1 (by omega) (by assumption) | exact great_no m (by omega) (by assumption) (by assumption) (by assumption) (by assumption) hI7.2.2
 refine ⟨_, rfl, h7, ?_, ?_⟩
 · exact S7.sub [] (by decide) rfl _ rfl
 · first | rfl | (simp only [q0]; rfl) | (simp only [q0])
end Go.Proofs.Ytpdanfggijmnmaa
namespace Gx
open Go Go.RowKit
set_option linter.unusedSimpArgs false
set_option linter.unusedSectionVars false
set_option linter.unusedVariables false
def trues (n : Nat) (l : List Bool) : Nat := (List.range n).countP fun i => at_ l ((i : Nat) : Int)
theorem trues_le (n : Nat) (l : List Bool) : trues n l ≤ n := by
  have := List.countP_le_length (p := fun i : Nat => at_ l ((i : Nat) : Int)) (l := List.range n)
  simpa [trues] using this
def Sub (n : Nat) (a b : List Bool) : Prop := ∀ i : Nat, i < n → at_ a ((i : Nat) : Int) = true → at_ b ((i : Nat) : Int) = true
theorem Sub.refl (n : Nat) (a : List Bool) : Sub n a a := fun _ _ h => h
theorem Sub.trans {n : Nat} {a b c : List Bool} (h : Sub n a b) (h2 : Sub n b c) : Sub n a c := fun i hi hx => h2 i hi (h i hi hx)
theorem marks_ext {n : Nat} {a b : List Bool} (ha : a.length = n) (hb : b.length = n) (h : ∀ i : Nat, i < n → at_ a ((i : Nat) : Int) = at_ b ((i : Nat) : Int)) : a = b :=
  list_ext ha hb fun k h0 h1 => by have := h k.toNat (by omega); rwa [Int.toNat_of_nonneg h0] at this
theorem mark_set_at {l : List Bool} {t : Int} (h0 : 0 ≤ t) (h1 : t < (l.length : Int)) (v : Bool) (i : Nat) : at_ (l.set t.toNat v) ((i : Nat) : Int) = if ((i : Nat) : Int) = t then v else at_ l ((i : Nat) : Int) := by
  unfold at_
  rw [List.getD_eq_getElem?_getD, List.getElem?_set, List.getD_eq_getElem?_getD, Int.toNat_natCast]
  by_cases h : ((i : Nat) : Int) = t
  · rw [if_pos h, if_pos (by omega), if_pos (by omega)]; rfl
  · rw [if_neg h, if_neg (by omega)]
theorem sub_set {n : Nat} {l : List Bool} {t : Int} (h0 : 0 ≤ t) (h1 : t < (l.length : Int)) : Sub n l (l.set t.toNat true) := fun i hi h => by
  rw [mark_set_at h0 h1]; split
  · rfl
  · exact h
def lfpTo (n : Nat) (F : List Bool → Nat → Bool) : Nat → List Bool
  | 0 => tab n fun _ => false
  | k + 1 => tab n (F (lfpTo n F k))
def lfp (n : Nat) (F : List Bool → Nat → Bool) : List Bool := lfpTo n F n
theorem sub_antisymm {n : Nat} {a b : List Bool} (ha : a.length = n) (hb : b.length = n) (h : Sub n a b) (h2 : Sub n b a) : a = b :=
  marks_ext ha hb fun i hi => by
    rw [Bool.eq_iff_iff]; exact ⟨h i hi, h2 i hi⟩
end Gx
namespace Gx
open Go Go.RowKit
set_option linter.unusedSimpArgs false
set_option linter.unusedSectionVars false
set_option linter.unusedVariables false
section
variable {α : Type} [Inhabited α] [DecidableEq α] {a b : List α} {t : Int}
theorem eq_step (h0 : 0 ≤ t) (h1 : t < (a.length : Int)) (hl : (a.length : Int) = b.length) (h : a.take t.toNat = b.take t.toNat) (he : at_ a t = at_ b t) : a.take (t + 1).toNat = b.take (t + 1).toNat := by
  rw [zdp a h0 h1, zdp b h0 (by omega), h, he]
theorem eq_no1 (h : (a.length : Int) ≠ b.length) : decide (a = b) = false := decide_eq_false fun e => h (by rw [e])
theorem eq_no2 (he : at_ a t ≠ at_ b t) : decide (a = b) = false := decide_eq_false fun e => he (by rw [e])
theorem eq_yes (ht : (a.length : Int) ≤ t) (hl : (a.length : Int) = b.length) (h : a.take t.toNat = b.take t.toNat) : decide (a = b) = true := by
  rw [List.take_of_length_le (by omega), List.take_of_length_le (by omega)] at h
  exact decide_eq_true h
end
end Gx
namespace Gx
open Go Go.RowKit
set_option linter.unusedSimpArgs false
set_option linter.unusedSectionVars false
set_option linter.unusedVariables false
structure Grow (n : Nat) (c0 c : List Bool) (Q : Prop) : Prop where
  len0 : (c0.length : Int) = n
  len : (c.length : Int) = n
  sub : Sub n c0 c
  told : c = c0 → Q
theorem Grow.keep {n : Nat} {c0 c : List Bool} {Q Q' : Prop} (g : Grow n c0 c Q) (h : c = c0 → Q → Q') : Grow n c0 c Q' := ⟨g.len0, g.len, g.sub, fun e => h e (g.told e)⟩
theorem Grow.set {n : Nat} {c0 c : List Bool} {Q Q' : Prop} (g : Grow n c0 c Q) {t : Int} (h0 : 0 ≤ t) (h1 : t < (n : Int)) (h : at_ c0 t = true → Q → Q') : Grow n c0 (c.set t.toNat true) Q' where
  len0 := g.len0
  len := by rw [List.length_set]; exact g.len
  sub := g.sub.trans (sub_set h0 (by rw [g.len]; exact h1))
  told := fun e => by
    have hs : Sub n c (c.set t.toNat true) := sub_set h0 (by rw [g.len]; exact h1)
    have e2 : c = c0 := sub_antisymm (n := n) (by have := g.len; omega) (by have := g.len0; omega) (by rw [← e]; exact hs) g.sub
    have h3 := mark_set_at (l := c) h0 (by rw [g.len]; exact h1) true t.toNat
    rw [e, Int.toNat_of_nonneg h0, if_pos rfl] at h3
    exact h h3 (g.told e2)
section
variable {m : Mach} {c0 g0 come goes : List Bool} {QC QG QC' QG' : Prop}
end
section
variable {m : Mach} {c0 g0 come goes : List Bool} {QC QG : Prop} {i k : Int}
end
end Gx
namespace Gx
open Go Go.RowKit
set_option linter.unusedSimpArgs false
set_option linter.unusedSectionVars false
set_option linter.unusedVariables false
section
variable {α β : Type}
def mit (ke : α → Value) (ve : β → Value) (b r : Nat) (kvs left : List (α × β)) : Asrt where
  holds := fun _ w F => (∃ es clock since seen c0, w.heap[b]? = some (.map es clock) ∧ w.heap[r]? = some (.mapIter (some b) since seen c0) ∧ es.toList.map (fun e => (e.key, e.val)) = zdr ke ve kvs ∧ (∀ x ∈ es.toList, x.born < since) ∧ since ≤ c0 ∧ since ≤ clock ∧ Born es clock ∧ (leftOf es seen).toList.map (fun e => (e.key, e.val)) = zdr ke ve left) ∧ F b ∧ F r
  mono := fun _ h => h
  far := fun hf h => ⟨by rw [hf _ h.2.1, hf _ h.2.2]; exact h.1, h.2⟩
variable [DecidableEq α] {P : Program} {kt : TypeId} {ke : α → Value} {ve : β → Value} {w w' : World} {base : Nat} {w0 : World} {h : Ghost} {L : List Asrt}
theorem heapNew (w : World) (o : Obj) : (w.alloc o).heap[w.heap.size]? = some o := by
  show (w.heap.push o)[w.heap.size]? = _
  simp
theorem heapOld (w : World) (o : Obj) {r : Nat} (h : r < w.heap.size) : (w.alloc o).heap[r]? = w.heap[r]? := by
  show (w.heap.push o)[r]? = _
  rw [Array.getElem?_push_lt h, Array.getElem?_eq_getElem h]
theorem left_nil (es : Array MapEntry) : leftOf es #[] = es := by
  unfold leftOf
  exact Array.filter_eq_self.2 fun x _ => by simp
theorem e_range {j b : Nat} {T et : TypeId} {kvs : List (α × β)} (S : St base w0 h w L) (hj : L[j]? = some (amap ke ve b kvs)) (hT : P.underlying T = some (.map kt et)) :
    ∃ r w', (Instr.range T (.map (some b))).run P w = .ok (.pointer (some ⟨r, 0, none⟩)) w' ∧ Chg w w' (fun _ => False) ∧ St base w0 h w' (L.set j (mit ke ve b r kvs kvs)) := by
  obtain ⟨es, clock, hb, hes, hbn⟩ := S.map_born hj
  have hlt : b < w.heap.size := (Array.getElem?_eq_some_iff.1 hb).1
  refine ⟨_, _, run_range_map w T kt et b es clock hT hb, Chg.alloc _ _, S.upd hj fun F hF hU => ⟨(Chg.alloc _ _).mono fun _ hf => hf.elim, fun q => F q ∨ q = w.heap.size, ⟨⟨es, clock, clock, #[], clock, ?_, heapNew _ _, hes, hbn.1, Nat.le_refl _, Nat.le_refl _, hbn, by rw [left_nil]; exact hes⟩, .inl hF.2, .inr rfl⟩, fun q hq => ?_⟩⟩
  · rw [heapOld w _ hlt, hb]
  · rcases hq with hq | hq
    · exact .inl hq
    · subst hq
      exact .inr ⟨Nat.le_refl _, by show _ < (w.heap.push _).size; simp⟩
theorem left_push {es : Array MapEntry} {seen : Array Nat} (hn : (es.toList.map (·.born)).Nodup) {e : MapEntry} (he : e ∈ (leftOf es seen).toList) : ∃ a c, (leftOf es seen).toList = a ++ e :: c ∧ (leftOf es (seen.push e.born)).toList = a ++ c := by
  obtain ⟨a, c, hac⟩ := List.append_of_mem he
  refine ⟨a, c, hac, ?_⟩
  have h1 : (leftOf es (seen.push e.born)).toList = (leftOf es seen).toList.filter fun x => decide (x.born ≠ e.born) := by
    unfold leftOf
    rw [Array.toList_filter, Array.toList_filter, List.filter_filter]
    refine List.filter_congr fun x _ => ?_
    by_cases hx : x.born = e.born
    · simp [hx]
    · simp [hx]
  have h2 : ((leftOf es seen).toList.map (·.born)).Nodup := by
    unfold leftOf
    rw [Array.toList_filter]
    exact (List.filter_sublist.map _).nodup hn
  rw [h1, hac, List.filter_append, List.filter_cons_of_neg (by simp)]
  rw [hac, List.map_append, List.map_cons, List.nodup_append, List.nodup_cons] at h2
  congr 1
  · refine List.filter_eq_self.2 fun x hx => decide_eq_true fun e2 => ?_
    exact h2.2.2 _ (List.mem_map.2 ⟨x, hx, rfl⟩) _ (List.mem_cons_self ..) e2
  · refine List.filter_eq_self.2 fun x hx => decide_eq_true fun e2 => ?_
    exact h2.2.1.1 (by rw [← e2]; exact List.mem_map.2 ⟨x, hx, rfl⟩)
def mitc (ke : α → Value) (ve : β → Value) (b r : Nat) (kvs left : List (α × β)) (p : α × β) : Asrt where
  holds := fun _ w F => (∃ (es : Array MapEntry) (clock since : Nat) (seen : Array Nat) (e : MapEntry), w.heap[b]? = some (.map es clock) ∧ w.heap[r]? = some (.mapIter (some b) since (seen.push e.born) clock) ∧ es.toList.map (fun e => (e.key, e.val)) = zdr ke ve kvs ∧ (∀ x ∈ es.toList, x.born < since) ∧ since ≤ clock ∧ Born es clock ∧ (leftOf es (seen.push e.born)).toList.map (fun e => (e.key, e.val)) = zdr ke ve left ∧ e ∈ es.toList ∧ e.key = ke p.1 ∧ e.val = ve p.2) ∧ F b ∧ F r
  mono := fun _ h => h
  far := fun hf h => ⟨by rw [hf _ h.2.1, hf _ h.2.2]; exact h.1, h.2⟩
theorem e_next {j b r : Nat} {ty : TypeId} {kvs left : List (α × β)} (S : St base w0 h w L) (hj : L[j]? = some (mit ke ve b r kvs left)) :
    (left = [] ∧ (Instr.next (.pointer (some ⟨r, 0, none⟩)) false ty).run P w = .ok (.tuple #[.bool false]) w) ∨
    ∃ l1 p l2 w', left = l1 ++ p :: l2 ∧ (Instr.next (.pointer (some ⟨r, 0, none⟩)) false ty).run P w = .ok (.tuple #[.bool true, ke p.1, ve p.2]) w' ∧ Chg w w' (fun q => q = r) ∧ St base w0 h w' (L.set j (mitc ke ve b r kvs (l1 ++ l2) p)) := by
  have hS := S
  obtain ⟨Fs, hF, _⟩ := hS.sep
  obtain ⟨⟨es, clock, since, seen, c0, hb, hr, hes, hold, hsc, hsk, hbn, hl⟩, _⟩ := (hF j _ hj).1
  rcases run_next_at (P := P) w ty r b since c0 seen es clock hr hb hold hsc with ⟨h0, hrun⟩ | ⟨e, he, w1, hw1, hrun⟩
  · left
    refine ⟨?_, hrun⟩
    have : (leftOf es seen) = #[] := Array.eq_empty_of_size_eq_zero h0
    rw [this] at hl
    unfold zdr at hl
    simp at hl
    exact hl
  · right
    obtain ⟨a, c, hac, hac2⟩ := left_push hbn.2 he
    rw [hac] at hl
    unfold zdr at hl
    obtain ⟨l1, r1, e0, e1, e2⟩ := List.map_eq_append_iff.1 (hl.symm.trans (List.map_append ..))
    obtain ⟨p, l2, e3, e4, e5⟩ := List.map_eq_cons_iff.1 e2
    subst e3
    simp only [Prod.mk.injEq] at e4
    have hw : Chg w w1 (fun _ => False) ∧ w1.heap = w.heap := by
      rcases hw1 with rfl | rfl
      · exact ⟨Chg.refl _ _, rfl⟩
      · exact ⟨Chg.drew _, rfl⟩
    have hrl : r < w1.heap.size := by rw [hw.2]; exact (Array.getElem?_eq_some_iff.1 hr).1
    have hbr : b ≠ r := fun e => by rw [e, hr] at hb; cases hb
    have hc : Chg w (zdk w1 r (.mapIter (some b) since (seen.push e.born) clock)) (fun q => q = r) := by
      have c1 := zc0 w1 r (.mapIter (some b) since (seen.push e.born) clock)
      have c2 := hw.1
      exact ⟨c1.os.trans c2.os, c1.tape.trans c2.tape, c1.output.trans c2.output, Nat.le_trans c2.size c1.size, fun q hq hn => by rw [c1.block q (by rw [hw.2]; exact hq) hn, hw.2]⟩
    refine ⟨l1, p, l2, zdk w1 r (.mapIter (some b) since (seen.push e.born) clock), e0, ?_, hc, ?_⟩
    · rw [e4.1, e4.2]; exact hrun
    · refine S.upd hj fun F hF _ => ⟨hc.mono fun q hq => by subst hq; exact hF.2.2, F, ⟨⟨es, clock, since, seen, e, ?_, setBlock_at hrl _, hes, hold, hsk, hbn, ?_, ?_, e4.1.symm, e4.2.symm⟩, hF.2⟩, fun q hq => .inl hq⟩
      · rw [hc.block b (Array.getElem?_eq_some_iff.1 hb).1 hbr]; exact hb
      · rw [hac2, List.map_append]
        unfold zdr
        rw [List.map_append, e1, e5]
      · unfold leftOf at he
        rw [Array.toList_filter] at he
        exact (List.mem_filter.1 he).1
theorem e_entry {j b r : Nat} {kvs left : List (α × β)} {p : α × β} (S : St base w0 h w L) (hj : L[j]? = some (mitc ke ve b r kvs left p)) :
    (Instr.entry (.pointer (some ⟨r, 0, none⟩))).run P w = .ok (.tuple #[ke p.1, ve p.2]) w ∧ St base w0 h w (L.set j (mit ke ve b r kvs left)) := by
  have hS := S
  obtain ⟨Fs, hF, _⟩ := hS.sep
  obtain ⟨⟨es, clock, since, seen, e, hb, hr, hes, hold, hsk, hbn, hl, he, hk, hv⟩, _⟩ := (hF j _ hj).1
  refine ⟨?_, S.upd hj fun F hF _ => ⟨Chg.refl _ _, F, ⟨⟨es, clock, since, seen.push e.born, clock, hb, hr, hes, hold, hsk, hsk, hbn, hl⟩, hF.2⟩, fun q hq => .inl hq⟩⟩
  rw [← hk, ← hv]
  exact run_entry_at w r b since seen es clock e hr hb he hbn.2
theorem e_over {j b r : Nat} {kvs left : List (α × β)} (S : St base w0 h w L) (hj : L[j]? = some (mit ke ve b r kvs left)) : St base w0 h w (L.set j (amap ke ve b kvs)) :=
  S.upd hj fun F hF _ => ⟨Chg.refl _ _, F, ⟨by
    obtain ⟨⟨es, clock, since, seen, c0, hb, hr, hes, hold, hsc, hsk, hbn, hl⟩, _⟩ := hF
    exact ⟨es, clock, hb, hes, hbn⟩, hF.2.1⟩, fun q hq => .inl hq⟩
end
section
variable {P : Program} {ρ : Env} {w w' : World} {d : Option Tmp} {ty : TypeId} {pos : String} {af : Array Edge} {g : Option (Nat × Bool)} {x : Operand}
theorem x_range {T : TypeId} {v a : Value} (hx : ev ρ x = a) (hr : (Instr.range T a).run P w = .ok v w') : (execOp (ev ρ) ⟨d, .range T x, ty, pos, af, g⟩).run P w = .ok (.value v) w' := by
  simp only [execOp, hx, Sem.run_bind, hr, Result.andThen_ok]; rfl
theorem x_next {s : Bool} {v a : Value} (hx : ev ρ x = a) (hr : (Instr.next a s ty).run P w = .ok v w') : (execOp (ev ρ) ⟨d, .next x s, ty, pos, af, g⟩).run P w = .ok (.value v) w' := by
  simp only [execOp, hx, Sem.run_bind, hr, Result.andThen_ok]; rfl
end
section
variable {P : Program} {ρ : Env} {w w' : World} {d : Option Tmp} {ty : TypeId} {pos : String} {af : Array Edge} {g : Option (Nat × Bool)} {x : Operand}
theorem x_entry {v a : Value} (hx : ev ρ x = a) (hr : (Instr.entry a).run P w = .ok v w) : (execOp (ev ρ) ⟨d, .entry x, ty, pos, af, g⟩).run P w = .ok (.value v) w := by
  simp only [execOp, hx, Sem.run_bind, hr, Result.andThen_ok]; rfl
end
end Gx
namespace Gx
open Go Go.RowKit
set_option linter.unusedSimpArgs false
set_option linter.unusedVariables false
set_option linter.unusedSectionVars false
def kRaw : Kd Value where
  sz := 1
  pos := by omega
  rep := fun _ x cs => cs = [x] ∧ x.oneCell' = true
  mono := fun _ h => h
  len := fun h => by rw [h.1]; rfl
  one := fun h u hu => by rw [h.1] at hu; simp at hu; subst hu; exact h.2
def rows {α : Type} (T : TypeId) (k : Kd α) (us : List Value) (xss : List (List α)) (p : Nat → Bool) : Asrt where
  holds := fun h w F => us.length = xss.length ∧ ∃ G : Nat → Nat → Prop, (∀ i, i < xss.length → p i = true → (row T k (us.getD i default) (xss.getD i default)).holds h w (G i) ∧ ∀ b, G i b → F b) ∧
    ∀ i j, i < xss.length → j < xss.length → p i = true → p j = true → i ≠ j → ∀ b, G i b → ¬ G j b
  mono := fun hl ⟨hn, G, h1, h2⟩ => ⟨hn, G, fun i hi hp => ⟨(row T k _ _).mono hl (h1 i hi hp).1, (h1 i hi hp).2⟩, h2⟩
  far := fun hf ⟨hn, G, h1, h2⟩ => ⟨hn, G, fun i hi hp => ⟨(row T k _ _).far (fun b hb => hf b ((h1 i hi hp).2 b hb)) (h1 i hi hp).1, (h1 i hi hp).2⟩, h2⟩
def grid {α : Type} (T : TypeId) (k : Kd α) (us : List Value) (xss : List (List α)) : Asrt := rows T k us xss fun _ => true
def gridB {α : Type} (T : TypeId) (k : Kd α) (us : List Value) (xss : List (List α)) (q : Int) : Asrt := rows T k us xss fun i => !decide (i = q.toNat)
section
variable {base : Nat} {w0 w : World} {h : Ghost} {L : List Asrt}
theorem St.split (S : St base w0 h w L) {j : Nat} {A A1 A2 : Asrt} (hj : L[j]? = some A)
    (hm : ∀ F, A.holds h w F → ∃ F1 F2, A1.holds h w F1 ∧ A2.holds h w F2 ∧ (∀ b, F1 b → F b) ∧ (∀ b, F2 b → F b) ∧ ∀ b, F1 b → ¬ F2 b) : St base w0 h w (L.set j A1 ++ [A2]) := by
  obtain ⟨Fs, hF, hD⟩ := S.sep
  obtain ⟨hA, hU⟩ := hF j A hj
  obtain ⟨F1, F2, h1, h2, s1, s2, hd⟩ := hm _ hA
  have hl : j < L.length := (List.getElem?_eq_some_iff.1 hj).1
  refine ⟨S.below, S.bsz, S.ghost, S.dom, fun i => if i = L.length then F2 else if i = j then F1 else Fs i, fun i B hi => ?_, fun i m hi hm' him b hb1 hb2 => ?_⟩
  · by_cases hil : i = L.length
    · subst hil
      rw [List.getElem?_append_right (by simp)] at hi
      simp at hi
      subst hi
      simp only [if_true]
      exact ⟨h2, fun b hb => hU b (s2 b hb)⟩
    · simp only [if_neg hil]
      have hlt : i < L.length := by
        have := (List.getElem?_eq_some_iff.1 hi).1
        simp at this; omega
      rw [List.getElem?_append_left (by simpa using hlt)] at hi
      by_cases hij : i = j
      · subst hij
        rw [List.getElem?_set_self hl] at hi
        injection hi with hi
        subst hi
        simp only [if_true]
        exact ⟨h1, fun b hb => hU b (s1 b hb)⟩
      · rw [List.getElem?_set_ne (fun e => hij e.symm)] at hi
        simp only [if_neg hij]
        exact hF i B hi
  · simp only [List.length_append, List.length_set, List.length_cons, List.length_nil] at hi hm'
    have old : ∀ i, i < L.length → i ≠ j → ∀ b, Fs j b → ¬ Fs i b := fun i hi hij b hb hb' => hD j i hl hi (fun e => hij e.symm) b hb hb'
    by_cases e1 : i = L.length <;> by_cases e2 : m = L.length
    · omega
    · simp only [if_pos e1] at hb1; simp only [if_neg e2] at hb2
      by_cases e3 : m = j
      · simp only [if_pos e3] at hb2; exact hd b hb2 hb1
      · simp only [if_neg e3] at hb2; exact old m (by omega) e3 b (s2 b hb1) hb2
    · simp only [if_neg e1] at hb1; simp only [if_pos e2] at hb2
      by_cases e3 : i = j
      · simp only [if_pos e3] at hb1; exact hd b hb1 hb2
      · simp only [if_neg e3] at hb1; exact old i (by omega) e3 b (s2 b hb2) hb1
    · simp only [if_neg e1] at hb1; simp only [if_neg e2] at hb2
      by_cases e3 : i = j
      · simp only [if_pos e3] at hb1
        have e4 : m ≠ j := fun e => him (by rw [e3, e])
        simp only [if_neg e4] at hb2
        exact old m (by omega) e4 b (s1 b hb1) hb2
      · simp only [if_neg e3] at hb1
        by_cases e4 : m = j
        · simp only [if_pos e4] at hb2; exact old i (by omega) e3 b (s1 b hb2) hb1
        · simp only [if_neg e4] at hb2; exact hD i m (by omega) (by omega) him b hb1 hb2
theorem St.merge (S : St base w0 h w L) {i j : Nat} {A A1 A2 : Asrt} (hi : L[i]? = some A1) (hj : L[j]? = some A2) (hij : i ≠ j)
    (hm : ∀ F1 F2, A1.holds h w F1 → A2.holds h w F2 → (∀ b, F1 b → ¬ F2 b) → A.holds h w fun b => F1 b ∨ F2 b) : St base w0 h w ((L.set i A).set j emp) := by
  obtain ⟨Fs, hF, hD⟩ := S.sep
  obtain ⟨hA, hU⟩ := hF i A1 hi
  obtain ⟨hB, hV⟩ := hF j A2 hj
  have hli : i < L.length := (List.getElem?_eq_some_iff.1 hi).1
  have hlj : j < L.length := (List.getElem?_eq_some_iff.1 hj).1
  have hA' := hm _ _ hA hB (hD i j hli hlj hij)
  refine ⟨S.below, S.bsz, S.ghost, S.dom, fun m => if m = j then fun _ => False else if m = i then fun b => Fs i b ∨ Fs j b else Fs m, fun m B hB' => ?_, fun m n hm' hn hmn b hb1 hb2 => ?_⟩
  · by_cases e1 : m = j
    · subst e1
      rw [List.getElem?_set_self (by simpa using hlj)] at hB'
      injection hB' with hB'
      subst hB'
      simp only [if_true]
      exact ⟨trivial, fun b hb => hb.elim⟩
    · simp only [if_neg e1]
      rw [List.getElem?_set_ne (fun e => e1 e.symm)] at hB'
      by_cases e2 : m = i
      · subst e2
        rw [List.getElem?_set_self hli] at hB'
        injection hB' with hB'
        subst hB'
        simp only [if_true]
        exact ⟨hA', fun b hb => hb.elim (hU b) (hV b)⟩
      · rw [List.getElem?_set_ne (fun e => e2 e.symm)] at hB'
        simp only [if_neg e2]
        exact hF m B hB'
  · simp only [List.length_set] at hm' hn
    by_cases e1 : m = j
    · simp only [if_pos e1] at hb1
    · by_cases e2 : n = j
      · simp only [if_pos e2] at hb2
      · simp only [if_neg e1] at hb1; simp only [if_neg e2] at hb2
        by_cases e3 : m = i
        · have e4 : n ≠ i := fun e => hmn (by rw [e3, e])
          simp only [if_pos e3] at hb1; simp only [if_neg e4] at hb2
          rcases hb1 with hb1 | hb1
          · exact hD i n hli hn (fun e => e4 e.symm) b hb1 hb2
          · exact hD j n hlj hn (fun e => e2 e.symm) b hb1 hb2
        · simp only [if_neg e3] at hb1
          by_cases e4 : n = i
          · simp only [if_pos e4] at hb2
            rcases hb2 with hb2 | hb2
            · exact hD m i hm' hli e3 b hb1 hb2
            · exact hD m j hm' hlj e1 b hb1 hb2
          · simp only [if_neg e4] at hb2; exact hD m n hm' hn hmn b hb1 hb2
theorem St.plus (S : St base w0 h w L) {A : Asrt} (hA : A.holds h w fun _ => False) : St base w0 h w (L ++ [A]) := by
  obtain ⟨Fs, hF, hD⟩ := S.sep
  refine ⟨S.below, S.bsz, S.ghost, S.dom, fun i => if i = L.length then fun _ => False else Fs i, fun i B hi => ?_, fun i m hi hm him b hb1 hb2 => ?_⟩
  · by_cases e : i = L.length
    · subst e
      rw [List.getElem?_append_right (Nat.le_refl _)] at hi
      simp at hi
      subst hi
      simp only [if_true]
      exact ⟨hA, fun b hb => hb.elim⟩
    · simp only [if_neg e]
      have hlt : i < L.length := by
        have := (List.getElem?_eq_some_iff.1 hi).1
        simp at this; omega
      rw [List.getElem?_append_left hlt] at hi
      exact hF i B hi
  · simp only [List.length_append, List.length_cons, List.length_nil] at hi hm
    by_cases e1 : i = L.length
    · simp only [if_pos e1] at hb1
    · by_cases e2 : m = L.length
      · simp only [if_pos e2] at hb2
      · simp only [if_neg e1] at hb1; simp only [if_neg e2] at hb2
        exact hD i m (by omega) (by omega) him b hb1 hb2
end
section
variable {base : Nat} {w0 w : World} {h : Ghost} {L : List Asrt} {α : Type} {k : Kd α} {T : TypeId} {us us2 : List Value} {xss xss2 : List (List α)} {ys : List α} {v : Value} {i j : Nat} {q : Int}
theorem St.rows_len {p : Nat → Bool} (S : St base w0 h w L) (hj : L[j]? = some (rows T k us xss p)) : us.length = xss.length := by
  obtain ⟨Fs, hF, _⟩ := S.sep
  exact (hF j _ hj).1.1
theorem zd8 (S : St base w0 h w L) (hj : L[j]? = some (grid T k us xss)) : us.length = xss.length := S.rows_len hj
theorem e_focus (S : St base w0 h w L) (hj : L[j]? = some (grid T k us xss)) (h0 : 0 ≤ q) (h1 : q < (xss.length : Int)) : St base w0 h w (L.set j (gridB T k us xss q) ++ [row T k (at_ us q) (at_ xss q)]) := by
  refine S.split hj fun F hA => ?_
  obtain ⟨hn, G, g1, g2⟩ := hA
  refine ⟨fun b => ∃ i, i < xss.length ∧ i ≠ q.toNat ∧ G i b, G q.toNat, ⟨hn, G, fun i hi hp => ?_, fun i j hi hj _ _ => g2 i j hi hj rfl rfl⟩, (g1 q.toNat (by omega) rfl).1, ?_, (g1 q.toNat (by omega) rfl).2, ?_⟩
  · have hne : i ≠ q.toNat := by simpa using hp
    exact ⟨(g1 i hi rfl).1, fun b hb => ⟨i, hi, hne, hb⟩⟩
  · rintro b ⟨i, hi, _, hb⟩; exact (g1 i hi rfl).2 b hb
  · rintro b ⟨i, hi, hne, hb⟩ hb2; exact g2 i q.toNat hi (by omega) rfl rfl hne b hb hb2
theorem e_close2 (S : St base w0 h w L) (hj : L[j]? = some (gridB T k us xss q)) (hi : L[i]? = some (row T k v ys)) (hij : j ≠ i) (h0 : 0 ≤ q) (h1 : q < (xss.length : Int)) :
    St base w0 h w ((L.set j (grid T k (us.set q.toNat v) (xss.set q.toNat ys))).set i emp) := by
  refine S.merge hj hi hij fun F1 F2 hA hB hd => ?_
  obtain ⟨hn, G, g1, g2⟩ := hA
  refine ⟨by simp [hn], fun m => if m = q.toNat then F2 else G m, fun m hm _ => ?_, fun m n hm hn' _ _ hmn b hb1 hb2 => ?_⟩
  · rw [List.length_set] at hm
    by_cases e : m = q.toNat
    · subst e
      simp only [if_true]
      refine ⟨?_, fun b hb => .inr hb⟩
      have e1 : (us.set q.toNat v).getD q.toNat default = v := by simp [List.getD_eq_getElem?_getD, List.getElem?_set_self (show q.toNat < us.length by omega)]
      have e2 : (xss.set q.toNat ys).getD q.toNat default = ys := by simp [List.getD_eq_getElem?_getD, List.getElem?_set_self (show q.toNat < xss.length by omega)]
      rw [e1, e2]; exact hB
    · simp only [if_neg e]
      have h3 := g1 m hm (by simpa using e)
      refine ⟨?_, fun b hb => .inl (h3.2 b hb)⟩
      have e1 : (us.set q.toNat v).getD m default = us.getD m default := by simp [List.getD_eq_getElem?_getD, List.getElem?_set_ne (fun e' => e e'.symm)]
      have e2 : (xss.set q.toNat ys).getD m default = xss.getD m default := by simp [List.getD_eq_getElem?_getD, List.getElem?_set_ne (fun e' => e e'.symm)]
      rw [e1, e2]; exact h3.1
  · rw [List.length_set] at hm hn'
    by_cases e1 : m = q.toNat <;> by_cases e2 : n = q.toNat
    · omega
    · simp only [if_pos e1] at hb1; simp only [if_neg e2] at hb2
      exact hd b ((g1 n hn' (by simpa using e2)).2 b hb2) hb1
    · simp only [if_neg e1] at hb1; simp only [if_pos e2] at hb2
      exact hd b ((g1 m hm (by simpa using e1)).2 b hb1) hb2
    · simp only [if_neg e1] at hb1; simp only [if_neg e2] at hb2
      exact g2 m n hm hn' (by simpa using e1) (by simpa using e2) hmn b hb1 hb2
theorem set_at_self {β : Type} [Inhabited β] (l : List β) (q : Int) : l.set q.toNat (at_ l q) = l := by
  apply List.ext_getElem?
  intro m
  rw [List.getElem?_set]
  split
  · rename_i e
    subst e
    split
    · rename_i hl
      simp [at_, List.getD_eq_getElem?_getD, List.getElem?_eq_getElem hl]
    · rename_i hl
      rw [List.getElem?_eq_none (by omega)]
  · rfl
theorem e_close (S : St base w0 h w L) (hj : L[j]? = some (gridB T k us xss q)) (hi : L[i]? = some (row T k (at_ us q) ys)) (hij : j ≠ i) (h0 : 0 ≤ q) (h1 : q < (xss.length : Int)) :
    St base w0 h w ((L.set j (grid T k us (xss.set q.toNat ys))).set i emp) := by
  have := e_close2 S hj hi hij h0 h1
  rwa [set_at_self] at this
theorem e_close0 (S : St base w0 h w L) (hj : L[j]? = some (gridB T k us xss q)) (hi : L[i]? = some (row T k (at_ us q) (at_ xss q))) (hij : j ≠ i) (h0 : 0 ≤ q) (h1 : q < (xss.length : Int)) :
    St base w0 h w ((L.set j (grid T k us xss)).set i emp) := by
  have := e_close S hj hi hij h0 h1
  rwa [set_at_self] at this
theorem grid_none (S : St base w0 h w L) (T : TypeId) (k : Kd α) (n : Nat) : St base w0 h w (L ++ [grid T k (List.replicate n (.slice none 0 0)) (List.replicate n [])]) := by
  refine S.plus ⟨by simp, fun _ _ => False, fun i hi _ => ⟨?_, fun b hb => hb⟩, fun i j _ _ _ _ _ b hb => hb.elim⟩
  have hi' : i < n := by simpa using hi
  have e1 : (List.replicate n (Value.slice none 0 0)).getD i default = .slice none 0 0 := by simp [List.getD_eq_getElem?_getD, List.getElem?_replicate, hi']
  have e2 : (List.replicate n ([] : List α)).getD i default = [] := by simp [List.getD_eq_getElem?_getD, List.getElem?_replicate, hi']
  rw [e1, e2]
  exact ⟨[], World.ownsRow_nil _ _ _ _, zbx.nil _ _, fun g e => by cases e⟩
theorem grid_cat (S : St base w0 h w L) (hj : L[j]? = some (grid T k us xss)) (hi : L[i]? = some (grid T k us2 xss2)) (hij : j ≠ i) : St base w0 h w ((L.set j (grid T k (us ++ us2) (xss ++ xss2))).set i emp) := by
  refine S.merge hj hi hij fun F1 F2 hA hB hd => ?_
  obtain ⟨hn, G, g1, g2⟩ := hA
  obtain ⟨hn2, G2, g3, g4⟩ := hB
  refine ⟨by simp [hn, hn2], fun m => if m < xss.length then G m else G2 (m - xss.length), fun m hm _ => ?_, fun m n hm hn' _ _ hmn b hb1 hb2 => ?_⟩
  · rw [List.length_append] at hm
    by_cases e : m < xss.length
    · simp only [if_pos e]
      refine ⟨?_, fun b hb => .inl ((g1 m e rfl).2 b hb)⟩
      have e1 : (us ++ us2).getD m default = us.getD m default := by simp [List.getD_eq_getElem?_getD, List.getElem?_append_left (show m < us.length by omega)]
      have e2 : (xss ++ xss2).getD m default = xss.getD m default := by simp [List.getD_eq_getElem?_getD, List.getElem?_append_left e]
      rw [e1, e2]; exact (g1 m e rfl).1
    · simp only [if_neg e]
      refine ⟨?_, fun b hb => .inr ((g3 _ (by omega) rfl).2 b hb)⟩
      have e1 : (us ++ us2).getD m default = us2.getD (m - xss.length) default := by simp [List.getD_eq_getElem?_getD, List.getElem?_append_right (show us.length ≤ m by omega), hn]
      have e2 : (xss ++ xss2).getD m default = xss2.getD (m - xss.length) default := by simp [List.getD_eq_getElem?_getD, List.getElem?_append_right (show xss.length ≤ m by omega)]
      rw [e1, e2]; exact (g3 _ (by omega) rfl).1
  · rw [List.length_append] at hm hn'
    by_cases e1 : m < xss.length <;> by_cases e2 : n < xss.length
    · simp only [if_pos e1] at hb1; simp only [if_pos e2] at hb2
      exact g2 m n e1 e2 rfl rfl hmn b hb1 hb2
    · simp only [if_pos e1] at hb1; simp only [if_neg e2] at hb2
      exact hd b ((g1 m e1 rfl).2 b hb1) ((g3 _ (by omega) rfl).2 b hb2)
    · simp only [if_neg e1] at hb1; simp only [if_pos e2] at hb2
      exact hd b ((g1 n e2 rfl).2 b hb2) ((g3 _ (by omega) rfl).2 b hb1)
    · simp only [if_neg e1] at hb1; simp only [if_neg e2] at hb2
      exact g4 _ _ (by omega) (by omega) rfl rfl (by omega) b hb1 hb2
theorem rows_focus {p : Nat → Bool} (S : St base w0 h w L) (hj : L[j]? = some (rows T k us xss p)) {q : Nat} (hp : p q = true) (h1 : q < xss.length) : St base w0 h w (L.set j (rows T k us xss fun i => p i && !decide (i = q)) ++ [row T k (us.getD q default) (xss.getD q default)]) := by
  refine S.split hj fun F hA => ?_
  obtain ⟨hn, G, g1, g2⟩ := hA
  refine ⟨fun b => ∃ i, i < xss.length ∧ p i = true ∧ i ≠ q ∧ G i b, G q, ⟨hn, G, fun i hi hp' => ?_, fun i j hi hj a b => g2 i j hi hj (by simp at a; exact a.1) (by simp at b; exact b.1)⟩, (g1 q h1 hp).1, ?_, (g1 q h1 hp).2, ?_⟩
  · simp at hp'
    exact ⟨(g1 i hi hp'.1).1, fun b hb => ⟨i, hi, hp'.1, hp'.2, hb⟩⟩
  · rintro b ⟨i, hi, hpi, _, hb⟩; exact (g1 i hi hpi).2 b hb
  · rintro b ⟨i, hi, hpi, hne, hb⟩ hb2; exact g2 i q hi h1 hpi hp hne b hb hb2
theorem St.drop_last {A : Asrt} (S : St base w0 h w (L ++ [A])) : St base w0 h w L := by
  obtain ⟨Fs, hF, hD⟩ := S.sep
  refine ⟨S.below, S.bsz, S.ghost, S.dom, Fs, fun i B hi => ?_, fun i m hi hm => hD i m (by simp; omega) (by simp; omega)⟩
  have hlt := (List.getElem?_eq_some_iff.1 hi).1
  exact hF i B (by rw [List.getElem?_append_left hlt]; exact hi)
theorem grid_still (S : St base w0 h w L) (hj : L[j]? = some (grid T k us xss)) : ∀ n, n ≤ xss.length →
    ∃ h', Le h h' ∧ St base w0 h' w (L.set j (rows T k us xss fun m => decide (n ≤ m))) ∧ ∀ m, m < n → k.slice.rep h' (xss.getD m default) [us.getD m default]
  | 0, _ => ⟨h, Le.refl h, by
      have e : (rows T k us xss fun m => decide (0 ≤ m)) = grid T k us xss := by unfold grid; congr 1
      rw [e]
      have e2 : L.set j (grid T k us xss) = L := by
        have hl := (List.getElem?_eq_some_iff.1 hj).1
        have := (List.getElem?_eq_some_iff.1 hj).2
        rw [← this]; simp
      rw [e2]; exact S, fun m hm => by omega⟩
  | n + 1, hn => by
    obtain ⟨h', hl, S', hr⟩ := grid_still S hj n (by omega)
    have hlt : j < L.length := (List.getElem?_eq_some_iff.1 hj).1
    have S2 := rows_focus S' (j := j) (q := n) (List.getElem?_set_self hlt) (by simp) (by omega)
    have hlen : ((L.set j (rows T k us xss fun m => decide (n ≤ m))).set j (rows T k us xss fun i => decide (n ≤ i) && !decide (i = n))).length = L.length := by simp
    obtain ⟨h2, hl2, S3, rp⟩ := S2.freeze (i := L.length) (T := T) (k := k) (v := us.getD n default) (xs := xss.getD n default) (by rw [List.getElem?_append_right (by rw [hlen]; exact Nat.le_refl _), hlen]; simp)
    refine ⟨h2, hl.trans hl2, ?_, fun m hm => ?_⟩
    · have e : (rows T k us xss fun i => decide (n ≤ i) && !decide (i = n)) = rows T k us xss fun m => decide (n + 1 ≤ m) := by
        congr 1; funext m
        by_cases e1 : m = n
        · subst e1; simp
        · by_cases e2 : n ≤ m
          · have : n + 1 ≤ m := by omega
            simp [e1, e2, this]
          · have : ¬ n + 1 ≤ m := by omega
            simp [e1, e2, this]
      rw [e] at S3
      have e3 : ((L.set j (rows T k us xss fun m => decide (n ≤ m))).set j (rows T k us xss fun m => decide (n + 1 ≤ m)) ++ [row T k (us.getD n default) (xss.getD n default)]).set L.length emp = L.set j (rows T k us xss fun m => decide (n + 1 ≤ m)) ++ [emp] := by
        rw [List.set_set, List.set_append_right _ _ (by simp)]; simp
      rw [e3] at S3
      exact S3.drop_last
    · by_cases e : m = n
      · subst e; exact rp
      · exact k.slice.mono hl2 (hr m (by omega))
theorem grid_freeze {T2 : TypeId} (S : St base w0 h w L) (hi : L[i]? = some (row T2 kRaw v us)) (hj : L[j]? = some (grid T k us xss)) (hij : i ≠ j) :
    ∃ h', Le h h' ∧ St base w0 h' w ((L.set j emp).set i (row T2 k.slice v xss)) := by
  have hn := zd8 S hj
  have hlt : j < L.length := (List.getElem?_eq_some_iff.1 hj).1
  obtain ⟨h', hl, S', hr⟩ := grid_still S hj xss.length (Nat.le_refl _)
  have S2 := S'.upd (i := j) (A' := emp) (List.getElem?_set_self hlt) fun F _ _ => ⟨⟨rfl, rfl, rfl, Nat.le_refl _, fun _ _ _ => rfl⟩, fun _ => False, trivial, fun b hb => hb.elim⟩
  rw [List.set_set] at S2
  have hi2 : (L.set j emp)[i]? = some (row T2 kRaw v us) := by rw [List.getElem?_set_ne (fun e => hij e.symm)]; exact hi
  refine ⟨h', hl, S2.upd hi2 fun F hA _ => ⟨⟨rfl, rfl, rfl, Nat.le_refl _, fun _ _ _ => rfl⟩, F, ?_, fun b hb => .inl hb⟩⟩
  obtain ⟨cs, h1, h2, h3⟩ := hA
  refine ⟨cs, by rw [← hn]; exact h1, ⟨by rw [← hn]; exact h2.1, fun m x hx => ?_⟩, h3⟩
  have hm : m < xss.length := (List.getElem?_eq_some_iff.1 hx).1
  have hm2 : m < us.length := by omega
  have h4 := (h2.2 m us[m] (List.getElem?_eq_getElem hm2)).1
  have h5 := hr m hm
  have e1 : us.getD m default = us[m] := by simp [List.getD_eq_getElem?_getD, List.getElem?_eq_getElem hm2]
  have e2 : xss.getD m default = x := by simp [List.getD_eq_getElem?_getD, hx]
  rw [e1, e2] at h5
  show k.slice.rep h' x ((cs.drop (m * 1)).take 1)
  have h4' : (cs.drop (m * 1)).take 1 = [us[m]] := h4
  rw [h4']; exact h5
end
end Gx
namespace Gx
open Go Go.RowKit
set_option linter.unusedSimpArgs false
set_option linter.unusedSectionVars false
set_option linter.unusedVariables false
theorem rises_iff {b : Int} : ∀ {last : Int} {l : List Int}, zcf b last l = true ↔ l.Pairwise (· < ·) ∧ ∀ x ∈ l, last < x ∧ x < b
  | last, [] => by simp [zcf]
  | last, n :: r => by
    unfold zcf
    rw [Bool.and_eq_true, Bool.and_eq_true, decide_eq_true_eq, decide_eq_true_eq, rises_iff, List.pairwise_cons]
    constructor
    · rintro ⟨⟨h1, h2⟩, h3, h4⟩
      refine ⟨⟨fun x hx => (h4 x hx).1, h3⟩, fun x hx => ?_⟩
      rcases List.mem_cons.1 hx with e | e
      · subst e; exact ⟨h1, h2⟩
      · have := h4 x e; omega
    · rintro ⟨⟨h1, h2⟩, h3⟩
      have h4 := h3 n (by simp)
      exact ⟨h4, h2, fun x hx => ⟨h1 x hx, (h3 x (List.mem_cons_of_mem _ hx)).2⟩⟩
section
variable {m : Mach} (hR : Right m)
end
end Gx
namespace Gx
open Go Go.RowKit
set_option linter.unusedSimpArgs false
set_option linter.unusedVariables false
section
variable {P : Program} {w : World} {ρ : Env} {d : Option Tmp} {ty : TypeId} {pos : String} {af : Array Edge} {g : Option (Nat × Bool)} {x y : Operand}
end
section
variable {α : Type} [Inhabited α] {a b : List α} {i : Int}
theorem at_set_far (a : List α) {i j : Int} (h0 : 0 ≤ i) (h : i < j) (v : α) : at_ (a.set i.toNat v) j = at_ a j := by
  unfold at_
  rw [List.getD_eq_getElem?_getD, List.getD_eq_getElem?_getD, List.getElem?_set_ne (by omega)]
variable {t t2 : List (List α)} {k : Int}
end
end Gx
namespace Gx
open Go Go.RowKit
set_option linter.unusedSimpArgs false
set_option linter.unusedSectionVars false
set_option linter.unusedVariables false
def za2 (w : ByteArray) : List Int := w.data.toList.map fun b => ((b.toNat : Nat) : Int)
theorem bytesL_len (w : ByteArray) : (za2 w).length = w.size := by unfold za2; rw [List.length_map, Array.length_toList]; rfl
theorem bytesL_at (w : ByteArray) {j : Int} (h0 : 0 ≤ j) (h1 : j < (w.size : Int)) : at_ (za2 w) j = byt w j := by
  unfold at_ byt za2
  have : j.toNat < w.data.toList.length := by have h2 : (j.toNat : Int) < ((w.data.size : Nat) : Int) := by rw [Int.toNat_of_nonneg h0]; exact h1
                                              rw [Array.length_toList]; omega
  rw [List.getD_eq_getElem?_getD, List.getElem?_map, List.getD_eq_getElem?_getD, List.getElem?_eq_getElem this]; rfl
end Gx
namespace Gx
open Go Go.RowKit
set_option linter.unusedSimpArgs false
set_option linter.unusedVariables false
set_option linter.unusedSectionVars false
def endL (m : Mach) : List Int → Int → Bool
  | [], n => at_ m.last n
  | c :: cs, n => (at_ m.follow n).any fun k => has (at_ m.spots k).set c && endL m cs k
def zdc (m : Mach) : List Int → Int → Bool
  | [], _ => false
  | c :: cs, n => has (at_ m.spots n).set c && endL m cs n
theorem endL_good (m : Mach) {cs : List Int} (h : cs ≠ []) (n : Int) : endL m cs n = (at_ m.follow n).any fun k => zdc m cs k := by
  cases cs with
  | nil => exact absurd rfl h
  | cons c cs => rfl
theorem zce (w : ByteArray) {i : Int} (h0 : 0 ≤ i) (h1 : i < (w.size : Int)) : (za2 w).drop i.toNat = byt w i :: (za2 w).drop (i + 1).toNat := by
  rw [drop_cons (za2 w) h0 (by rw [bytesL_len]; exact h1), bytesL_at w h0 h1]
theorem bytes_end (w : ByteArray) {i : Int} (h1 : (w.size : Int) ≤ i) : (za2 w).drop i.toNat = [] := List.drop_of_length_le (by rw [bytesL_len]; omega)
theorem bytes_more (w : ByteArray) {i : Int} (h0 : 0 ≤ i) (h1 : i < (w.size : Int)) : (za2 w).drop i.toNat ≠ [] := by rw [zce w h0 h1]; simp
theorem good_no {m : Mach} {w : ByteArray} {i n : Int} (h0 : 0 ≤ i) (h1 : i < (w.size : Int)) (h : has (at_ m.spots n).set (byt w i) = false) : zdc m ((za2 w).drop i.toNat) n = false := by
  rw [zce w h0 h1]; show (_ && _) = false; rw [h]; rfl
theorem good_last {m : Mach} {w : ByteArray} {i n : Int} (h0 : 0 ≤ i) (h1 : i = (w.size : Int) - 1) (h : has (at_ m.spots n).set (byt w i) = true) : zdc m ((za2 w).drop i.toNat) n = at_ m.last n := by
  rw [zce w h0 (by omega), bytes_end w (by omega)]; show (_ && _) = _; rw [h]; rfl
theorem good_mid {m : Mach} {w : ByteArray} {i n : Int} (h0 : 0 ≤ i) (h1 : i + 1 < (w.size : Int)) (h : has (at_ m.spots n).set (byt w i) = true) : zdc m ((za2 w).drop i.toNat) n = (at_ m.follow n).any fun k => zdc m ((za2 w).drop (i + 1).toNat) k := by
  rw [zce w h0 (by omega)]; show (_ && _) = _; rw [h, endL_good m (bytes_more w (by omega) h1)]; rfl
def zdg (m : Mach) (l : List Int) : List Bool := tab m.spots.length fun n => zdc m l ((n : Nat) : Int)
theorem goodRow_len (m : Mach) (l : List Int) : (zdg m l).length = m.spots.length := tab_len _ _
def gRowTo (m : Mach) (l : List Int) (t : Int) : List Bool := tab m.spots.length fun n => decide (((n : Nat) : Int) < t) && zdc m l ((n : Nat) : Int)
theorem gRow_len (m : Mach) (l : List Int) (t : Int) : (gRowTo m l t).length = m.spots.length := tab_len _ _
theorem gRow_0 (m : Mach) (l : List Int) {n : Nat} (hn : n = m.spots.length) : List.replicate n false = gRowTo m l 0 := by
  rw [hn, tab_false]; exact tab_ext fun i hi => by rw [decide_eq_false (by omega)]; rfl
theorem gRow_step (m : Mach) (l : List Int) {t : Int} (h0 : 0 ≤ t) {v : Bool} (hv : v = zdc m l t) : (gRowTo m l t).set t.toNat v = gRowTo m l (t + 1) := by
  unfold gRowTo
  rw [tab_set h0]
  refine tab_ext fun i hi => ?_
  by_cases e : i = t.toNat
  · rw [if_pos e, hv, decide_eq_true (by omega), show ((i : Nat) : Int) = t by omega]; rfl
  · rw [if_neg e]
    by_cases e2 : ((i : Nat) : Int) < t
    · rw [decide_eq_true e2, decide_eq_true (by omega)]
    · rw [decide_eq_false e2, decide_eq_false (by omega)]
theorem gRow_no (m : Mach) (l : List Int) {t : Int} (h0 : 0 ≤ t) (h : zdc m l t = false) : gRowTo m l t = gRowTo m l (t + 1) := by
  refine tab_ext fun i hi => ?_
  by_cases e : ((i : Nat) : Int) = t
  · rw [e, h, Bool.and_false, Bool.and_false]
  · by_cases e2 : ((i : Nat) : Int) < t
    · rw [decide_eq_true e2, decide_eq_true (by omega)]
    · rw [decide_eq_false e2, decide_eq_false (by omega)]
theorem gRow_end (m : Mach) (l : List Int) {t : Int} (h : (m.spots.length : Int) ≤ t) : gRowTo m l t = zdg m l := tab_ext fun i hi => by rw [decide_eq_true (by omega)]; rfl
theorem goodRow_at (m : Mach) (l : List Int) {k : Int} (h0 : 0 ≤ k) (h1 : k < (m.spots.length : Int)) : at_ (zdg m l) k = zdc m l k := by
  unfold zdg; rw [tab_at h0 h1, Int.toNat_of_nonneg h0]
def zc7 (m : Mach) (w : ByteArray) (i : Int) : List (List Bool) := (List.range w.size).map fun j => if ((j : Nat) : Int) ≤ i then [] else zdg m ((za2 w).drop j)
def zcw (m : Mach) (w : ByteArray) : List (List Bool) := zc7 m w (-1)
theorem goods_end (m : Mach) (w : ByteArray) : zcw m w = zc7 m w (-1) := rfl
theorem goodsTo_len (m : Mach) (w : ByteArray) (i : Int) : (zc7 m w i).length = w.size := by simp [zc7]
theorem goodsTo_0 (m : Mach) (w : ByteArray) {i : Int} (h : (w.size : Int) - 1 ≤ i) {n : Nat} (hn : n = w.size) : List.replicate n ([] : List Bool) = zc7 m w i := by
  subst hn
  unfold zc7
  apply List.ext_getElem?
  intro j
  rw [List.getElem?_replicate, List.getElem?_map]
  by_cases hj : j < w.size
  · rw [if_pos hj, List.getElem?_range hj]; simp; omega
  · rw [if_neg hj, List.getElem?_eq_none (by simpa using Nat.le_of_not_lt hj)]; rfl
theorem goodsTo_at (m : Mach) (w : ByteArray) {i j : Int} (h0 : 0 ≤ j) (h1 : j < (w.size : Int)) (h : i < j) : at_ (zc7 m w i) j = zdg m ((za2 w).drop j.toNat) := by
  unfold zc7
  rw [at_map_range _ _ h0 h1, if_neg (by omega)]
theorem goods_at (m : Mach) (w : ByteArray) {j : Int} (h0 : 0 ≤ j) (h1 : j < (w.size : Int)) : at_ (zcw m w) j = zdg m ((za2 w).drop j.toNat) := goodsTo_at m w h0 h1 (by omega)
theorem goods_len (m : Mach) (w : ByteArray) : (zcw m w).length = w.size := goodsTo_len m w _
def gIn (m : Mach) (w : ByteArray) (i t : Int) : List (List Bool) := (zc7 m w i).set i.toNat (gRowTo m ((za2 w).drop i.toNat) t)
theorem gIn_len (m : Mach) (w : ByteArray) (i t : Int) : (gIn m w i t).length = w.size := by unfold gIn; rw [List.length_set, goodsTo_len]
theorem gIn_at (m : Mach) (w : ByteArray) {i : Int} (t : Int) (h0 : 0 ≤ i) (h1 : i < (w.size : Int)) : at_ (gIn m w i t) i = gRowTo m ((za2 w).drop i.toNat) t := by
  unfold gIn; exact at_set_self h0 (by rw [goodsTo_len]; exact h1)
theorem gIn_next (m : Mach) (w : ByteArray) {i : Int} (t : Int) (h0 : 0 ≤ i) (h1 : i + 1 < (w.size : Int)) : at_ (gIn m w i t) (i + 1) = zdg m ((za2 w).drop (i + 1).toNat) := by
  unfold gIn; rw [at_set_far _ h0 (by omega), goodsTo_at m w (by omega) h1 (by omega)]
theorem gIn_0 (m : Mach) (w : ByteArray) (i : Int) {n : Nat} (hn : n = m.spots.length) : (zc7 m w i).set i.toNat (List.replicate n false) = gIn m w i 0 := by unfold gIn; rw [gRow_0 m _ hn]
theorem gIn_step (m : Mach) (w : ByteArray) {i t : Int} (h0 : 0 ≤ i) (h1 : i < (w.size : Int)) (t0 : 0 ≤ t) {v : Bool} (hv : v = zdc m ((za2 w).drop i.toNat) t) : (gIn m w i t).set i.toNat ((at_ (gIn m w i t) i).set t.toNat v) = gIn m w i (t + 1) := by
  rw [gIn_at m w t h0 h1, gRow_step m _ t0 hv]; unfold gIn; rw [List.set_set]
theorem gIn_no (m : Mach) (w : ByteArray) {i t : Int} (t0 : 0 ≤ t) (h : zdc m ((za2 w).drop i.toNat) t = false) : gIn m w i t = gIn m w i (t + 1) := by unfold gIn; rw [gRow_no m _ t0 h]
theorem gIn_end (m : Mach) (w : ByteArray) {i t : Int} (h0 : 0 ≤ i) (h1 : i < (w.size : Int)) (h : (m.spots.length : Int) ≤ t) : gIn m w i t = zc7 m w (i - 1) := by
  unfold gIn
  rw [gRow_end m _ h]
  apply List.ext_getElem?
  intro j
  unfold zc7
  rw [List.getElem?_set, List.getElem?_map, List.getElem?_map, List.length_map, List.length_range]
  by_cases hj : j < w.size
  · rw [List.getElem?_range hj]
    by_cases e : i.toNat = j
    · subst e
      rw [if_pos rfl, if_pos hj]
      simp only [Option.map_some]
      rw [if_neg (by omega)]
    · rw [if_neg e]
      simp only [Option.map_some]
      by_cases e2 : ((j : Nat) : Int) ≤ i
      · rw [if_pos e2, if_pos (by omega)]
      · rw [if_neg e2, if_neg (by omega)]
  · have hn : (List.range w.size)[j]? = none := List.getElem?_eq_none (by simpa using Nat.le_of_not_lt hj)
    rw [hn]
    by_cases e : i.toNat = j
    · omega
    · rw [if_neg e]; rfl
theorem any_take_step {α : Type} [Inhabited α] {l : List α} {p : α → Bool} {t : Int} (h0 : 0 ≤ t) (h1 : t < (l.length : Int)) (h : (l.take t.toNat).any p = false) (h2 : p (at_ l t) = false) : (l.take (t + 1).toNat).any p = false := by
  rw [zdp _ h0 h1, List.any_append, h]; simp [h2]
theorem any_found {α : Type} [Inhabited α] {l : List α} {p : α → Bool} {t : Int} (h0 : 0 ≤ t) (h1 : t < (l.length : Int)) (h : p (at_ l t) = true) : l.any p = true := List.any_eq_true.2 ⟨_, zbw h0 h1, h⟩
theorem zch {α : Type} {l : List α} {p : α → Bool} {t : Int} (h1 : (l.length : Int) ≤ t) (h : (l.take t.toNat).any p = false) : l.any p = false := by rwa [List.take_of_length_le (by omega)] at h
theorem any_row {m : Mach} (hR : Right m) {l : List Int} {n : Int} (h0 : 0 ≤ n) (h1 : n < (m.spots.length : Int)) : ((at_ m.follow n).any fun k => at_ (zdg m l) k) = (at_ m.follow n).any fun k => zdc m l k := by
  have e : ∀ k ∈ at_ m.follow n, at_ (zdg m l) k = zdc m l k := fun k hk => by
    have := hR.rows h0 h1 k hk
    exact goodRow_at m l this.1 this.2
  cases h : (at_ m.follow n).any fun k => zdc m l k with
  | true =>
    obtain ⟨k, hk, hg⟩ := List.any_eq_true.1 h
    exact List.any_eq_true.2 ⟨k, hk, by rw [e k hk]; exact hg⟩
  | false =>
    refine List.any_eq_false.2 fun k hk => ?_
    rw [e k hk]; exact List.any_eq_false.1 h k hk
end Gx
namespace Gx
open Go Go.RowKit
set_option linter.unusedSimpArgs false
set_option linter.unusedSectionVars false
set_option linter.unusedVariables false
section
variable {P : Program} {f n : Nat} {k : List Item} {ρ : Env} {w : World} {R : Ending → World → Prop} {ops : Array Oper} {rest : List Nat} {i : Nat}
variable {d : Tmp} {ty : TypeId} {pos : String} {af : Array Edge} {x y : Operand} {op : Op} {gd : Option (Nat × Bool)}
theorem p_i {g : FuncId} {args : Array Value} (ho : ops[i]? = some ⟨some d, op, ty, pos, af, gd⟩) (hw : zb4 ρ ops ⟨some d, op, ty, pos, af, gd⟩ = true) (hd : Nat.blt d n = true) (hr : (execOp (ev ρ) ⟨some d, op, ty, pos, af, gd⟩).run P w = .ok (.enter g args) w)
    (hc : Calls P g args w fun e w2 => ∃ v, e = .returned v ∧ Run P f n (.inRegion ops rest :: k) (upd ρ d v) w2 R) : Run P f n (.inRegion ops (i :: rest) :: k) ρ w R := p_c ho hw hd hr hc fun _ _ h => h
end
section
variable {P : Program} {f n : Nat} {k : List Item} {ρ : Env} {w : World} {R : Ending → World → Prop} {ops : Array Oper} {H : Held} {fuel : Nat} {listed : Array Bool} {i : Nat}
variable {d : Tmp} {ty : TypeId} {pos : String} {af : Array Edge} {op : Op} {gd : Option (Nat × Bool)}
theorem d_i {g : FuncId} {args : Array Value} (ho : ops[i]? = some ⟨some d, op, ty, pos, af, gd⟩) (hw : zb4 ρ ops ⟨some d, op, ty, pos, af, gd⟩ = true) (hd : Nat.blt d n = true) (hr : (execOp (ev ρ) ⟨some d, op, ty, pos, af, gd⟩).run P w = .ok (.enter g args) w)
    (hc : Calls P g args w fun e w2 => ∃ v, e = .returned v ∧ ((Gr w w2 ∨ Keep ops i w2 H) ∧ RA P f n ops H fuel (listed.setIfInBounds i true) k (upd ρ d v) w2 R)) : RA1 P f n ops H fuel listed k ρ w R i := d_c ho hw hd hr hc fun _ _ h => h
end
section
variable {P : Program} {w : World} {ρ : Env} {d : Option Tmp} {x y : Operand} {ty : TypeId} {pos : String} {af : Array Edge} {g : Option (Nat × Bool)}
theorem zbc {ad : Addr} (hx : ev ρ x = .pointer (some ad)) : (execOp (ev ρ) ⟨d, .nilCheck x, ty, pos, af, g⟩).run P w = .ok (.value (.pointer (some ad))) w := by
  simp only [execOp, hx]
  rfl
end
section
variable {α β : Type} [DecidableEq α] {P : Program} {kt : TypeId} {ke : α → Value} {ve : β → Value} {w w' : World}
def MapH (ke : α → Value) (ve : β → Value) (b : Nat) (kvs : List (α × β)) (w : World) : Prop := ∃ es clock, w.heap[b]? = some (.map es clock) ∧ es.toList.map (fun e => (e.key, e.val)) = zdr ke ve kvs
theorem MapH.gr {b : Nat} {kvs : List (α × β)} (g : Gr w w') (h : MapH ke ve b kvs w) : MapH ke ve b kvs w' := by
  obtain ⟨es, clock, hb, hes⟩ := h
  have hlt : b < w.heap.size := (Array.getElem?_eq_some_iff.1 hb).1
  exact ⟨es, clock, by rw [← hb]; exact Chg.block g b hlt (fun x => x), hes⟩
def MapHs (ke : α → Value) (ve : β → Value) (b : Nat) (kvs : List (α × β)) : Sp := ⟨MapH ke ve b kvs, fun _ _ g h => h.gr g⟩
end
section
variable {P : Program} {w w0 : World} {base : Nat} {h : Ghost} {L : List Asrt}
end
end Gx
