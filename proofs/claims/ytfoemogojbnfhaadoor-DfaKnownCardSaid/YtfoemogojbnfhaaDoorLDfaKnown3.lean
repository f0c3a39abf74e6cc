/- My own library for walks through the translated code, and the walks of the functions that the law DfaKnown comes to, part 4; no conditions but those that each contract tells. -/
import Derived.Test.YtfoemogojbnfhaaDoorLDfaKnown2
namespace Go.Proofs.YtfoemogojbnfhaaDoor
open Go Go.RowKit Gx
set_option maxHeartbeats 1000000
set_option linter.unusedVariables false
set_option linter.unusedSimpArgs false
set_option maxRecDepth 8000
attribute [local irreducible] zb6 count first someIn has zbx wbits Lib.ctz zd3 zcu rowOk tab markP intoP zej runTo endsIn runM anyTo allTo lfp zel trues addS zdq setsM badQ zd0 zb7 goD runD notD errD notTo zcd zde howB zdv zae errO zb9 nextC outTo zek rowIn zdh lastB zbd zds zaa errB fitsP madeM allM bfs zdf putB beginB okB
theorem key115 : KeyK Tryd.prog 115 (fun x : BSet => Value.agg (zak x).toArray) := keyk_set u115 u56 ty56
theorem dhas_calls (w : World) (s : BSet) (n : Int) (i1 : inK .i64 n) (pre0 : 0 ≤ n ∧ n < 256) :
    Calls Tryd.prog 83 #[.agg (zak s).toArray, .int .i64 n] w fun e w' => ∃ v, e = .returned v ∧ ∃ (hn : Ghost), St w.heap.size w hn w' [] ∧ v = .bool (has s n) := by
 refine zas Tryd.func83 rfl Tryd.ntmps83 rfl ?_
 have S0 := St.init w
 have lo1 := zbf i1; have hi1 := zbg i1
 have h0_ := pre0.1; have h1_ := pre0.2
 refine zag <| zah (l := [0, 1]) rfl ?_
 obtain ⟨b1, w1, r1, g1, T1⟩ := zb0 (P := Tryd.prog) S0 115 (v := .agg (zak s).toArray) (zak s) rfl
 have S2 := T1
 dsimp only [lAa, lAn, lA0, lAs] at S2
 refine p_v (v := .pointer (some ⟨b1, 0, none⟩)) rfl rfl rfl (zdi rfl r1) <| p_v (v := .bool false) rfl rfl rfl (zaj rfl) <| zac <| zag <| zah (l := [0, 1, 2, 3, 4, 5, 6, 7, 8, 9]) rfl <| p_v (v := .int .i64 n) rfl rfl rfl (zai rfl) <| p_v (v := .int .i64 (n / 64)) rfl rfl rfl (x_quo rfl rfl (by omega) (by omega) (zar (by omega) (by omega))) <| p_v (v := .pointer (some ⟨b1, 0 + (n / 64).toNat * 1, none⟩)) rfl rfl rfl (zbq u115 ty56 rfl rfl (by omega) (by omega)) ?_
 have S3 : St w.heap.size w (fun _ => none) w1 [box b1 115 (zbb .u64 (zbh s))] := S2
 have in4 := zcv (zc6 s) (i := n / 64) (by omega) (by omega)
 have lo4 := zcx in4; have hi4 := zc2 in4
 refine p_v (v := .int .u64 (at_ (zbh s) (n / 64))) rfl rfl rfl (zam (seg := [.int .u64 (at_ (zbh s) (n / 64))]) ty56 rfl (by simp) rfl (CF.box (m := 1) (S3.box_at (j := 0) rfl) (cs := (zbb .u64 (zbh s))) (zdo (zc6 s) (by omega) (by omega)))) <| p_v (v := .int .i64 n) rfl rfl rfl (zai rfl) <| p_v (v := .int .i64 (n % 64)) rfl rfl rfl (x_rem rfl rfl (by omega) (by omega)) ?_
 have in5 : inK .u64 ((at_ (zbh s) (n / 64)) / 2 ^ (n % 64).toNat) := shr_in (zdg (by omega) (by omega))
 have lo5 := zcx in5; have hi5 := zc2 in5
 refine p_v (v := .int .u64 ((at_ (zbh s) (n / 64)) / 2 ^ (n % 64).toNat)) rfl rfl rfl (x_shr rfl rfl (by omega) (show _ ≤ 64 by omega)) ?_
 have in6 : inK .u64 (iand ((at_ (zbh s) (n / 64)) / 2 ^ (n % 64).toNat) 1) := iand_in 1 in5
 have lo6 := zcx in6; have hi6 := zc2 in6
 have lm6 := iand_le' (a := (at_ (zbh s) (n / 64)) / 2 ^ (n % 64).toNat) (b := 1) (by decide)
 refine p_v (v := .int .u64 (iand ((at_ (zbh s) (n / 64)) / 2 ^ (n % 64).toNat) 1)) rfl rfl rfl (x_and_u64 rfl rfl in5 (zdg (by omega) (by omega))) <| p_v (v := .bool (decide ((iand ((at_ (zbh s) (n / 64)) / 2 ^ (n % 64).toNat) 1) = 1))) rfl rfl rfl (x_eql rfl rfl) <| p_v (v := .bool (decide ((iand ((at_ (zbh s) (n / 64)) / 2 ^ (n % 64).toNat) 1) = 1))) rfl rfl rfl (zaj rfl) <| zac <| zax Tryd.func83 (res1 rfl (za4 (v := .bool (decide ((iand ((at_ (zbh s) (n / 64)) / 2 ^ (n % 64).toNat) 1) = 1))) rfl)) ?_
 have q0 : (has s n : Bool) = decide ((iand ((at_ (zbh s) (n / 64)) / 2 ^ (n % 64).toNat) 1) = 1) := by
  exact (has_shift s h0_ h1_).symm
 refine ⟨_, rfl, (fun _ => none), ?_, ?_⟩
 · exact S3.sub [] (by decide) rfl _ rfl
 · (simp only [q0])
theorem begun_calls (w : World) :
    Calls Tryd.prog 82 #[] w fun e w' => ∃ v, e = .returned v ∧ ∃ (hn : Ghost), St w.heap.size w hn w' [] ∧ v = .agg (zak beginB).toArray := by
 refine zas Tryd.func82 rfl Tryd.ntmps82 rfl ?_
 have S0 := St.init w
 refine zag <| zah (l := [0]) rfl ?_
 obtain ⟨b1, w1, r1, g1, T1⟩ := zb0 (P := Tryd.prog) S0 115 (v := (.agg #[.int .u64 0, .int .u64 0, .int .u64 0, .int .u64 0])) (zak (0 : BSet)) rfl
 have S2 := T1
 dsimp only [lAa, lAn, lA0, lAs] at S2
 refine p_v (v := .pointer (some ⟨b1, 0, none⟩)) rfl rfl rfl (zbr zee r1) <| zac <| zag <| zah (l := [0, 1]) rfl <| p_v (v := .agg (zak (zca [0, 0, 0, 9223372036854775808])).toArray) rfl rfl rfl (zc4 (pv := [(3, .int .u64 9223372036854775808)]) rfl (run_build_array u115 ty56 zee (cs := (zak (zca [0, 0, 0, 9223372036854775808]))) (by rfl))) ?_
 obtain ⟨w3, r3, g3, T3⟩ := zcj (P := Tryd.prog) (off := 0) (v := .agg (zak (zca [0, 0, 0, 9223372036854775808])).toArray) (vs := (zak (zca [0, 0, 0, 9223372036854775808]))) S2 zee rfl rfl (j := 0) rfl (by first | decide | exact Nat.le_of_ble_eq_true rfl) (zdz _)
 have S4 := T3.fx 0 (box b1 115 (zak (zca [0, 0, 0, 9223372036854775808]))) rfl
 dsimp only [lAa, lAn, lA0, lAs] at S4
 refine p_s rfl rfl (za2 rfl rfl r3) <| zac <| zax Tryd.func82 (res1 rfl (zcz S4 zee rfl (j := 0) rfl rfl (by simp) rfl)) ?_
 have q0 : (beginB : BSet) = (zca [0, 0, 0, 9223372036854775808]) := by
  exact begin_words.symm
 refine ⟨_, rfl, (fun _ => none), ?_, ?_⟩
 · exact S4.sub [] (by decide) rfl _ rfl
 · (simp only [q0]; rfl)
theorem next_calls (w : World) (s : BSet) (k : Int) (i1 : inK .i64 k) (m : Mach) (A2_0 : Option Addr) (c2_0 : Nat) (b2_0 : m.spots.length ≤ c2_0 ∧ c2_0 ≤ maxLen) (l2_0 : zbz kSpot (hp w) A2_0 m.spots) (A2_1 : Option Addr) (c2_1 : Nat) (b2_1 : m.first.length ≤ c2_1 ∧ c2_1 ≤ maxLen) (l2_1 : zbz (Kd.int .i64) (hp w) A2_1 m.first) (A2_2 : Option Addr) (c2_2 : Nat) (b2_2 : m.follow.length ≤ c2_2 ∧ c2_2 ≤ maxLen) (l2_2 : zbz (Kd.int .i64).slice (hp w) A2_2 m.follow) (A2_3 : Option Addr) (c2_3 : Nat) (b2_3 : m.last.length ≤ c2_3 ∧ c2_3 ≤ maxLen) (l2_3 : zbz Kd.bool (hp w) A2_3 m.last) (a2 : Addr) (pc2 : ∀ j v, [.slice A2_0 m.spots.length c2_0, .slice A2_1 m.first.length c2_1, .slice A2_2 m.follow.length c2_2, .slice A2_3 m.last.length c2_3, .bool m.empty][j]? = some v → zeg (hp w) (a2.add j) = some v) (b : List Int) (A3 : Option Addr) (c3 : Nat) (b3 : b.length ≤ c3 ∧ c3 ≤ maxLen) (l3 : zbz (Kd.int .u8) (hp w) A3 b) (a3 : Addr) (pc3 : ∀ j v, [.slice A3 b.length c3][j]? = some v → zeg (hp w) (a3.add j) = some v) (pre0 : Right m ∧ 0 ≤ k ∧ k < (b.length : Int)) :
    Calls Tryd.prog 78 #[.agg (zak s).toArray, .int .i64 k, .pointer (some a2), .pointer (some a3)] w fun e w' => ∃ v, e = .returned v ∧ ∃ (hn : Ghost), St w.heap.size w hn w' [] ∧ v = .agg (zak (zb9 m b s k)).toArray := by
 refine zas Tryd.func78 rfl Tryd.ntmps78 rfl ?_
 have S0 := St.init w
 have lo1 := zbf i1; have hi1 := zbg i1
 have bb2_0 := b2_0.1; have bc2_0 := b2_0.2; simp only [maxLen] at bc2_0
 have bb2_1 := b2_1.1; have bc2_1 := b2_1.2; simp only [maxLen] at bc2_1
 have bb2_2 := b2_2.1; have bc2_2 := b2_2.2; simp only [maxLen] at bc2_2
 have bb2_3 := b2_3.1; have bc2_3 := b2_3.2; simp only [maxLen] at bc2_3
 have bb3 := b3.1; have bc3 := b3.2; simp only [maxLen] at bc3
 have hR_ := pre0.1; have hsm_ := hR_.small; have hfo_ := hR_.follow; have hla_ := hR_.last; have hss_ := hR_.small'; have hfi_ := hss_.first; have hk0_ := pre0.2.1; have hk1_ := pre0.2.2
 refine zag <| zah (l := [0, 1, 2]) rfl ?_
 obtain ⟨b1, w1, r1, g1, T1⟩ := zb0 (P := Tryd.prog) S0 115 (v := .agg (zak s).toArray) (zak s) rfl
 have S2 := T1
 dsimp only [lAa, lAn, lA0, lAs] at S2
 refine p_v (v := .pointer (some ⟨b1, 0, none⟩)) rfl rfl rfl (zdi rfl r1) ?_
 obtain ⟨b3, w3, r3, g3, T3⟩ := zb0 (P := Tryd.prog) S2 3 (v := .int .i64 k) [.int .i64 k] rfl
 have S4 := T3
 dsimp only [lAa, lAn, lA0, lAs] at S4
 refine p_v (v := .pointer (some ⟨b3, 0, none⟩)) rfl rfl rfl (zdi rfl r3) ?_
 obtain ⟨b5, w5, r5, g5, T5⟩ := zb0 (P := Tryd.prog) S4 115 (v := (.agg #[.int .u64 0, .int .u64 0, .int .u64 0, .int .u64 0])) (zak (0 : BSet)) rfl
 have S6 := T5
 dsimp only [lAa, lAn, lA0, lAs] at S6
 refine p_v (v := .pointer (some ⟨b5, 0, none⟩)) rfl rfl rfl (zbr zee r5) <| zac <| zag <| zah (l := [0]) rfl ?_
 obtain ⟨b7, w7, r7, g7, T7⟩ := zb0 (P := Tryd.prog) S6 115 (v := (.agg #[.int .u64 0, .int .u64 0, .int .u64 0, .int .u64 0])) (zak (0 : BSet)) rfl
 have S8 := T7
 dsimp only [lAa, lAn, lA0, lAs] at S8
 refine p_v (v := .pointer (some ⟨b7, 0, none⟩)) rfl rfl rfl (zbr zee r7) <| zac <| zag <| zah (l := [0, 1]) rfl <| p_v (v := .func (.func 79) #[] #[.pointer (some a2), .pointer (some a3), .pointer (some ⟨b3, 0, none⟩), .pointer (some ⟨b7, 0, none⟩)]) rfl rfl rfl (zed (fv := []) (cv := [.pointer (some a2), .pointer (some a3), .pointer (some ⟨b3, 0, none⟩), .pointer (some ⟨b7, 0, none⟩)]) rfl rfl) <| p_v (v := .func (.func 79) #[] #[.pointer (some a2), .pointer (some a3), .pointer (some ⟨b3, 0, none⟩), .pointer (some ⟨b7, 0, none⟩)]) rfl rfl rfl (zaj rfl) <| zac <| zag <| zag ?_
 have hf10 : (CFs ⟨b1, 0, none⟩ (zak s)).1 w7 := (CF.box (m := 4) (S8.box_at (j := 0) rfl) rfl)
 refine daS (hkC 0 hf10 (hkN (w := w7))) 3 rfl mixed ?_
 intro wd11 gd11 hd11
 have S12 := S8.keep gd11
 have hf13 := spUp gd11 hf10
 refine qd1 0 (i := 0) (v := .agg (zak s).toArray) rfl rfl (by decide +kernel) rfl rfl (fun wq hq => (zam (seg := (zak s)) zee rfl (by simp) rfl hq)) (zbm hf13 (of_nil _ _)) <| d_m (i := 1) (v := .agg (zak beginB).toArray) (fun _ => True) (fun _ ho => trivial) rfl (by decide +kernel) (by decide +kernel) (by decide +kernel) rfl rfl (fun wq => (zba (args := []) ca82 rfl rfl)) (fun wq hq => (begun_calls wq ).mono fun e w2 he => by obtain ⟨_, rfl, _, T, rfl⟩ := he; exact ⟨rfl, Chg.of_below T.below⟩) (zan rfl) <| qd0 (i := 2) (v := .bool (decide (s = beginB))) rfl (by decide +kernel) rfl rfl (x_eql_set u115 u56 ty56 q115 rfl rfl) (zan rfl) <| zcb (by decide +kernel) ?_
 intro wd14 gd14
 have S15 := S12.keep gd14
 refine zau (p := s = beginB) rfl (fun hc16 => ?_) (fun hc16 => ?_)
 ·skip
  refine zah (l := [0, 1, 2, 3]) rfl <| p_v (v := .func (.func 79) #[] #[.pointer (some a2), .pointer (some a3), .pointer (some ⟨b3, 0, none⟩), .pointer (some ⟨b7, 0, none⟩)]) rfl rfl rfl (zai rfl) <| p_v (v := .pointer (some (a2.add 1))) rfl rfl rfl (zc5 fd27_1 ty23 rfl rfl) <| p_v (v := .slice A2_1 m.first.length c2_1) rfl rfl rfl (zam (seg := [.slice A2_1 m.first.length c2_1]) ty23 rfl (by simp) rfl (CF.ghost (zdt (o := 1) (m := 1) (ds := [.slice A2_1 m.first.length c2_1]) pc2 rfl) (St.le0 S15))) ?_
  refine p_i rfl rfl rfl (zba (args := [.slice A2_1 m.first.length c2_1, .pointer (some a2), .pointer (some a3), .pointer (some ⟨b3, 0, none⟩), .pointer (some ⟨b7, 0, none⟩)]) ca79 rfl rfl) (zas Tryd.func79 rfl Tryd.ntmps79 rfl ?_)
  refine zag <| zah (l := [0, 1, 2]) rfl <| p_v (v := .slice A2_1 m.first.length c2_1) rfl rfl rfl (zai rfl) <| p_v (v := .int .i64 (m.first.length : Int)) rfl rfl rfl (zbe u23 rfl) <| p_v (v := .int .i64 0) rfl rfl rfl (zai rfl) <| zac <| zay ?_
  have S18 : St w.heap.size w (fun _ => none) wd14 [box b1 115 (zak s), box b3 3 [.int .i64 k], box b5 115 (zak (0 : BSet)), box b7 115 (zbb .u64 (zbh (0 : BSet)))] := S15
  refine zce (S := (List Int) × Int) (fun (q_ : (List Int) × Int) ρ w' => match q_ with | (o0, q0) => ∃ (h : Ghost), Le (fun _ => none) h ∧ St w.heap.size w h w' [box b1 115 (zak s), box b3 3 [.int .i64 k], box b5 115 (zak (0 : BSet)), box b7 115 (zbb .u64 o0)] ∧ ρ 1 = .pointer (some a2) ∧ ρ 2 = .pointer (some a3) ∧ ρ 3 = .pointer (some ⟨b3, 0, none⟩) ∧ ρ 4 = .pointer (some ⟨b7, 0, none⟩) ∧ ρ 8 = .slice A2_1 m.first.length c2_1 ∧ ρ 9 = .int .i64 (m.first.length : Int) ∧ ρ 10 = .int .i64 q0 ∧ zdd .u64 4 o0 ∧ inK .i64 q0 ∧ (0 ≤ q0 ∧ q0 ≤ (m.first.length : Int) ∧ o0 = zbh (zek m (at_ b k) m.first q0 0))) (fun q_ => match q_ with | (o0, q0) => (m.first.length - q0).toNat) ((zbh (0 : BSet)), 0) ⟨(fun _ => none), Le.refl _, S18.sub [0, 1, 2, 3] (by decide) rfl _ rfl, rfl, rfl, rfl, rfl, rfl, rfl, rfl, (zc6 (0 : BSet)), (zar (by omega) (by omega)), (by exact ⟨by omega, by omega, congrArg zbh (read_0 _ _ _ _)⟩)⟩ ?_
  rintro ⟨o0, q0⟩ ih19 ρ19 w19 ⟨h19, le19, S19, r19_1, r19_2, r19_3, r19_4, r19_8, r19_9, r19_10, f19_0, f19_1, hI19⟩
  have lf19_1 := zbf f19_1; have hf19_1 := zbg f19_1
  have hq0_ := hI19.1
  have hx_ : q0 < (m.first.length : Int) → 0 ≤ at_ m.first q0 ∧ at_ m.first q0 < (m.spots.length : Int) := fun h => hR_.firsts _ (at_mem hI19.1 h)
  refine zag <| zah (l := [0]) rfl <| p_v (v := .bool (decide (q0 < (m.first.length : Int)))) rfl rfl rfl (zd6 r19_10 r19_9) <| zac <| zag ?_
  refine zau (p := q0 < (m.first.length : Int)) rfl (fun hc20 => ?_) (fun hc20 => ?_)
  ·skip
   refine za6 <| zag <| zay <| zag <| zah (l := [0, 1, 2]) rfl ?_
   obtain ⟨ad21, seg21, a21, rp21, ce21⟩ := zbj (q := q0) (m := 1) l2_1 rfl (by omega) (by omega)
   refine p_v (v := .pointer (some ad21)) rfl rfl rfl (zbi u23 ty3 r19_8 r19_10 a21 (by omega) (by omega)) ?_
   obtain ⟨rfl, in21⟩ := rp21
   have lo21 := zbf in21; have hi21 := zbg in21
   refine p_v (v := .int .i64 (at_ m.first q0)) rfl rfl rfl (zam (seg := [.int .i64 (at_ m.first q0)]) ty3 rfl (by simp) rfl (CF.ghost ce21 (St.le0 S19))) <| p_v (v := .int .i64 (at_ m.first q0)) rfl rfl rfl (zaj rfl) <| zac <| zag ?_
   obtain ⟨ad23, seg23, a23, rp23, ce23⟩ := zbj (q := at_ m.first q0) (m := 5) l2_0 rfl (by omega) (by omega)
   obtain ⟨rfl, ok23⟩ := rp23
   have slook23 := u8_lo ok23; have shiok23 := u8_hi ok23
   obtain ⟨ad25, seg25, a25, rp25, ce25⟩ := zbj (q := k) (m := 1) l3 rfl (by omega) (by omega)
   obtain ⟨rfl, in25⟩ := rp25
   have lo25 := u8_lo in25; have hi25 := u8_hi in25
   have hf27 : (CFs (a2.add 0) [.slice A2_0 m.spots.length c2_0]).1 w19 := (CF.ghost (zdt (o := 0) (m := 1) (ds := [.slice A2_0 m.spots.length c2_0]) pc2 rfl) (St.le0 S19))
   have hf28 : (CFs (ad23.add 0) (zak ((at_ m.spots (at_ m.first q0)).set))).1 w19 := (CF.ghost (zdt (o := 0) (m := 4) (ds := (zak ((at_ m.spots (at_ m.first q0)).set))) ce23 rfl) (St.le0 S19))
   have hf29 : (CFs a3 [.slice A3 b.length c3]).1 w19 := (CF.ghost pc3 (St.le0 S19))
   have hf30 : (CFs ⟨b3, 0, none⟩ [.int .i64 k]).1 w19 := (CF.box (m := 1) (S19.box_at (j := 1) rfl) rfl)
   have hf31 : (CFs ad25 [.int .u8 (at_ b k)]).1 w19 := (CF.ghost ce25 (St.le0 S19))
   refine daS (hkC 1 hf27 (hkC 5 hf28 (hkC 6 hf29 (hkC 7 hf30 (hkC 9 hf31 (hkN (w := w19))))))) 11 rfl mixed ?_
   intro wd32 gd32 hd32
   have S33 := S19.keep gd32
   have hf34 := spUp gd32 hf27
   have hf35 := spUp gd32 hf28
   have hf36 := spUp gd32 hf29
   have hf37 := spUp gd32 hf30
   have hf38 := spUp gd32 hf31
   refine qd0 (i := 0) (v := .pointer (some (a2.add 0))) rfl (by decide +kernel) rfl rfl (zc5 fd27_0 ty22 rfl r19_1) (zan rfl) <| qd1 0 (i := 1) (v := .slice A2_0 m.spots.length c2_0) rfl rfl (by decide +kernel) rfl rfl (fun wq hq => (zam (seg := [.slice A2_0 m.spots.length c2_0]) ty22 rfl (by simp) rfl hq)) (zbm hf34 (zan rfl)) <| qd0 (i := 2) (v := .int .i64 (at_ m.first q0)) rfl (by decide +kernel) rfl rfl (zai rfl) (zan rfl) <| qd0 (i := 3) (v := .pointer (some ad23)) rfl (by decide +kernel) rfl rfl (zbi u22 ty101 rfl rfl a23 (by omega) (by omega)) (zan rfl) <| qd0 (i := 4) (v := .pointer (some (ad23.add 0))) rfl (by decide +kernel) rfl rfl (zc5 fd101_0 ty74 rfl rfl) (zan rfl) <| qd1 1 (i := 5) (v := .agg (zak ((at_ m.spots (at_ m.first q0)).set)).toArray) rfl rfl (by decide +kernel) rfl rfl (fun wq hq => (zam (seg := (zak ((at_ m.spots (at_ m.first q0)).set))) ty74 rfl (by simp) rfl hq)) (za8 rfl (zbm hf35 (zan rfl))) <| qd1 2 (i := 6) (v := .slice A3 b.length c3) rfl rfl (by decide +kernel) rfl rfl (fun wq hq => (zam (seg := [.slice A3 b.length c3]) ty39 rfl (by simp) r19_2 hq)) (za8 rfl (za8 rfl (zbm hf36 (zan rfl)))) <| qd1 3 (i := 7) (v := .int .i64 k) rfl rfl (by decide +kernel) rfl rfl (fun wq hq => (zam (seg := [.int .i64 k]) ty3 rfl (by simp) r19_3 hq)) (za8 rfl (za8 rfl (za8 rfl (zbm hf37 (zan rfl))))) <| qd0 (i := 8) (v := .pointer (some ad25)) rfl (by decide +kernel) rfl rfl (zbi u39 ty5 rfl rfl a25 (by omega) (by omega)) (zan rfl) <| qd1 4 (i := 9) (v := .int .u8 (at_ b k)) rfl rfl (by decide +kernel) rfl rfl (fun wq hq => (zam (seg := [.int .u8 (at_ b k)]) ty5 rfl (by simp) rfl hq)) (za8 rfl (za8 rfl (za8 rfl (za8 rfl (zbm hf38 (zan rfl)))))) <| d_m (i := 10) (v := .bool (has ((at_ m.spots (at_ m.first q0)).set) (at_ b k))) (fun _ => True) (fun _ ho => trivial) rfl (by decide +kernel) (by decide +kernel) (by decide +kernel) rfl rfl (fun wq => (zba (args := [.agg (zak ((at_ m.spots (at_ m.first q0)).set)).toArray, .int .u8 (at_ b k)]) ca80 rfl rfl)) (fun wq hq => (has_calls wq ((at_ m.spots (at_ m.first q0)).set) (at_ b k) (in_u8 (by omega) (by omega))).mono fun e w2 he => by obtain ⟨_, rfl, _, T, rfl⟩ := he; exact ⟨rfl, Chg.of_below T.below⟩) (zan rfl) <| zcb (by decide +kernel) ?_
   intro wd39 gd39
   have S40 := S33.keep gd39
   refine zci (b := has ((at_ m.spots (at_ m.first q0)).set) (at_ b k)) rfl (fun hc41 => ?_) (fun hc41 => ?_)
   ·skip
    refine zah (l := [0, 1]) rfl <| p_v (v := .int .i64 (at_ m.first q0)) rfl rfl rfl (zai rfl) ?_
    refine p_i rfl rfl rfl (zba (args := [.pointer (some ⟨b7, 0, none⟩), .int .i64 (at_ m.first q0)]) ca81 rfl (zd5 r19_4 (zd5 rfl rfl))) (zas Tryd.func81 rfl Tryd.ntmps81 rfl ?_)
    have in42 := zcv f19_0 (i := (at_ m.first q0) / 64) (by omega) (by omega)
    have lo42 := zcx in42; have hi42 := zc2 in42
    have in43 := pow_in (b := (at_ m.first q0) % 64) (by omega) (by omega)
    have lo43 := zcx in43; have hi43 := zc2 in43
    have in44 : inK .u64 (ior (at_ o0 ((at_ m.first q0) / 64)) (2 ^ ((at_ m.first q0) % 64).toNat)) := ior_in (zdg (by omega) (by omega)) (zdg (by omega) (by omega))
    have lo44 := zcx in44; have hi44 := zc2 in44
    have hf45 : (CFs ⟨b7, 0 + ((at_ m.first q0) / 64).toNat * 1, none⟩ [.int .u64 (at_ o0 ((at_ m.first q0) / 64))]).1 wd39 := (CF.box (m := 1) (S40.box_at (j := 3) rfl) (cs := (zbb .u64 o0)) (zdo f19_0 (by omega) (by omega)))
    refine daS (hkC 5 hf45 (hkN (w := wd39))) 13 rfl mixed ?_
    intro wd46 gd46 hd46
    have S47 := S40.keep gd46
    have hf48 := spUp gd46 hf45
    refine qd0 (i := 0) (v := .pointer (some ⟨b7, 0, none⟩)) rfl (by decide +kernel) rfl rfl (zai rfl) (zan rfl) <| qd0 (i := 1) (v := .int .i64 (at_ m.first q0)) rfl (by decide +kernel) rfl rfl (zai rfl) (zan rfl) <| qd0 (i := 2) (v := .int .i64 ((at_ m.first q0) / 64)) rfl (by decide +kernel) rfl rfl (x_quo rfl rfl (by omega) (by omega) (zar (by omega) (by omega))) (zan rfl) <| qd0 (i := 3) (v := .pointer (some ⟨b7, 0, none⟩)) rfl (by decide +kernel) rfl rfl (zbt rfl) (zan rfl) <| qd0 (i := 4) (v := .pointer (some ⟨b7, 0 + ((at_ m.first q0) / 64).toNat * 1, none⟩)) rfl (by decide +kernel) rfl rfl (zbq u115 ty56 rfl rfl (by omega) (by omega)) (zan rfl) <| qd1 0 (i := 5) (v := .int .u64 (at_ o0 ((at_ m.first q0) / 64))) rfl rfl (by decide +kernel) rfl rfl (fun wq hq => (zam (seg := [.int .u64 (at_ o0 ((at_ m.first q0) / 64))]) ty56 rfl (by simp) rfl hq)) (zbm hf48 (of_nil _ _)) <| qd0 (i := 6) (v := .int .i64 (at_ m.first q0)) rfl (by decide +kernel) rfl rfl (zai rfl) (zan rfl) <| qd0 (i := 7) (v := .int .i64 ((at_ m.first q0) % 64)) rfl (by decide +kernel) rfl rfl (x_rem rfl rfl (by omega) (by omega)) (zan rfl) <| qd0 (i := 8) (v := .int .u64 (2 ^ ((at_ m.first q0) % 64).toNat)) rfl (by decide +kernel) rfl rfl (x_shl_one rfl rfl (by omega) (by omega)) (zan rfl) <| qd0 (i := 9) (v := .int .u64 (ior (at_ o0 ((at_ m.first q0) / 64)) (2 ^ ((at_ m.first q0) % 64).toNat))) rfl (by decide +kernel) rfl rfl (x_or_u64 rfl rfl (zdg (by omega) (by omega)) (zdg (by omega) (by omega))) (zan rfl) <| qd0 (i := 10) (v := .pointer (some ⟨b7, 0, none⟩)) rfl (by decide +kernel) rfl rfl (zbt rfl) (zan rfl) <| qd0 (i := 11) (v := .pointer (some ⟨b7, 0 + ((at_ m.first q0) / 64).toNat * 1, none⟩)) rfl (by decide +kernel) rfl rfl (zbq u115 ty56 rfl rfl (by omega) (by omega)) (zan rfl) ?_
    refine zbo (i := 12) (by decide +kernel) ?_
    intro wd49 gd49
    have S50 := S47.keep gd49
    have hf51 := spUp gd49 hf48
    obtain ⟨w52, r52, g52, T52⟩ := zcj (P := Tryd.prog) (off := 0 + ((at_ m.first q0) / 64).toNat * 1) (v := .int .u64 (ior (at_ o0 ((at_ m.first q0) / 64)) (2 ^ ((at_ m.first q0) % 64).toNat))) (vs := [.int .u64 (ior (at_ o0 ((at_ m.first q0) / 64)) (2 ^ ((at_ m.first q0) % 64).toNat))]) S50 ty56 rfl rfl (j := 3) rfl (by rw [zd4 f19_0]; first|omega|(simp;omega)|assumption|simp) (by simp [Value.oneCell'])
    rw [encInts_put] at T52
    have ok52 : zdd .u64 4 (o0.set ((at_ m.first q0) / 64).toNat (ior (at_ o0 ((at_ m.first q0) / 64)) (2 ^ ((at_ m.first q0) % 64).toNat))) := zem f19_0 _ in44
    have S53 := T52.fx 3 (box b7 115 (zbb .u64 (o0.set ((at_ m.first q0) / 64).toNat (ior (at_ o0 ((at_ m.first q0) / 64)) (2 ^ ((at_ m.first q0) % 64).toNat))))) rfl
    dsimp only [lAa, lAn, lA0, lAs] at S53
    refine d_s rfl rfl (za2 rfl rfl r52) (.inr (za1 (by decide +kernel) trivial)) <| zcb (by decide +kernel) ?_
    intro wd54 gd54
    have S55 := S53.keep gd54
    refine run_end Tryd.func81 (res0 rfl) ?_
    refine ⟨_, rfl, ?_⟩
    refine zac <| za3 <| zah (l := [0, 1]) rfl <| p_v (v := .int .i64 (q0 + 1)) rfl rfl rfl (zdj r19_10 rfl (zar (by omega) (by omega))) <| p_v (v := .int .i64 (q0 + 1)) rfl rfl rfl (zai rfl) <| zac ?_
    refine ih19 (o0.set ((at_ m.first q0) / 64).toNat (ior (at_ o0 ((at_ m.first q0) / 64)) (2 ^ ((at_ m.first q0) % 64).toNat)), q0 + 1) _ _ (by dsimp only; omega) ⟨h19, le19, S55.sub [0, 1, 2, 3] (by decide) rfl _ rfl, r19_1, r19_2, r19_3, r19_4, r19_8, r19_9, rfl, ok52, (zar (by omega) (by omega)), (by first | exact ⟨by omega, by omega, by rw [hI19.2.2, putB_words _ (hx_ (by omega)).1 (by have := hx_ (by omega); omega), read_yes hI19.1 (by omega) (by assumption)]⟩ | exact ⟨by omega, by omega, by rw [hI19.2.2, read_no hI19.1 (by omega) (by assumption)]⟩)⟩
   refine za6 <| za3 <| zah (l := [0, 1]) rfl <| p_v (v := .int .i64 (q0 + 1)) rfl rfl rfl (zdj r19_10 rfl (zar (by omega) (by omega))) <| p_v (v := .int .i64 (q0 + 1)) rfl rfl rfl (zai rfl) <| zac ?_
   refine ih19 (o0, q0 + 1) _ _ (by dsimp only; omega) ⟨h19, le19, S40.sub [0, 1, 2, 3] (by decide) rfl _ rfl, r19_1, r19_2, r19_3, r19_4, r19_8, r19_9, rfl, f19_0, (zar (by omega) (by omega)), (by first | exact ⟨by omega, by omega, by rw [hI19.2.2, putB_words _ (hx_ (by omega)).1 (by have := hx_ (by omega); omega), read_yes hI19.1 (by omega) (by assumption)]⟩ | exact ⟨by omega, by omega, by rw [hI19.2.2, read_no hI19.1 (by omega) (by assumption)]⟩)⟩
  refine zcf rfl <| run_end Tryd.func79 (res0 rfl) ?_
  refine ⟨_, rfl, ?_⟩
  refine zac <| zag <| zag <| zah (l := [0, 1, 2, 3]) rfl <| p_v (v := .pointer (some (a2.add 0))) rfl rfl rfl (zc5 fd27_0 ty22 rfl rfl) <| p_v (v := .slice A2_0 m.spots.length c2_0) rfl rfl rfl (zam (seg := [.slice A2_0 m.spots.length c2_0]) ty22 rfl (by simp) rfl (CF.ghost (zdt (o := 0) (m := 1) (ds := [.slice A2_0 m.spots.length c2_0]) pc2 rfl) (St.le0 S19))) <| p_v (v := .int .i64 (m.spots.length : Int)) rfl rfl rfl (zbe u22 rfl) <| p_v (v := .int .i64 0) rfl rfl rfl (zai rfl) <| zac <| zay <| zce (S := (List Int) × Int) (fun (q_ : (List Int) × Int) ρ w' => match q_ with | (out, t21) => ∃ (h : Ghost), Le h19 h ∧ St w.heap.size w h w' [box b1 115 (zak s), box b3 3 [.int .i64 k], box b5 115 (zak (0 : BSet)), box b7 115 (zbb .u64 out)] ∧ ρ 2 = .pointer (some a2) ∧ ρ 4 = .pointer (some ⟨b1, 0, none⟩) ∧ ρ 6 = .pointer (some ⟨b5, 0, none⟩) ∧ ρ 7 = .pointer (some ⟨b7, 0, none⟩) ∧ ρ 8 = .func (.func 79) #[] #[.pointer (some a2), .pointer (some a3), .pointer (some ⟨b3, 0, none⟩), .pointer (some ⟨b7, 0, none⟩)] ∧ ρ 20 = .int .i64 (m.spots.length : Int) ∧ ρ 21 = .int .i64 t21 ∧ zdd .u64 4 out ∧ inK .i64 t21 ∧ (0 ≤ t21 ∧ t21 ≤ (m.spots.length : Int) ∧ out = zbh (outTo m (at_ b k) s t21 (if s = beginB then rowIn m (at_ b k) m.first 0 else 0)))) (fun q_ => match q_ with | (out, t21) => (m.spots.length - t21).toNat) (o0, 0) ⟨h19, Le.refl _, S19.sub [0, 1, 2, 3] (by decide) rfl _ rfl, rfl, rfl, rfl, rfl, rfl, rfl, rfl, f19_0, (zar (by omega) (by omega)), (by first | exact ⟨by omega, by omega, by rw [hI19.2.2, read_end (by omega), if_pos (by assumption)]; exact congrArg zbh (out_0 _ _ _ _)⟩ | exact ⟨by omega, by omega, by rw [if_neg (by assumption)]; exact congrArg zbh (out_0 _ _ _ _)⟩)⟩ ?_
  rintro ⟨out, t21⟩ ih57 ρ57 w57 ⟨h57, le57, S57, r57_2, r57_4, r57_6, r57_7, r57_8, r57_20, r57_21, f57_0, f57_1, hI57⟩
  have lf57_1 := zbf f57_1; have hf57_1 := zbg f57_1
  have hi0_ := hI57.1
  refine zag <| zah (l := [0]) rfl <| p_v (v := .bool (decide (t21 < (m.spots.length : Int)))) rfl rfl rfl (zd6 r57_21 r57_20) <| zac <| zag ?_
  refine zau (p := t21 < (m.spots.length : Int)) rfl (fun hc58 => ?_) (fun hc58 => ?_)
  ·skip
   refine za6 <| zag <| zay <| zag <| zah (l := [0, 1]) rfl <| p_v (v := .int .i64 t21) rfl rfl rfl (zai r57_21) <| p_v (v := .int .i64 t21) rfl rfl rfl (zaj rfl) <| zac <| zag <| zah (l := [0, 1, 2]) rfl <| p_v (v := .agg (zak s).toArray) rfl rfl rfl (zam (seg := (zak s)) zee rfl (by simp) r57_4 (CF.box (m := 4) (S57.box_at (j := 0) rfl) rfl)) <| p_v (v := .int .i64 t21) rfl rfl rfl (zai rfl) ?_
   refine p_c rfl rfl rfl (zba (args := [.agg (zak s).toArray, .int .i64 t21]) ca83 rfl rfl) (dhas_calls w57 s t21 f57_1 (by first | assumption | exact ⟨by omega, by omega⟩)) ?_
   rintro _ w59 ⟨h59, T59, rfl⟩
   have S60 := S57.keep (Chg.of_below T59.below)
   refine zac ?_
   refine zci (b := has s t21) rfl (fun hc61 => ?_) (fun hc61 => ?_)
   ·skip
    refine zah (l := [0, 1, 2, 3, 4, 5, 6]) rfl <| p_v (v := .func (.func 79) #[] #[.pointer (some a2), .pointer (some a3), .pointer (some ⟨b3, 0, none⟩), .pointer (some ⟨b7, 0, none⟩)]) rfl rfl rfl (zai r57_8) <| p_v (v := .pointer (some (a2.add 2))) rfl rfl rfl (zc5 fd27_2 ty24 rfl r57_2) <| p_v (v := .slice A2_2 m.follow.length c2_2) rfl rfl rfl (zam (seg := [.slice A2_2 m.follow.length c2_2]) ty24 rfl (by simp) rfl (CF.ghost (zdt (o := 2) (m := 1) (ds := [.slice A2_2 m.follow.length c2_2]) pc2 rfl) (St.le0 S60))) <| p_v (v := .int .i64 t21) rfl rfl rfl (zai rfl) ?_
    obtain ⟨ad63, seg63, a63, rp63, ce63⟩ := zbj (q := t21) (m := 1) l2_2 rfl (by omega) (by omega)
    refine p_v (v := .pointer (some ad63)) rfl rfl rfl (zbi u24 ty23 rfl rfl a63 (by omega) (by omega)) ?_
    obtain ⟨A63, c63, rfl, lc63, cm63, ld63⟩ := rp63
    have cn63 := cm63; simp only [maxLen] at cn63
    refine p_v (v := .slice A63 (at_ m.follow t21).length c63) rfl rfl rfl (zam (seg := [.slice A63 (at_ m.follow t21).length c63]) ty23 rfl (by simp) rfl (CF.ghost ce63 (St.le0 S60))) ?_
    refine p_i rfl rfl rfl (zba (args := [.slice A63 (at_ m.follow t21).length c63, .pointer (some a2), .pointer (some a3), .pointer (some ⟨b3, 0, none⟩), .pointer (some ⟨b7, 0, none⟩)]) ca79 rfl rfl) (zas Tryd.func79 rfl Tryd.ntmps79 rfl ?_)
    refine zag <| zah (l := [0, 1, 2]) rfl <| p_v (v := .slice A63 (at_ m.follow t21).length c63) rfl rfl rfl (zai rfl) <| p_v (v := .int .i64 ((at_ m.follow t21).length : Int)) rfl rfl rfl (zbe u23 rfl) <| p_v (v := .int .i64 0) rfl rfl rfl (zai rfl) <| zac <| zay <| zce (S := (List Int) × Int) (fun (q_ : (List Int) × Int) ρ w' => match q_ with | (o2, q2) => ∃ (h : Ghost), Le h57 h ∧ St w.heap.size w h w' [box b1 115 (zak s), box b3 3 [.int .i64 k], box b5 115 (zak (0 : BSet)), box b7 115 (zbb .u64 o2)] ∧ ρ 1 = .pointer (some a2) ∧ ρ 2 = .pointer (some a3) ∧ ρ 3 = .pointer (some ⟨b3, 0, none⟩) ∧ ρ 4 = .pointer (some ⟨b7, 0, none⟩) ∧ ρ 8 = .slice A63 (at_ m.follow t21).length c63 ∧ ρ 9 = .int .i64 ((at_ m.follow t21).length : Int) ∧ ρ 10 = .int .i64 q2 ∧ zdd .u64 4 o2 ∧ inK .i64 q2 ∧ (0 ≤ q2 ∧ q2 ≤ ((at_ m.follow t21).length : Int) ∧ o2 = zbh (zek m (at_ b k) (at_ m.follow t21) q2 (outTo m (at_ b k) s t21 (if s = beginB then rowIn m (at_ b k) m.first 0 else 0))))) (fun q_ => match q_ with | (o2, q2) => ((at_ m.follow t21).length - q2).toNat) (out, 0) ⟨h57, Le.refl _, S60.sub [0, 1, 2, 3] (by decide) rfl _ rfl, rfl, rfl, rfl, rfl, rfl, rfl, rfl, f57_0, (zar (by omega) (by omega)), (by exact ⟨by omega, by omega, by rw [hI57.2.2]; exact congrArg zbh (read_0 _ _ _ _)⟩)⟩ ?_
    rintro ⟨o2, q2⟩ ih64 ρ64 w64 ⟨h64, le64, S64, r64_1, r64_2, r64_3, r64_4, r64_8, r64_9, r64_10, f64_0, f64_1, hI64⟩
    have lf64_1 := zbf f64_1; have hf64_1 := zbg f64_1
    have hq2_ := hI64.1
    have hx_ : q2 < ((at_ m.follow t21).length : Int) → 0 ≤ at_ (at_ m.follow t21) q2 ∧ at_ (at_ m.follow t21) q2 < (m.spots.length : Int) := fun h => hR_.rows hI57.1 (by omega) _ (at_mem hI64.1 h)
    refine zag <| zah (l := [0]) rfl <| p_v (v := .bool (decide (q2 < ((at_ m.follow t21).length : Int)))) rfl rfl rfl (zd6 r64_10 r64_9) <| zac <| zag ?_
    refine zau (p := q2 < ((at_ m.follow t21).length : Int)) rfl (fun hc65 => ?_) (fun hc65 => ?_)
    ·skip
     refine za6 <| zag <| zay <| zag <| zah (l := [0, 1, 2]) rfl ?_
     obtain ⟨ad66, seg66, a66, rp66, ce66⟩ := zbj (q := q2) (m := 1) ld63 rfl (by omega) (by omega)
     refine p_v (v := .pointer (some ad66)) rfl rfl rfl (zbi u23 ty3 r64_8 r64_10 a66 (by omega) (by omega)) ?_
     obtain ⟨rfl, in66⟩ := rp66
     have lo66 := zbf in66; have hi66 := zbg in66
     refine p_v (v := .int .i64 (at_ (at_ m.follow t21) q2)) rfl rfl rfl (zam (seg := [.int .i64 (at_ (at_ m.follow t21) q2)]) ty3 rfl (by simp) rfl (CF.ghost ce66 (St.le0 S64))) <| p_v (v := .int .i64 (at_ (at_ m.follow t21) q2)) rfl rfl rfl (zaj rfl) <| zac <| zag ?_
     obtain ⟨ad68, seg68, a68, rp68, ce68⟩ := zbj (q := at_ (at_ m.follow t21) q2) (m := 5) l2_0 rfl (by omega) (by omega)
     obtain ⟨rfl, ok68⟩ := rp68
     have slook68 := u8_lo ok68; have shiok68 := u8_hi ok68
     obtain ⟨ad70, seg70, a70, rp70, ce70⟩ := zbj (q := k) (m := 1) l3 rfl (by omega) (by omega)
     obtain ⟨rfl, in70⟩ := rp70
     have lo70 := u8_lo in70; have hi70 := u8_hi in70
     have hf72 : (CFs (a2.add 0) [.slice A2_0 m.spots.length c2_0]).1 w64 := (CF.ghost (zdt (o := 0) (m := 1) (ds := [.slice A2_0 m.spots.length c2_0]) pc2 rfl) (St.le0 S64))
     have hf73 : (CFs (ad68.add 0) (zak ((at_ m.spots (at_ (at_ m.follow t21) q2)).set))).1 w64 := (CF.ghost (zdt (o := 0) (m := 4) (ds := (zak ((at_ m.spots (at_ (at_ m.follow t21) q2)).set))) ce68 rfl) (St.le0 S64))
     have hf74 : (CFs a3 [.slice A3 b.length c3]).1 w64 := (CF.ghost pc3 (St.le0 S64))
     have hf75 : (CFs ⟨b3, 0, none⟩ [.int .i64 k]).1 w64 := (CF.box (m := 1) (S64.box_at (j := 1) rfl) rfl)
     have hf76 : (CFs ad70 [.int .u8 (at_ b k)]).1 w64 := (CF.ghost ce70 (St.le0 S64))
     refine daS (hkC 1 hf72 (hkC 5 hf73 (hkC 6 hf74 (hkC 7 hf75 (hkC 9 hf76 (hkN (w := w64))))))) 11 rfl mixed ?_
     intro wd77 gd77 hd77
     have S78 := S64.keep gd77
     have hf79 := spUp gd77 hf72
     have hf80 := spUp gd77 hf73
     have hf81 := spUp gd77 hf74
     have hf82 := spUp gd77 hf75
     have hf83 := spUp gd77 hf76
     refine qd0 (i := 0) (v := .pointer (some (a2.add 0))) rfl (by decide +kernel) rfl rfl (zc5 fd27_0 ty22 rfl r64_1) (zan rfl) <| qd1 0 (i := 1) (v := .slice A2_0 m.spots.length c2_0) rfl rfl (by decide +kernel) rfl rfl (fun wq hq => (zam (seg := [.slice A2_0 m.spots.length c2_0]) ty22 rfl (by simp) rfl hq)) (zbm hf79 (zan rfl)) <| qd0 (i := 2) (v := .int .i64 (at_ (at_ m.follow t21) q2)) rfl (by decide +kernel) rfl rfl (zai rfl) (zan rfl) <| qd0 (i := 3) (v := .pointer (some ad68)) rfl (by decide +kernel) rfl rfl (zbi u22 ty101 rfl rfl a68 (by omega) (by omega)) (zan rfl) <| qd0 (i := 4) (v := .pointer (some (ad68.add 0))) rfl (by decide +kernel) rfl rfl (zc5 fd101_0 ty74 rfl rfl) (zan rfl) <| qd1 1 (i := 5) (v := .agg (zak ((at_ m.spots (at_ (at_ m.follow t21) q2)).set)).toArray) rfl rfl (by decide +kernel) rfl rfl (fun wq hq => (zam (seg := (zak ((at_ m.spots (at_ (at_ m.follow t21) q2)).set))) ty74 rfl (by simp) rfl hq)) (za8 rfl (zbm hf80 (zan rfl))) <| qd1 2 (i := 6) (v := .slice A3 b.length c3) rfl rfl (by decide +kernel) rfl rfl (fun wq hq => (zam (seg := [.slice A3 b.length c3]) ty39 rfl (by simp) r64_2 hq)) (za8 rfl (za8 rfl (zbm hf81 (zan rfl)))) <| qd1 3 (i := 7) (v := .int .i64 k) rfl rfl (by decide +kernel) rfl rfl (fun wq hq => (zam (seg := [.int .i64 k]) ty3 rfl (by simp) r64_3 hq)) (za8 rfl (za8 rfl (za8 rfl (zbm hf82 (zan rfl))))) <| qd0 (i := 8) (v := .pointer (some ad70)) rfl (by decide +kernel) rfl rfl (zbi u39 ty5 rfl rfl a70 (by omega) (by omega)) (zan rfl) <| qd1 4 (i := 9) (v := .int .u8 (at_ b k)) rfl rfl (by decide +kernel) rfl rfl (fun wq hq => (zam (seg := [.int .u8 (at_ b k)]) ty5 rfl (by simp) rfl hq)) (za8 rfl (za8 rfl (za8 rfl (za8 rfl (zbm hf83 (zan rfl)))))) <| d_m (i := 10) (v := .bool (has ((at_ m.spots (at_ (at_ m.follow t21) q2)).set) (at_ b k))) (fun _ => True) (fun _ ho => trivial) rfl (by decide +kernel) (by decide +kernel) (by decide +kernel) rfl rfl (fun wq => (zba (args := [.agg (zak ((at_ m.spots (at_ (at_ m.follow t21) q2)).set)).toArray, .int .u8 (at_ b k)]) ca80 rfl rfl)) (fun wq hq => (has_calls wq ((at_ m.spots (at_ (at_ m.follow t21) q2)).set) (at_ b k) (in_u8 (by omega) (by omega))).mono fun e w2 he => by obtain ⟨_, rfl, _, T, rfl⟩ := he; exact ⟨rfl, Chg.of_below T.below⟩) (zan rfl) <| zcb (by decide +kernel) ?_
     intro wd84 gd84
     have S85 := S78.keep gd84
     refine zci (b := has ((at_ m.spots (at_ (at_ m.follow t21) q2)).set) (at_ b k)) rfl (fun hc86 => ?_) (fun hc86 => ?_)
     ·skip
      refine zah (l := [0, 1]) rfl <| p_v (v := .int .i64 (at_ (at_ m.follow t21) q2)) rfl rfl rfl (zai rfl) ?_
      refine p_i rfl rfl rfl (zba (args := [.pointer (some ⟨b7, 0, none⟩), .int .i64 (at_ (at_ m.follow t21) q2)]) ca81 rfl (zd5 r64_4 (zd5 rfl rfl))) (zas Tryd.func81 rfl Tryd.ntmps81 rfl ?_)
      have in87 := zcv f64_0 (i := (at_ (at_ m.follow t21) q2) / 64) (by omega) (by omega)
      have lo87 := zcx in87; have hi87 := zc2 in87
      have in88 := pow_in (b := (at_ (at_ m.follow t21) q2) % 64) (by omega) (by omega)
      have lo88 := zcx in88; have hi88 := zc2 in88
      have in89 : inK .u64 (ior (at_ o2 ((at_ (at_ m.follow t21) q2) / 64)) (2 ^ ((at_ (at_ m.follow t21) q2) % 64).toNat)) := ior_in (zdg (by omega) (by omega)) (zdg (by omega) (by omega))
      have lo89 := zcx in89; have hi89 := zc2 in89
      have hf90 : (CFs ⟨b7, 0 + ((at_ (at_ m.follow t21) q2) / 64).toNat * 1, none⟩ [.int .u64 (at_ o2 ((at_ (at_ m.follow t21) q2) / 64))]).1 wd84 := (CF.box (m := 1) (S85.box_at (j := 3) rfl) (cs := (zbb .u64 o2)) (zdo f64_0 (by omega) (by omega)))
      refine daS (hkC 5 hf90 (hkN (w := wd84))) 13 rfl mixed ?_
      intro wd91 gd91 hd91
      have S92 := S85.keep gd91
      have hf93 := spUp gd91 hf90
      refine qd0 (i := 0) (v := .pointer (some ⟨b7, 0, none⟩)) rfl (by decide +kernel) rfl rfl (zai rfl) (zan rfl) <| qd0 (i := 1) (v := .int .i64 (at_ (at_ m.follow t21) q2)) rfl (by decide +kernel) rfl rfl (zai rfl) (zan rfl) <| qd0 (i := 2) (v := .int .i64 ((at_ (at_ m.follow t21) q2) / 64)) rfl (by decide +kernel) rfl rfl (x_quo rfl rfl (by omega) (by omega) (zar (by omega) (by omega))) (zan rfl) <| qd0 (i := 3) (v := .pointer (some ⟨b7, 0, none⟩)) rfl (by decide +kernel) rfl rfl (zbt rfl) (zan rfl) <| qd0 (i := 4) (v := .pointer (some ⟨b7, 0 + ((at_ (at_ m.follow t21) q2) / 64).toNat * 1, none⟩)) rfl (by decide +kernel) rfl rfl (zbq u115 ty56 rfl rfl (by omega) (by omega)) (zan rfl) <| qd1 0 (i := 5) (v := .int .u64 (at_ o2 ((at_ (at_ m.follow t21) q2) / 64))) rfl rfl (by decide +kernel) rfl rfl (fun wq hq => (zam (seg := [.int .u64 (at_ o2 ((at_ (at_ m.follow t21) q2) / 64))]) ty56 rfl (by simp) rfl hq)) (zbm hf93 (of_nil _ _)) <| qd0 (i := 6) (v := .int .i64 (at_ (at_ m.follow t21) q2)) rfl (by decide +kernel) rfl rfl (zai rfl) (zan rfl) <| qd0 (i := 7) (v := .int .i64 ((at_ (at_ m.follow t21) q2) % 64)) rfl (by decide +kernel) rfl rfl (x_rem rfl rfl (by omega) (by omega)) (zan rfl) <| qd0 (i := 8) (v := .int .u64 (2 ^ ((at_ (at_ m.follow t21) q2) % 64).toNat)) rfl (by decide +kernel) rfl rfl (x_shl_one rfl rfl (by omega) (by omega)) (zan rfl) <| qd0 (i := 9) (v := .int .u64 (ior (at_ o2 ((at_ (at_ m.follow t21) q2) / 64)) (2 ^ ((at_ (at_ m.follow t21) q2) % 64).toNat))) rfl (by decide +kernel) rfl rfl (x_or_u64 rfl rfl (zdg (by omega) (by omega)) (zdg (by omega) (by omega))) (zan rfl) <| qd0 (i := 10) (v := .pointer (some ⟨b7, 0, none⟩)) rfl (by decide +kernel) rfl rfl (zbt rfl) (zan rfl) <| qd0 (i := 11) (v := .pointer (some ⟨b7, 0 + ((at_ (at_ m.follow t21) q2) / 64).toNat * 1, none⟩)) rfl (by decide +kernel) rfl rfl (zbq u115 ty56 rfl rfl (by omega) (by omega)) (zan rfl) ?_
      refine zbo (i := 12) (by decide +kernel) ?_
      intro wd94 gd94
      have S95 := S92.keep gd94
      have hf96 := spUp gd94 hf93
      obtain ⟨w97, r97, g97, T97⟩ := zcj (P := Tryd.prog) (off := 0 + ((at_ (at_ m.follow t21) q2) / 64).toNat * 1) (v := .int .u64 (ior (at_ o2 ((at_ (at_ m.follow t21) q2) / 64)) (2 ^ ((at_ (at_ m.follow t21) q2) % 64).toNat))) (vs := [.int .u64 (ior (at_ o2 ((at_ (at_ m.follow t21) q2) / 64)) (2 ^ ((at_ (at_ m.follow t21) q2) % 64).toNat))]) S95 ty56 rfl rfl (j := 3) rfl (by rw [zd4 f64_0]; first|omega|(simp;omega)|assumption|simp) (by simp [Value.oneCell'])
      rw [encInts_put] at T97
      have ok97 : zdd .u64 4 (o2.set ((at_ (at_ m.follow t21) q2) / 64).toNat (ior (at_ o2 ((at_ (at_ m.follow t21) q2) / 64)) (2 ^ ((at_ (at_ m.follow t21) q2) % 64).toNat))) := zem f64_0 _ in89
      have S98 := T97.fx 3 (box b7 115 (zbb .u64 (o2.set ((at_ (at_ m.follow t21) q2) / 64).toNat (ior (at_ o2 ((at_ (at_ m.follow t21) q2) / 64)) (2 ^ ((at_ (at_ m.follow t21) q2) % 64).toNat))))) rfl
      dsimp only [lAa, lAn, lA0, lAs] at S98
      refine d_s rfl rfl (za2 rfl rfl r97) (.inr (za1 (by decide +kernel) trivial)) <| zcb (by decide +kernel) ?_
      intro wd99 gd99
      have S100 := S98.keep gd99
      refine run_end Tryd.func81 (res0 rfl) ?_
      refine ⟨_, rfl, ?_⟩
      refine zac <| za3 <| zah (l := [0, 1]) rfl <| p_v (v := .int .i64 (q2 + 1)) rfl rfl rfl (zdj r64_10 rfl (zar (by omega) (by omega))) <| p_v (v := .int .i64 (q2 + 1)) rfl rfl rfl (zai rfl) <| zac ?_
      refine ih64 (o2.set ((at_ (at_ m.follow t21) q2) / 64).toNat (ior (at_ o2 ((at_ (at_ m.follow t21) q2) / 64)) (2 ^ ((at_ (at_ m.follow t21) q2) % 64).toNat)), q2 + 1) _ _ (by dsimp only; omega) ⟨h64, le64, S100.sub [0, 1, 2, 3] (by decide) rfl _ rfl, r64_1, r64_2, r64_3, r64_4, r64_8, r64_9, rfl, ok97, (zar (by omega) (by omega)), (by first | exact ⟨by omega, by omega, by rw [hI64.2.2, putB_words _ (hx_ (by omega)).1 (by have := hx_ (by omega); omega), read_yes hI64.1 (by omega) (by assumption)]⟩ | exact ⟨by omega, by omega, by rw [hI64.2.2, read_no hI64.1 (by omega) (by assumption)]⟩)⟩
     refine za6 <| za3 <| zah (l := [0, 1]) rfl <| p_v (v := .int .i64 (q2 + 1)) rfl rfl rfl (zdj r64_10 rfl (zar (by omega) (by omega))) <| p_v (v := .int .i64 (q2 + 1)) rfl rfl rfl (zai rfl) <| zac ?_
     refine ih64 (o2, q2 + 1) _ _ (by dsimp only; omega) ⟨h64, le64, S85.sub [0, 1, 2, 3] (by decide) rfl _ rfl, r64_1, r64_2, r64_3, r64_4, r64_8, r64_9, rfl, f64_0, (zar (by omega) (by omega)), (by first | exact ⟨by omega, by omega, by rw [hI64.2.2, putB_words _ (hx_ (by omega)).1 (by have := hx_ (by omega); omega), read_yes hI64.1 (by omega) (by assumption)]⟩ | exact ⟨by omega, by omega, by rw [hI64.2.2, read_no hI64.1 (by omega) (by assumption)]⟩)⟩
    refine zcf rfl <| run_end Tryd.func79 (res0 rfl) ?_
    refine ⟨_, rfl, ?_⟩
    refine zac <| za3 <| zah (l := [0, 1]) rfl <| p_v (v := .int .i64 (t21 + 1)) rfl rfl rfl (zdj r57_21 rfl (zar (by omega) (by omega))) <| p_v (v := .int .i64 (t21 + 1)) rfl rfl rfl (zai rfl) <| zac ?_
    refine ih57 (o2, t21 + 1) _ _ (by dsimp only; omega) ⟨h64, ((le57).trans le64), S64.sub [0, 1, 2, 3] (by decide) rfl _ rfl, r57_2, r57_4, r57_6, r57_7, r57_8, r57_20, rfl, f64_0, (zar (by omega) (by omega)), (by first | exact ⟨by omega, by omega, by rw [hI64.2.2, read_end (by omega), out_yes hI57.1 (by assumption)]⟩ | exact ⟨by omega, by omega, by rw [hI57.2.2, out_no hI57.1 (by assumption)]⟩)⟩
   refine za6 <| za3 <| zah (l := [0, 1]) rfl <| p_v (v := .int .i64 (t21 + 1)) rfl rfl rfl (zdj r57_21 rfl (zar (by omega) (by omega))) <| p_v (v := .int .i64 (t21 + 1)) rfl rfl rfl (zai rfl) <| zac ?_
   refine ih57 (out, t21 + 1) _ _ (by dsimp only; omega) ⟨h57, le57, S60.sub [0, 1, 2, 3] (by decide) rfl _ rfl, r57_2, r57_4, r57_6, r57_7, r57_8, r57_20, rfl, f57_0, (zar (by omega) (by omega)), (by first | exact ⟨by omega, by omega, by rw [hI64.2.2, read_end (by omega), out_yes hI57.1 (by assumption)]⟩ | exact ⟨by omega, by omega, by rw [hI57.2.2, out_no hI57.1 (by assumption)]⟩)⟩
  refine zcf rfl <| zag <| zah (l := [0, 1]) rfl <| p_v (v := .agg (zak (zca out)).toArray) rfl rfl rfl (zam (seg := (zak (zca out))) zee rfl (by simp) r57_7 (CF.box (m := 4) (S57.box_at (j := 3) rfl) (by rw [← encSet_of f57_0]; exact encInts_full f57_0))) ?_
  obtain ⟨w101, r101, g101, T101⟩ := zcj (P := Tryd.prog) (off := 0) (v := .agg (zak (zca out)).toArray) (vs := (zak (zca out))) S57 zee rfl rfl (j := 2) rfl (by first | decide | exact Nat.le_of_ble_eq_true rfl) (zdz _)
  have S102 := T101.fx 2 (box b5 115 (zak (zca out))) rfl
  dsimp only [lAa, lAn, lA0, lAs] at S102
  refine p_s rfl rfl (za2 r57_6 rfl r101) <| zac <| zax Tryd.func78 (res1 rfl (zcz S102 zee r57_6 (j := 2) rfl rfl (by simp) rfl)) ?_
  have q0 : (zb9 m b s k : BSet) = (zca out) := by
   rw [hI57.2.2, of_words, nextB_eq, show t21 = (m.spots.length : Int) by omega]
  refine ⟨_, rfl, h57, ?_, ?_⟩
  · exact S102.sub [] (by decide) rfl _ rfl
  · first | rfl | (simp only [q0]; rfl) | (simp only [q0])
 refine za6 <| zag <| zag <| zah (l := [0, 1, 2, 3]) rfl <| p_v (v := .pointer (some (a2.add 0))) rfl rfl rfl (zc5 fd27_0 ty22 rfl rfl) <| p_v (v := .slice A2_0 m.spots.length c2_0) rfl rfl rfl (zam (seg := [.slice A2_0 m.spots.length c2_0]) ty22 rfl (by simp) rfl (CF.ghost (zdt (o := 0) (m := 1) (ds := [.slice A2_0 m.spots.length c2_0]) pc2 rfl) (St.le0 S15))) <| p_v (v := .int .i64 (m.spots.length : Int)) rfl rfl rfl (zbe u22 rfl) <| p_v (v := .int .i64 0) rfl rfl rfl (zai rfl) <| zac <| zay ?_
 have S104 : St w.heap.size w (fun _ => none) wd14 [box b1 115 (zak s), box b3 3 [.int .i64 k], box b5 115 (zak (0 : BSet)), box b7 115 (zbb .u64 (zbh (0 : BSet)))] := S15
 refine zce (S := (List Int) × Int) (fun (q_ : (List Int) × Int) ρ w' => match q_ with | (out, t21) => ∃ (h : Ghost), Le (fun _ => none) h ∧ St w.heap.size w h w' [box b1 115 (zak s), box b3 3 [.int .i64 k], box b5 115 (zak (0 : BSet)), box b7 115 (zbb .u64 out)] ∧ ρ 2 = .pointer (some a2) ∧ ρ 4 = .pointer (some ⟨b1, 0, none⟩) ∧ ρ 6 = .pointer (some ⟨b5, 0, none⟩) ∧ ρ 7 = .pointer (some ⟨b7, 0, none⟩) ∧ ρ 8 = .func (.func 79) #[] #[.pointer (some a2), .pointer (some a3), .pointer (some ⟨b3, 0, none⟩), .pointer (some ⟨b7, 0, none⟩)] ∧ ρ 20 = .int .i64 (m.spots.length : Int) ∧ ρ 21 = .int .i64 t21 ∧ zdd .u64 4 out ∧ inK .i64 t21 ∧ (0 ≤ t21 ∧ t21 ≤ (m.spots.length : Int) ∧ out = zbh (outTo m (at_ b k) s t21 (if s = beginB then rowIn m (at_ b k) m.first 0 else 0)))) (fun q_ => match q_ with | (out, t21) => (m.spots.length - t21).toNat) ((zbh (0 : BSet)), 0) ⟨(fun _ => none), Le.refl _, S104.sub [0, 1, 2, 3] (by decide) rfl _ rfl, rfl, rfl, rfl, rfl, rfl, rfl, rfl, (zc6 (0 : BSet)), (zar (by omega) (by omega)), (by first | exact ⟨by omega, by omega, by rw [hI19.2.2, read_end (by omega), if_pos (by assumption)]; exact congrArg zbh (out_0 _ _ _ _)⟩ | exact ⟨by omega, by omega, by rw [if_neg (by assumption)]; exact congrArg zbh (out_0 _ _ _ _)⟩)⟩ ?_
 rintro ⟨out, t21⟩ ih105 ρ105 w105 ⟨h105, le105, S105, r105_2, r105_4, r105_6, r105_7, r105_8, r105_20, r105_21, f105_0, f105_1, hI105⟩
 have lf105_1 := zbf f105_1; have hf105_1 := zbg f105_1
 have hi0_ := hI105.1
 refine zag <| zah (l := [0]) rfl <| p_v (v := .bool (decide (t21 < (m.spots.length : Int)))) rfl rfl rfl (zd6 r105_21 r105_20) <| zac <| zag ?_
 refine zau (p := t21 < (m.spots.length : Int)) rfl (fun hc106 => ?_) (fun hc106 => ?_)
 ·skip
  refine za6 <| zag <| zay <| zag <| zah (l := [0, 1]) rfl <| p_v (v := .int .i64 t21) rfl rfl rfl (zai r105_21) <| p_v (v := .int .i64 t21) rfl rfl rfl (zaj rfl) <| zac <| zag <| zah (l := [0, 1, 2]) rfl <| p_v (v := .agg (zak s).toArray) rfl rfl rfl (zam (seg := (zak s)) zee rfl (by simp) r105_4 (CF.box (m := 4) (S105.box_at (j := 0) rfl) rfl)) <| p_v (v := .int .i64 t21) rfl rfl rfl (zai rfl) ?_
  refine p_c rfl rfl rfl (zba (args := [.agg (zak s).toArray, .int .i64 t21]) ca83 rfl rfl) (dhas_calls w105 s t21 f105_1 (by first | assumption | exact ⟨by omega, by omega⟩)) ?_
  rintro _ w107 ⟨h107, T107, rfl⟩
  have S108 := S105.keep (Chg.of_below T107.below)
  refine zac ?_
  refine zci (b := has s t21) rfl (fun hc109 => ?_) (fun hc109 => ?_)
  ·skip
   refine zah (l := [0, 1, 2, 3, 4, 5, 6]) rfl <| p_v (v := .func (.func 79) #[] #[.pointer (some a2), .pointer (some a3), .pointer (some ⟨b3, 0, none⟩), .pointer (some ⟨b7, 0, none⟩)]) rfl rfl rfl (zai r105_8) <| p_v (v := .pointer (some (a2.add 2))) rfl rfl rfl (zc5 fd27_2 ty24 rfl r105_2) <| p_v (v := .slice A2_2 m.follow.length c2_2) rfl rfl rfl (zam (seg := [.slice A2_2 m.follow.length c2_2]) ty24 rfl (by simp) rfl (CF.ghost (zdt (o := 2) (m := 1) (ds := [.slice A2_2 m.follow.length c2_2]) pc2 rfl) (St.le0 S108))) <| p_v (v := .int .i64 t21) rfl rfl rfl (zai rfl) ?_
   obtain ⟨ad111, seg111, a111, rp111, ce111⟩ := zbj (q := t21) (m := 1) l2_2 rfl (by omega) (by omega)
   refine p_v (v := .pointer (some ad111)) rfl rfl rfl (zbi u24 ty23 rfl rfl a111 (by omega) (by omega)) ?_
   obtain ⟨A111, c111, rfl, lc111, cm111, ld111⟩ := rp111
   have cn111 := cm111; simp only [maxLen] at cn111
   refine p_v (v := .slice A111 (at_ m.follow t21).length c111) rfl rfl rfl (zam (seg := [.slice A111 (at_ m.follow t21).length c111]) ty23 rfl (by simp) rfl (CF.ghost ce111 (St.le0 S108))) ?_
   refine p_i rfl rfl rfl (zba (args := [.slice A111 (at_ m.follow t21).length c111, .pointer (some a2), .pointer (some a3), .pointer (some ⟨b3, 0, none⟩), .pointer (some ⟨b7, 0, none⟩)]) ca79 rfl rfl) (zas Tryd.func79 rfl Tryd.ntmps79 rfl ?_)
   refine zag <| zah (l := [0, 1, 2]) rfl <| p_v (v := .slice A111 (at_ m.follow t21).length c111) rfl rfl rfl (zai rfl) <| p_v (v := .int .i64 ((at_ m.follow t21).length : Int)) rfl rfl rfl (zbe u23 rfl) <| p_v (v := .int .i64 0) rfl rfl rfl (zai rfl) <| zac <| zay <| zce (S := (List Int) × Int) (fun (q_ : (List Int) × Int) ρ w' => match q_ with | (o2, q2) => ∃ (h : Ghost), Le h105 h ∧ St w.heap.size w h w' [box b1 115 (zak s), box b3 3 [.int .i64 k], box b5 115 (zak (0 : BSet)), box b7 115 (zbb .u64 o2)] ∧ ρ 1 = .pointer (some a2) ∧ ρ 2 = .pointer (some a3) ∧ ρ 3 = .pointer (some ⟨b3, 0, none⟩) ∧ ρ 4 = .pointer (some ⟨b7, 0, none⟩) ∧ ρ 8 = .slice A111 (at_ m.follow t21).length c111 ∧ ρ 9 = .int .i64 ((at_ m.follow t21).length : Int) ∧ ρ 10 = .int .i64 q2 ∧ zdd .u64 4 o2 ∧ inK .i64 q2 ∧ (0 ≤ q2 ∧ q2 ≤ ((at_ m.follow t21).length : Int) ∧ o2 = zbh (zek m (at_ b k) (at_ m.follow t21) q2 (outTo m (at_ b k) s t21 (if s = beginB then rowIn m (at_ b k) m.first 0 else 0))))) (fun q_ => match q_ with | (o2, q2) => ((at_ m.follow t21).length - q2).toNat) (out, 0) ⟨h105, Le.refl _, S108.sub [0, 1, 2, 3] (by decide) rfl _ rfl, rfl, rfl, rfl, rfl, rfl, rfl, rfl, f105_0, (zar (by omega) (by omega)), (by exact ⟨by omega, by omega, by rw [hI105.2.2]; exact congrArg zbh (read_0 _ _ _ _)⟩)⟩ ?_
   rintro ⟨o2, q2⟩ ih112 ρ112 w112 ⟨h112, le112, S112, r112_1, r112_2, r112_3, r112_4, r112_8, r112_9, r112_10, f112_0, f112_1, hI112⟩
   have lf112_1 := zbf f112_1; have hf112_1 := zbg f112_1
   have hq2_ := hI112.1
   have hx_ : q2 < ((at_ m.follow t21).length : Int) → 0 ≤ at_ (at_ m.follow t21) q2 ∧ at_ (at_ m.follow t21) q2 < (m.spots.length : Int) := fun h => hR_.rows hI105.1 (by omega) _ (at_mem hI112.1 h)
   refine zag <| zah (l := [0]) rfl <| p_v (v := .bool (decide (q2 < ((at_ m.follow t21).length : Int)))) rfl rfl rfl (zd6 r112_10 r112_9) <| zac <| zag ?_
   refine zau (p := q2 < ((at_ m.follow t21).length : Int)) rfl (fun hc113 => ?_) (fun hc113 => ?_)
   ·skip
    refine za6 <| zag <| zay <| zag <| zah (l := [0, 1, 2]) rfl ?_
    obtain ⟨ad114, seg114, a114, rp114, ce114⟩ := zbj (q := q2) (m := 1) ld111 rfl (by omega) (by omega)
    refine p_v (v := .pointer (some ad114)) rfl rfl rfl (zbi u23 ty3 r112_8 r112_10 a114 (by omega) (by omega)) ?_
    obtain ⟨rfl, in114⟩ := rp114
    have lo114 := zbf in114; have hi114 := zbg in114
    refine p_v (v := .int .i64 (at_ (at_ m.follow t21) q2)) rfl rfl rfl (zam (seg := [.int .i64 (at_ (at_ m.follow t21) q2)]) ty3 rfl (by simp) rfl (CF.ghost ce114 (St.le0 S112))) <| p_v (v := .int .i64 (at_ (at_ m.follow t21) q2)) rfl rfl rfl (zaj rfl) <| zac <| zag ?_
    obtain ⟨ad116, seg116, a116, rp116, ce116⟩ := zbj (q := at_ (at_ m.follow t21) q2) (m := 5) l2_0 rfl (by omega) (by omega)
    obtain ⟨rfl, ok116⟩ := rp116
    have slook116 := u8_lo ok116; have shiok116 := u8_hi ok116
    obtain ⟨ad118, seg118, a118, rp118, ce118⟩ := zbj (q := k) (m := 1) l3 rfl (by omega) (by omega)
    obtain ⟨rfl, in118⟩ := rp118
    have lo118 := u8_lo in118; have hi118 := u8_hi in118
    have hf120 : (CFs (a2.add 0) [.slice A2_0 m.spots.length c2_0]).1 w112 := (CF.ghost (zdt (o := 0) (m := 1) (ds := [.slice A2_0 m.spots.length c2_0]) pc2 rfl) (St.le0 S112))
    have hf121 : (CFs (ad116.add 0) (zak ((at_ m.spots (at_ (at_ m.follow t21) q2)).set))).1 w112 := (CF.ghost (zdt (o := 0) (m := 4) (ds := (zak ((at_ m.spots (at_ (at_ m.follow t21) q2)).set))) ce116 rfl) (St.le0 S112))
    have hf122 : (CFs a3 [.slice A3 b.length c3]).1 w112 := (CF.ghost pc3 (St.le0 S112))
    have hf123 : (CFs ⟨b3, 0, none⟩ [.int .i64 k]).1 w112 := (CF.box (m := 1) (S112.box_at (j := 1) rfl) rfl)
    have hf124 : (CFs ad118 [.int .u8 (at_ b k)]).1 w112 := (CF.ghost ce118 (St.le0 S112))
    refine daS (hkC 1 hf120 (hkC 5 hf121 (hkC 6 hf122 (hkC 7 hf123 (hkC 9 hf124 (hkN (w := w112))))))) 11 rfl mixed ?_
    intro wd125 gd125 hd125
    have S126 := S112.keep gd125
    have hf127 := spUp gd125 hf120
    have hf128 := spUp gd125 hf121
    have hf129 := spUp gd125 hf122
    have hf130 := spUp gd125 hf123
    have hf131 := spUp gd125 hf124
    refine qd0 (i := 0) (v := .pointer (some (a2.add 0))) rfl (by decide +kernel) rfl rfl (zc5 fd27_0 ty22 rfl r112_1) (zan rfl) <| qd1 0 (i := 1) (v := .slice A2_0 m.spots.length c2_0) rfl rfl (by decide +kernel) rfl rfl (fun wq hq => (zam (seg := [.slice A2_0 m.spots.length c2_0]) ty22 rfl (by simp) rfl hq)) (zbm hf127 (zan rfl)) <| qd0 (i := 2) (v := .int .i64 (at_ (at_ m.follow t21) q2)) rfl (by decide +kernel) rfl rfl (zai rfl) (zan rfl) <| qd0 (i := 3) (v := .pointer (some ad116)) rfl (by decide +kernel) rfl rfl (zbi u22 ty101 rfl rfl a116 (by omega) (by omega)) (zan rfl) <| qd0 (i := 4) (v := .pointer (some (ad116.add 0))) rfl (by decide +kernel) rfl rfl (zc5 fd101_0 ty74 rfl rfl) (zan rfl) <| qd1 1 (i := 5) (v := .agg (zak ((at_ m.spots (at_ (at_ m.follow t21) q2)).set)).toArray) rfl rfl (by decide +kernel) rfl rfl (fun wq hq => (zam (seg := (zak ((at_ m.spots (at_ (at_ m.follow t21) q2)).set))) ty74 rfl (by simp) rfl hq)) (za8 rfl (zbm hf128 (zan rfl))) <| qd1 2 (i := 6) (v := .slice A3 b.length c3) rfl rfl (by decide +kernel) rfl rfl (fun wq hq => (zam (seg := [.slice A3 b.length c3]) ty39 rfl (by simp) r112_2 hq)) (za8 rfl (za8 rfl (zbm hf129 (zan rfl)))) <| qd1 3 (i := 7) (v := .int .i64 k) rfl rfl (by decide +kernel) rfl rfl (fun wq hq => (zam (seg := [.int .i64 k]) ty3 rfl (by simp) r112_3 hq)) (za8 rfl (za8 rfl (za8 rfl (zbm hf130 (zan rfl))))) <| qd0 (i := 8) (v := .pointer (some ad118)) rfl (by decide +kernel) rfl rfl (zbi u39 ty5 rfl rfl a118 (by omega) (by omega)) (zan rfl) <| qd1 4 (i := 9) (v := .int .u8 (at_ b k)) rfl rfl (by decide +kernel) rfl rfl (fun wq hq => (zam (seg := [.int .u8 (at_ b k)]) ty5 rfl (by simp) rfl hq)) (za8 rfl (za8 rfl (za8 rfl (za8 rfl (zbm hf131 (zan rfl)))))) <| d_m (i := 10) (v := .bool (has ((at_ m.spots (at_ (at_ m.follow t21) q2)).set) (at_ b k))) (fun _ => True) (fun _ ho => trivial) rfl (by decide +kernel) (by decide +kernel) (by decide +kernel) rfl rfl (fun wq => (zba (args := [.agg (zak ((at_ m.spots (at_ (at_ m.follow t21) q2)).set)).toArray, .int .u8 (at_ b k)]) ca80 rfl rfl)) (fun wq hq => (has_calls wq ((at_ m.spots (at_ (at_ m.follow t21) q2)).set) (at_ b k) (in_u8 (by omega) (by omega))).mono fun e w2 he => by obtain ⟨_, rfl, _, T, rfl⟩ := he; exact ⟨rfl, Chg.of_below T.below⟩) (zan rfl) <| zcb (by decide +kernel) ?_
    intro wd132 gd132
    have S133 := S126.keep gd132
    refine zci (b := has ((at_ m.spots (at_ (at_ m.follow t21) q2)).set) (at_ b k)) rfl (fun hc134 => ?_) (fun hc134 => ?_)
    ·skip
     refine zah (l := [0, 1]) rfl <| p_v (v := .int .i64 (at_ (at_ m.follow t21) q2)) rfl rfl rfl (zai rfl) ?_
     refine p_i rfl rfl rfl (zba (args := [.pointer (some ⟨b7, 0, none⟩), .int .i64 (at_ (at_ m.follow t21) q2)]) ca81 rfl (zd5 r112_4 (zd5 rfl rfl))) (zas Tryd.func81 rfl Tryd.ntmps81 rfl ?_)
     have in135 := zcv f112_0 (i := (at_ (at_ m.follow t21) q2) / 64) (by omega) (by omega)
     have lo135 := zcx in135; have hi135 := zc2 in135
     have in136 := pow_in (b := (at_ (at_ m.follow t21) q2) % 64) (by omega) (by omega)
     have lo136 := zcx in136; have hi136 := zc2 in136
     have in137 : inK .u64 (ior (at_ o2 ((at_ (at_ m.follow t21) q2) / 64)) (2 ^ ((at_ (at_ m.follow t21) q2) % 64).toNat)) := ior_in (zdg (by omega) (by omega)) (zdg (by omega) (by omega))
     have lo137 := zcx in137; have hi137 := zc2 in137
     have hf138 : (CFs ⟨b7, 0 + ((at_ (at_ m.follow t21) q2) / 64).toNat * 1, none⟩ [.int .u64 (at_ o2 ((at_ (at_ m.follow t21) q2) / 64))]).1 wd132 := (CF.box (m := 1) (S133.box_at (j := 3) rfl) (cs := (zbb .u64 o2)) (zdo f112_0 (by omega) (by omega)))
     refine daS (hkC 5 hf138 (hkN (w := wd132))) 13 rfl mixed ?_
     intro wd139 gd139 hd139
     have S140 := S133.keep gd139
     have hf141 := spUp gd139 hf138
     refine qd0 (i := 0) (v := .pointer (some ⟨b7, 0, none⟩)) rfl (by decide +kernel) rfl rfl (zai rfl) (zan rfl) <| qd0 (i := 1) (v := .int .i64 (at_ (at_ m.follow t21) q2)) rfl (by decide +kernel) rfl rfl (zai rfl) (zan rfl) <| qd0 (i := 2) (v := .int .i64 ((at_ (at_ m.follow t21) q2) / 64)) rfl (by decide +kernel) rfl rfl (x_quo rfl rfl (by omega) (by omega) (zar (by omega) (by omega))) (zan rfl) <| qd0 (i := 3) (v := .pointer (some ⟨b7, 0, none⟩)) rfl (by decide +kernel) rfl rfl (zbt rfl) (zan rfl) <| qd0 (i := 4) (v := .pointer (some ⟨b7, 0 + ((at_ (at_ m.follow t21) q2) / 64).toNat * 1, none⟩)) rfl (by decide +kernel) rfl rfl (zbq u115 ty56 rfl rfl (by omega) (by omega)) (zan rfl) <| qd1 0 (i := 5) (v := .int .u64 (at_ o2 ((at_ (at_ m.follow t21) q2) / 64))) rfl rfl (by decide +kernel) rfl rfl (fun wq hq => (zam (seg := [.int .u64 (at_ o2 ((at_ (at_ m.follow t21) q2) / 64))]) ty56 rfl (by simp) rfl hq)) (zbm hf141 (of_nil _ _)) <| qd0 (i := 6) (v := .int .i64 (at_ (at_ m.follow t21) q2)) rfl (by decide +kernel) rfl rfl (zai rfl) (zan rfl) <| qd0 (i := 7) (v := .int .i64 ((at_ (at_ m.follow t21) q2) % 64)) rfl (by decide +kernel) rfl rfl (x_rem rfl rfl (by omega) (by omega)) (zan rfl) <| qd0 (i := 8) (v := .int .u64 (2 ^ ((at_ (at_ m.follow t21) q2) % 64).toNat)) rfl (by decide +kernel) rfl rfl (x_shl_one rfl rfl (by omega) (by omega)) (zan rfl) <| qd0 (i := 9) (v := .int .u64 (ior (at_ o2 ((at_ (at_ m.follow t21) q2) / 64)) (2 ^ ((at_ (at_ m.follow t21) q2) % 64).toNat))) rfl (by decide +kernel) rfl rfl (x_or_u64 rfl rfl (zdg (by omega) (by omega)) (zdg (by omega) (by omega))) (zan rfl) <| qd0 (i := 10) (v := .pointer (some ⟨b7, 0, none⟩)) rfl (by decide +kernel) rfl rfl (zbt rfl) (zan rfl) <| qd0 (i := 11) (v := .pointer (some ⟨b7, 0 + ((at_ (at_ m.follow t21) q2) / 64).toNat * 1, none⟩)) rfl (by decide +kernel) rfl rfl (zbq u115 ty56 rfl rfl (by omega) (by omega)) (zan rfl) ?_
     refine zbo (i := 12) (by decide +kernel) ?_
     intro wd142 gd142
     have S143 := S140.keep gd142
     have hf144 := spUp gd142 hf141
     obtain ⟨w145, r145, g145, T145⟩ := zcj (P := Tryd.prog) (off := 0 + ((at_ (at_ m.follow t21) q2) / 64).toNat * 1) (v := .int .u64 (ior (at_ o2 ((at_ (at_ m.follow t21) q2) / 64)) (2 ^ ((at_ (at_ m.follow t21) q2) % 64).toNat))) (vs := [.int .u64 (ior (at_ o2 ((at_ (at_ m.follow t21) q2) / 64)) (2 ^ ((at_ (at_ m.follow t21) q2) % 64).toNat))]) S143 ty56 rfl rfl (j := 3) rfl (by rw [zd4 f112_0]; first|omega|(simp;omega)|assumption|simp) (by simp [Value.oneCell'])
     rw [encInts_put] at T145
     have ok145 : zdd .u64 4 (o2.set ((at_ (at_ m.follow t21) q2) / 64).toNat (ior (at_ o2 ((at_ (at_ m.follow t21) q2) / 64)) (2 ^ ((at_ (at_ m.follow t21) q2) % 64).toNat))) := zem f112_0 _ in137
     have S146 := T145.fx 3 (box b7 115 (zbb .u64 (o2.set ((at_ (at_ m.follow t21) q2) / 64).toNat (ior (at_ o2 ((at_ (at_ m.follow t21) q2) / 64)) (2 ^ ((at_ (at_ m.follow t21) q2) % 64).toNat))))) rfl
     dsimp only [lAa, lAn, lA0, lAs] at S146
     refine d_s rfl rfl (za2 rfl rfl r145) (.inr (za1 (by decide +kernel) trivial)) <| zcb (by decide +kernel) ?_
     intro wd147 gd147
     have S148 := S146.keep gd147
     refine run_end Tryd.func81 (res0 rfl) ?_
     refine ⟨_, rfl, ?_⟩
     refine zac <| za3 <| zah (l := [0, 1]) rfl <| p_v (v := .int .i64 (q2 + 1)) rfl rfl rfl (zdj r112_10 rfl (zar (by omega) (by omega))) <| p_v (v := .int .i64 (q2 + 1)) rfl rfl rfl (zai rfl) <| zac ?_
     refine ih112 (o2.set ((at_ (at_ m.follow t21) q2) / 64).toNat (ior (at_ o2 ((at_ (at_ m.follow t21) q2) / 64)) (2 ^ ((at_ (at_ m.follow t21) q2) % 64).toNat)), q2 + 1) _ _ (by dsimp only; omega) ⟨h112, le112, S148.sub [0, 1, 2, 3] (by decide) rfl _ rfl, r112_1, r112_2, r112_3, r112_4, r112_8, r112_9, rfl, ok145, (zar (by omega) (by omega)), (by first | exact ⟨by omega, by omega, by rw [hI112.2.2, putB_words _ (hx_ (by omega)).1 (by have := hx_ (by omega); omega), read_yes hI112.1 (by omega) (by assumption)]⟩ | exact ⟨by omega, by omega, by rw [hI112.2.2, read_no hI112.1 (by omega) (by assumption)]⟩)⟩
    refine za6 <| za3 <| zah (l := [0, 1]) rfl <| p_v (v := .int .i64 (q2 + 1)) rfl rfl rfl (zdj r112_10 rfl (zar (by omega) (by omega))) <| p_v (v := .int .i64 (q2 + 1)) rfl rfl rfl (zai rfl) <| zac ?_
    refine ih112 (o2, q2 + 1) _ _ (by dsimp only; omega) ⟨h112, le112, S133.sub [0, 1, 2, 3] (by decide) rfl _ rfl, r112_1, r112_2, r112_3, r112_4, r112_8, r112_9, rfl, f112_0, (zar (by omega) (by omega)), (by first | exact ⟨by omega, by omega, by rw [hI112.2.2, putB_words _ (hx_ (by omega)).1 (by have := hx_ (by omega); omega), read_yes hI112.1 (by omega) (by assumption)]⟩ | exact ⟨by omega, by omega, by rw [hI112.2.2, read_no hI112.1 (by omega) (by assumption)]⟩)⟩
   refine zcf rfl <| run_end Tryd.func79 (res0 rfl) ?_
   refine ⟨_, rfl, ?_⟩
   refine zac <| za3 <| zah (l := [0, 1]) rfl <| p_v (v := .int .i64 (t21 + 1)) rfl rfl rfl (zdj r105_21 rfl (zar (by omega) (by omega))) <| p_v (v := .int .i64 (t21 + 1)) rfl rfl rfl (zai rfl) <| zac ?_
   refine ih105 (o2, t21 + 1) _ _ (by dsimp only; omega) ⟨h112, ((le105).trans le112), S112.sub [0, 1, 2, 3] (by decide) rfl _ rfl, r105_2, r105_4, r105_6, r105_7, r105_8, r105_20, rfl, f112_0, (zar (by omega) (by omega)), (by first | exact ⟨by omega, by omega, by rw [hI112.2.2, read_end (by omega), out_yes hI105.1 (by assumption)]⟩ | exact ⟨by omega, by omega, by rw [hI105.2.2, out_no hI105.1 (by assumption)]⟩)⟩
  refine za6 <| za3 <| zah (l := [0, 1]) rfl <| p_v (v := .int .i64 (t21 + 1)) rfl rfl rfl (zdj r105_21 rfl (zar (by omega) (by omega))) <| p_v (v := .int .i64 (t21 + 1)) rfl rfl rfl (zai rfl) <| zac ?_
  refine ih105 (out, t21 + 1) _ _ (by dsimp only; omega) ⟨h105, le105, S108.sub [0, 1, 2, 3] (by decide) rfl _ rfl, r105_2, r105_4, r105_6, r105_7, r105_8, r105_20, rfl, f105_0, (zar (by omega) (by omega)), (by first | exact ⟨by omega, by omega, by rw [hI112.2.2, read_end (by omega), out_yes hI105.1 (by assumption)]⟩ | exact ⟨by omega, by omega, by rw [hI105.2.2, out_no hI105.1 (by assumption)]⟩)⟩
 refine zcf rfl <| zag <| zah (l := [0, 1]) rfl <| p_v (v := .agg (zak (zca out)).toArray) rfl rfl rfl (zam (seg := (zak (zca out))) zee rfl (by simp) r105_7 (CF.box (m := 4) (S105.box_at (j := 3) rfl) (by rw [← encSet_of f105_0]; exact encInts_full f105_0))) ?_
 obtain ⟨w149, r149, g149, T149⟩ := zcj (P := Tryd.prog) (off := 0) (v := .agg (zak (zca out)).toArray) (vs := (zak (zca out))) S105 zee rfl rfl (j := 2) rfl (by first | decide | exact Nat.le_of_ble_eq_true rfl) (zdz _)
 have S150 := T149.fx 2 (box b5 115 (zak (zca out))) rfl
 dsimp only [lAa, lAn, lA0, lAs] at S150
 refine p_s rfl rfl (za2 r105_6 rfl r149) <| zac <| zax Tryd.func78 (res1 rfl (zcz S150 zee r105_6 (j := 2) rfl rfl (by simp) rfl)) ?_
 have q0 : (zb9 m b s k : BSet) = (zca out) := by
  rw [hI105.2.2, of_words, nextB_eq, show t21 = (m.spots.length : Int) by omega]
 refine ⟨_, rfl, h105, ?_, ?_⟩
 · exact S150.sub [] (by decide) rfl _ rfl
 · (simp only [q0]; rfl)
theorem final_calls (w : World) (s : BSet) (m : Mach) (A1_0 : Option Addr) (c1_0 : Nat) (b1_0 : m.spots.length ≤ c1_0 ∧ c1_0 ≤ maxLen) (l1_0 : zbz kSpot (hp w) A1_0 m.spots) (A1_1 : Option Addr) (c1_1 : Nat) (b1_1 : m.first.length ≤ c1_1 ∧ c1_1 ≤ maxLen) (l1_1 : zbz (Kd.int .i64) (hp w) A1_1 m.first) (A1_2 : Option Addr) (c1_2 : Nat) (b1_2 : m.follow.length ≤ c1_2 ∧ c1_2 ≤ maxLen) (l1_2 : zbz (Kd.int .i64).slice (hp w) A1_2 m.follow) (A1_3 : Option Addr) (c1_3 : Nat) (b1_3 : m.last.length ≤ c1_3 ∧ c1_3 ≤ maxLen) (l1_3 : zbz Kd.bool (hp w) A1_3 m.last) (a1 : Addr) (pc1 : ∀ j v, [.slice A1_0 m.spots.length c1_0, .slice A1_1 m.first.length c1_1, .slice A1_2 m.follow.length c1_2, .slice A1_3 m.last.length c1_3, .bool m.empty][j]? = some v → zeg (hp w) (a1.add j) = some v) (pre0 : Right m) :
    Calls Tryd.prog 84 #[.agg (zak s).toArray, .pointer (some a1)] w fun e w' => ∃ v, e = .returned v ∧ ∃ (hn : Ghost), St w.heap.size w hn w' [] ∧ v = .bool (zdh m s) := by
 refine zas Tryd.func84 rfl Tryd.ntmps84 rfl ?_
 have S0 := St.init w
 have bb1_0 := b1_0.1; have bc1_0 := b1_0.2; simp only [maxLen] at bc1_0
 have bb1_1 := b1_1.1; have bc1_1 := b1_1.2; simp only [maxLen] at bc1_1
 have bb1_2 := b1_2.1; have bc1_2 := b1_2.2; simp only [maxLen] at bc1_2
 have bb1_3 := b1_3.1; have bc1_3 := b1_3.2; simp only [maxLen] at bc1_3
 have hR_ := pre0; have hsm_ := hR_.small; have hla_ := hR_.last
 refine zag <| zah (l := [0, 1]) rfl ?_
 obtain ⟨b1, w1, r1, g1, T1⟩ := zb0 (P := Tryd.prog) S0 115 (v := .agg (zak s).toArray) (zak s) rfl
 have S2 := T1
 dsimp only [lAa, lAn, lA0, lAs] at S2
 refine p_v (v := .pointer (some ⟨b1, 0, none⟩)) rfl rfl rfl (zdi rfl r1) <| p_v (v := .bool false) rfl rfl rfl (zaj rfl) <| zac <| zag <| zag ?_
 have hf4 : (CFs ⟨b1, 0, none⟩ (zak s)).1 w1 := (CF.box (m := 4) (S2.box_at (j := 0) rfl) rfl)
 refine daS (hkC 0 hf4 (hkN (w := w1))) 3 rfl mixed ?_
 intro wd5 gd5 hd5
 have S6 := S2.keep gd5
 have hf7 := spUp gd5 hf4
 refine qd1 0 (i := 0) (v := .agg (zak s).toArray) rfl rfl (by decide +kernel) rfl rfl (fun wq hq => (zam (seg := (zak s)) zee rfl (by simp) rfl hq)) (zbm hf7 (of_nil _ _)) <| d_m (i := 1) (v := .agg (zak beginB).toArray) (fun _ => True) (fun _ ho => trivial) rfl (by decide +kernel) (by decide +kernel) (by decide +kernel) rfl rfl (fun wq => (zba (args := []) ca82 rfl rfl)) (fun wq hq => (begun_calls wq ).mono fun e w2 he => by obtain ⟨_, rfl, _, T, rfl⟩ := he; exact ⟨rfl, Chg.of_below T.below⟩) (zan rfl) <| qd0 (i := 2) (v := .bool (decide (s = beginB))) rfl (by decide +kernel) rfl rfl (x_eql_set u115 u56 ty56 q115 rfl rfl) (zan rfl) <| zcb (by decide +kernel) ?_
 intro wd8 gd8
 have S9 := S6.keep gd8
 refine zau (p := s = beginB) rfl (fun hc10 => ?_) (fun hc10 => ?_)
 ·skip
  refine zag <| zah (l := [0, 1, 2]) rfl <| p_v (v := .pointer (some (a1.add 4))) rfl rfl rfl (zc5 fd27_4 ty4 rfl rfl) <| p_v (v := .bool m.empty) rfl rfl rfl (zam (seg := [.bool m.empty]) ty4 rfl (by simp) rfl (CF.ghost (zdt (o := 4) (m := 1) (ds := [.bool m.empty]) pc1 rfl) (St.le0 S9))) <| p_v (v := .bool m.empty) rfl rfl rfl (zaj rfl) <| zac <| zax Tryd.func84 (res1 rfl (za4 (v := .bool m.empty) rfl)) ?_
  have q0 : (zdh m s : Bool) = m.empty := by
   exact finalB_begin (by assumption)
  refine ⟨_, rfl, (fun _ => none), ?_, ?_⟩
  · exact S9.sub [] (by decide) rfl _ rfl
  · first | rfl | (simp only [q0]; rfl) | (simp only [q0])
 refine za6 <| zag <| zag <| zah (l := [0, 1, 2, 3]) rfl <| p_v (v := .pointer (some (a1.add 3))) rfl rfl rfl (zc5 fd27_3 ty25 rfl rfl) <| p_v (v := .slice A1_3 m.last.length c1_3) rfl rfl rfl (zam (seg := [.slice A1_3 m.last.length c1_3]) ty25 rfl (by simp) rfl (CF.ghost (zdt (o := 3) (m := 1) (ds := [.slice A1_3 m.last.length c1_3]) pc1 rfl) (St.le0 S9))) <| p_v (v := .int .i64 (m.last.length : Int)) rfl rfl rfl (zbe u25 rfl) <| p_v (v := .int .i64 0) rfl rfl rfl (zai rfl) <| zac <| zay <| zce (S := Int) (fun (q_ : Int) ρ w' => match q_ with | t14 => ∃ (h : Ghost), Le (fun _ => none) h ∧ St w.heap.size w h w' [box b1 115 (zak s)] ∧ ρ 2 = .pointer (some ⟨b1, 0, none⟩) ∧ ρ 12 = .slice A1_3 m.last.length c1_3 ∧ ρ 13 = .int .i64 (m.last.length : Int) ∧ ρ 14 = .int .i64 t14 ∧ inK .i64 t14 ∧ (0 ≤ t14 ∧ t14 ≤ (m.last.length : Int) ∧ lastB m s t14 = false)) (fun q_ => match q_ with | t14 => (m.last.length - t14).toNat) (0) ⟨(fun _ => none), Le.refl _, S9.sub [0] (by decide) rfl _ rfl, rfl, rfl, rfl, rfl, (zar (by omega) (by omega)), (by exact ⟨by omega, by omega, lastB_0 m s⟩)⟩ ?_
 rintro t14 ih14 ρ14 w14 ⟨h14, le14, S14, r14_2, r14_12, r14_13, r14_14, f14_0, hI14⟩
 have lf14_0 := zbf f14_0; have hf14_0 := zbg f14_0
 have hi0_ := hI14.1
 refine zag <| zah (l := [0]) rfl <| p_v (v := .bool (decide (t14 < (m.last.length : Int)))) rfl rfl rfl (zd6 r14_14 r14_13) <| zac <| zag ?_
 refine zau (p := t14 < (m.last.length : Int)) rfl (fun hc15 => ?_) (fun hc15 => ?_)
 ·skip
  refine za6 <| zag <| zay <| zag <| zah (l := [0, 1, 2, 3, 4]) rfl <| p_v (v := .int .i64 t14) rfl rfl rfl (zai r14_14) ?_
  obtain ⟨ad16, seg16, a16, rp16, ce16⟩ := zbj (q := t14) (m := 1) l1_3 rfl (by omega) (by omega)
  refine p_v (v := .pointer (some ad16)) rfl rfl rfl (zbi u25 ty4 r14_12 r14_14 a16 (by omega) (by omega)) ?_
  obtain ⟨rfl, _⟩ := rp16
  refine p_v (v := .bool (at_ m.last t14)) rfl rfl rfl (zam (seg := [.bool (at_ m.last t14)]) ty4 rfl (by simp) rfl (CF.ghost ce16 (St.le0 S14))) <| p_v (v := .int .i64 t14) rfl rfl rfl (zaj rfl) <| p_v (v := .bool (at_ m.last t14)) rfl rfl rfl (zaj rfl) <| zac <| zag <| zah (l := [0, 1, 2, 3, 4, 5]) rfl <| p_v (v := .bool (at_ m.last t14)) rfl rfl rfl (zai rfl) <| p_v (v := .bool (at_ m.last t14)) rfl rfl rfl (zai rfl) ?_
  rcases Bool.eq_false_or_eq_true (at_ m.last t14) with hc17 | hc17
  ·skip
   refine p_v (v := .agg (zak s).toArray) rfl (wo 1 20 rfl rfl (congrArg Value.bool hc17) rfl) rfl (zam (seg := (zak s)) zee rfl (by simp) r14_2 (CF.box (m := 4) (S14.box_at (j := 0) rfl) rfl)) <| p_v (v := .int .i64 t14) rfl (wo 1 20 rfl rfl (congrArg Value.bool hc17) rfl) rfl (zai rfl) <| p_c rfl (wo 1 20 rfl rfl (congrArg Value.bool hc17) rfl) rfl (zba (args := [.agg (zak s).toArray, .int .i64 t14]) ca83 rfl rfl) (dhas_calls w14 s t14 f14_0 (by first | assumption | exact ⟨by omega, by omega⟩)) ?_
   rintro _ w18 ⟨h18, T18, rfl⟩
   have S19 := S14.keep (Chg.of_below T18.below)
   refine p_v (v := .bool (has s t14)) rfl rfl rfl (zbs (congrArg Value.bool hc17) rfl) <| zac ?_
   refine zci (b := has s t14) rfl (fun hc20 => ?_) (fun hc20 => ?_)
   ·skip
    refine zag <| zah (l := [0]) rfl <| p_v (v := .bool true) rfl rfl rfl (zaj rfl) <| zac <| zax Tryd.func84 (res1 rfl (za4 (v := .bool true) rfl)) ?_
    have q0 : (zdh m s : Bool) = true := by
     exact finalB_yes (by assumption) hI14.1 (by omega) (by assumption) (by assumption)
    refine ⟨_, rfl, h14, ?_, ?_⟩
    · exact S19.sub [] (by decide) rfl _ rfl
    · first | rfl | (simp only [q0]; rfl) | (simp only [q0])
   refine za6 <| za3 <| zah (l := [0, 1]) rfl <| p_v (v := .int .i64 (t14 + 1)) rfl rfl rfl (zdj r14_14 rfl (zar (by omega) (by omega))) <| p_v (v := .int .i64 (t14 + 1)) rfl rfl rfl (zai rfl) <| zac ?_
   refine ih14 (t14 + 1) _ _ (by dsimp only; omega) ⟨h14, le14, S19.sub [0] (by decide) rfl _ rfl, r14_2, r14_12, r14_13, rfl, (zar (by omega) (by omega)), (by first | exact ⟨by omega, by omega, lastB_step hI14.1 hI14.2.2 (by rw [(by assumption : at_ m.last t14 = false)]; rfl)⟩ | exact ⟨by omega, by omega, lastB_step hI14.1 hI14.2.2 (by rw [(by assumption : has s t14 = false)]; simp)⟩)⟩
  refine zby rfl (wo 1 20 rfl rfl (congrArg Value.bool hc17) rfl) rfl <| zby rfl (wo 1 20 rfl rfl (congrArg Value.bool hc17) rfl) rfl <| zby rfl (wo 1 20 rfl rfl (congrArg Value.bool hc17) rfl) rfl <| p_v (v := .bool false) rfl rfl rfl (zck (congrArg Value.bool hc17) rfl) <| zac <| zcy (b := false) rfl ?_
  simp only [if_true, if_false, Bool.false_eq_true]
  refine za6 <| za3 <| zah (l := [0, 1]) rfl <| p_v (v := .int .i64 (t14 + 1)) rfl rfl rfl (zdj r14_14 rfl (zar (by omega) (by omega))) <| p_v (v := .int .i64 (t14 + 1)) rfl rfl rfl (zai rfl) <| zac ?_
  refine ih14 (t14 + 1) _ _ (by dsimp only; omega) ⟨h14, le14, S14.sub [0] (by decide) rfl _ rfl, r14_2, r14_12, r14_13, rfl, (zar (by omega) (by omega)), (by first | exact ⟨by omega, by omega, lastB_step hI14.1 hI14.2.2 (by rw [(by assumption : at_ m.last t14 = false)]; rfl)⟩ | exact ⟨by omega, by omega, lastB_step hI14.1 hI14.2.2 (by rw [(by assumption : has s t14 = false)]; simp)⟩)⟩
 refine zcf rfl <| zag <| zah (l := [0]) rfl <| p_v (v := .bool false) rfl rfl rfl (zaj rfl) <| zac <| zax Tryd.func84 (res1 rfl (za4 (v := .bool false) rfl)) ?_
 have q0 : (zdh m s : Bool) = false := by
  exact finalB_no (by assumption) (by omega) (by omega) hI14.2.2
 refine ⟨_, rfl, h14, ?_, ?_⟩
 · exact S14.sub [] (by decide) rfl _ rfl
 · (simp only [q0])
theorem leastD_calls (w : World) (p : PartM) (o0 : okPart p) (tb : Block 0 tzTab w) :
    Calls Tryd.prog 77 #[.agg (zad p).toArray] w fun e w' => ∃ v, e = .returned v ∧ ∃ (hn : Ghost) (r0 : Value), St w.heap.size w hn w' [row 5 (Kd.int .u8) r0 (zbd p)] ∧ v = r0 := by
 refine zas Tryd.func77 rfl Tryd.ntmps77 rfl ?_
 have S0 := St.init w
 have ploo0 := zbf o0.2; have phio0 := zbg o0.2
 refine zag <| zah (l := [0, 1]) rfl ?_
 obtain ⟨b1, w1, r1, g1, T1⟩ := zb0 (P := Tryd.prog) S0 32 (v := .agg (zad p).toArray) (zad p) rfl
 have S2 := T1
 dsimp only [lAa, lAn, lA0, lAs] at S2
 refine p_v (v := .pointer (some ⟨b1, 0, none⟩)) rfl rfl rfl (zdi rfl r1) <| p_v (v := .slice none 0 0) rfl rfl rfl (zaj rfl) <| zac <| zag <| zah (l := [0]) rfl <| p_v (v := .slice none 0 0) rfl rfl rfl (zaj rfl) <| zac <| zag <| zag <| zah (l := [0, 1, 2, 3]) rfl <| p_v (v := .agg (zad p).toArray) rfl rfl rfl (zam (seg := (zad p)) ty32 (zaf o0) (by simp) rfl (CF.box (m := 257) (S2.box_at (j := 0) rfl) (by rw [List.drop_zero, List.take_of_length_le (by rw [zaf o0]; exact Nat.le_refl _)]))) <| p_c rfl rfl rfl (zba (args := [.agg (zad p).toArray, .int .i64 1]) ca86 rfl rfl) (least_calls w1 p o0 1 (zar (by omega) (by omega)) (Block.st S2 tb)) ?_
 rintro v3_0 w3 ⟨h3, _, T3, rfl⟩
 obtain ⟨k3, lk3, ll3, U3⟩ := zch S2 T3
 have S4 := U3
 dsimp only [lAa, lAn, lA0, lAs] at S4
 obtain ⟨h5, le5, T5, rp5⟩ := S4.freeze (i := 1) rfl
 have lf5_0 := (lk3).trans le5
 have S6 := T5.fx 1 (emp) rfl
 dsimp only [lAa, lAn, lA0, lAs] at S6
 obtain ⟨A5, c5, e5, lc5, cm5, ld5⟩ := rp5
 injection e5 with e5 _; subst e5
 have cn5 := cm5; simp only [maxLen] at cn5
 refine p_v (v := .int .i64 ((zdb p 1).length : Int)) rfl rfl rfl (zbe u124 rfl) <| p_v (v := .int .i64 0) rfl rfl rfl (zai rfl) <| zac <| zay ?_
 have T7 := S6.row_nil 5 (Kd.int .u8)
 obtain ⟨vn7, ev7, T7⟩ : ∃ v, v = (.slice none 0 0 : Value) ∧ St w.heap.size w h5 w3 ([box b1 32 (zad p), emp] ++ [row 5 (Kd.int .u8) v []]) := ⟨_, rfl, T7⟩
 have S8 := T7
 dsimp only [lAa, lAn, lA0, lAs] at S8
 refine zce (S := (List Int) × Int) (fun (q_ : (List Int) × Int) ρ w' => match q_ with | (out, t9) => ∃ (h : Ghost) (v_out : Value), Le h5 h ∧ St w.heap.size w h w' [row 5 (Kd.int .u8) v_out out] ∧ ρ 3 = v_out ∧ ρ 7 = .slice A5 (zdb p 1).length c5 ∧ ρ 8 = .int .i64 ((zdb p 1).length : Int) ∧ ρ 9 = .int .i64 t9 ∧ inK .i64 t9 ∧ (0 ≤ t9 ∧ t9 ≤ ((zdb p 1).length : Int) ∧ out = zds p t9)) (fun q_ => match q_ with | (out, t9) => ((zdb p 1).length - t9).toNat) (([] : List Int), 0) ⟨h5, vn7, Le.refl _, S8.sub [2] (by decide) rfl _ rfl, (ev7.symm), rfl, rfl, rfl, (zar (by omega) (by omega)), (by exact ⟨by omega, by omega, leastB_0 p⟩)⟩ ?_
 rintro ⟨out, t9⟩ ih9 ρ9 w9 ⟨h9, v_out, le9, S9, r9_3, r9_7, r9_8, r9_9, f9_0, hI9⟩
 have lf9_0 := zbf f9_0; have hf9_0 := zbg f9_0
 have rl9_0 := S9.row_le (j := 0) rfl; simp only [maxLen] at rl9_0
 have hl_ : (out.length : Int) ≤ 256 := by rw [hI9.2.2]; exact leastBTo_len p _
 have hq_ := hI9.1
 have hr_ : t9 < ((zdb p 1).length : Int) → ((at_ (zdb p 1) t9).length : Int) ≤ 1 := fun h => leastP_row p hI9.1 h
 refine zag <| zah (l := [0]) rfl <| p_v (v := .bool (decide (t9 < ((zdb p 1).length : Int)))) rfl rfl rfl (zd6 r9_9 r9_8) <| zac <| zag ?_
 refine zau (p := t9 < ((zdb p 1).length : Int)) rfl (fun hc10 => ?_) (fun hc10 => ?_)
 ·skip
  refine za6 <| zag <| zay <| zag <| zah (l := [0, 1, 2]) rfl ?_
  obtain ⟨ad11, seg11, a11, rp11, ce11⟩ := zbj (q := t9) (m := 1) ld5 rfl (by omega) (by omega)
  refine p_v (v := .pointer (some ad11)) rfl rfl rfl (zbi u124 ty39 r9_7 r9_9 a11 (by omega) (by omega)) ?_
  obtain ⟨A11, c11, rfl, lc11, cm11, ld11⟩ := rp11
  have cn11 := cm11; simp only [maxLen] at cn11
  refine p_v (v := .slice A11 (at_ (zdb p 1) t9).length c11) rfl rfl rfl (zam (seg := [.slice A11 (at_ (zdb p 1) t9).length c11]) ty39 rfl (by simp) rfl (CF.ghost ce11 (le9.trans S9.ghost))) <| p_v (v := .slice A11 (at_ (zdb p 1) t9).length c11) rfl rfl rfl (zaj rfl) <| zac <| zah (l := [0, 1, 2, 3]) rfl <| p_v (v := v_out) rfl rfl rfl (zai r9_3) <| p_v (v := .slice A11 (at_ (zdb p 1) t9).length c11) rfl rfl rfl (zai rfl) ?_
  obtain ⟨v13, w13, r13, g13, T13⟩ := zcs (kd := (Kd.int .u8)) (A := A11) (c := c11) (ys := (at_ (zdb p 1) t9)) (len := (at_ (zdb p 1) t9).length) 39 S9 u39 ty5 rfl rfl (j := 0) rfl rfl (news_flat (ld11.mono (le9.trans S9.ghost)) (fun _ _ hr => hr)) (by omega) (by omega)
  have S14 := T13.fx 0 (row 5 (Kd.int .u8) v13 (out ++ (at_ (zdb p 1) t9))) rfl
  dsimp only [lAa, lAn, lA0, lAs] at S14
  refine p_v (v := v13) rfl rfl rfl (zcr rfl rfl r13) <| p_v (v := v13) rfl rfl rfl (zaj rfl) <| zac <| za3 <| zah (l := [0, 1]) rfl <| p_v (v := .int .i64 (t9 + 1)) rfl rfl rfl (zdj r9_9 rfl (zar (by omega) (by omega))) <| p_v (v := .int .i64 (t9 + 1)) rfl rfl rfl (zai rfl) <| zac ?_
  refine ih9 (out ++ (at_ (zdb p 1) t9), t9 + 1) _ _ (by dsimp only; omega) ⟨h9, v13, le9, S14.sub [0] (by decide) rfl _ rfl, rfl, r9_7, r9_8, rfl, (zar (by omega) (by omega)), (by exact ⟨by omega, by omega, by rw [hI9.2.2]; exact leastB_step p hI9.1 (by omega)⟩)⟩
 refine zcf rfl <| zag <| zah (l := [0, 1]) rfl <| p_v (v := v_out) rfl rfl rfl (zai r9_3) <| p_v (v := v_out) rfl rfl rfl (zaj rfl) <| zac <| zax Tryd.func77 (res1 rfl (za4 (v := v_out) rfl)) ?_
 have q0 : (zbd p : List Int) = out := by
  rw [hI9.2.2]; exact leastB_end p (by omega)
 refine ⟨_, rfl, h9, v_out, ?_, ?_⟩
 · rw [q0]; exact S9.sub [0] (by decide) rfl _ rfl
 · rfl
theorem fits1_calls (w : World) (s : BSet) (p : PartM) (o1 : okPart p) (a1 : Addr) (pc1 : ∀ j v, (zad p)[j]? = some v → zeg (hp w) (a1.add j) = some v) :
    Calls Tryd.prog 132 #[.agg (zak s).toArray, .pointer (some a1)] w fun e w' => ∃ v, e = .returned v ∧ ∃ (hn : Ghost), St w.heap.size w hn w' [] ∧ v = .bool (zd2 p s) := by
 refine zas Tryd.func132 rfl Tryd.ntmps132 rfl ?_
 have S0 := St.init w
 have ploo1 := zbf o1.2; have phio1 := zbg o1.2
 refine zag <| zah (l := [0, 1]) rfl ?_
 obtain ⟨b1, w1, r1, g1, T1⟩ := zb0 (P := Tryd.prog) S0 74 (v := .agg (zak s).toArray) (zak s) rfl
 have S2 := T1
 dsimp only [lAa, lAn, lA0, lAs] at S2
 refine p_v (v := .pointer (some ⟨b1, 0, none⟩)) rfl rfl rfl (zdi rfl r1) <| p_v (v := .bool false) rfl rfl rfl (zaj rfl) <| zac <| zag <| zah (l := [0, 1, 2, 3]) rfl <| p_v (v := .agg (zad p).toArray) rfl rfl rfl (zam (seg := (zad p)) ty32 (zaf o1) (by simp) rfl (CF.ghost pc1 (St.le0 S2))) <| p_v (v := .agg (zak s).toArray) rfl rfl rfl (zam (seg := (zak s)) ty74 rfl (by simp) rfl (CF.box (m := 4) (S2.box_at (j := 0) rfl) rfl)) <| p_c rfl rfl rfl (zba (args := [.agg (zad p).toArray, .agg (zak s).toArray]) ca89 rfl rfl) (splits_calls w1 p o1 s) ?_
 rintro _ w3 ⟨h3, T3, rfl⟩
 have S4 := S2.keep (Chg.of_below T3.below)
 refine p_v (v := .bool (zd2 p s)) rfl rfl rfl (zaj rfl) <| zac <| zax Tryd.func132 (res1 rfl (za4 (v := .bool (zd2 p s)) rfl)) ?_
 have q0 : (zd2 p s : Bool) = zd2 p s := rfl
 refine ⟨_, rfl, (fun _ => none), ?_, ?_⟩
 · exact S4.sub [] (by decide) rfl _ rfl
 · rfl
theorem fits_calls (w : World) (p : PartM) (o0 : okPart p) (l : List BSet) (A1 : Option Addr) (c1 : Nat) (b1 : l.length ≤ c1 ∧ c1 ≤ maxLen) (l1 : zbz kSet (hp w) A1 l) :
    Calls Tryd.prog 76 #[.agg (zad p).toArray, .slice A1 l.length c1] w fun e w' => ∃ v, e = .returned v ∧ ∃ (hn : Ghost), St w.heap.size w hn w' [] ∧ v = .bool (fitsP p l) := by
 refine zas Tryd.func76 rfl Tryd.ntmps76 rfl ?_
 have S0 := St.init w
 have ploo0 := zbf o0.2; have phio0 := zbg o0.2
 have bb1 := b1.1; have bc1 := b1.2; simp only [maxLen] at bc1
 refine zag <| zah (l := [0, 1]) rfl ?_
 obtain ⟨b1, w1, r1, g1, T1⟩ := zb0 (P := Tryd.prog) S0 32 (v := .agg (zad p).toArray) (zad p) rfl
 have S2 := T1
 dsimp only [lAa, lAn, lA0, lAs] at S2
 refine p_v (v := .pointer (some ⟨b1, 0, none⟩)) rfl rfl rfl (zdi rfl r1) <| p_v (v := .bool false) rfl rfl rfl (zaj rfl) <| zac <| zag <| zah (l := [0, 1, 2, 3, 4, 5, 6, 7, 8]) rfl <| p_v (v := .agg (zad p).toArray) rfl rfl rfl (zam (seg := (zad p)) ty32 (zaf o0) (by simp) rfl (CF.box (m := 257) (S2.box_at (j := 0) rfl) (by rw [List.drop_zero, List.take_of_length_le (by rw [zaf o0]; exact Nat.le_refl _)]))) <| p_c rfl rfl rfl (zba (args := [.agg (zad p).toArray]) ca26 rfl rfl) (right_calls w1 p o0) ?_
 rintro _ w3 ⟨h3, T3, rfl⟩
 have S4 := S2.keep (Chg.of_below T3.below)
 refine p_v (v := .bool (zdu p)) rfl rfl rfl (zai rfl) ?_
 rcases Bool.eq_false_or_eq_true (zdu p) with hc5 | hc5
 ·skip
  refine p_v (v := .slice A1 l.length c1) rfl (wo 2 7 rfl rfl (congrArg Value.bool hc5) rfl) rfl (zai rfl) <| p_v (v := .func (.func 132) #[] #[.pointer (some ⟨b1, 0, none⟩)]) rfl (wo 2 7 rfl rfl (congrArg Value.bool hc5) rfl) rfl (zed (fv := []) (cv := [.pointer (some ⟨b1, 0, none⟩)]) rfl rfl) ?_
  refine p_i rfl (wo 2 7 rfl rfl (congrArg Value.bool hc5) rfl) rfl (zba (args := [.slice A1 l.length c1, .func (.func 132) #[] #[.pointer (some ⟨b1, 0, none⟩)]]) ca131 rfl rfl) (zas Tryd.func131 rfl Tryd.ntmps131 rfl ?_)
  refine zag <| zah (l := [0]) rfl <| p_v (v := .bool false) rfl rfl rfl (zaj rfl) <| zac <| zag <| zah (l := [0, 1, 2, 3, 4]) rfl <| p_v (v := .slice A1 l.length c1) rfl rfl rfl (zai rfl) <| p_v (v := .func (.func 132) #[] #[.pointer (some ⟨b1, 0, none⟩)]) rfl rfl rfl (zai rfl) ?_
  refine p_i rfl rfl rfl (zba (args := [.slice A1 l.length c1, .func (.func 132) #[] #[.pointer (some ⟨b1, 0, none⟩)]]) ca160 rfl rfl) (zas Tryd.func160 rfl Tryd.ntmps160 rfl ?_)
  refine zag <| zah (l := [0]) rfl <| p_v (v := .int .i64 0) rfl rfl rfl (zaj rfl) <| zac <| zag <| zag <| zah (l := [0, 1, 2]) rfl <| p_v (v := .slice A1 l.length c1) rfl rfl rfl (zai rfl) <| p_v (v := .int .i64 (l.length : Int)) rfl rfl rfl (zbe u62 rfl) <| p_v (v := .int .i64 0) rfl rfl rfl (zai rfl) <| zac <| zay ?_
  refine zce (S := Int) (fun (q_ : Int) ρ w' => match q_ with | t8 => ∃ (h : Ghost), Le (fun _ => none) h ∧ St w.heap.size w h w' [box b1 32 (zad p)] ∧ ρ 0 = .slice A1 l.length c1 ∧ ρ 1 = .func (.func 132) #[] #[.pointer (some ⟨b1, 0, none⟩)] ∧ ρ 7 = .int .i64 (l.length : Int) ∧ ρ 8 = .int .i64 t8 ∧ inK .i64 t8 ∧ (0 ≤ t8 ∧ t8 ≤ (l.length : Int) ∧ (l.take t8.toNat).any (zd2 p) = false)) (fun q_ => match q_ with | t8 => (l.length - t8).toNat) (0) ⟨(fun _ => none), Le.refl _, S4.sub [0] (by decide) rfl _ rfl, rfl, rfl, rfl, rfl, (zar (by omega) (by omega)), (by exact ⟨by omega, by omega, rfl⟩)⟩ ?_
  rintro t8 ih6 ρ6 w6 ⟨h6, le6, S6, r6_0, r6_1, r6_7, r6_8, f6_0, hI6⟩
  have lf6_0 := zbf f6_0; have hf6_0 := zbg f6_0
  have hq_ := hI6.1
  refine zag <| zah (l := [0]) rfl <| p_v (v := .bool (decide (t8 < (l.length : Int)))) rfl rfl rfl (zd6 r6_8 r6_7) <| zac <| zag ?_
  refine zau (p := t8 < (l.length : Int)) rfl (fun hc7 => ?_) (fun hc7 => ?_)
  ·skip
   refine za6 <| zag <| zay <| zag <| zah (l := [0, 1]) rfl <| p_v (v := .int .i64 t8) rfl rfl rfl (zai r6_8) <| p_v (v := .int .i64 t8) rfl rfl rfl (zaj rfl) <| zac <| zag <| zah (l := [0, 1, 2, 3, 4, 5]) rfl <| p_v (v := .func (.func 132) #[] #[.pointer (some ⟨b1, 0, none⟩)]) rfl rfl rfl (zai r6_1) <| p_v (v := .slice A1 l.length c1) rfl rfl rfl (zai r6_0) ?_
   refine p_v (v := .int .i64 t8) rfl rfl rfl (zai rfl) ?_
   obtain ⟨ad8, seg8, a8, rp8, ce8⟩ := zbj (q := t8) (m := 4) l1 rfl (by omega) (by omega)
   refine p_v (v := .pointer (some ad8)) rfl rfl rfl (zbi u62 ty74 rfl rfl a8 (by omega) (by omega)) ?_
   obtain ⟨rfl, ok8⟩ := rp8
   refine p_v (v := .agg (zak (at_ l t8)).toArray) rfl rfl rfl (zam (seg := (zak (at_ l t8))) ty74 rfl (by simp) rfl (CF.ghost ce8 (St.le0 S6))) <| p_c rfl rfl rfl (zba (args := [.agg (zak (at_ l t8)).toArray, .pointer (some ⟨b1, 0, none⟩)]) ca132 rfl rfl) (fits1_calls w6 (at_ l t8) p o0 ⟨b1, 0, none⟩ (zco (S6.box_at (j := 0) rfl))) ?_
   rintro _ w9 ⟨h9, T9, rfl⟩
   have S10 := S6.keep (Chg.of_below T9.below)
   refine zac ?_
   refine zci (b := zd2 p (at_ l t8)) rfl (fun hc11 => ?_) (fun hc11 => ?_)
   ·skip
    refine zag <| zah (l := [0, 1]) rfl <| p_v (v := .int .i64 t8) rfl rfl rfl (zai rfl) <| p_v (v := .int .i64 t8) rfl rfl rfl (zaj rfl) <| zac <| zax Tryd.func160 (res1 rfl (za4 (v := .int .i64 t8) rfl)) ?_
    refine ⟨_, rfl, ?_⟩
    refine p_v (v := .bool (decide (0 ≤ t8))) rfl rfl rfl (x_geq rfl rfl) <| p_v (v := .bool (decide (0 ≤ t8))) rfl rfl rfl (zaj rfl) <| zac <| zax Tryd.func131 (res1 rfl (za4 (v := .bool (decide (0 ≤ t8))) rfl)) ?_
    refine ⟨_, rfl, ?_⟩
    refine p_v (v := .bool (!(decide (0 ≤ t8)))) rfl (wo 2 7 rfl rfl (congrArg Value.bool hc5) rfl) rfl (x_not rfl) <| p_v (v := .bool (!(decide (0 ≤ t8)))) rfl rfl rfl (zbs (congrArg Value.bool hc5) rfl) <| p_v (v := .bool (!(decide (0 ≤ t8)))) rfl rfl rfl (zaj rfl) <| zac ?_
    have hc12 : (0 ≤ t8) := by
     omega
    refine zax Tryd.func76 (res1 rfl (za4 (v := .bool false) (congrArg (fun z => Value.bool (!z)) (decide_eq_true hc12)))) ?_
    have q0 : (fitsP p l : Bool) = false := by
     exact fits_no2 hI6.1 (by omega) (by assumption)
    refine ⟨_, rfl, h6, ?_, ?_⟩
    · exact S10.sub [] (by decide) rfl _ rfl
    · first | rfl | (simp only [q0]; rfl) | (simp only [q0])
   refine za6 <| za3 <| zah (l := [0, 1]) rfl <| p_v (v := .int .i64 (t8 + 1)) rfl rfl rfl (zdj r6_8 rfl (zar (by omega) (by omega))) <| p_v (v := .int .i64 (t8 + 1)) rfl rfl rfl (zai rfl) <| zac ?_
   refine ih6 (t8 + 1) _ _ (by dsimp only; omega) ⟨h6, le6, S10.sub [0] (by decide) rfl _ rfl, r6_0, r6_1, r6_7, rfl, (zar (by omega) (by omega)), (by exact ⟨by omega, by omega, any_step hI6.1 (by omega) hI6.2.2 (by assumption)⟩)⟩
  refine zcf rfl <| zag <| zah (l := [0]) rfl <| p_v (v := .int .i64 (-1)) rfl rfl rfl (zaj rfl) <| zac <| zax Tryd.func160 (res1 rfl (za4 (v := .int .i64 (-1)) rfl)) ?_
  refine ⟨_, rfl, ?_⟩
  refine p_v (v := .bool (decide (0 ≤ (-1)))) rfl rfl rfl (x_geq rfl rfl) <| p_v (v := .bool (decide (0 ≤ (-1)))) rfl rfl rfl (zaj rfl) <| zac <| zax Tryd.func131 (res1 rfl (za4 (v := .bool (decide (0 ≤ (-1)))) rfl)) ?_
  refine ⟨_, rfl, ?_⟩
  refine p_v (v := .bool (!(decide (0 ≤ (-1))))) rfl (wo 2 7 rfl rfl (congrArg Value.bool hc5) rfl) rfl (x_not rfl) <| p_v (v := .bool (!(decide (0 ≤ (-1))))) rfl rfl rfl (zbs (congrArg Value.bool hc5) rfl) <| p_v (v := .bool (!(decide (0 ≤ (-1))))) rfl rfl rfl (zaj rfl) <| zac <| zax Tryd.func76 (res1 rfl (za4 (v := .bool (!(decide (0 ≤ (-1))))) rfl)) ?_
  have q0 : (fitsP p l : Bool) = !(decide (0 ≤ (-1))) := by
   exact fits_yes (by assumption) (by omega) hI6.2.2
  refine ⟨_, rfl, h6, ?_, ?_⟩
  · exact S6.sub [] (by decide) rfl _ rfl
  · first | rfl | (simp only [q0]; rfl) | (simp only [q0])
 refine zby rfl (wo 2 7 rfl rfl (congrArg Value.bool hc5) rfl) rfl <| zby rfl (wo 2 7 rfl rfl (congrArg Value.bool hc5) rfl) rfl <| zby rfl (wo 2 7 rfl rfl (congrArg Value.bool hc5) rfl) rfl <| zby rfl (wo 2 7 rfl rfl (congrArg Value.bool hc5) rfl) rfl <| p_v (v := .bool false) rfl rfl rfl (zck (congrArg Value.bool hc5) rfl) <| p_v (v := .bool false) rfl rfl rfl (zaj rfl) <| zac <| zax Tryd.func76 (res1 rfl (za4 (v := .bool false) rfl)) ?_
 have q0 : (fitsP p l : Bool) = false := by
  exact fits_no1 (by assumption)
 refine ⟨_, rfl, (fun _ => none), ?_, ?_⟩
 · exact S4.sub [] (by decide) rfl _ rfl
 · (simp only [q0])
theorem build_calls (w : World) (m : Mach) (A0_0 : Option Addr) (c0_0 : Nat) (b0_0 : m.spots.length ≤ c0_0 ∧ c0_0 ≤ maxLen) (l0_0 : zbz kSpot (hp w) A0_0 m.spots) (A0_1 : Option Addr) (c0_1 : Nat) (b0_1 : m.first.length ≤ c0_1 ∧ c0_1 ≤ maxLen) (l0_1 : zbz (Kd.int .i64) (hp w) A0_1 m.first) (A0_2 : Option Addr) (c0_2 : Nat) (b0_2 : m.follow.length ≤ c0_2 ∧ c0_2 ≤ maxLen) (l0_2 : zbz (Kd.int .i64).slice (hp w) A0_2 m.follow) (A0_3 : Option Addr) (c0_3 : Nat) (b0_3 : m.last.length ≤ c0_3 ∧ c0_3 ≤ maxLen) (l0_3 : zbz Kd.bool (hp w) A0_3 m.last) (p : PartM) (o1 : okPart p) (u : Unit) (pre0 : (m.spots.length : Int) ≤ 20) (tb : Block 0 tzTab w) :
    Calls Tryd.prog 21 #[.agg #[.slice A0_0 m.spots.length c0_0, .slice A0_1 m.first.length c0_1, .slice A0_2 m.follow.length c0_2, .slice A0_3 m.last.length c0_3, .bool m.empty], .agg (zad p).toArray, .pointer none] w fun e w' => ∃ v, e = .returned v ∧ ∃ (hn : Ghost) (r0 : Value) (r1 : Value), St w.heap.size w hn w' [row 23 (Kd.int .i64).slice r0 ((zaa m p).next), row 4 Kd.bool r1 ((zaa m p).final)] ∧ v = .tuple #[.agg ((zad ((zaa m p).part)) ++ ([r0, r1] : List Value)).toArray, .int .i64 (errB m p)] ∧ okPart ((zaa m p).part) ∧ inK .i64 (errB m p) := by
 refine zas Tryd.func21 rfl Tryd.ntmps21 rfl ?_
 have S0 := St.init w
 have bb0_0 := b0_0.1; have bc0_0 := b0_0.2; simp only [maxLen] at bc0_0
 have bb0_1 := b0_1.1; have bc0_1 := b0_1.2; simp only [maxLen] at bc0_1
 have bb0_2 := b0_2.1; have bc0_2 := b0_2.2; simp only [maxLen] at bc0_2
 have bb0_3 := b0_3.1; have bc0_3 := b0_3.2; simp only [maxLen] at bc0_3
 have ploo1 := zbf o1.2; have phio1 := zbg o1.2
 refine zag <| zah (l := [0, 1, 2, 3]) rfl ?_
 obtain ⟨b1, w1, r1, g1, T1⟩ := zb0 (P := Tryd.prog) S0 27 (v := .agg #[.slice A0_0 m.spots.length c0_0, .slice A0_1 m.first.length c0_1, .slice A0_2 m.follow.length c0_2, .slice A0_3 m.last.length c0_3, .bool m.empty]) [.slice A0_0 m.spots.length c0_0, .slice A0_1 m.first.length c0_1, .slice A0_2 m.follow.length c0_2, .slice A0_3 m.last.length c0_3, .bool m.empty] rfl
 have S2 := T1
 dsimp only [lAa, lAn, lA0, lAs] at S2
 refine p_v (v := .pointer (some ⟨b1, 0, none⟩)) rfl rfl rfl (zdi rfl r1) ?_
 obtain ⟨b3, w3, r3, g3, T3⟩ := zb0 (P := Tryd.prog) S2 32 (v := .agg (zad p).toArray) (zad p) rfl
 have S4 := T3
 dsimp only [lAa, lAn, lA0, lAs] at S4
 refine p_v (v := .pointer (some ⟨b3, 0, none⟩)) rfl rfl rfl (zdi rfl r3) ?_
 obtain ⟨b5, w5, r5, g5, T5⟩ := zb0 (P := Tryd.prog) S4 35 (v := zv35) ((zad zPart) ++ ([.slice none 0 0, .slice none 0 0] : List Value)) (by kernel_rfl)
 have S6 := T5
 dsimp only [lAa, lAn, lA0, lAs] at S6
 refine p_v (v := .pointer (some ⟨b5, 0, none⟩)) rfl rfl rfl (zbr ty35 r5) <| p_v (v := .int .i64 0) rfl rfl rfl (zaj rfl) <| zac <| zag <| zag ?_
 rcases Bool.eq_false_or_eq_true (zcu m) with hc8 | hc8
 ·skip
  have hR_ := right_iff.1 hc8
  have hf9 : (CFs ⟨b1, 0, none⟩ [.slice A0_0 m.spots.length c0_0, .slice A0_1 m.first.length c0_1, .slice A0_2 m.follow.length c0_2, .slice A0_3 m.last.length c0_3, .bool m.empty]).1 w5 := (CF.box (m := 5) (S6.box_at (j := 0) rfl) rfl)
  have hf10 : (zcm kSpot A0_0 m.spots).1 w5 := (l0_0.mono (St.le0 S6))
  have hf11 : (zcm (Kd.int .i64) A0_1 m.first).1 w5 := (l0_1.mono (St.le0 S6))
  have hf12 : (zcm (Kd.int .i64).slice A0_2 m.follow).1 w5 := (l0_2.mono (St.le0 S6))
  have hf13 : (zcm Kd.bool A0_3 m.last).1 w5 := (l0_3.mono (St.le0 S6))
  have hf14 : (CFs ⟨b3, 0, none⟩ (zad p)).1 w5 := (CF.box (m := 257) (S6.box_at (j := 1) rfl) (by rw [List.drop_zero, List.take_of_length_le (by rw [zaf o1]; exact Nat.le_refl _)]))
  have hf15 : (CFs ⟨b1, 0, none⟩ [.slice A0_0 m.spots.length c0_0, .slice A0_1 m.first.length c0_1, .slice A0_2 m.follow.length c0_2, .slice A0_3 m.last.length c0_3, .bool m.empty]).1 w5 := (CF.box (m := 5) (S6.box_at (j := 0) rfl) rfl)
  refine daS (hkC 0 hf9 (hkC 1 hf10 (hkC 1 hf11 (hkC 1 hf12 (hkC 1 hf13 (hkC 4 hf14 (hkC 5 hf15 (hkN (w := w5))))))))) 10 rfl mixed ?_
  intro wd16 gd16 hd16
  have S17 := S6.keep gd16
  have hf18 := spUp gd16 hf9
  have hf19 := spUp gd16 hf10
  have hf20 := spUp gd16 hf11
  have hf21 := spUp gd16 hf12
  have hf22 := spUp gd16 hf13
  have hf23 := spUp gd16 hf14
  have hf24 := spUp gd16 hf15
  refine qd1 0 (i := 0) (v := .agg #[.slice A0_0 m.spots.length c0_0, .slice A0_1 m.first.length c0_1, .slice A0_2 m.follow.length c0_2, .slice A0_3 m.last.length c0_3, .bool m.empty]) rfl rfl (by decide +kernel) rfl rfl (fun wq hq => (zam (seg := [.slice A0_0 m.spots.length c0_0, .slice A0_1 m.first.length c0_1, .slice A0_2 m.follow.length c0_2, .slice A0_3 m.last.length c0_3, .bool m.empty]) ty27 rfl (by simp) rfl hq)) (zbm hf18 (zan rfl)) <| d_m (i := 1) (v := .bool (zcu m)) (fun wf => zbz kSpot (hp wf) A0_0 m.spots ∧ zbz (Kd.int .i64) (hp wf) A0_1 m.first ∧ zbz (Kd.int .i64).slice (hp wf) A0_2 m.follow ∧ zbz Kd.bool (hp wf) A0_3 m.last) (fun _ ho => ⟨ho _ (List.mem_of_getElem? (i := 1) rfl) rfl, ho _ (List.mem_of_getElem? (i := 2) rfl) rfl, ho _ (List.mem_of_getElem? (i := 3) rfl) rfl, ho _ (List.mem_of_getElem? (i := 4) rfl) rfl⟩) rfl (by decide +kernel) (by decide +kernel) (by decide +kernel) rfl rfl (fun wq => (zba (args := [.agg #[.slice A0_0 m.spots.length c0_0, .slice A0_1 m.first.length c0_1, .slice A0_2 m.follow.length c0_2, .slice A0_3 m.last.length c0_3, .bool m.empty]]) ca37 rfl rfl)) (fun wq hq => (rightN_calls wq m A0_0 c0_0 b0_0 hq.1 A0_1 c0_1 b0_1 hq.2.1 A0_2 c0_2 b0_2 hq.2.2.1 A0_3 c0_3 b0_3 hq.2.2.2).mono fun e w2 he => by obtain ⟨_, rfl, _, T, rfl⟩ := he; exact ⟨rfl, Chg.of_below T.below⟩) (za8 rfl (zbm hf19 (zbm hf20 (zbm hf21 (zbm hf22 (zan rfl)))))) <| qd0 (i := 2) (v := .bool (!(zcu m))) rfl (by decide +kernel) rfl rfl (x_not rfl) (zan rfl) <| qd0 (i := 3) (v := .bool (!(zcu m))) rfl (by decide +kernel) rfl rfl (zai rfl) (zan rfl) <| qd1 5 (i := 4) (v := .agg (zad p).toArray) rfl rfl (by decide +kernel) (wo 3 14 rfl rfl (congrArg (fun z => Value.bool (!z)) hc8) rfl) rfl (fun wq hq => (zam (seg := (zad p)) ty32 (zaf o1) (by simp) rfl hq)) (za8 rfl (za8 rfl (za8 rfl (za8 rfl (za8 rfl (zbm hf23 (zan rfl))))))) <| qd1 6 (i := 5) (v := .agg #[.slice A0_0 m.spots.length c0_0, .slice A0_1 m.first.length c0_1, .slice A0_2 m.follow.length c0_2, .slice A0_3 m.last.length c0_3, .bool m.empty]) rfl rfl (by decide +kernel) (wo 3 14 rfl rfl (congrArg (fun z => Value.bool (!z)) hc8) rfl) rfl (fun wq hq => (zam (seg := [.slice A0_0 m.spots.length c0_0, .slice A0_1 m.first.length c0_1, .slice A0_2 m.follow.length c0_2, .slice A0_3 m.last.length c0_3, .bool m.empty]) ty27 rfl (by simp) rfl hq)) (za8 rfl (za8 rfl (za8 rfl (za8 rfl (za8 rfl (za8 rfl (zbm hf24 (zan rfl)))))))) <| zbo (i := 6) (by decide +kernel) ?_
  intro wd25 gd25
  have S26 := S17.keep gd25
  have hf27 := spUp gd25 hf18
  have hf28 := spUp gd25 hf19
  have hf29 := spUp gd25 hf20
  have hf30 := spUp gd25 hf21
  have hf31 := spUp gd25 hf22
  have hf32 := spUp gd25 hf23
  have hf33 := spUp gd25 hf24
  refine d_c rfl (wo 3 14 rfl rfl (congrArg (fun z => Value.bool (!z)) hc8) rfl) rfl (zba (args := [.agg #[.slice A0_0 m.spots.length c0_0, .slice A0_1 m.first.length c0_1, .slice A0_2 m.follow.length c0_2, .slice A0_3 m.last.length c0_3, .bool m.empty]]) ca63 rfl rfl) (setsN_calls wd25 m A0_0 c0_0 b0_0 (l0_0.mono (St.le0 S26)) A0_1 c0_1 b0_1 (l0_1.mono (St.le0 S26)) A0_2 c0_2 b0_2 (l0_2.mono (St.le0 S26)) A0_3 c0_3 b0_3 (l0_3.mono (St.le0 S26)) (by first | assumption | omega | decide)) ?_
  rintro v34_0 w34 ⟨h34, _, T34, rfl⟩
  obtain ⟨k34, lk34, ll34, U34⟩ := zch S26 T34
  have S35 := U34
  dsimp only [lAa, lAn, lA0, lAs] at S35
  have hf36 := spUp (Chg.of_below T34.below) hf27
  have hf37 := spUp (Chg.of_below T34.below) hf28
  have hf38 := spUp (Chg.of_below T34.below) hf29
  have hf39 := spUp (Chg.of_below T34.below) hf30
  have hf40 := spUp (Chg.of_below T34.below) hf31
  have hf41 := spUp (Chg.of_below T34.below) hf32
  have hf42 := spUp (Chg.of_below T34.below) hf33
  refine ⟨.inl (Chg.of_below T34.below), ?_⟩
  obtain ⟨h43, le43, T43, rp43⟩ := S35.freeze (i := 3) rfl
  have lf43_0 := (lk34).trans le43
  have S44 := T43.fx 3 (emp) rfl
  dsimp only [lAa, lAn, lA0, lAs] at S44
  obtain ⟨A43, c43, e43, lc43, cm43, ld43⟩ := rp43
  injection e43 with e43 _; subst e43
  have cn43 := cm43; simp only [maxLen] at cn43
  have hf46 : (zcm kSet A43 (setsM m)).1 w34 := (ld43.mono ((Le.refl _).trans S44.ghost))
  refine raMo (hkC 7 hf46 (hkN (w := w34))) <| d_m (i := 7) (v := .bool (fitsP p (setsM m))) (fun wf => zbz kSet (hp wf) A43 (setsM m)) (fun _ ho => ho _ (List.mem_of_getElem? (i := 0) rfl) rfl) rfl (by decide +kernel) (by decide +kernel) (by decide +kernel) (wo 3 14 rfl rfl (congrArg (fun z => Value.bool (!z)) hc8) rfl) rfl (fun wq => (zba (args := [.agg (zad p).toArray, .slice A43 (setsM m).length c43]) ca76 rfl rfl)) (fun wq hq => (fits_calls wq p o1 (setsM m) A43 c43 (And.intro lc43 cm43) hq).mono fun e w2 he => by obtain ⟨_, rfl, _, T, rfl⟩ := he; exact ⟨rfl, Chg.of_below T.below⟩) (zbm hf46 (zan rfl)) <| qd0 (i := 8) (v := .bool (!(fitsP p (setsM m)))) rfl (by decide +kernel) (wo 3 14 rfl rfl (congrArg (fun z => Value.bool (!z)) hc8) rfl) rfl (x_not rfl) (zan rfl) <| qd0 (i := 9) (v := .bool (!(fitsP p (setsM m)))) rfl (by decide +kernel) rfl rfl (zck (congrArg (fun z => Value.bool (!z)) hc8) rfl) (zan rfl) <| zcb (by decide +kernel) ?_
  intro wd47 gd47
  have S48 := S44.keep gd47
  refine zct (b := fitsP p (setsM m)) rfl (fun hc49 => ?_) (fun hc49 => ?_)
  ·skip
   refine zag <| zah (l := [0, 1, 2]) rfl <| p_v (v := .agg ((zad zPart) ++ ([.slice none 0 0, .slice none 0 0] : List Value)).toArray) rfl rfl rfl (zc4 (pv := []) rfl (za9 pl35 ty35 rfl (cs := ((zad zPart) ++ ([.slice none 0 0, .slice none 0 0] : List Value))) (by kernel_rfl))) ?_
   obtain ⟨w50, r50, g50, T50⟩ := za7 (P := Tryd.prog) (v := .agg ((zad zPart) ++ ([.slice none 0 0, .slice none 0 0] : List Value)).toArray) (vs := ((zad zPart) ++ ([.slice none 0 0, .slice none 0 0] : List Value))) (cs := ((zad zPart) ++ ([.slice none 0 0, .slice none 0 0] : List Value))) S48 ty35 rfl (zal (zaf (zao)) rfl) (zal (zaf (zao)) rfl) (j := 2) rfl (zcc (zaz _) (by simp [Value.oneCell']))
   have S51 : St w.heap.size w h43 w50 [box b1 27 [.slice A0_0 m.spots.length c0_0, .slice A0_1 m.first.length c0_1, .slice A0_2 m.follow.length c0_2, .slice A0_3 m.last.length c0_3, .bool m.empty], box b3 32 (zad p), box b5 35 ((zad zPart) ++ ([.slice none 0 0, .slice none 0 0] : List Value)), emp] := T50
   refine p_s rfl rfl (za2 rfl rfl r50) <| p_v (v := .int .i64 1) rfl rfl rfl (zaj rfl) <| zac ?_
   have T52 := S51.row_nil 23 (Kd.int .i64).slice
   have S53 := T52
   dsimp only [lAa, lAn, lA0, lAs] at S53
   have T54 := S53.row_nil 4 Kd.bool
   have S55 := T54
   dsimp only [lAa, lAn, lA0, lAs] at S55
   refine zax Tryd.func21 (res2 rfl (zcz S51 ty35 rfl (j := 2) rfl (zal (zaf (zao)) rfl) (by simp) rfl) (za4 (v := .int .i64 1) rfl)) ?_
   have q0 : ((zaa m p).part : PartM) = zPart := by
    first | (rw [(zb3 (by assumption)).1]; done) | (rw [(zb3 (by assumption)).1]) | exact (zb3 (by assumption)).2 | (rw [(zb2 (by assumption)).1]; done) | (rw [(zb2 (by assumption)).1]) | exact (zb2 (by assumption)).2 | exact err_yes (by assumption) (by assumption) | (rw [zbl (by assumption) (by assumption), zcg]; done) | (rw [zbl (by assumption) (by assumption), zcg]) | (rw [zbl (by assumption) (by assumption), zc8]; exact (zc0 hI_ (by omega)).2.1.symm) | (rw [zbl (by assumption) (by assumption), zc1]; exact (zc0 hI_ (by omega)).2.2.symm)
   have q1 : ((zaa m p).next : List (List Int)) = ([] : List (List Int)) := by
    first | (rw [(zb3 (by assumption)).1]; done) | (rw [(zb3 (by assumption)).1]) | exact (zb3 (by assumption)).2 | (rw [(zb2 (by assumption)).1]; done) | (rw [(zb2 (by assumption)).1]) | exact (zb2 (by assumption)).2 | exact err_yes (by assumption) (by assumption) | (rw [zbl (by assumption) (by assumption), zcg]; done) | (rw [zbl (by assumption) (by assumption), zcg]) | (rw [zbl (by assumption) (by assumption), zc8]; exact (zc0 hI_ (by omega)).2.1.symm) | (rw [zbl (by assumption) (by assumption), zc1]; exact (zc0 hI_ (by omega)).2.2.symm)
   have q2 : ((zaa m p).final : List Bool) = ([] : List Bool) := by
    first | (rw [(zb3 (by assumption)).1]; done) | (rw [(zb3 (by assumption)).1]) | exact (zb3 (by assumption)).2 | (rw [(zb2 (by assumption)).1]; done) | (rw [(zb2 (by assumption)).1]) | exact (zb2 (by assumption)).2 | exact err_yes (by assumption) (by assumption) | (rw [zbl (by assumption) (by assumption), zcg]; done) | (rw [zbl (by assumption) (by assumption), zcg]) | (rw [zbl (by assumption) (by assumption), zc8]; exact (zc0 hI_ (by omega)).2.1.symm) | (rw [zbl (by assumption) (by assumption), zc1]; exact (zc0 hI_ (by omega)).2.2.symm)
   have q3 : (errB m p : Int) = 1 := by
    first | (rw [(zb3 (by assumption)).1]; done) | (rw [(zb3 (by assumption)).1]) | exact (zb3 (by assumption)).2 | (rw [(zb2 (by assumption)).1]; done) | (rw [(zb2 (by assumption)).1]) | exact (zb2 (by assumption)).2 | exact err_yes (by assumption) (by assumption) | (rw [zbl (by assumption) (by assumption), zcg]; done) | (rw [zbl (by assumption) (by assumption), zcg]) | (rw [zbl (by assumption) (by assumption), zc8]; exact (zc0 hI_ (by omega)).2.1.symm) | (rw [zbl (by assumption) (by assumption), zc1]; exact (zc0 hI_ (by omega)).2.2.symm)
   refine ⟨_, rfl, h43, (.slice none 0 0), (.slice none 0 0), ?_, ?_, ?_, ?_⟩
   · rw [q1]; rw [q2]; exact S55.sub [4, 5] (by decide) rfl _ rfl
   · first | rfl | (simp only [q0, q1, q2, q3]; rfl) | (simp only [q0, q1, q2, q3])
   · rw [q0]; first | assumption | exact zao
   · rw [q3]; exact (zar (by omega) (by omega))
  have hP_ := rightP_of o1 (fits_right hc49); have hll_ := leastB_len hP_; have hpn_ := hP_.lo; have hpm_ := hP_.hi
  refine za6 <| zag <| zah (l := [0, 1, 2, 3]) rfl <| p_v (v := .agg (zad p).toArray) rfl rfl rfl (zam (seg := (zad p)) ty32 (zaf o1) (by simp) rfl (CF.box (m := 257) (S48.box_at (j := 1) rfl) (by rw [List.drop_zero, List.take_of_length_le (by rw [zaf o1]; exact Nat.le_refl _)]))) <| p_c rfl rfl rfl (zba (args := [.agg (zad p).toArray]) ca77 rfl rfl) (leastD_calls wd47 p o1 (Block.st S48 tb)) ?_
  rintro v56_0 w56 ⟨h56, _, T56, rfl⟩
  obtain ⟨k56, lk56, ll56, U56⟩ := zch S48 T56
  have lc56_0 := (lf43_0).trans lk56
  have lc56_1 := (le43).trans lk56
  have S57 := U56
  dsimp only [lAa, lAn, lA0, lAs] at S57
  obtain ⟨h58, le58, T58, rp58⟩ := S57.freeze (i := 4) rfl
  have lf58_0 := (lc56_0).trans le58
  have lf58_1 := (lc56_1).trans le58
  have lf58_2 := (lk56).trans le58
  have S59 := T58.fx 4 (emp) rfl
  dsimp only [lAa, lAn, lA0, lAs] at S59
  obtain ⟨A58, c58, e58, lc58, cm58, ld58⟩ := rp58
  injection e58 with e58 _; subst e58
  have cn58 := cm58; simp only [maxLen] at cn58
  obtain ⟨b60, w60, r60, g60, T60⟩ := zb0 (P := Tryd.prog) S59 39 (v := (.slice none 0 0)) [.slice none 0 0] rfl
  have S61 := T60
  dsimp only [lAa, lAn, lA0, lAs] at S61
  refine p_v (v := .pointer (some ⟨b60, 0, none⟩)) rfl rfl rfl (zbr ty39 r60) ?_
  obtain ⟨w62, r62, g62, T62⟩ := zcj (P := Tryd.prog) (off := 0) (v := .slice A58 (zbd p).length c58) (vs := [.slice A58 (zbd p).length c58]) S61 ty39 rfl rfl (j := 5) rfl (by first | decide | exact Nat.le_of_ble_eq_true rfl) (by simp [Value.oneCell'])
  have S63 := T62.fx 5 (box b60 39 [.slice A58 (zbd p).length c58]) rfl
  dsimp only [lAa, lAn, lA0, lAs] at S63
  refine p_s rfl rfl (za2 rfl rfl r62) <| zac <| zag <| zah (l := [0, 1]) rfl <| p_v (v := .func (.func 78) #[] #[.pointer (some ⟨b1, 0, none⟩), .pointer (some ⟨b60, 0, none⟩)]) rfl rfl rfl (zed (fv := []) (cv := [.pointer (some ⟨b1, 0, none⟩), .pointer (some ⟨b60, 0, none⟩)]) rfl rfl) <| p_v (v := .func (.func 78) #[] #[.pointer (some ⟨b1, 0, none⟩), .pointer (some ⟨b60, 0, none⟩)]) rfl rfl rfl (zaj rfl) <| zac <| zag <| zah (l := [0, 1]) rfl <| p_v (v := .func (.func 84) #[] #[.pointer (some ⟨b1, 0, none⟩)]) rfl rfl rfl (zed (fv := []) (cv := [.pointer (some ⟨b1, 0, none⟩)]) rfl rfl) <| p_v (v := .func (.func 84) #[] #[.pointer (some ⟨b1, 0, none⟩)]) rfl rfl rfl (zaj rfl) <| zac ?_
  refine zag ?_
  have hf65 : (CFs ⟨b3, 0, none⟩ (zad p)).1 w62 := (CF.box (m := 257) (S63.box_at (j := 1) rfl) (by rw [List.drop_zero, List.take_of_length_le (by rw [zaf o1]; exact Nat.le_refl _)]))
  refine daS (hkC 0 hf65 (hkN (w := w62))) 8 rfl mixed ?_
  intro wd66 gd66 hd66
  have S67 := S63.keep gd66
  have hf68 := spUp gd66 hf65
  refine qd1 0 (i := 0) (v := .agg (zad p).toArray) rfl rfl (by decide +kernel) rfl rfl (fun wq hq => (zam (seg := (zad p)) ty32 (zaf o1) (by simp) rfl hq)) (zbm hf68 (of_nil _ _)) <| qd0 (i := 1) (v := .pointer none) rfl (by decide +kernel) rfl rfl (zai rfl) (zan rfl) <| d_m (i := 2) (v := .agg (zak beginB).toArray) (fun _ => True) (fun _ ho => trivial) rfl (by decide +kernel) (by decide +kernel) (by decide +kernel) rfl rfl (fun wq => (zba (args := []) ca82 rfl rfl)) (fun wq hq => (begun_calls wq ).mono fun e w2 he => by obtain ⟨_, rfl, _, T, rfl⟩ := he; exact ⟨rfl, Chg.of_below T.below⟩) (zan rfl) <| qd0 (i := 3) (v := .func (.func 78) #[] #[.pointer (some ⟨b1, 0, none⟩), .pointer (some ⟨b60, 0, none⟩)]) rfl (by decide +kernel) rfl rfl (zai rfl) (zan rfl) <| qd0 (i := 4) (v := .func (.func 84) #[] #[.pointer (some ⟨b1, 0, none⟩)]) rfl (by decide +kernel) rfl rfl (zai rfl) (zan rfl) <| zbo (i := 5) (by decide +kernel) ?_
  intro wd69 gd69
  have S70 := S67.keep gd69
  have hf71 := spUp gd69 hf68
  refine d_i rfl rfl rfl (zba (args := [.agg (zad p).toArray, .pointer none, .agg (zak beginB).toArray, .func (.func 78) #[] #[.pointer (some ⟨b1, 0, none⟩), .pointer (some ⟨b60, 0, none⟩)], .func (.func 84) #[] #[.pointer (some ⟨b1, 0, none⟩)]]) ca85 rfl rfl) (zas Tryd.func85 rfl Tryd.ntmps85 rfl ?_)
  refine zag <| zah (l := [0, 1, 2]) rfl ?_
  obtain ⟨b72, w72, r72, g72, T72⟩ := zb0 (P := Tryd.prog) S70 32 (v := .agg (zad p).toArray) (zad p) rfl
  have S73 := T72
  dsimp only [lAa, lAn, lA0, lAs] at S73
  refine p_v (v := .pointer (some ⟨b72, 0, none⟩)) rfl rfl rfl (zdi rfl r72) ?_
  obtain ⟨b74, w74, r74, g74, T74⟩ := zb0 (P := Tryd.prog) S73 115 (v := .agg (zak beginB).toArray) (zak beginB) rfl
  have S75 := T74
  dsimp only [lAa, lAn, lA0, lAs] at S75
  refine p_v (v := .pointer (some ⟨b74, 0, none⟩)) rfl rfl rfl (zdi rfl r74) ?_
  obtain ⟨b76, w76, r76, g76, T76⟩ := zb0 (P := Tryd.prog) S75 35 (v := zv35) ((zad zPart) ++ ([.slice none 0 0, .slice none 0 0] : List Value)) (by kernel_rfl)
  have S77 := T76
  dsimp only [lAa, lAn, lA0, lAs] at S77
  refine p_v (v := .pointer (some ⟨b76, 0, none⟩)) rfl rfl rfl (zbr ty35 r76) <| zac <| zag <| zah (l := [0, 1, 2, 3, 4]) rfl <| p_v (v := .pointer none) rfl rfl rfl (zai rfl) ?_
  obtain ⟨b78, w78, r78, g78, T78⟩ := e_makeMap (P := Tryd.prog) S77 182 (fun x : BSet => Value.agg (zak x).toArray) (fun x : Int => Value.int .i64 x)
  have S79 := T78
  dsimp only [lAa, lAn, lA0, lAs] at S79
  refine p_v (v := .map (some b78)) rfl rfl rfl (x_makeMap r78) <| p_v (v := .agg #[.pointer none, .map (some b78), .slice none 0 0]) rfl rfl rfl (zc4 (pv := [(0, .pointer none), (1, .map (some b78))]) rfl (za9 pl185 ty185 rfl (cs := [.pointer none, .map (some b78), .slice none 0 0]) rfl)) ?_
  obtain ⟨b80, w80, r80, g80, T80⟩ := zb0 (P := Tryd.prog) S79 185 (v := .agg #[.pointer none, .map (some b78), .slice none 0 0]) [.pointer none, .map (some b78), .slice none 0 0] rfl
  have S81 := T80
  dsimp only [lAa, lAn, lA0, lAs] at S81
  refine p_v (v := .pointer (some ⟨b80, 0, none⟩)) rfl rfl rfl (zdi rfl r80) <| p_v (v := .pointer (some ⟨b80, 0, none⟩)) rfl rfl rfl (zaj rfl) <| zac <| zag <| zah (l := [0, 1, 2]) rfl <| p_v (v := .pointer (some ⟨b80, 0, none⟩)) rfl rfl rfl (zai rfl) <| p_v (v := .agg (zak beginB).toArray) rfl rfl rfl (zam (seg := (zak beginB)) zee rfl (by simp) rfl (CF.box (m := 4) (S81.box_at (j := 7) rfl) rfl)) ?_
  refine p_i rfl rfl rfl (zba (args := [.pointer (some ⟨b80, 0, none⟩), .agg (zak beginB).toArray]) ca133 rfl rfl) (zas Tryd.func133 rfl Tryd.ntmps133 rfl ?_)
  refine zag <| zah (l := [0, 1]) rfl ?_
  obtain ⟨b82, w82, r82, g82, T82⟩ := zb0 (P := Tryd.prog) S81 115 (v := .agg (zak beginB).toArray) (zak beginB) rfl
  have S83 := T82
  dsimp only [lAa, lAn, lA0, lAs] at S83
  refine p_v (v := .pointer (some ⟨b82, 0, none⟩)) rfl rfl rfl (zdi rfl r82) <| p_v (v := .int .i64 0) rfl rfl rfl (zaj rfl) <| zac <| zag ?_
  have hf84 : (CFs ⟨b80, 1, none⟩ [.map (some b78)]).1 w82 := (CF.box (m := 1) (S83.box_at (j := 10) rfl) rfl)
  have hf85 : (CFs ⟨b82, 0, none⟩ (zak beginB)).1 w82 := (CF.box (m := 4) (S83.box_at (j := 11) rfl) rfl)
  have hf86 : (MapHs (fun x : BSet => Value.agg (zak x).toArray) (fun x : Int => Value.int .i64 x) b78 ([] : List (BSet × Int))).1 w82 := (S83.map_at (j := 9) rfl)
  refine daS (hkC 3 hf84 (hkC 4 hf85 (hkC 5 hf86 (hkN (w := w82))))) 11 rfl mixed ?_
  intro wd87 gd87 hd87
  have S88 := S83.keep gd87
  have hf89 := spUp gd87 hf84
  have hf90 := spUp gd87 hf85
  have hf91 := spUp gd87 hf86
  refine qd0 (i := 0) (v := .pointer (some ⟨b80, 0, none⟩)) rfl (by decide +kernel) rfl rfl (zai rfl) (zan rfl) <| qd0 (i := 1) (v := .pointer (some ⟨b80, 0, none⟩)) rfl (by decide +kernel) rfl rfl (zbt rfl) (zan rfl) <| qd0 (i := 2) (v := .pointer (some ⟨b80, 1, none⟩)) rfl (by decide +kernel) rfl rfl (zaq fd185_1 ty182 rfl rfl) (zan rfl) <| qd1 0 (i := 3) (v := .map (some b78)) rfl rfl (by decide +kernel) rfl rfl (fun wq hq => (zam (seg := [.map (some b78)]) ty182 rfl (by simp) rfl hq)) (zbm hf89 (zan rfl)) <| qd1 1 (i := 4) (v := .agg (zak beginB).toArray) rfl rfl (by decide +kernel) rfl rfl (fun wq hq => (zam (seg := (zak beginB)) zee rfl (by simp) rfl hq)) (za8 rfl (zbm hf90 (zan rfl))) <| qdn (i := 5) (v := .tuple #[.int .i64 ((zbn beginB ([] : List (BSet × Int))).getD 0), .bool ((zbn beginB ([] : List (BSet × Int))).isSome)]) (fun wf => MapH (fun x : BSet => Value.agg (zak x).toArray) (fun x : Int => Value.int .i64 x) b78 ([] : List (BSet × Int)) wf) (fun _ ho => ho _ (List.mem_of_getElem? (i := 2) rfl) rfl) rfl (by decide +kernel) rfl rfl (fun wq hq => (x_lookup (a := .map (some b78)) (k := .agg (zak beginB).toArray) rfl rfl (e_lookup_h (kvs := ([] : List (BSet × Int))) key115 hq u182 (zec ty3) 0 beginB))) (za8 rfl (za8 rfl (zbm hf91 (zan rfl)))) <| qd0 (i := 6) (v := .tuple #[.int .i64 ((zbn beginB ([] : List (BSet × Int))).getD 0), .bool ((zbn beginB ([] : List (BSet × Int))).isSome)]) rfl (by decide +kernel) rfl rfl (zai rfl) (zan rfl) <| qd0 (i := 7) (v := .int .i64 ((zbn beginB ([] : List (BSet × Int))).getD 0)) rfl (by decide +kernel) rfl rfl (zb1 (vs := [.int .i64 ((zbn beginB ([] : List (BSet × Int))).getD 0), .bool ((zbn beginB ([] : List (BSet × Int))).isSome)]) rfl rfl) (zan rfl) <| qd0 (i := 8) (v := .bool ((zbn beginB ([] : List (BSet × Int))).isSome)) rfl (by decide +kernel) rfl rfl (zb1 (vs := [.int .i64 ((zbn beginB ([] : List (BSet × Int))).getD 0), .bool ((zbn beginB ([] : List (BSet × Int))).isSome)]) rfl rfl) (zan rfl) <| qd0 (i := 9) (v := .int .i64 ((zbn beginB ([] : List (BSet × Int))).getD 0)) rfl (by decide +kernel) rfl rfl (zaj rfl) (zan rfl) <| qd0 (i := 10) (v := .bool ((zbn beginB ([] : List (BSet × Int))).isSome)) rfl (by decide +kernel) rfl rfl (zaj rfl) (zan rfl) <| zcb (by decide +kernel) ?_
  intro wd92 gd92
  have S93 := S88.keep gd92
  refine zag <| zag <| zah (l := [0, 1]) rfl <| p_v (v := .bool ((zbn beginB ([] : List (BSet × Int))).isSome)) rfl rfl rfl (zai rfl) <| p_v (v := .bool (!((zbn beginB ([] : List (BSet × Int))).isSome))) rfl rfl rfl (x_not rfl) <| zac ?_
  have hc94 : ((zbn beginB ([] : List (BSet × Int))).isSome) = false := by
   rfl
  refine zcy (b := true) (congrArg (fun z => Value.bool (!z)) hc94) ?_
  simp only [if_true, if_false, Bool.false_eq_true]
  refine zag <| zah (l := [0, 1, 2, 3, 4]) rfl <| p_v (v := .pointer (some ⟨b80, 0, none⟩)) rfl rfl rfl (zai rfl) <| p_v (v := .pointer (some ⟨b80, 0, none⟩)) rfl rfl rfl (zbt rfl) <| p_v (v := .pointer (some ⟨b80, 0, none⟩)) rfl rfl rfl (zaq fd185_0 ty54 rfl rfl) <| p_v (v := .pointer none) rfl rfl rfl (zam (seg := [.pointer none]) ty54 rfl (by simp) rfl (CF.box (m := 1) (S93.box_at (j := 10) rfl) rfl)) ?_
  refine p_i rfl rfl rfl (zba (args := [.pointer none, .int .i64 1]) ca161 rfl rfl) (zas Tryd.func161 rfl Tryd.ntmps161 rfl ?_)
  refine zag <| zag <| zah (l := [0, 1, 2, 3, 4, 5]) rfl <| p_v (v := .pointer none) rfl rfl rfl (zai rfl) <| p_v (v := .bool true) rfl rfl rfl (x_eql_ptr (p := none) u54 rfl rfl) <| p_v (v := .bool true) rfl rfl rfl (zai rfl) <| zby rfl rfl rfl <| zby rfl rfl rfl <| p_v (v := .bool true) rfl rfl rfl (zbs rfl rfl) <| zac <| zcy (b := true) rfl ?_
  simp only [if_true, if_false, Bool.false_eq_true]
  refine zax Tryd.func161 (res0 rfl) ?_
  refine ⟨_, rfl, ?_⟩
  refine zac <| zag <| zah (l := [0, 1, 2, 3, 4, 5]) rfl <| p_v (v := .pointer (some ⟨b80, 0, none⟩)) rfl rfl rfl (zai rfl) <| p_v (v := .pointer (some ⟨b80, 0, none⟩)) rfl rfl rfl (zbt rfl) <| p_v (v := .pointer (some ⟨b80, 2, none⟩)) rfl rfl rfl (zaq fd185_2 ty183 rfl rfl) <| p_v (v := .slice none 0 0) rfl rfl rfl (zam (seg := [.slice none 0 0]) ty183 rfl (by simp) rfl (CF.box (m := 1) (S93.box_at (j := 10) rfl) rfl)) <| p_v (v := .int .i64 0) rfl rfl rfl (zbe u183 rfl) <| p_v (v := .int .i64 0) rfl rfl rfl (zaj rfl) <| zac <| zag ?_
  have hf95 : (CFs ⟨b80, 1, none⟩ [.map (some b78)]).1 wd92 := (CF.box (m := 1) (S93.box_at (j := 10) rfl) rfl)
  have hf96 : (CFs ⟨b82, 0, none⟩ (zak beginB)).1 wd92 := (CF.box (m := 4) (S93.box_at (j := 11) rfl) rfl)
  refine daS (hkC 3 hf95 (hkC 4 hf96 (hkN (w := wd92)))) 7 rfl mixed ?_
  intro wd97 gd97 hd97
  have S98 := S93.keep gd97
  have hf99 := spUp gd97 hf95
  have hf100 := spUp gd97 hf96
  refine qd0 (i := 0) (v := .pointer (some ⟨b80, 0, none⟩)) rfl (by decide +kernel) rfl rfl (zai rfl) (zan rfl) <| qd0 (i := 1) (v := .pointer (some ⟨b80, 0, none⟩)) rfl (by decide +kernel) rfl rfl (zbt rfl) (zan rfl) <| qd0 (i := 2) (v := .pointer (some ⟨b80, 1, none⟩)) rfl (by decide +kernel) rfl rfl (zaq fd185_1 ty182 rfl rfl) (zan rfl) <| qd1 0 (i := 3) (v := .map (some b78)) rfl rfl (by decide +kernel) rfl rfl (fun wq hq => (zam (seg := [.map (some b78)]) ty182 rfl (by simp) rfl hq)) (zbm hf99 (zan rfl)) <| qd1 1 (i := 4) (v := .agg (zak beginB).toArray) rfl rfl (by decide +kernel) rfl rfl (fun wq hq => (zam (seg := (zak beginB)) zee rfl (by simp) rfl hq)) (za8 rfl (zbm hf100 (zan rfl))) <| qd0 (i := 5) (v := .int .i64 0) rfl (by decide +kernel) rfl rfl (zai rfl) (zan rfl) <| zbo (i := 6) (by decide +kernel) ?_
  intro wd101 gd101
  have S102 := S98.keep gd101
  have hf103 := spUp gd101 hf99
  have hf104 := spUp gd101 hf100
  obtain ⟨w105, r105, g105, T105⟩ := e_mapUpdate key115 S102 (j := 9) rfl u182 beginB 0
  have S106 := T105.fx 9 (amap (fun x : BSet => Value.agg (zak x).toArray) (fun x : Int => Value.int .i64 x) b78 (zeo beginB 0 ([] : List (BSet × Int)))) rfl
  dsimp only [lAa, lAn, lA0, lAs] at S106
  have hf107 : (CFs ⟨b80, 1, none⟩ [.map (some b78)]).1 w105 := (CF.box (m := 1) (S106.box_at (j := 10) rfl) rfl)
  have hf108 : (CFs ⟨b82, 0, none⟩ (zak beginB)).1 w105 := (CF.box (m := 4) (S106.box_at (j := 11) rfl) rfl)
  refine d_s rfl rfl (x_mapUpdate rfl rfl rfl r105) (.inr (za1 (by decide +kernel) (za1 (by decide +kernel) trivial))) <| zcb (by decide +kernel) ?_
  intro wd109 gd109
  have S110 := S106.keep gd109
  have hf111 : (CFs ⟨b80, 2, none⟩ [.slice none 0 0]).1 wd109 := (CF.box (m := 1) (S110.box_at (j := 10) rfl) rfl)
  have hf112 : (CFs ⟨b82, 0, none⟩ (zak beginB)).1 wd109 := (CF.box (m := 4) (S110.box_at (j := 11) rfl) rfl)
  refine daS (hkC 4 hf111 (hkC 5 hf112 (hkN (w := wd109)))) 11 rfl mixed ?_
  intro wd113 gd113 hd113
  have S114 := S110.keep gd113
  have hf115 := spUp gd113 hf111
  have hf116 := spUp gd113 hf112
  refine qd0 (i := 0) (v := .pointer (some ⟨b80, 0, none⟩)) rfl (by decide +kernel) rfl rfl (zai rfl) (zan rfl) <| qd0 (i := 1) (v := .pointer (some ⟨b80, 0, none⟩)) rfl (by decide +kernel) rfl rfl (zai rfl) (zan rfl) <| qd0 (i := 2) (v := .pointer (some ⟨b80, 0, none⟩)) rfl (by decide +kernel) rfl rfl (zbt rfl) (zan rfl) <| qd0 (i := 3) (v := .pointer (some ⟨b80, 2, none⟩)) rfl (by decide +kernel) rfl rfl (zaq fd185_2 ty183 rfl rfl) (zan rfl) <| qd1 0 (i := 4) (v := .slice none 0 0) rfl rfl (by decide +kernel) rfl rfl (fun wq hq => (zam (seg := [.slice none 0 0]) ty183 rfl (by simp) rfl hq)) (zbm hf115 (zan rfl)) <| qd1 1 (i := 5) (v := .agg (zak beginB).toArray) rfl rfl (by decide +kernel) rfl rfl (fun wq hq => (zam (seg := (zak beginB)) zee rfl (by simp) rfl hq)) (za8 rfl (zbm hf116 (zan rfl))) <| zbo (i := 6) (by decide +kernel) ?_
  intro wd117 gd117
  have S118 := S114.keep gd117
  have hf119 := spUp gd117 hf115
  have hf120 := spUp gd117 hf116
  obtain ⟨v121, w121, r121, g121, T121⟩ := zd1 (kd := kSet) (xs := ([beginB] : List BSet)) (len := 1) (m := 4) [(.agg (zak beginB).toArray, (zak beginB))] S118 u183 zee rfl rfl rfl rfl (zdk rfl rfl segs_nil) (cs := (zak beginB)) (zbp.single (k := kSet) (h := h58) (x := beginB) (cs := (zak beginB)) ⟨rfl, trivial⟩) (by simp)
  have S122 := T121
  dsimp only [lAa, lAn, lA0, lAs] at S122
  have hf123 := spUp g121 hf119
  have hf124 := spUp g121 hf120
  refine d_v (v := v121) rfl rfl rfl (zat (pv := [(0, .agg (zak beginB).toArray)]) rfl r121) (.inl g121) <| zbo (i := 7) (by decide +kernel) ?_
  intro wd125 gd125
  have S126 := S122.keep gd125
  have hf127 := spUp gd125 hf123
  have hf128 := spUp gd125 hf124
  have T129 := S126.row_nil 115 kSet
  have S130 := T129
  dsimp only [lAa, lAn, lA0, lAs] at S130
  obtain ⟨A131, c131, ev131, lc131, cm131⟩ := S130.row_val (j := 12) rfl
  obtain ⟨v132, w132, r132, g132, T132⟩ := zcs (kd := kSet) (A := A131) (c := c131) (ys := ([beginB] : List BSet)) (len := ([beginB] : List BSet).length) 183 S130 u183 zee rfl rfl (j := 13) rfl rfl (zc7 S130 (j := 12) rfl ev131) (by first|omega|(simp;omega)|assumption|simp) (by first|omega|(simp;omega)|assumption|simp)
  have S133 := T132.fx 13 (row 115 kSet v132 (([] : List BSet) ++ ([beginB] : List BSet))) rfl
  dsimp only [lAa, lAn, lA0, lAs] at S133
  have hf134 : (CFs ⟨b80, 2, none⟩ [.slice none 0 0]).1 w132 := (CF.box (m := 1) (S133.box_at (j := 10) rfl) rfl)
  have hf135 : (CFs ⟨b82, 0, none⟩ (zak beginB)).1 w132 := (CF.box (m := 4) (S133.box_at (j := 11) rfl) rfl)
  refine d_v (v := v132) rfl rfl rfl (zcr rfl ev131 r132) (.inr (za1 (by decide +kernel) (zbu hf135 trivial))) <| qd0 (i := 8) (v := .pointer (some ⟨b80, 0, none⟩)) rfl (by decide +kernel) rfl rfl (zbt rfl) (zan rfl) <| qd0 (i := 9) (v := .pointer (some ⟨b80, 2, none⟩)) rfl (by decide +kernel) rfl rfl (zaq fd185_2 ty183 rfl rfl) (zan rfl) <| zbo (i := 10) (by decide +kernel) ?_
  intro wd136 gd136
  have S137 := S133.keep gd136
  have hf138 := spUp gd136 hf134
  have hf139 := spUp gd136 hf135
  have oc141 := zcp S137 (j := 13) rfl
  obtain ⟨w140, r140, g140, T140⟩ := zcj (P := Tryd.prog) (off := 2) (v := v132) (vs := [v132]) S137 ty183 (zcn S137 (j := 13) rfl) rfl (j := 10) rfl (by first | decide | exact Nat.le_of_ble_eq_true rfl) (zb8 oc141 zdc)
  have S142 := T140.fx 10 (box b80 185 [.pointer none, .map (some b78), v132]) rfl
  dsimp only [lAa, lAn, lA0, lAs] at S142
  have hf143 : (CFs ⟨b82, 0, none⟩ (zak beginB)).1 w140 := (CF.box (m := 4) (S142.box_at (j := 11) rfl) rfl)
  refine d_s rfl rfl (za2 rfl rfl r140) (.inr (za1 (by decide +kernel) (za1 (by decide +kernel) trivial))) <| zcb (by decide +kernel) ?_
  intro wd144 gd144
  have S145 := S142.keep gd144
  refine zag <| zah (l := [0, 1]) rfl <| p_v (v := .int .i64 0) rfl rfl rfl (zai rfl) <| p_v (v := .int .i64 0) rfl rfl rfl (zaj rfl) <| zac <| zax Tryd.func133 (res1 rfl (za4 (v := .int .i64 0) rfl)) ?_
  refine ⟨_, rfl, ?_⟩
  refine zac <| zag <| zah (l := [0, 1, 2, 3]) rfl <| p_v (v := .agg (zad p).toArray) rfl rfl rfl (zam (seg := (zad p)) ty32 (zaf o1) (by simp) rfl (CF.box (m := 257) (S145.box_at (j := 6) rfl) (by rw [List.drop_zero, List.take_of_length_le (by rw [zaf o1]; exact Nat.le_refl _)]))) <| p_v (v := .agg ((zad p) ++ ([.slice none 0 0, .slice none 0 0] : List Value)).toArray) rfl rfl rfl (zc4 (pv := [(0, .agg (zad p).toArray)]) rfl (za9 pl35 ty35 rfl (cs := ((zad p) ++ ([.slice none 0 0, .slice none 0 0] : List Value))) (fill_mid (vc := (zad p)) (pre := []) (seg := (zad zPart)) (post := [.slice none 0 0, .slice none 0 0]) rfl rfl (zaf o1) (by kernel_rfl) rfl (zaf (zao)) rfl))) ?_
  obtain ⟨b146, w146, r146, g146, T146⟩ := zb0 (P := Tryd.prog) S145 35 (v := zv35) ((zad zPart) ++ ([.slice none 0 0, .slice none 0 0] : List Value)) (by kernel_rfl)
  have S147 := T146
  dsimp only [lAa, lAn, lA0, lAs] at S147
  refine p_v (v := .pointer (some ⟨b146, 0, none⟩)) rfl rfl rfl (zbr ty35 r146) ?_
  obtain ⟨w148, r148, g148, T148⟩ := za7 (P := Tryd.prog) (v := .agg ((zad p) ++ ([.slice none 0 0, .slice none 0 0] : List Value)).toArray) (vs := ((zad p) ++ ([.slice none 0 0, .slice none 0 0] : List Value))) (cs := ((zad zPart) ++ ([.slice none 0 0, .slice none 0 0] : List Value))) S147 ty35 rfl (zal (zaf o1) rfl) (zal (zaf (zao)) rfl) (j := 14) rfl (zcc (zaz _) (by simp [Value.oneCell']))
  have S149 := T148.fx 14 (box b146 35 ((zad p) ++ ([.slice none 0 0, .slice none 0 0] : List Value))) rfl
  dsimp only [lAa, lAn, lA0, lAs] at S149
  refine p_s rfl rfl (za2 rfl rfl r148) <| zac <| zag <| zag <| zah (l := [0]) rfl <| p_v (v := .int .i64 0) rfl rfl rfl (zaj rfl) <| zac <| zay ?_
  have T150 := S149.row_nil 23 (Kd.int .i64).slice
  obtain ⟨vn150, ev150, T150⟩ : ∃ v, v = (.slice none 0 0 : Value) ∧ St w.heap.size w h58 w148 [box b1 27 [.slice A0_0 m.spots.length c0_0, .slice A0_1 m.first.length c0_1, .slice A0_2 m.follow.length c0_2, .slice A0_3 m.last.length c0_3, .bool m.empty], box b3 32 (zad p), box b5 35 ((zad zPart) ++ ([.slice none 0 0, .slice none 0 0] : List Value)), emp, emp, box b60 39 [.slice A58 (zbd p).length c58], box b72 32 (zad p), box b74 115 (zak beginB), box b76 35 ((zad zPart) ++ ([.slice none 0 0, .slice none 0 0] : List Value)), amap (fun x : BSet => Value.agg (zak x).toArray) (fun x : Int => Value.int .i64 x) b78 (zeo beginB 0 ([] : List (BSet × Int))), box b80 185 [.pointer none, .map (some b78), v132], box b82 115 (zak beginB), row 115 kSet v121 ([beginB] : List BSet), row 115 kSet v132 (([] : List BSet) ++ ([beginB] : List BSet)), box b146 35 ((zad p) ++ ([v, .slice none 0 0] : List Value)), row 23 (Kd.int .i64).slice v ([] : List (List Int))] := ⟨_, rfl, T150⟩
  have S151 : St w.heap.size w h58 w148 [box b1 27 [.slice A0_0 m.spots.length c0_0, .slice A0_1 m.first.length c0_1, .slice A0_2 m.follow.length c0_2, .slice A0_3 m.last.length c0_3, .bool m.empty], box b3 32 (zad p), box b5 35 ((zad zPart) ++ ([.slice none 0 0, .slice none 0 0] : List Value)), emp, emp, box b60 39 [.slice A58 (zbd p).length c58], box b72 32 (zad p), box b74 115 (zak beginB), box b76 35 ((zad zPart) ++ ([.slice none 0 0, .slice none 0 0] : List Value)), amap (fun x : BSet => Value.agg (zak x).toArray) (fun x : Int => Value.int .i64 x) b78 (zeo beginB 0 ([] : List (BSet × Int))), box b80 185 [.pointer none, .map (some b78), v132], box b82 115 (zak beginB), row 115 kSet v121 ([beginB] : List BSet), row 115 kSet v132 (([] : List BSet) ++ ([beginB] : List BSet)), box b146 35 ((zad p) ++ ([vn150, .slice none 0 0] : List Value)), row 23 (Kd.int .i64).slice vn150 ([] : List (List Int))] := T150
  have T152 := S151.row_nil 4 Kd.bool
  obtain ⟨vn152, ev152, T152⟩ : ∃ v, v = (.slice none 0 0 : Value) ∧ St w.heap.size w h58 w148 [box b1 27 [.slice A0_0 m.spots.length c0_0, .slice A0_1 m.first.length c0_1, .slice A0_2 m.follow.length c0_2, .slice A0_3 m.last.length c0_3, .bool m.empty], box b3 32 (zad p), box b5 35 ((zad zPart) ++ ([.slice none 0 0, .slice none 0 0] : List Value)), emp, emp, box b60 39 [.slice A58 (zbd p).length c58], box b72 32 (zad p), box b74 115 (zak beginB), box b76 35 ((zad zPart) ++ ([.slice none 0 0, .slice none 0 0] : List Value)), amap (fun x : BSet => Value.agg (zak x).toArray) (fun x : Int => Value.int .i64 x) b78 (zeo beginB 0 ([] : List (BSet × Int))), box b80 185 [.pointer none, .map (some b78), v132], box b82 115 (zak beginB), row 115 kSet v121 ([beginB] : List BSet), row 115 kSet v132 (([] : List BSet) ++ ([beginB] : List BSet)), box b146 35 ((zad p) ++ ([vn150, v] : List Value)), row 23 (Kd.int .i64).slice vn150 ([] : List (List Int)), row 4 Kd.bool v ([] : List Bool)] := ⟨_, rfl, T152⟩
  have S153 : St w.heap.size w h58 w148 [box b1 27 [.slice A0_0 m.spots.length c0_0, .slice A0_1 m.first.length c0_1, .slice A0_2 m.follow.length c0_2, .slice A0_3 m.last.length c0_3, .bool m.empty], box b3 32 (zad p), box b5 35 ((zad zPart) ++ ([.slice none 0 0, .slice none 0 0] : List Value)), emp, emp, box b60 39 [.slice A58 (zbd p).length c58], box b72 32 (zad p), box b74 115 (zak beginB), box b76 35 ((zad zPart) ++ ([.slice none 0 0, .slice none 0 0] : List Value)), amap (fun x : BSet => Value.agg (zak x).toArray) (fun x : Int => Value.int .i64 x) b78 (zeo beginB 0 ([] : List (BSet × Int))), box b80 185 [.pointer none, .map (some b78), v132], box b82 115 (zak beginB), row 115 kSet v121 ([beginB] : List BSet), row 115 kSet v132 (([] : List BSet) ++ ([beginB] : List BSet)), box b146 35 ((zad p) ++ ([vn150, vn152] : List Value)), row 23 (Kd.int .i64).slice vn150 ([] : List (List Int)), row 4 Kd.bool vn152 ([] : List Bool)] := T152
  refine zce (S := (List BSet) × (List (List Int)) × (List Bool) × (List (BSet × Int)) × Int) (fun (q_ : (List BSet) × (List (List Int)) × (List Bool) × (List (BSet × Int)) × Int) ρ w' => match q_ with | (m_2, d_1, d_2, b, i) => ∃ (h : Ghost) (v_m_2 : Value) (v_d_1 : Value) (v_d_2 : Value), Le h58 h ∧ St w.heap.size w h w' [box b1 27 [.slice A0_0 m.spots.length c0_0, .slice A0_1 m.first.length c0_1, .slice A0_2 m.follow.length c0_2, .slice A0_3 m.last.length c0_3, .bool m.empty], box b3 32 (zad p), box b5 35 ((zad zPart) ++ ([.slice none 0 0, .slice none 0 0] : List Value)), box b60 39 [.slice A58 (zbd p).length c58], box b72 32 (zad p), box b74 115 (zak beginB), box b76 35 ((zad zPart) ++ ([.slice none 0 0, .slice none 0 0] : List Value)), amap (fun x : BSet => Value.agg (zak x).toArray) (fun x : Int => Value.int .i64 x) b78 b, box b80 185 [.pointer none, .map (some b78), v_m_2], box b82 115 (zak beginB), row 115 kSet v121 ([beginB] : List BSet), row 115 kSet v_m_2 m_2, box b146 35 ((zad p) ++ ([v_d_1, v_d_2] : List Value)), row 23 (Kd.int .i64).slice v_d_1 d_1, row 4 Kd.bool v_d_2 d_2] ∧ ρ 3 = .func (.func 78) #[] #[.pointer (some ⟨b1, 0, none⟩), .pointer (some ⟨b60, 0, none⟩)] ∧ ρ 4 = .func (.func 84) #[] #[.pointer (some ⟨b1, 0, none⟩)] ∧ ρ 5 = .pointer (some ⟨b72, 0, none⟩) ∧ ρ 10 = .pointer (some ⟨b76, 0, none⟩) ∧ ρ 11 = .pointer (some ⟨b80, 0, none⟩) ∧ ρ 12 = .pointer (some ⟨b146, 0, none⟩) ∧ ρ 13 = .int .i64 i ∧ inK .i64 i ∧ (MadeI (zb9 m (zbd p)) p.n beginB (zdh m) m_2 b d_1 d_2 i)) (fun q_ => match q_ with | (m_2, d_1, d_2, b, i) => (1048578 - i).toNat) (([] : List BSet) ++ ([beginB] : List BSet), ([] : List (List Int)), ([] : List Bool), zeo beginB 0 ([] : List (BSet × Int)), 0) ⟨h58, v132, vn150, vn152, Le.refl _, S153.sub [0, 1, 2, 5, 6, 7, 8, 9, 10, 11, 12, 13, 14, 15, 16] (by decide) rfl _ rfl, rfl, rfl, rfl, rfl, rfl, rfl, rfl, (zar (by omega) (by omega)), (by exact made_0)⟩ ?_
  rintro ⟨m_2, d_1, d_2, b, i⟩ ih154 ρ154 w154 ⟨h154, v_m_2, v_d_1, v_d_2, le154, S154, r154_3, r154_4, r154_5, r154_10, r154_11, r154_12, r154_13, f154_0, hI154⟩
  have lf154_0 := zbf f154_0; have hf154_0 := zbg f154_0
  have rl154_10 := S154.row_le (j := 10) rfl; simp only [maxLen] at rl154_10
  have rl154_11 := S154.row_le (j := 11) rfl; simp only [maxLen] at rl154_11
  have rl154_13 := S154.row_le (j := 13) rfl; simp only [maxLen] at rl154_13
  have rl154_14 := S154.row_le (j := 14) rfl; simp only [maxLen] at rl154_14
  have hi0_ := hI154.lo; have hi1_ := hI154.hi; have hb0_ := spots_bound hR_ pre0 hI154; have hn0_ := (made_len hI154).1; have hf0_ := (made_len hI154).2
  refine zag <| zag <| zah (l := [0, 1, 2, 3, 4, 5, 6]) rfl <| p_v (v := .int .i64 i) rfl rfl rfl (zai r154_13) <| p_v (v := .pointer (some ⟨b80, 0, none⟩)) rfl rfl rfl (zai r154_11) <| p_v (v := .pointer (some ⟨b80, 0, none⟩)) rfl rfl rfl (zbt rfl) <| p_v (v := .pointer (some ⟨b80, 2, none⟩)) rfl rfl rfl (zaq fd185_2 ty183 rfl rfl) <| p_v (v := v_m_2) rfl rfl rfl (zam (seg := [v_m_2]) ty183 rfl (by simp) rfl (CF.box (m := 1) (S154.box_at (j := 8) rfl) rfl)) ?_
  have lb155 := S154.row_le (j := 11) rfl; simp only [maxLen] at lb155
  refine p_v (v := .int .i64 (m_2.length : Int)) rfl rfl rfl (x_len_own u183 rfl (e_len_own S154 (j := 11) rfl)) <| p_v (v := .bool (decide (i < (m_2.length : Int)))) rfl rfl rfl (zd6 rfl rfl) <| zac ?_
  refine zau (p := i < (m_2.length : Int)) rfl (fun hc156 => ?_) (fun hc156 => ?_)
  ·skip
   refine za6 <| zag <| zay <| zag <| zah (l := [0, 1, 2, 3, 4, 5, 6, 7, 8]) rfl <| p_v (v := .pointer (some ⟨b80, 0, none⟩)) rfl rfl rfl (zai r154_11) <| p_v (v := .pointer (some ⟨b80, 0, none⟩)) rfl rfl rfl (zbt rfl) <| p_v (v := .pointer (some ⟨b80, 2, none⟩)) rfl rfl rfl (zaq fd185_2 ty183 rfl rfl) <| p_v (v := v_m_2) rfl rfl rfl (zam (seg := [v_m_2]) ty183 rfl (by simp) rfl (CF.box (m := 1) (S154.box_at (j := 8) rfl) rfl)) <| p_v (v := .int .i64 i) rfl rfl rfl (zai r154_13) ?_
   obtain ⟨ad157, a157, at157⟩ := e_index_own (q := i) (m := 4) S154 (j := 11) rfl rfl (by omega) (by omega)
   refine p_v (v := .pointer (some ad157)) rfl rfl rfl (x_index_own u183 zee rfl rfl a157 (by omega) (by omega)) ?_
   obtain ⟨seg158, rp158, cf158⟩ := e_load_own (q := i) S154 (j := 11) rfl rfl at157 (by omega) (by omega)
   obtain ⟨rfl, ok158⟩ := rp158
   refine p_v (v := .agg (zak (at_ m_2 i)).toArray) rfl rfl rfl (zam (seg := (zak (at_ m_2 i))) zee rfl (by simp) rfl cf158) ?_
   obtain ⟨b159, w159, r159, g159, T159⟩ := zb0 (P := Tryd.prog) S154 115 (v := (.agg #[.int .u64 0, .int .u64 0, .int .u64 0, .int .u64 0])) (zak (0 : BSet)) rfl
   have S160 := T159
   dsimp only [lAa, lAn, lA0, lAs] at S160
   refine p_v (v := .pointer (some ⟨b159, 0, none⟩)) rfl rfl rfl (zbr zee r159) ?_
   obtain ⟨w161, r161, g161, T161⟩ := zcj (P := Tryd.prog) (off := 0) (v := .agg (zak (at_ m_2 i)).toArray) (vs := (zak (at_ m_2 i))) S160 zee rfl rfl (j := 15) rfl (by first | decide | exact Nat.le_of_ble_eq_true rfl) (zdz _)
   have S162 := T161.fx 15 (box b159 115 (zak (at_ m_2 i))) rfl
   dsimp only [lAa, lAn, lA0, lAs] at S162
   refine p_s rfl rfl (za2 rfl rfl r161) <| zac <| zag <| zah (l := [0]) rfl <| p_v (v := .slice none 0 0) rfl rfl rfl (zaj rfl) <| zac <| zag <| zag <| zah (l := [0, 1, 2]) rfl <| p_v (v := .pointer (some ⟨b72, 256, none⟩)) rfl rfl rfl (zaq fd32_1 ty3 rfl r154_5) ?_
   have in163 := (o1).2
   have lo163 := zbf in163; have hi163 := zbg in163
   refine p_v (v := .int .i64 p.n) rfl rfl rfl (zam (seg := [.int .i64 p.n]) ty3 rfl (by simp) rfl (CF.box (m := 1) (S162.box_at (j := 4) rfl) (encPart_n o1))) <| p_v (v := .int .i64 0) rfl rfl rfl (zai rfl) <| zac <| zay ?_
   have T164 := S162.row_nil 3 (Kd.int .i64)
   obtain ⟨vn164, ev164, T164⟩ : ∃ v, v = (.slice none 0 0 : Value) ∧ St w.heap.size w h154 w161 ([box b1 27 [.slice A0_0 m.spots.length c0_0, .slice A0_1 m.first.length c0_1, .slice A0_2 m.follow.length c0_2, .slice A0_3 m.last.length c0_3, .bool m.empty], box b3 32 (zad p), box b5 35 ((zad zPart) ++ ([.slice none 0 0, .slice none 0 0] : List Value)), box b60 39 [.slice A58 (zbd p).length c58], box b72 32 (zad p), box b74 115 (zak beginB), box b76 35 ((zad zPart) ++ ([.slice none 0 0, .slice none 0 0] : List Value)), amap (fun x : BSet => Value.agg (zak x).toArray) (fun x : Int => Value.int .i64 x) b78 b, box b80 185 [.pointer none, .map (some b78), v_m_2], box b82 115 (zak beginB), row 115 kSet v121 ([beginB] : List BSet), row 115 kSet v_m_2 m_2, box b146 35 ((zad p) ++ ([v_d_1, v_d_2] : List Value)), row 23 (Kd.int .i64).slice v_d_1 d_1, row 4 Kd.bool v_d_2 d_2, box b159 115 (zak (at_ m_2 i))] ++ [row 3 (Kd.int .i64) v []]) := ⟨_, rfl, T164⟩
   have S165 := T164
   dsimp only [lAa, lAn, lA0, lAs] at S165
   refine zce (S := (List BSet) × (List Int) × (List (BSet × Int)) × Int) (fun (q_ : (List BSet) × (List Int) × (List (BSet × Int)) × Int) ρ w' => match q_ with | (m_22, l, b2, t44) => ∃ (h : Ghost) (v_m_22 : Value) (v_l : Value), Le h154 h ∧ St w.heap.size w h w' [box b1 27 [.slice A0_0 m.spots.length c0_0, .slice A0_1 m.first.length c0_1, .slice A0_2 m.follow.length c0_2, .slice A0_3 m.last.length c0_3, .bool m.empty], box b3 32 (zad p), box b5 35 ((zad zPart) ++ ([.slice none 0 0, .slice none 0 0] : List Value)), box b60 39 [.slice A58 (zbd p).length c58], box b72 32 (zad p), box b74 115 (zak beginB), box b76 35 ((zad zPart) ++ ([.slice none 0 0, .slice none 0 0] : List Value)), amap (fun x : BSet => Value.agg (zak x).toArray) (fun x : Int => Value.int .i64 x) b78 b2, box b80 185 [.pointer none, .map (some b78), v_m_22], box b82 115 (zak beginB), row 115 kSet v121 ([beginB] : List BSet), row 115 kSet v_m_22 m_22, box b146 35 ((zad p) ++ ([v_d_1, v_d_2] : List Value)), row 23 (Kd.int .i64).slice v_d_1 d_1, row 4 Kd.bool v_d_2 d_2, box b159 115 (zak (at_ m_2 i)), row 3 (Kd.int .i64) v_l l] ∧ ρ 3 = .func (.func 78) #[] #[.pointer (some ⟨b1, 0, none⟩), .pointer (some ⟨b60, 0, none⟩)] ∧ ρ 4 = .func (.func 84) #[] #[.pointer (some ⟨b1, 0, none⟩)] ∧ ρ 5 = .pointer (some ⟨b72, 0, none⟩) ∧ ρ 10 = .pointer (some ⟨b76, 0, none⟩) ∧ ρ 11 = .pointer (some ⟨b80, 0, none⟩) ∧ ρ 12 = .pointer (some ⟨b146, 0, none⟩) ∧ ρ 13 = .int .i64 i ∧ ρ 14 = .pointer (some ⟨b159, 0, none⟩) ∧ ρ 15 = v_l ∧ ρ 43 = .int .i64 p.n ∧ ρ 44 = .int .i64 t44 ∧ inK .i64 t44 ∧ (0 ≤ t44 ∧ t44 ≤ p.n ∧ MadeK (zb9 m (zbd p)) (at_ m_2 i) m_2 m_22 b2 l t44)) (fun q_ => match q_ with | (m_22, l, b2, t44) => (p.n - t44).toNat) (m_2, ([] : List Int), b, 0) ⟨h154, v_m_2, vn164, Le.refl _, S165.sub [0, 1, 2, 3, 4, 5, 6, 7, 8, 9, 10, 11, 12, 13, 14, 15, 16] (by decide) rfl _ rfl, r154_3, r154_4, r154_5, r154_10, r154_11, r154_12, r154_13, rfl, (ev164.symm), rfl, rfl, (zar (by omega) (by omega)), (by exact ⟨by omega, by omega, made_k0 hI154⟩)⟩ ?_
   rintro ⟨m_22, l, b2, t44⟩ ih166 ρ166 w166 ⟨h166, v_m_22, v_l, le166, S166, r166_3, r166_4, r166_5, r166_10, r166_11, r166_12, r166_13, r166_14, r166_15, r166_43, r166_44, f166_0, hI166⟩
   have lf166_0 := zbf f166_0; have hf166_0 := zbg f166_0
   have rl166_10 := S166.row_le (j := 10) rfl; simp only [maxLen] at rl166_10
   have rl166_11 := S166.row_le (j := 11) rfl; simp only [maxLen] at rl166_11
   have rl166_13 := S166.row_le (j := 13) rfl; simp only [maxLen] at rl166_13
   have rl166_14 := S166.row_le (j := 14) rfl; simp only [maxLen] at rl166_14
   have rl166_16 := S166.row_le (j := 16) rfl; simp only [maxLen] at rl166_16
   have hk0_ := hI166.1; have hk1_ := hI166.2.1; have hb1_ := spots_bound2 hR_ pre0 hI154 (at_mem hI154.lo (by omega)) hI166.2.2 hI166.2.1; have hl1_ := madeK_len hI166.2.2; have hv_ := made_val hI166.2.2 (zb9 m (zbd p) (at_ m_2 i) t44)
   refine zag <| zah (l := [0]) rfl <| p_v (v := .bool (decide (t44 < p.n))) rfl rfl rfl (zd6 r166_44 r166_43) <| zac <| zag ?_
   refine zau (p := t44 < p.n) rfl (fun hc167 => ?_) (fun hc167 => ?_)
   ·skip
    refine za6 <| zag <| zay <| zag <| zah (l := [0, 1]) rfl <| p_v (v := .int .i64 t44) rfl rfl rfl (zai r166_44) <| p_v (v := .int .i64 t44) rfl rfl rfl (zaj rfl) <| zac <| zah (l := [0, 1, 2, 3, 4, 5, 6, 7, 8, 9]) rfl <| p_v (v := v_l) rfl rfl rfl (zai r166_15) <| p_v (v := .pointer (some ⟨b80, 0, none⟩)) rfl rfl rfl (zai r166_11) <| p_v (v := .func (.func 78) #[] #[.pointer (some ⟨b1, 0, none⟩), .pointer (some ⟨b60, 0, none⟩)]) rfl rfl rfl (zai r166_3) ?_
    refine p_v (v := .agg (zak (at_ m_2 i)).toArray) rfl rfl rfl (zam (seg := (zak (at_ m_2 i))) zee rfl (by simp) r166_14 (CF.box (m := 4) (S166.box_at (j := 15) rfl) rfl)) <| p_v (v := .int .i64 t44) rfl rfl rfl (zai rfl) <| p_c rfl rfl rfl (zba (args := [.agg (zak (at_ m_2 i)).toArray, .int .i64 t44, .pointer (some ⟨b1, 0, none⟩), .pointer (some ⟨b60, 0, none⟩)]) ca78 rfl rfl) (next_calls w166 (at_ m_2 i) t44 f166_0 m A0_0 c0_0 b0_0 (l0_0.mono (St.le0 S166)) A0_1 c0_1 b0_1 (l0_1.mono (St.le0 S166)) A0_2 c0_2 b0_2 (l0_2.mono (St.le0 S166)) A0_3 c0_3 b0_3 (l0_3.mono (St.le0 S166)) ⟨b1, 0, none⟩ (zco (S166.box_at (j := 0) rfl)) (zbd p) A58 c58 (And.intro lc58 cm58) (ld58.mono (((le154).trans le166).trans S166.ghost)) ⟨b60, 0, none⟩ (zco (S166.box_at (j := 3) rfl)) (by first | assumption | exact ⟨by assumption, by omega, by omega⟩)) ?_
    rintro _ w168 ⟨h168, T168, rfl⟩
    have S169 := S166.keep (Chg.of_below T168.below)
    refine p_i rfl rfl rfl (zba (args := [.pointer (some ⟨b80, 0, none⟩), .agg (zak (zb9 m (zbd p) (at_ m_2 i) t44)).toArray]) ca133 rfl rfl) (zas Tryd.func133 rfl Tryd.ntmps133 rfl ?_)
    refine zag <| zah (l := [0, 1]) rfl ?_
    obtain ⟨b170, w170, r170, g170, T170⟩ := zb0 (P := Tryd.prog) S169 115 (v := .agg (zak (zb9 m (zbd p) (at_ m_2 i) t44)).toArray) (zak (zb9 m (zbd p) (at_ m_2 i) t44)) rfl
    have S171 := T170
    dsimp only [lAa, lAn, lA0, lAs] at S171
    refine p_v (v := .pointer (some ⟨b170, 0, none⟩)) rfl rfl rfl (zdi rfl r170) <| p_v (v := .int .i64 0) rfl rfl rfl (zaj rfl) <| zac <| zag ?_
    have hf172 : (CFs ⟨b80, 1, none⟩ [.map (some b78)]).1 w170 := (CF.box (m := 1) (S171.box_at (j := 8) rfl) rfl)
    have hf173 : (CFs ⟨b170, 0, none⟩ (zak (zb9 m (zbd p) (at_ m_2 i) t44))).1 w170 := (CF.box (m := 4) (S171.box_at (j := 17) rfl) rfl)
    have hf174 : (MapHs (fun x : BSet => Value.agg (zak x).toArray) (fun x : Int => Value.int .i64 x) b78 b2).1 w170 := (S171.map_at (j := 7) rfl)
    refine daS (hkC 3 hf172 (hkC 4 hf173 (hkC 5 hf174 (hkN (w := w170))))) 11 rfl mixed ?_
    intro wd175 gd175 hd175
    have S176 := S171.keep gd175
    have hf177 := spUp gd175 hf172
    have hf178 := spUp gd175 hf173
    have hf179 := spUp gd175 hf174
    refine qd0 (i := 0) (v := .pointer (some ⟨b80, 0, none⟩)) rfl (by decide +kernel) rfl rfl (zai rfl) (zan rfl) <| qd0 (i := 1) (v := .pointer (some ⟨b80, 0, none⟩)) rfl (by decide +kernel) rfl rfl (zbt rfl) (zan rfl) <| qd0 (i := 2) (v := .pointer (some ⟨b80, 1, none⟩)) rfl (by decide +kernel) rfl rfl (zaq fd185_1 ty182 rfl rfl) (zan rfl) <| qd1 0 (i := 3) (v := .map (some b78)) rfl rfl (by decide +kernel) rfl rfl (fun wq hq => (zam (seg := [.map (some b78)]) ty182 rfl (by simp) rfl hq)) (zbm hf177 (zan rfl)) <| qd1 1 (i := 4) (v := .agg (zak (zb9 m (zbd p) (at_ m_2 i) t44)).toArray) rfl rfl (by decide +kernel) rfl rfl (fun wq hq => (zam (seg := (zak (zb9 m (zbd p) (at_ m_2 i) t44))) zee rfl (by simp) rfl hq)) (za8 rfl (zbm hf178 (zan rfl))) <| qdn (i := 5) (v := .tuple #[.int .i64 ((zbn (zb9 m (zbd p) (at_ m_2 i) t44) b2).getD 0), .bool ((zbn (zb9 m (zbd p) (at_ m_2 i) t44) b2).isSome)]) (fun wf => MapH (fun x : BSet => Value.agg (zak x).toArray) (fun x : Int => Value.int .i64 x) b78 b2 wf) (fun _ ho => ho _ (List.mem_of_getElem? (i := 2) rfl) rfl) rfl (by decide +kernel) rfl rfl (fun wq hq => (x_lookup (a := .map (some b78)) (k := .agg (zak (zb9 m (zbd p) (at_ m_2 i) t44)).toArray) rfl rfl (e_lookup_h (kvs := b2) key115 hq u182 (zec ty3) 0 (zb9 m (zbd p) (at_ m_2 i) t44)))) (za8 rfl (za8 rfl (zbm hf179 (zan rfl)))) <| qd0 (i := 6) (v := .tuple #[.int .i64 ((zbn (zb9 m (zbd p) (at_ m_2 i) t44) b2).getD 0), .bool ((zbn (zb9 m (zbd p) (at_ m_2 i) t44) b2).isSome)]) rfl (by decide +kernel) rfl rfl (zai rfl) (zan rfl) <| qd0 (i := 7) (v := .int .i64 ((zbn (zb9 m (zbd p) (at_ m_2 i) t44) b2).getD 0)) rfl (by decide +kernel) rfl rfl (zb1 (vs := [.int .i64 ((zbn (zb9 m (zbd p) (at_ m_2 i) t44) b2).getD 0), .bool ((zbn (zb9 m (zbd p) (at_ m_2 i) t44) b2).isSome)]) rfl rfl) (zan rfl) <| qd0 (i := 8) (v := .bool ((zbn (zb9 m (zbd p) (at_ m_2 i) t44) b2).isSome)) rfl (by decide +kernel) rfl rfl (zb1 (vs := [.int .i64 ((zbn (zb9 m (zbd p) (at_ m_2 i) t44) b2).getD 0), .bool ((zbn (zb9 m (zbd p) (at_ m_2 i) t44) b2).isSome)]) rfl rfl) (zan rfl) <| qd0 (i := 9) (v := .int .i64 ((zbn (zb9 m (zbd p) (at_ m_2 i) t44) b2).getD 0)) rfl (by decide +kernel) rfl rfl (zaj rfl) (zan rfl) <| qd0 (i := 10) (v := .bool ((zbn (zb9 m (zbd p) (at_ m_2 i) t44) b2).isSome)) rfl (by decide +kernel) rfl rfl (zaj rfl) (zan rfl) <| zcb (by decide +kernel) ?_
    intro wd180 gd180
    have S181 := S176.keep gd180
    refine zag <| zag <| zah (l := [0, 1]) rfl <| p_v (v := .bool ((zbn (zb9 m (zbd p) (at_ m_2 i) t44) b2).isSome)) rfl rfl rfl (zai rfl) <| p_v (v := .bool (!((zbn (zb9 m (zbd p) (at_ m_2 i) t44) b2).isSome))) rfl rfl rfl (x_not rfl) <| zac ?_
    refine zct (b := (zbn (zb9 m (zbd p) (at_ m_2 i) t44) b2).isSome) rfl (fun hc182 => ?_) (fun hc182 => ?_)
    ·skip
     refine zag <| zah (l := [0, 1, 2, 3, 4]) rfl <| p_v (v := .pointer (some ⟨b80, 0, none⟩)) rfl rfl rfl (zai rfl) <| p_v (v := .pointer (some ⟨b80, 0, none⟩)) rfl rfl rfl (zbt rfl) <| p_v (v := .pointer (some ⟨b80, 0, none⟩)) rfl rfl rfl (zaq fd185_0 ty54 rfl rfl) <| p_v (v := .pointer none) rfl rfl rfl (zam (seg := [.pointer none]) ty54 rfl (by simp) rfl (CF.box (m := 1) (S181.box_at (j := 8) rfl) rfl)) ?_
     refine p_i rfl rfl rfl (zba (args := [.pointer none, .int .i64 1]) ca161 rfl rfl) (zas Tryd.func161 rfl Tryd.ntmps161 rfl ?_)
     refine zag <| zag <| zah (l := [0, 1, 2, 3, 4, 5]) rfl <| p_v (v := .pointer none) rfl rfl rfl (zai rfl) <| p_v (v := .bool true) rfl rfl rfl (x_eql_ptr (p := none) u54 rfl rfl) <| p_v (v := .bool true) rfl rfl rfl (zai rfl) <| zby rfl rfl rfl <| zby rfl rfl rfl <| p_v (v := .bool true) rfl rfl rfl (zbs rfl rfl) <| zac <| zcy (b := true) rfl ?_
     simp only [if_true, if_false, Bool.false_eq_true]
     refine zax Tryd.func161 (res0 rfl) ?_
     refine ⟨_, rfl, ?_⟩
     refine zac <| zag <| zah (l := [0, 1, 2, 3, 4, 5]) rfl <| p_v (v := .pointer (some ⟨b80, 0, none⟩)) rfl rfl rfl (zai rfl) <| p_v (v := .pointer (some ⟨b80, 0, none⟩)) rfl rfl rfl (zbt rfl) <| p_v (v := .pointer (some ⟨b80, 2, none⟩)) rfl rfl rfl (zaq fd185_2 ty183 rfl rfl) <| p_v (v := v_m_22) rfl rfl rfl (zam (seg := [v_m_22]) ty183 rfl (by simp) rfl (CF.box (m := 1) (S181.box_at (j := 8) rfl) rfl)) ?_
     have lb183 := S181.row_le (j := 11) rfl; simp only [maxLen] at lb183
     refine p_v (v := .int .i64 (m_22.length : Int)) rfl rfl rfl (x_len_own u183 rfl (e_len_own S181 (j := 11) rfl)) <| p_v (v := .int .i64 (m_22.length : Int)) rfl rfl rfl (zaj rfl) <| zac <| zag ?_
     have hf184 : (CFs ⟨b80, 1, none⟩ [.map (some b78)]).1 wd180 := (CF.box (m := 1) (S181.box_at (j := 8) rfl) rfl)
     have hf185 : (CFs ⟨b170, 0, none⟩ (zak (zb9 m (zbd p) (at_ m_2 i) t44))).1 wd180 := (CF.box (m := 4) (S181.box_at (j := 17) rfl) rfl)
     refine daS (hkC 3 hf184 (hkC 4 hf185 (hkN (w := wd180)))) 7 rfl mixed ?_
     intro wd186 gd186 hd186
     have S187 := S181.keep gd186
     have hf188 := spUp gd186 hf184
     have hf189 := spUp gd186 hf185
     refine qd0 (i := 0) (v := .pointer (some ⟨b80, 0, none⟩)) rfl (by decide +kernel) rfl rfl (zai rfl) (zan rfl) <| qd0 (i := 1) (v := .pointer (some ⟨b80, 0, none⟩)) rfl (by decide +kernel) rfl rfl (zbt rfl) (zan rfl) <| qd0 (i := 2) (v := .pointer (some ⟨b80, 1, none⟩)) rfl (by decide +kernel) rfl rfl (zaq fd185_1 ty182 rfl rfl) (zan rfl) <| qd1 0 (i := 3) (v := .map (some b78)) rfl rfl (by decide +kernel) rfl rfl (fun wq hq => (zam (seg := [.map (some b78)]) ty182 rfl (by simp) rfl hq)) (zbm hf188 (zan rfl)) <| qd1 1 (i := 4) (v := .agg (zak (zb9 m (zbd p) (at_ m_2 i) t44)).toArray) rfl rfl (by decide +kernel) rfl rfl (fun wq hq => (zam (seg := (zak (zb9 m (zbd p) (at_ m_2 i) t44))) zee rfl (by simp) rfl hq)) (za8 rfl (zbm hf189 (zan rfl))) <| qd0 (i := 5) (v := .int .i64 (m_22.length : Int)) rfl (by decide +kernel) rfl rfl (zai rfl) (zan rfl) <| zbo (i := 6) (by decide +kernel) ?_
     intro wd190 gd190
     have S191 := S187.keep gd190
     have hf192 := spUp gd190 hf188
     have hf193 := spUp gd190 hf189
     obtain ⟨w194, r194, g194, T194⟩ := e_mapUpdate key115 S191 (j := 7) rfl u182 (zb9 m (zbd p) (at_ m_2 i) t44) (m_22.length : Int)
     have S195 := T194.fx 7 (amap (fun x : BSet => Value.agg (zak x).toArray) (fun x : Int => Value.int .i64 x) b78 (zeo (zb9 m (zbd p) (at_ m_2 i) t44) (m_22.length : Int) b2)) rfl
     dsimp only [lAa, lAn, lA0, lAs] at S195
     have hf196 : (CFs ⟨b80, 1, none⟩ [.map (some b78)]).1 w194 := (CF.box (m := 1) (S195.box_at (j := 8) rfl) rfl)
     have hf197 : (CFs ⟨b170, 0, none⟩ (zak (zb9 m (zbd p) (at_ m_2 i) t44))).1 w194 := (CF.box (m := 4) (S195.box_at (j := 17) rfl) rfl)
     refine d_s rfl rfl (x_mapUpdate rfl rfl rfl r194) (.inr (za1 (by decide +kernel) (za1 (by decide +kernel) trivial))) <| zcb (by decide +kernel) ?_
     intro wd198 gd198
     have S199 := S195.keep gd198
     have hf200 : (CFs ⟨b80, 2, none⟩ [v_m_22]).1 wd198 := (CF.box (m := 1) (S199.box_at (j := 8) rfl) rfl)
     have hf201 : (CFs ⟨b170, 0, none⟩ (zak (zb9 m (zbd p) (at_ m_2 i) t44))).1 wd198 := (CF.box (m := 4) (S199.box_at (j := 17) rfl) rfl)
     refine daS (hkC 4 hf200 (hkC 5 hf201 (hkN (w := wd198)))) 11 rfl mixed ?_
     intro wd202 gd202 hd202
     have S203 := S199.keep gd202
     have hf204 := spUp gd202 hf200
     have hf205 := spUp gd202 hf201
     refine qd0 (i := 0) (v := .pointer (some ⟨b80, 0, none⟩)) rfl (by decide +kernel) rfl rfl (zai rfl) (zan rfl) <| qd0 (i := 1) (v := .pointer (some ⟨b80, 0, none⟩)) rfl (by decide +kernel) rfl rfl (zai rfl) (zan rfl) <| qd0 (i := 2) (v := .pointer (some ⟨b80, 0, none⟩)) rfl (by decide +kernel) rfl rfl (zbt rfl) (zan rfl) <| qd0 (i := 3) (v := .pointer (some ⟨b80, 2, none⟩)) rfl (by decide +kernel) rfl rfl (zaq fd185_2 ty183 rfl rfl) (zan rfl) <| qd1 0 (i := 4) (v := v_m_22) rfl rfl (by decide +kernel) rfl rfl (fun wq hq => (zam (seg := [v_m_22]) ty183 rfl (by simp) rfl hq)) (zbm hf204 (zan rfl)) <| qd1 1 (i := 5) (v := .agg (zak (zb9 m (zbd p) (at_ m_2 i) t44)).toArray) rfl rfl (by decide +kernel) rfl rfl (fun wq hq => (zam (seg := (zak (zb9 m (zbd p) (at_ m_2 i) t44))) zee rfl (by simp) rfl hq)) (za8 rfl (zbm hf205 (zan rfl))) <| zbo (i := 6) (by decide +kernel) ?_
     intro wd206 gd206
     have S207 := S203.keep gd206
     have hf208 := spUp gd206 hf204
     have hf209 := spUp gd206 hf205
     obtain ⟨v210, w210, r210, g210, T210⟩ := zd1 (kd := kSet) (xs := ([zb9 m (zbd p) (at_ m_2 i) t44] : List BSet)) (len := 1) (m := 4) [(.agg (zak (zb9 m (zbd p) (at_ m_2 i) t44)).toArray, (zak (zb9 m (zbd p) (at_ m_2 i) t44)))] S207 u183 zee rfl rfl rfl rfl (zdk rfl rfl segs_nil) (cs := (zak (zb9 m (zbd p) (at_ m_2 i) t44))) (zbp.single (k := kSet) (h := h166) (x := zb9 m (zbd p) (at_ m_2 i) t44) (cs := (zak (zb9 m (zbd p) (at_ m_2 i) t44))) ⟨rfl, trivial⟩) (by simp)
     have S211 := T210
     dsimp only [lAa, lAn, lA0, lAs] at S211
     have hf212 := spUp g210 hf208
     have hf213 := spUp g210 hf209
     refine d_v (v := v210) rfl rfl rfl (zat (pv := [(0, .agg (zak (zb9 m (zbd p) (at_ m_2 i) t44)).toArray)]) rfl r210) (.inl g210) <| zbo (i := 7) (by decide +kernel) ?_
     intro wd214 gd214
     have S215 := S211.keep gd214
     have hf216 := spUp gd214 hf212
     have hf217 := spUp gd214 hf213
     obtain ⟨A219, c219, ev219, lc219, cm219⟩ := S215.row_val (j := 18) rfl
     obtain ⟨v220, w220, r220, g220, T220⟩ := zcs (kd := kSet) (A := A219) (c := c219) (ys := ([zb9 m (zbd p) (at_ m_2 i) t44] : List BSet)) (len := ([zb9 m (zbd p) (at_ m_2 i) t44] : List BSet).length) 183 S215 u183 zee rfl rfl (j := 11) rfl rfl (zc7 S215 (j := 18) rfl ev219) (by first|omega|(simp;omega)|assumption|simp) (by first|omega|(simp;omega)|assumption|simp)
     have S221 := T220.fx 11 (row 115 kSet v220 (m_22 ++ ([zb9 m (zbd p) (at_ m_2 i) t44] : List BSet))) rfl
     dsimp only [lAa, lAn, lA0, lAs] at S221
     have hf222 : (CFs ⟨b80, 2, none⟩ [v_m_22]).1 w220 := (CF.box (m := 1) (S221.box_at (j := 8) rfl) rfl)
     have hf223 : (CFs ⟨b170, 0, none⟩ (zak (zb9 m (zbd p) (at_ m_2 i) t44))).1 w220 := (CF.box (m := 4) (S221.box_at (j := 17) rfl) rfl)
     refine d_v (v := v220) rfl rfl rfl (zcr rfl ev219 r220) (.inr (za1 (by decide +kernel) (zbu hf223 trivial))) <| qd0 (i := 8) (v := .pointer (some ⟨b80, 0, none⟩)) rfl (by decide +kernel) rfl rfl (zbt rfl) (zan rfl) <| qd0 (i := 9) (v := .pointer (some ⟨b80, 2, none⟩)) rfl (by decide +kernel) rfl rfl (zaq fd185_2 ty183 rfl rfl) (zan rfl) <| zbo (i := 10) (by decide +kernel) ?_
     intro wd224 gd224
     have S225 := S221.keep gd224
     have hf226 := spUp gd224 hf222
     have hf227 := spUp gd224 hf223
     have oc229 := zcp S225 (j := 11) rfl
     obtain ⟨w228, r228, g228, T228⟩ := zcj (P := Tryd.prog) (off := 2) (v := v220) (vs := [v220]) S225 ty183 (zcn S225 (j := 11) rfl) rfl (j := 8) rfl (by first | decide | exact Nat.le_of_ble_eq_true rfl) (zb8 oc229 zdc)
     have S230 := T228.fx 8 (box b80 185 [.pointer none, .map (some b78), v220]) rfl
     dsimp only [lAa, lAn, lA0, lAs] at S230
     have hf231 : (CFs ⟨b170, 0, none⟩ (zak (zb9 m (zbd p) (at_ m_2 i) t44))).1 w228 := (CF.box (m := 4) (S230.box_at (j := 17) rfl) rfl)
     refine d_s rfl rfl (za2 rfl rfl r228) (.inr (za1 (by decide +kernel) (za1 (by decide +kernel) trivial))) <| zcb (by decide +kernel) ?_
     intro wd232 gd232
     have S233 := S230.keep gd232
     refine zag <| zah (l := [0, 1]) rfl <| p_v (v := .int .i64 (m_22.length : Int)) rfl rfl rfl (zai rfl) <| p_v (v := .int .i64 (m_22.length : Int)) rfl rfl rfl (zaj rfl) <| zac <| zax Tryd.func133 (res1 rfl (za4 (v := .int .i64 (m_22.length : Int)) rfl)) ?_
     refine ⟨_, rfl, ?_⟩
     obtain ⟨v234, w234, r234, g234, T234⟩ := za5 (kd := (Kd.int .i64)) (xs := ([(m_22.length : Int)] : List Int)) (len := 1) [.int .i64 (m_22.length : Int)] S233 u23 ty3 rfl rfl rfl rfl rfl (za0 rfl zb4) [.int .i64 (m_22.length : Int)] (zbp.single (k := (Kd.int .i64)) (h := h166) (x := (m_22.length : Int)) (cs := [.int .i64 (m_22.length : Int)]) ⟨rfl, (zar (by omega) (by omega))⟩) rfl
     have S235 := T234
     dsimp only [lAa, lAn, lA0, lAs] at S235
     refine p_v (v := v234) rfl rfl rfl (zat (pv := [(0, .int .i64 (m_22.length : Int))]) rfl r234) ?_
     obtain ⟨A237, c237, ev237, lc237, cm237⟩ := S235.row_val (j := 19) rfl
     obtain ⟨v238, w238, r238, g238, T238⟩ := zcs (kd := (Kd.int .i64)) (A := A237) (c := c237) (ys := ([(m_22.length : Int)] : List Int)) (len := ([(m_22.length : Int)] : List Int).length) 23 S235 u23 ty3 rfl rfl (j := 16) rfl rfl (zc7 S235 (j := 19) rfl ev237) (by first|omega|(simp;omega)|assumption|simp) (by first|omega|(simp;omega)|assumption|simp)
     have S239 := T238.fx 16 (row 3 (Kd.int .i64) v238 (l ++ ([(m_22.length : Int)] : List Int))) rfl
     dsimp only [lAa, lAn, lA0, lAs] at S239
     refine p_v (v := v238) rfl rfl rfl (zcr rfl ev237 r238) <| p_v (v := v238) rfl rfl rfl (zaj rfl) <| zac <| za3 <| zah (l := [0, 1]) rfl <| p_v (v := .int .i64 (t44 + 1)) rfl rfl rfl (zdj r166_44 rfl (zar (by omega) (by omega))) <| p_v (v := .int .i64 (t44 + 1)) rfl rfl rfl (zai rfl) <| zac ?_
     refine ih166 (m_22 ++ ([zb9 m (zbd p) (at_ m_2 i) t44] : List BSet), l ++ ([(m_22.length : Int)] : List Int), zeo (zb9 m (zbd p) (at_ m_2 i) t44) (m_22.length : Int) b2, t44 + 1) _ _ (by dsimp only; omega) ⟨h166, v220, v238, le166, S239.sub [0, 1, 2, 3, 4, 5, 6, 7, 8, 9, 10, 11, 12, 13, 14, 15, 16] (by decide) rfl _ rfl, r166_3, r166_4, r166_5, r166_10, r166_11, r166_12, r166_13, r166_14, rfl, r166_43, rfl, (zar (by omega) (by omega)), (by first | exact ⟨by omega, by omega, made_old hI166.2.2 (by assumption)⟩ | exact ⟨by omega, by omega, made_new hI166.2.2 (by assumption)⟩)⟩
    refine za6 <| zag <| zah (l := [0, 1]) rfl <| p_v (v := .int .i64 ((zbn (zb9 m (zbd p) (at_ m_2 i) t44) b2).getD 0)) rfl rfl rfl (zai rfl) <| p_v (v := .int .i64 ((zbn (zb9 m (zbd p) (at_ m_2 i) t44) b2).getD 0)) rfl rfl rfl (zaj rfl) <| zac <| zax Tryd.func133 (res1 rfl (za4 (v := .int .i64 ((zbn (zb9 m (zbd p) (at_ m_2 i) t44) b2).getD 0)) rfl)) ?_
    refine ⟨_, rfl, ?_⟩
    obtain ⟨v240, w240, r240, g240, T240⟩ := za5 (kd := (Kd.int .i64)) (xs := ([((zbn (zb9 m (zbd p) (at_ m_2 i) t44) b2).getD 0)] : List Int)) (len := 1) [.int .i64 ((zbn (zb9 m (zbd p) (at_ m_2 i) t44) b2).getD 0)] S181 u23 ty3 rfl rfl rfl rfl rfl (za0 rfl zb4) [.int .i64 ((zbn (zb9 m (zbd p) (at_ m_2 i) t44) b2).getD 0)] (zbp.single (k := (Kd.int .i64)) (h := h166) (x := ((zbn (zb9 m (zbd p) (at_ m_2 i) t44) b2).getD 0)) (cs := [.int .i64 ((zbn (zb9 m (zbd p) (at_ m_2 i) t44) b2).getD 0)]) ⟨rfl, (zar (by omega) (by omega))⟩) rfl
    have S241 := T240
    dsimp only [lAa, lAn, lA0, lAs] at S241
    refine p_v (v := v240) rfl rfl rfl (zat (pv := [(0, .int .i64 ((zbn (zb9 m (zbd p) (at_ m_2 i) t44) b2).getD 0))]) rfl r240) ?_
    obtain ⟨A243, c243, ev243, lc243, cm243⟩ := S241.row_val (j := 18) rfl
    obtain ⟨v244, w244, r244, g244, T244⟩ := zcs (kd := (Kd.int .i64)) (A := A243) (c := c243) (ys := ([((zbn (zb9 m (zbd p) (at_ m_2 i) t44) b2).getD 0)] : List Int)) (len := ([((zbn (zb9 m (zbd p) (at_ m_2 i) t44) b2).getD 0)] : List Int).length) 23 S241 u23 ty3 rfl rfl (j := 16) rfl rfl (zc7 S241 (j := 18) rfl ev243) (by first|omega|(simp;omega)|assumption|simp) (by first|omega|(simp;omega)|assumption|simp)
    have S245 := T244.fx 16 (row 3 (Kd.int .i64) v244 (l ++ ([((zbn (zb9 m (zbd p) (at_ m_2 i) t44) b2).getD 0)] : List Int))) rfl
    dsimp only [lAa, lAn, lA0, lAs] at S245
    refine p_v (v := v244) rfl rfl rfl (zcr rfl ev243 r244) <| p_v (v := v244) rfl rfl rfl (zaj rfl) <| zac <| za3 <| zah (l := [0, 1]) rfl <| p_v (v := .int .i64 (t44 + 1)) rfl rfl rfl (zdj r166_44 rfl (zar (by omega) (by omega))) <| p_v (v := .int .i64 (t44 + 1)) rfl rfl rfl (zai rfl) <| zac ?_
    refine ih166 (m_22, l ++ ([((zbn (zb9 m (zbd p) (at_ m_2 i) t44) b2).getD 0)] : List Int), b2, t44 + 1) _ _ (by dsimp only; omega) ⟨h166, v_m_22, v244, le166, S245.sub [0, 1, 2, 3, 4, 5, 6, 7, 8, 9, 10, 11, 12, 13, 14, 15, 16] (by decide) rfl _ rfl, r166_3, r166_4, r166_5, r166_10, r166_11, r166_12, r166_13, r166_14, rfl, r166_43, rfl, (zar (by omega) (by omega)), (by first | exact ⟨by omega, by omega, made_old hI166.2.2 (by assumption)⟩ | exact ⟨by omega, by omega, made_new hI166.2.2 (by assumption)⟩)⟩
   refine zcf rfl ?_
   have hf246 : (CFs ⟨b146, 257, none⟩ [v_d_1]).1 w166 := (CF.box (m := 1) (S166.box_at (j := 12) rfl) (zbc (a := (zad p)) (pre := []) (seg := [v_d_1]) (post := [v_d_2]) (zaf o1) rfl rfl))
   have hf247 : (CFs ⟨b146, 258, none⟩ [v_d_2]).1 w166 := (CF.box (m := 1) (S166.box_at (j := 12) rfl) (zbc (a := (zad p)) (pre := [v_d_1]) (seg := [v_d_2]) (post := []) (zaf o1) rfl rfl))
   have hf248 : (CFs ⟨b159, 0, none⟩ (zak (at_ m_2 i))).1 w166 := (CF.box (m := 4) (S166.box_at (j := 15) rfl) rfl)
   refine daS (hkC 1 hf246 (hkC 6 hf247 (hkC 8 hf248 (hkN (w := w166))))) 16 rfl mixed ?_
   intro wd249 gd249 hd249
   have S250 := S166.keep gd249
   have hf251 := spUp gd249 hf246
   have hf252 := spUp gd249 hf247
   have hf253 := spUp gd249 hf248
   refine qd0 (i := 0) (v := .pointer (some ⟨b146, 257, none⟩)) rfl (by decide +kernel) rfl rfl (zaq zef ty24 rfl r166_12) (zan rfl) <| qd1 0 (i := 1) (v := v_d_1) rfl rfl (by decide +kernel) rfl rfl (fun wq hq => (zam (seg := [v_d_1]) ty24 rfl (by simp) rfl hq)) (zbm hf251 (zan rfl)) <| qd0 (i := 2) (v := v_l) rfl (by decide +kernel) rfl rfl (zai r166_15) (zan rfl) <| qd0 (i := 5) (v := .pointer (some ⟨b146, 258, none⟩)) rfl (by decide +kernel) rfl rfl (zaq fd35_2 ty25 rfl r166_12) (zan rfl) <| qd1 1 (i := 6) (v := v_d_2) rfl rfl (by decide +kernel) rfl rfl (fun wq hq => (zam (seg := [v_d_2]) ty25 rfl (by simp) rfl hq)) (za8 rfl (zbm hf252 (zan rfl))) <| qd0 (i := 7) (v := .func (.func 84) #[] #[.pointer (some ⟨b1, 0, none⟩)]) rfl (by decide +kernel) rfl rfl (zai r166_4) (zan rfl) <| qd1 2 (i := 8) (v := .agg (zak (at_ m_2 i)).toArray) rfl rfl (by decide +kernel) rfl rfl (fun wq hq => (zam (seg := (zak (at_ m_2 i))) zee rfl (by simp) r166_14 hq)) (za8 rfl (za8 rfl (zbm hf253 (zan rfl)))) <| zbo (i := 3) (by decide +kernel) ?_
   intro wd254 gd254
   have S255 := S250.keep gd254
   have hf256 := spUp gd254 hf251
   have hf257 := spUp gd254 hf252
   have hf258 := spUp gd254 hf253
   obtain ⟨h260, le260, T260, rp260⟩ := S255.freeze (i := 16) rfl
   have lf260_0 := (((((lf58_0).trans le154)).trans le166)).trans le260
   have lf260_1 := (((((lf58_1).trans le154)).trans le166)).trans le260
   have lf260_2 := (((((lf58_2).trans le154)).trans le166)).trans le260
   have lf260_3 := (((((le58).trans le154)).trans le166)).trans le260
   have lf260_4 := (((le154).trans le166)).trans le260
   have lf260_5 := (le166).trans le260
   have S261 := T260.fx 16 (emp) rfl
   dsimp only [lAa, lAn, lA0, lAs] at S261
   obtain ⟨A260, c260, e260, lc260, cm260, ld260⟩ := rp260
   injection e260 with e260 _; subst e260
   have cn260 := cm260; simp only [maxLen] at cn260
   obtain ⟨v259, w259, r259, g259, T259⟩ := za5 (kd := (Kd.int .i64).slice) (xs := ([l] : List (List Int))) (len := 1) [.slice A260 l.length c260] S261 u24 ty23 rfl rfl rfl rfl rfl (za0 rfl zb4) [.slice A260 l.length c260] (zbp.single (k := (Kd.int .i64).slice) (h := h260) (x := l) (cs := [.slice A260 l.length c260]) ⟨_, _, rfl, (And.intro lc260 cm260).1, (And.intro lc260 cm260).2, ld260.mono (Le.refl _)⟩) rfl
   have S262 := T259
   dsimp only [lAa, lAn, lA0, lAs] at S262
   have hf263 := spUp g259 hf256
   have hf264 := spUp g259 hf257
   have hf265 := spUp g259 hf258
   refine d_v (v := v259) rfl rfl rfl (zat (pv := [(0, .slice A260 l.length c260)]) rfl r259) (.inl g259) <| zbo (i := 4) (by decide +kernel) ?_
   intro wd266 gd266
   have S267 := S262.keep gd266
   have hf268 := spUp gd266 hf263
   have hf269 := spUp gd266 hf264
   have hf270 := spUp gd266 hf265
   obtain ⟨A272, c272, ev272, lc272, cm272⟩ := S267.row_val (j := 17) rfl
   obtain ⟨v273, w273, r273, g273, T273⟩ := zcs (kd := (Kd.int .i64).slice) (A := A272) (c := c272) (ys := ([l] : List (List Int))) (len := ([l] : List (List Int)).length) 24 S267 u24 ty23 rfl rfl (j := 13) rfl rfl (zc7 S267 (j := 17) rfl ev272) (by first|omega|(simp;omega)|assumption|simp) (by first|omega|(simp;omega)|assumption|simp)
   have S274 := T273.fx 13 (row 23 (Kd.int .i64).slice v273 (d_1 ++ ([l] : List (List Int)))) rfl
   dsimp only [lAa, lAn, lA0, lAs] at S274
   have hf275 : (CFs ⟨b146, 257, none⟩ [v_d_1]).1 w273 := (CF.box (m := 1) (S274.box_at (j := 12) rfl) (zbc (a := (zad p)) (pre := []) (seg := [v_d_1]) (post := [v_d_2]) (zaf o1) rfl rfl))
   have hf276 : (CFs ⟨b146, 258, none⟩ [v_d_2]).1 w273 := (CF.box (m := 1) (S274.box_at (j := 12) rfl) (zbc (a := (zad p)) (pre := [v_d_1]) (seg := [v_d_2]) (post := []) (zaf o1) rfl rfl))
   have hf277 : (CFs ⟨b159, 0, none⟩ (zak (at_ m_2 i))).1 w273 := (CF.box (m := 4) (S274.box_at (j := 15) rfl) rfl)
   refine d_v (v := v273) rfl rfl rfl (zcr rfl ev272 r273) (.inr (za1 (by decide +kernel) (zbu hf276 (zbu hf277 trivial)))) ?_
   have hf279 : (zcm kSpot A0_0 m.spots).1 w273 := (l0_0.mono (St.le0 S274))
   have hf280 : (zcm (Kd.int .i64) A0_1 m.first).1 w273 := (l0_1.mono (St.le0 S274))
   have hf281 : (zcm (Kd.int .i64).slice A0_2 m.follow).1 w273 := (l0_2.mono (St.le0 S274))
   have hf282 : (zcm Kd.bool A0_3 m.last).1 w273 := (l0_3.mono (St.le0 S274))
   have hf283 : (GCs ⟨b1, 0, none⟩ [.slice A0_0 m.spots.length c0_0, .slice A0_1 m.first.length c0_1, .slice A0_2 m.follow.length c0_2, .slice A0_3 m.last.length c0_3, .bool m.empty]).1 w273 := (zco (S274.box_at (j := 0) rfl))
   refine raMo (hkC 9 hf279 (hkC 9 hf280 (hkC 9 hf281 (hkC 9 hf282 (hkC 9 hf283 (hkN (w := w273))))))) <| d_m (i := 9) (v := .bool (zdh m (at_ m_2 i))) (fun wf => zbz kSpot (hp wf) A0_0 m.spots ∧ zbz (Kd.int .i64) (hp wf) A0_1 m.first ∧ zbz (Kd.int .i64).slice (hp wf) A0_2 m.follow ∧ zbz Kd.bool (hp wf) A0_3 m.last ∧ (GCs ⟨b1, 0, none⟩ [.slice A0_0 m.spots.length c0_0, .slice A0_1 m.first.length c0_1, .slice A0_2 m.follow.length c0_2, .slice A0_3 m.last.length c0_3, .bool m.empty]).1 wf) (fun _ ho => ⟨ho _ (List.mem_of_getElem? (i := 0) rfl) rfl, ho _ (List.mem_of_getElem? (i := 1) rfl) rfl, ho _ (List.mem_of_getElem? (i := 2) rfl) rfl, ho _ (List.mem_of_getElem? (i := 3) rfl) rfl, ho _ (List.mem_of_getElem? (i := 4) rfl) rfl⟩) rfl (by decide +kernel) (by decide +kernel) (by decide +kernel) rfl rfl (fun wq => (zba (args := [.agg (zak (at_ m_2 i)).toArray, .pointer (some ⟨b1, 0, none⟩)]) ca84 rfl rfl)) (fun wq hq => (final_calls wq (at_ m_2 i) m A0_0 c0_0 b0_0 hq.1 A0_1 c0_1 b0_1 hq.2.1 A0_2 c0_2 b0_2 hq.2.2.1 A0_3 c0_3 b0_3 hq.2.2.2.1 ⟨b1, 0, none⟩ hq.2.2.2.2 (by assumption)).mono fun e w2 he => by obtain ⟨_, rfl, _, T, rfl⟩ := he; exact ⟨rfl, Chg.of_below T.below⟩) (zbm hf279 (zbm hf280 (zbm hf281 (zbm hf282 (zbm hf283 (zan rfl)))))) <| qd0 (i := 12) (v := .pointer (some ⟨b146, 257, none⟩)) rfl (by decide +kernel) rfl rfl (zaq zef ty24 rfl r166_12) (zan rfl) <| zbo (i := 10) (by decide +kernel) ?_
   intro wd284 gd284
   have S285 := S274.keep gd284
   have hf286 := spUp gd284 hf279
   have hf287 := spUp gd284 hf280
   have hf288 := spUp gd284 hf281
   have hf289 := spUp gd284 hf282
   have hf290 := spUp gd284 hf283
   have hf291 := spUp gd284 hf275
   have hf292 := spUp gd284 hf276
   have hf293 := spUp gd284 hf277
   obtain ⟨v294, w294, r294, g294, T294⟩ := za5 (kd := Kd.bool) (xs := ([zdh m (at_ m_2 i)] : List Bool)) (len := 1) [.bool (zdh m (at_ m_2 i))] S285 u25 ty4 rfl rfl rfl rfl rfl (za0 rfl zb4) [.bool (zdh m (at_ m_2 i))] (zbp.single (k := Kd.bool) (h := h260) (x := zdh m (at_ m_2 i)) (cs := [.bool (zdh m (at_ m_2 i))]) ⟨rfl, trivial⟩) rfl
   have S295 := T294
   dsimp only [lAa, lAn, lA0, lAs] at S295
   have hf296 := spUp g294 hf286
   have hf297 := spUp g294 hf287
   have hf298 := spUp g294 hf288
   have hf299 := spUp g294 hf289
   have hf300 := spUp g294 hf290
   have hf301 := spUp g294 hf291
   have hf302 := spUp g294 hf292
   have hf303 := spUp g294 hf293
   refine d_v (v := v294) rfl rfl rfl (zat (pv := [(0, .bool (zdh m (at_ m_2 i)))]) rfl r294) (.inl g294) <| zbo (i := 11) (by decide +kernel) ?_
   intro wd304 gd304
   have S305 := S295.keep gd304
   have hf306 := spUp gd304 hf296
   have hf307 := spUp gd304 hf297
   have hf308 := spUp gd304 hf298
   have hf309 := spUp gd304 hf299
   have hf310 := spUp gd304 hf300
   have hf311 := spUp gd304 hf301
   have hf312 := spUp gd304 hf302
   have hf313 := spUp gd304 hf303
   obtain ⟨A315, c315, ev315, lc315, cm315⟩ := S305.row_val (j := 18) rfl
   obtain ⟨v316, w316, r316, g316, T316⟩ := zcs (kd := Kd.bool) (A := A315) (c := c315) (ys := ([zdh m (at_ m_2 i)] : List Bool)) (len := ([zdh m (at_ m_2 i)] : List Bool).length) 25 S305 u25 ty4 rfl rfl (j := 14) rfl rfl (zc7 S305 (j := 18) rfl ev315) (by first|omega|(simp;omega)|assumption|simp) (by first|omega|(simp;omega)|assumption|simp)
   have S317 := T316.fx 14 (row 4 Kd.bool v316 (d_2 ++ ([zdh m (at_ m_2 i)] : List Bool))) rfl
   dsimp only [lAa, lAn, lA0, lAs] at S317
   have hf318 : (zcm kSpot A0_0 m.spots).1 w316 := (l0_0.mono (St.le0 S317))
   have hf319 : (zcm (Kd.int .i64) A0_1 m.first).1 w316 := (l0_1.mono (St.le0 S317))
   have hf320 : (zcm (Kd.int .i64).slice A0_2 m.follow).1 w316 := (l0_2.mono (St.le0 S317))
   have hf321 : (zcm Kd.bool A0_3 m.last).1 w316 := (l0_3.mono (St.le0 S317))
   have hf322 : (GCs ⟨b1, 0, none⟩ [.slice A0_0 m.spots.length c0_0, .slice A0_1 m.first.length c0_1, .slice A0_2 m.follow.length c0_2, .slice A0_3 m.last.length c0_3, .bool m.empty]).1 w316 := (zco (S317.box_at (j := 0) rfl))
   have hf323 : (CFs ⟨b146, 257, none⟩ [v_d_1]).1 w316 := (CF.box (m := 1) (S317.box_at (j := 12) rfl) (zbc (a := (zad p)) (pre := []) (seg := [v_d_1]) (post := [v_d_2]) (zaf o1) rfl rfl))
   have hf324 : (CFs ⟨b146, 258, none⟩ [v_d_2]).1 w316 := (CF.box (m := 1) (S317.box_at (j := 12) rfl) (zbc (a := (zad p)) (pre := [v_d_1]) (seg := [v_d_2]) (post := []) (zaf o1) rfl rfl))
   have hf325 : (CFs ⟨b159, 0, none⟩ (zak (at_ m_2 i))).1 w316 := (CF.box (m := 4) (S317.box_at (j := 15) rfl) rfl)
   refine d_v (v := v316) rfl rfl rfl (zcr rfl ev315 r316) (.inr (za1 (by decide +kernel) (za1 (by decide +kernel) (za1 (by decide +kernel) (za1 (by decide +kernel) (za1 (by decide +kernel) (zbu hf323 (za1 (by decide +kernel) (zbu hf325 trivial))))))))) <| zbo (i := 13) (by decide +kernel) ?_
   intro wd326 gd326
   have S327 := S317.keep gd326
   have hf328 := spUp gd326 hf318
   have hf329 := spUp gd326 hf319
   have hf330 := spUp gd326 hf320
   have hf331 := spUp gd326 hf321
   have hf332 := spUp gd326 hf322
   have hf333 := spUp gd326 hf323
   have hf334 := spUp gd326 hf324
   have hf335 := spUp gd326 hf325
   have oc337 := zcp S327 (j := 13) rfl
   obtain ⟨w336, r336, g336, T336⟩ := zcw (P := Tryd.prog) (off := 257) (v := v273) (vs := [v273]) (a := (zad p)) (pre := []) (seg := [v_d_1]) (post := [v_d_2]) S327 ty24 (zcn S327 (j := 13) rfl) rfl (zaf o1) rfl rfl (j := 12) rfl (zb8 oc337 zdc)
   have S338 := T336.fx 12 (box b146 35 ((zad p) ++ ([v273, v_d_2] : List Value))) rfl
   dsimp only [lAa, lAn, lA0, lAs] at S338
   have hf339 : (zcm kSpot A0_0 m.spots).1 w336 := (l0_0.mono (St.le0 S338))
   have hf340 : (zcm (Kd.int .i64) A0_1 m.first).1 w336 := (l0_1.mono (St.le0 S338))
   have hf341 : (zcm (Kd.int .i64).slice A0_2 m.follow).1 w336 := (l0_2.mono (St.le0 S338))
   have hf342 : (zcm Kd.bool A0_3 m.last).1 w336 := (l0_3.mono (St.le0 S338))
   have hf343 : (GCs ⟨b1, 0, none⟩ [.slice A0_0 m.spots.length c0_0, .slice A0_1 m.first.length c0_1, .slice A0_2 m.follow.length c0_2, .slice A0_3 m.last.length c0_3, .bool m.empty]).1 w336 := (zco (S338.box_at (j := 0) rfl))
   have hf344 : (CFs ⟨b159, 0, none⟩ (zak (at_ m_2 i))).1 w336 := (CF.box (m := 4) (S338.box_at (j := 15) rfl) rfl)
   refine d_s rfl rfl (za2 rfl rfl r336) (.inr (zbu hf339 (zbu hf340 (zbu hf341 (zbu hf342 (zbu hf343 (za1 (by decide +kernel) (za1 (by decide +kernel) (zbu hf344 trivial))))))))) <| qd0 (i := 14) (v := .pointer (some ⟨b146, 258, none⟩)) rfl (by decide +kernel) rfl rfl (zaq fd35_2 ty25 rfl r166_12) (zan rfl) <| zbo (i := 15) (by decide +kernel) ?_
   intro wd345 gd345
   have S346 := S338.keep gd345
   have hf347 := spUp gd345 hf339
   have hf348 := spUp gd345 hf340
   have hf349 := spUp gd345 hf341
   have hf350 := spUp gd345 hf342
   have hf351 := spUp gd345 hf343
   have hf352 := spUp gd345 hf344
   have oc354 := zcp S346 (j := 14) rfl
   obtain ⟨w353, r353, g353, T353⟩ := zcw (P := Tryd.prog) (off := 258) (v := v316) (vs := [v316]) (a := (zad p)) (pre := [v273]) (seg := [v_d_2]) (post := []) S346 ty25 (zcn S346 (j := 14) rfl) rfl (zaf o1) rfl rfl (j := 12) rfl (zb8 oc354 zdc)
   have S355 := T353.fx 12 (box b146 35 ((zad p) ++ ([v273, v316] : List Value))) rfl
   dsimp only [lAa, lAn, lA0, lAs] at S355
   have hf356 : (zcm kSpot A0_0 m.spots).1 w353 := (l0_0.mono (St.le0 S355))
   have hf357 : (zcm (Kd.int .i64) A0_1 m.first).1 w353 := (l0_1.mono (St.le0 S355))
   have hf358 : (zcm (Kd.int .i64).slice A0_2 m.follow).1 w353 := (l0_2.mono (St.le0 S355))
   have hf359 : (zcm Kd.bool A0_3 m.last).1 w353 := (l0_3.mono (St.le0 S355))
   have hf360 : (GCs ⟨b1, 0, none⟩ [.slice A0_0 m.spots.length c0_0, .slice A0_1 m.first.length c0_1, .slice A0_2 m.follow.length c0_2, .slice A0_3 m.last.length c0_3, .bool m.empty]).1 w353 := (zco (S355.box_at (j := 0) rfl))
   have hf361 : (CFs ⟨b159, 0, none⟩ (zak (at_ m_2 i))).1 w353 := (CF.box (m := 4) (S355.box_at (j := 15) rfl) rfl)
   refine d_s rfl rfl (za2 rfl rfl r353) (.inr (za1 (by decide +kernel) (za1 (by decide +kernel) (za1 (by decide +kernel) (za1 (by decide +kernel) (za1 (by decide +kernel) (za1 (by decide +kernel) (za1 (by decide +kernel) (za1 (by decide +kernel) trivial))))))))) <| zcb (by decide +kernel) ?_
   intro wd362 gd362
   have S363 := S355.keep gd362
   refine za3 <| zah (l := [0, 1, 2]) rfl <| p_v (v := .int .i64 i) rfl rfl rfl (zai r166_13) <| p_v (v := .int .i64 (i + 1)) rfl rfl rfl (zdj rfl rfl (zar (by omega) (by omega))) <| p_v (v := .int .i64 (i + 1)) rfl rfl rfl (zaj rfl) <| zac ?_
   refine ih154 (m_22, d_1 ++ ([l] : List (List Int)), d_2 ++ ([zdh m (at_ m_2 i)] : List Bool), b2, i + 1) _ _ (by dsimp only; omega) ⟨h260, v_m_22, v273, v316, lf260_4, S363.sub [0, 1, 2, 3, 4, 5, 6, 7, 8, 9, 10, 11, 12, 13, 14] (by decide) rfl _ rfl, r166_3, r166_4, r166_5, r166_10, r166_11, r166_12, rfl, (zar (by omega) (by omega)), (by exact made_next hI154 (by omega) (zdm hI154.lo (by omega)) (by have := hI166.1; rw [show p.n = t44 by omega]; exact hI166.2.2))⟩
  refine zcf rfl <| zag <| zah (l := [0, 1]) rfl <| p_v (v := .agg ((zad p) ++ ([v_d_1, v_d_2] : List Value)).toArray) rfl rfl rfl (zam (seg := ((zad p) ++ ([v_d_1, v_d_2] : List Value))) ty35 (zal (zaf o1) rfl) (by simp) r154_12 (CF.box (m := 259) (S154.box_at (j := 12) rfl) (zaw (zal (zaf o1) rfl)))) ?_
  have oc365 := zcp S154 (j := 13) rfl
  have oc366 := zcp S154 (j := 14) rfl
  obtain ⟨w364, r364, g364, T364⟩ := za7 (P := Tryd.prog) (v := .agg ((zad p) ++ ([v_d_1, v_d_2] : List Value)).toArray) (vs := ((zad p) ++ ([v_d_1, v_d_2] : List Value))) (cs := ((zad zPart) ++ ([.slice none 0 0, .slice none 0 0] : List Value))) S154 ty35 rfl (zal (zaf o1) rfl) (zal (zaf (zao)) rfl) (j := 6) rfl (zcc (zaz _) (zb8 oc365 (zb8 oc366 zdc)))
  have S367 := T364.fx 6 (box b76 35 ((zad p) ++ ([v_d_1, v_d_2] : List Value))) rfl
  dsimp only [lAa, lAn, lA0, lAs] at S367
  refine p_s rfl rfl (za2 r154_10 rfl r364) <| zac <| zax Tryd.func85 (res1 rfl (zcz S367 ty35 r154_10 (j := 6) rfl (zal (zaf o1) rfl) (by simp) rfl)) ?_
  refine ⟨_, rfl, ?_⟩
  have hf368 : (CFs ⟨b3, 0, none⟩ (zad p)).1 w364 := (CF.box (m := 257) (S367.box_at (j := 1) rfl) (by rw [List.drop_zero, List.take_of_length_le (by rw [zaf o1]; exact Nat.le_refl _)]))
  refine ⟨.inr (zbu hf368 trivial), ?_⟩
  refine zbo (i := 6) (by decide +kernel) ?_
  intro wd369 gd369
  have S370 := S367.keep gd369
  have hf371 := spUp gd369 hf368
  have oc373 := zcp S370 (j := 13) rfl
  have oc374 := zcp S370 (j := 14) rfl
  obtain ⟨w372, r372, g372, T372⟩ := za7 (P := Tryd.prog) (v := .agg ((zad p) ++ ([v_d_1, v_d_2] : List Value)).toArray) (vs := ((zad p) ++ ([v_d_1, v_d_2] : List Value))) (cs := ((zad zPart) ++ ([.slice none 0 0, .slice none 0 0] : List Value))) S370 ty35 rfl (zal (zaf o1) rfl) (zal (zaf (zao)) rfl) (j := 2) rfl (zcc (zaz _) (zb8 oc373 (zb8 oc374 zdc)))
  have S375 := T372.fx 2 (box b5 35 ((zad p) ++ ([v_d_1, v_d_2] : List Value))) rfl
  dsimp only [lAa, lAn, lA0, lAs] at S375
  have hf376 : (CFs ⟨b3, 0, none⟩ (zad p)).1 w372 := (CF.box (m := 257) (S375.box_at (j := 1) rfl) (by rw [List.drop_zero, List.take_of_length_le (by rw [zaf o1]; exact Nat.le_refl _)]))
  refine d_s rfl rfl (za2 rfl rfl r372) (.inr (za1 (by decide +kernel) trivial)) <| qd0 (i := 7) (v := .int .i64 0) rfl (by decide +kernel) rfl rfl (zaj rfl) (zan rfl) <| zcb (by decide +kernel) ?_
  intro wd377 gd377
  have S378 := S375.keep gd377
  refine zax Tryd.func21 (res2 rfl (zcz S378 ty35 rfl (j := 2) rfl (zal (zaf o1) rfl) (by simp) rfl) (za4 (v := .int .i64 0) rfl)) ?_
  have q0 : ((zaa m p).part : PartM) = p := by
   first | (rw [(zb3 (by assumption)).1]; done) | (rw [(zb3 (by assumption)).1]) | exact (zb3 (by assumption)).2 | (rw [(zb2 (by assumption)).1]; done) | (rw [(zb2 (by assumption)).1]) | exact (zb2 (by assumption)).2 | exact err_yes (by assumption) (by assumption) | (rw [zbl (by assumption) (by assumption), zcg]; done) | (rw [zbl (by assumption) (by assumption), zcg]) | (rw [zbl (by assumption) (by assumption), zc8]; exact (zc0 hI154 (by omega)).2.1.symm) | (rw [zbl (by assumption) (by assumption), zc1]; exact (zc0 hI154 (by omega)).2.2.symm)
  have q1 : ((zaa m p).next : List (List Int)) = d_1 := by
   first | (rw [(zb3 (by assumption)).1]; done) | (rw [(zb3 (by assumption)).1]) | exact (zb3 (by assumption)).2 | (rw [(zb2 (by assumption)).1]; done) | (rw [(zb2 (by assumption)).1]) | exact (zb2 (by assumption)).2 | exact err_yes (by assumption) (by assumption) | (rw [zbl (by assumption) (by assumption), zcg]; done) | (rw [zbl (by assumption) (by assumption), zcg]) | (rw [zbl (by assumption) (by assumption), zc8]; exact (zc0 hI154 (by omega)).2.1.symm) | (rw [zbl (by assumption) (by assumption), zc1]; exact (zc0 hI154 (by omega)).2.2.symm)
  have q2 : ((zaa m p).final : List Bool) = d_2 := by
   first | (rw [(zb3 (by assumption)).1]; done) | (rw [(zb3 (by assumption)).1]) | exact (zb3 (by assumption)).2 | (rw [(zb2 (by assumption)).1]; done) | (rw [(zb2 (by assumption)).1]) | exact (zb2 (by assumption)).2 | exact err_yes (by assumption) (by assumption) | (rw [zbl (by assumption) (by assumption), zcg]; done) | (rw [zbl (by assumption) (by assumption), zcg]) | (rw [zbl (by assumption) (by assumption), zc8]; exact (zc0 hI154 (by omega)).2.1.symm) | (rw [zbl (by assumption) (by assumption), zc1]; exact (zc0 hI154 (by omega)).2.2.symm)
  have q3 : (errB m p : Int) = 0 := by
   first | (rw [(zb3 (by assumption)).1]; done) | (rw [(zb3 (by assumption)).1]) | exact (zb3 (by assumption)).2 | (rw [(zb2 (by assumption)).1]; done) | (rw [(zb2 (by assumption)).1]) | exact (zb2 (by assumption)).2 | exact err_yes (by assumption) (by assumption) | (rw [zbl (by assumption) (by assumption), zcg]; done) | (rw [zbl (by assumption) (by assumption), zcg]) | (rw [zbl (by assumption) (by assumption), zc8]; exact (zc0 hI154 (by omega)).2.1.symm) | (rw [zbl (by assumption) (by assumption), zc1]; exact (zc0 hI154 (by omega)).2.2.symm)
  refine ⟨_, rfl, h154, v_d_1, v_d_2, ?_, ?_, ?_, ?_⟩
  · rw [q1]; rw [q2]; exact S378.sub [13, 14] (by decide) rfl _ rfl
  · first | rfl | (simp only [q0, q1, q2, q3]; rfl) | (simp only [q0, q1, q2, q3])
  · rw [q0]; first | assumption | exact zao
  · rw [q3]; exact (zar (by omega) (by omega))
 have hf379 : (CFs ⟨b1, 0, none⟩ [.slice A0_0 m.spots.length c0_0, .slice A0_1 m.first.length c0_1, .slice A0_2 m.follow.length c0_2, .slice A0_3 m.last.length c0_3, .bool m.empty]).1 w5 := (CF.box (m := 5) (S6.box_at (j := 0) rfl) rfl)
 have hf380 : (zcm kSpot A0_0 m.spots).1 w5 := (l0_0.mono (St.le0 S6))
 have hf381 : (zcm (Kd.int .i64) A0_1 m.first).1 w5 := (l0_1.mono (St.le0 S6))
 have hf382 : (zcm (Kd.int .i64).slice A0_2 m.follow).1 w5 := (l0_2.mono (St.le0 S6))
 have hf383 : (zcm Kd.bool A0_3 m.last).1 w5 := (l0_3.mono (St.le0 S6))
 refine daS (hkC 0 hf379 (hkC 1 hf380 (hkC 1 hf381 (hkC 1 hf382 (hkC 1 hf383 (hkN (w := w5))))))) 10 rfl mixed ?_
 intro wd384 gd384 hd384
 have S385 := S6.keep gd384
 have hf386 := spUp gd384 hf379
 have hf387 := spUp gd384 hf380
 have hf388 := spUp gd384 hf381
 have hf389 := spUp gd384 hf382
 have hf390 := spUp gd384 hf383
 refine qd1 0 (i := 0) (v := .agg #[.slice A0_0 m.spots.length c0_0, .slice A0_1 m.first.length c0_1, .slice A0_2 m.follow.length c0_2, .slice A0_3 m.last.length c0_3, .bool m.empty]) rfl rfl (by decide +kernel) rfl rfl (fun wq hq => (zam (seg := [.slice A0_0 m.spots.length c0_0, .slice A0_1 m.first.length c0_1, .slice A0_2 m.follow.length c0_2, .slice A0_3 m.last.length c0_3, .bool m.empty]) ty27 rfl (by simp) rfl hq)) (zbm hf386 (zan rfl)) <| d_m (i := 1) (v := .bool (zcu m)) (fun wf => zbz kSpot (hp wf) A0_0 m.spots ∧ zbz (Kd.int .i64) (hp wf) A0_1 m.first ∧ zbz (Kd.int .i64).slice (hp wf) A0_2 m.follow ∧ zbz Kd.bool (hp wf) A0_3 m.last) (fun _ ho => ⟨ho _ (List.mem_of_getElem? (i := 1) rfl) rfl, ho _ (List.mem_of_getElem? (i := 2) rfl) rfl, ho _ (List.mem_of_getElem? (i := 3) rfl) rfl, ho _ (List.mem_of_getElem? (i := 4) rfl) rfl⟩) rfl (by decide +kernel) (by decide +kernel) (by decide +kernel) rfl rfl (fun wq => (zba (args := [.agg #[.slice A0_0 m.spots.length c0_0, .slice A0_1 m.first.length c0_1, .slice A0_2 m.follow.length c0_2, .slice A0_3 m.last.length c0_3, .bool m.empty]]) ca37 rfl rfl)) (fun wq hq => (rightN_calls wq m A0_0 c0_0 b0_0 hq.1 A0_1 c0_1 b0_1 hq.2.1 A0_2 c0_2 b0_2 hq.2.2.1 A0_3 c0_3 b0_3 hq.2.2.2).mono fun e w2 he => by obtain ⟨_, rfl, _, T, rfl⟩ := he; exact ⟨rfl, Chg.of_below T.below⟩) (za8 rfl (zbm hf387 (zbm hf388 (zbm hf389 (zbm hf390 (zan rfl)))))) <| qd0 (i := 2) (v := .bool (!(zcu m))) rfl (by decide +kernel) rfl rfl (x_not rfl) (zan rfl) <| qd0 (i := 3) (v := .bool (!(zcu m))) rfl (by decide +kernel) rfl rfl (zai rfl) (zan rfl) <| d_off (i := 4) rfl (by decide +kernel) (by decide +kernel) (by decide +kernel) (wo 3 14 rfl rfl (congrArg (fun z => Value.bool (!z)) hc8) rfl) rfl (zan rfl) <| d_off (i := 5) rfl (by decide +kernel) (by decide +kernel) (by decide +kernel) (wo 3 14 rfl rfl (congrArg (fun z => Value.bool (!z)) hc8) rfl) rfl (zan rfl) <| d_off (i := 6) rfl (by decide +kernel) (by decide +kernel) (by decide +kernel) (wo 3 14 rfl rfl (congrArg (fun z => Value.bool (!z)) hc8) rfl) rfl (zan rfl) <| d_off (i := 7) rfl (by decide +kernel) (by decide +kernel) (by decide +kernel) (wo 3 14 rfl rfl (congrArg (fun z => Value.bool (!z)) hc8) rfl) rfl (zan rfl) <| d_off (i := 8) rfl (by decide +kernel) (by decide +kernel) (by decide +kernel) (wo 3 14 rfl rfl (congrArg (fun z => Value.bool (!z)) hc8) rfl) rfl (zan rfl) <| qd0 (i := 9) (v := .bool true) rfl (by decide +kernel) rfl rfl (zbs (congrArg (fun z => Value.bool (!z)) hc8) rfl) (zan rfl) <| zcb (by decide +kernel) ?_
 intro wd391 gd391
 have S392 := S385.keep gd391
 refine zcy (b := true) rfl ?_
 simp only [if_true, if_false, Bool.false_eq_true]
 refine zag <| zah (l := [0, 1, 2]) rfl <| p_v (v := .agg ((zad zPart) ++ ([.slice none 0 0, .slice none 0 0] : List Value)).toArray) rfl rfl rfl (zc4 (pv := []) rfl (za9 pl35 ty35 rfl (cs := ((zad zPart) ++ ([.slice none 0 0, .slice none 0 0] : List Value))) (by kernel_rfl))) ?_
 obtain ⟨w393, r393, g393, T393⟩ := za7 (P := Tryd.prog) (v := .agg ((zad zPart) ++ ([.slice none 0 0, .slice none 0 0] : List Value)).toArray) (vs := ((zad zPart) ++ ([.slice none 0 0, .slice none 0 0] : List Value))) (cs := ((zad zPart) ++ ([.slice none 0 0, .slice none 0 0] : List Value))) S392 ty35 rfl (zal (zaf (zao)) rfl) (zal (zaf (zao)) rfl) (j := 2) rfl (zcc (zaz _) (by simp [Value.oneCell']))
 have S394 : St w.heap.size w (fun _ => none) w393 [box b1 27 [.slice A0_0 m.spots.length c0_0, .slice A0_1 m.first.length c0_1, .slice A0_2 m.follow.length c0_2, .slice A0_3 m.last.length c0_3, .bool m.empty], box b3 32 (zad p), box b5 35 ((zad zPart) ++ ([.slice none 0 0, .slice none 0 0] : List Value))] := T393
 refine p_s rfl rfl (za2 rfl rfl r393) <| p_v (v := .int .i64 1) rfl rfl rfl (zaj rfl) <| zac ?_
 have T395 := S394.row_nil 23 (Kd.int .i64).slice
 have S396 := T395
 dsimp only [lAa, lAn, lA0, lAs] at S396
 have T397 := S396.row_nil 4 Kd.bool
 have S398 := T397
 dsimp only [lAa, lAn, lA0, lAs] at S398
 refine zax Tryd.func21 (res2 rfl (zcz S394 ty35 rfl (j := 2) rfl (zal (zaf (zao)) rfl) (by simp) rfl) (za4 (v := .int .i64 1) rfl)) ?_
 have q0 : ((zaa m p).part : PartM) = zPart := by
  first | (rw [(zb3 (by assumption)).1]; done) | (rw [(zb3 (by assumption)).1]) | exact (zb3 (by assumption)).2 | (rw [(zb2 (by assumption)).1]; done) | (rw [(zb2 (by assumption)).1]) | exact (zb2 (by assumption)).2 | exact err_yes (by assumption) (by assumption) | (rw [zbl (by assumption) (by assumption), zcg]; done) | (rw [zbl (by assumption) (by assumption), zcg]) | (rw [zbl (by assumption) (by assumption), zc8]; exact (zc0 hI154 (by omega)).2.1.symm) | (rw [zbl (by assumption) (by assumption), zc1]; exact (zc0 hI154 (by omega)).2.2.symm)
 have q1 : ((zaa m p).next : List (List Int)) = ([] : List (List Int)) := by
  first | (rw [(zb3 (by assumption)).1]; done) | (rw [(zb3 (by assumption)).1]) | exact (zb3 (by assumption)).2 | (rw [(zb2 (by assumption)).1]; done) | (rw [(zb2 (by assumption)).1]) | exact (zb2 (by assumption)).2 | exact err_yes (by assumption) (by assumption) | (rw [zbl (by assumption) (by assumption), zcg]; done) | (rw [zbl (by assumption) (by assumption), zcg]) | (rw [zbl (by assumption) (by assumption), zc8]; exact (zc0 hI154 (by omega)).2.1.symm) | (rw [zbl (by assumption) (by assumption), zc1]; exact (zc0 hI154 (by omega)).2.2.symm)
 have q2 : ((zaa m p).final : List Bool) = ([] : List Bool) := by
  first | (rw [(zb3 (by assumption)).1]; done) | (rw [(zb3 (by assumption)).1]) | exact (zb3 (by assumption)).2 | (rw [(zb2 (by assumption)).1]; done) | (rw [(zb2 (by assumption)).1]) | exact (zb2 (by assumption)).2 | exact err_yes (by assumption) (by assumption) | (rw [zbl (by assumption) (by assumption), zcg]; done) | (rw [zbl (by assumption) (by assumption), zcg]) | (rw [zbl (by assumption) (by assumption), zc8]; exact (zc0 hI154 (by omega)).2.1.symm) | (rw [zbl (by assumption) (by assumption), zc1]; exact (zc0 hI154 (by omega)).2.2.symm)
 have q3 : (errB m p : Int) = 1 := by
  first | (rw [(zb3 (by assumption)).1]; done) | (rw [(zb3 (by assumption)).1]) | exact (zb3 (by assumption)).2 | (rw [(zb2 (by assumption)).1]; done) | (rw [(zb2 (by assumption)).1]) | exact (zb2 (by assumption)).2 | exact err_yes (by assumption) (by assumption) | (rw [zbl (by assumption) (by assumption), zcg]; done) | (rw [zbl (by assumption) (by assumption), zcg]) | (rw [zbl (by assumption) (by assumption), zc8]; exact (zc0 hI154 (by omega)).2.1.symm) | (rw [zbl (by assumption) (by assumption), zc1]; exact (zc0 hI154 (by omega)).2.2.symm)
 refine ⟨_, rfl, (fun _ => none), (.slice none 0 0), (.slice none 0 0), ?_, ?_, ?_, ?_⟩
 · rw [q1]; rw [q2]; exact S398.sub [3, 4] (by decide) rfl _ rfl
 · first | rfl | (simp only [q0, q1, q2, q3]; rfl) | (simp only [q0, q1, q2, q3])
 · rw [q0]; first | assumption | exact zao
 · rw [q3]; exact (zar (by omega) (by omega))
theorem right11_calls (w : World) (q : Int) (i0 : inK .i64 q) (n : Int) (i1 : inK .i64 n) (a1 : Addr) (pc1 : ∀ j v, [.int .i64 n][j]? = some v → zeg (hp w) (a1.add j) = some v) :
    Calls Tryd.prog 114 #[.int .i64 q, .pointer (some a1)] w fun e w' => ∃ v, e = .returned v ∧ ∃ (hn : Ghost), St w.heap.size w hn w' [] ∧ v = .bool (badQ n q) := by
 refine zas Tryd.func114 rfl Tryd.ntmps114 rfl ?_
 have S0 := St.init w
 have lo0 := zbf i0; have hi0 := zbg i0
 have lo1 := zbf i1; have hi1 := zbg i1
 refine zag <| zah (l := [0]) rfl <| p_v (v := .bool false) rfl rfl rfl (zaj rfl) <| zac <| zag <| zah (l := [0, 1, 2, 3, 4, 5, 6, 7]) rfl <| p_v (v := .int .i64 q) rfl rfl rfl (zai rfl) <| p_v (v := .bool (decide (q < 0))) rfl rfl rfl (zd6 rfl rfl) <| p_v (v := .bool (decide (q < 0))) rfl rfl rfl (zai rfl) ?_
 by_cases hc1 : q < 0
 ·skip
  refine zby rfl (wo 2 6 rfl rfl (bT hc1) rfl) rfl <| zby rfl (wo 2 6 rfl rfl (bT hc1) rfl) rfl <| zby rfl (wo 2 6 rfl rfl (bT hc1) rfl) rfl <| p_v (v := .bool true) rfl rfl rfl (zbs (bT hc1) rfl) <| p_v (v := .bool true) rfl rfl rfl (zaj rfl) <| zac <| zax Tryd.func114 (res1 rfl (za4 (v := .bool true) rfl)) ?_
  have q0 : (badQ n q : Bool) = true := by
   exact badQ_1 (by assumption)
  refine ⟨_, rfl, (fun _ => none), ?_, ?_⟩
  · exact S0.sub [] (by decide) rfl _ rfl
  · first | rfl | (simp only [q0]; rfl) | (simp only [q0])
 refine p_v (v := .int .i64 q) rfl (wo 2 6 rfl rfl (bF hc1) rfl) rfl (zai rfl) <| p_v (v := .int .i64 n) rfl (wo 2 6 rfl rfl (bF hc1) rfl) rfl (zam (seg := [.int .i64 n]) ty3 rfl (by simp) rfl (CF.ghost pc1 (St.le0 S0))) <| p_v (v := .bool (decide (n ≤ q))) rfl (wo 2 6 rfl rfl (bF hc1) rfl) rfl (x_geq rfl rfl) <| p_v (v := .bool (decide (n ≤ q))) rfl rfl rfl (zck (bF hc1) rfl) <| p_v (v := .bool (decide (n ≤ q))) rfl rfl rfl (zaj rfl) <| zac <| zax Tryd.func114 (res1 rfl (za4 (v := .bool (decide (n ≤ q))) rfl)) ?_
 have q0 : (badQ n q : Bool) = decide (n ≤ q) := by
  exact badQ_2 (by assumption)
 refine ⟨_, rfl, (fun _ => none), ?_, ?_⟩
 · exact S0.sub [] (by decide) rfl _ rfl
 · (simp only [q0])
theorem right1_calls (w : World) (l : List Int) (A0 : Option Addr) (c0 : Nat) (b0 : l.length ≤ c0 ∧ c0 ≤ maxLen) (l0 : zbz (Kd.int .i64) (hp w) A0 l) (d : Dfa) (o1_0 : okPart d.part) (A1_1 : Option Addr) (c1_1 : Nat) (b1_1 : d.next.length ≤ c1_1 ∧ c1_1 ≤ maxLen) (l1_1 : zbz (Kd.int .i64).slice (hp w) A1_1 d.next) (A1_2 : Option Addr) (c1_2 : Nat) (b1_2 : d.final.length ≤ c1_2 ∧ c1_2 ≤ maxLen) (l1_2 : zbz Kd.bool (hp w) A1_2 d.final) (a1 : Addr) (pc1 : ∀ j v, ((zad d.part) ++ ([.slice A1_1 d.next.length c1_1, .slice A1_2 d.final.length c1_2] : List Value))[j]? = some v → zeg (hp w) (a1.add j) = some v) (n : Int) (i2 : inK .i64 n) (a2 : Addr) (pc2 : ∀ j v, [.int .i64 n][j]? = some v → zeg (hp w) (a2.add j) = some v) :
    Calls Tryd.prog 112 #[.slice A0 l.length c0, .pointer (some a1), .pointer (some a2)] w fun e w' => ∃ v, e = .returned v ∧ ∃ (hn : Ghost), St w.heap.size w hn w' [] ∧ v = .bool (zd0 d n l) := by
 refine zas Tryd.func112 rfl Tryd.ntmps112 rfl ?_
 have S0 := St.init w
 have bb0 := b0.1; have bc0 := b0.2; simp only [maxLen] at bc0
 have ploo1_0 := zbf o1_0.2; have phio1_0 := zbg o1_0.2
 have bb1_1 := b1_1.1; have bc1_1 := b1_1.2; simp only [maxLen] at bc1_1
 have bb1_2 := b1_2.1; have bc1_2 := b1_2.2; simp only [maxLen] at bc1_2
 have lo2 := zbf i2; have hi2 := zbg i2
 refine zag <| zah (l := [0]) rfl <| p_v (v := .bool false) rfl rfl rfl (zaj rfl) <| zac <| zag <| zah (l := [0, 1, 2, 3, 4, 5, 6, 7, 8, 9, 10, 11]) rfl <| p_v (v := .slice A0 l.length c0) rfl rfl rfl (zai rfl) <| p_v (v := .int .i64 (l.length : Int)) rfl rfl rfl (zbe u23 rfl) <| p_v (v := .pointer (some (a1.add 0))) rfl rfl rfl (zc5 fd35_0 ty32 rfl rfl) ?_
 have in2 := (o1_0).2
 have lo2 := zbf in2; have hi2 := zbg in2
 refine p_v (v := .pointer (some ((a1.add 0).add 256))) rfl rfl rfl (zc5 fd32_1 ty3 rfl rfl) <| p_v (v := .int .i64 d.part.n) rfl rfl rfl (zam (seg := [.int .i64 d.part.n]) ty3 rfl (by simp) rfl (CF.ghost (zdt (o := 256) (m := 1) (ds := [.int .i64 d.part.n]) (zdt (o := 0) (m := 257) (ds := ((zad d.part))) pc1 (seg_mid (pre := []) (seg := ((zad d.part))) (post := [.slice A1_1 d.next.length c1_1, .slice A1_2 d.final.length c1_2]) rfl (zaf o1_0))) (encPart_n o1_0)) (St.le0 S0))) <| p_v (v := .bool (decide ((l.length : Int) ≠ d.part.n))) rfl rfl rfl (x_neq rfl rfl) <| p_v (v := .bool (decide ((l.length : Int) ≠ d.part.n))) rfl rfl rfl (zai rfl) ?_
 by_cases hc4 : (l.length : Int) ≠ d.part.n
 ·skip
  refine zby rfl (wo 6 11 rfl rfl (bT hc4) rfl) rfl <| zby rfl (wo 6 11 rfl rfl (bT hc4) rfl) rfl <| zby rfl (wo 6 11 rfl rfl (bT hc4) rfl) rfl <| p_v (v := .bool true) rfl rfl rfl (zbs (bT hc4) rfl) <| p_v (v := .bool true) rfl rfl rfl (zaj rfl) <| zac <| zax Tryd.func112 (res1 rfl (za4 (v := .bool true) rfl)) ?_
  have q0 : (zd0 d n l : Bool) = true := by
   exact badRow_1 (by assumption)
  refine ⟨_, rfl, (fun _ => none), ?_, ?_⟩
  · exact S0.sub [] (by decide) rfl _ rfl
  · first | rfl | (simp only [q0]; rfl) | (simp only [q0])
 refine p_v (v := .slice A0 l.length c0) rfl (wo 6 11 rfl rfl (bF hc4) rfl) rfl (zai rfl) <| p_v (v := .func (.func 114) #[] #[.pointer (some a2)]) rfl (wo 6 11 rfl rfl (bF hc4) rfl) rfl (zed (fv := []) (cv := [.pointer (some a2)]) rfl rfl) ?_
 refine p_i rfl (wo 6 11 rfl rfl (bF hc4) rfl) rfl (zba (args := [.slice A0 l.length c0, .func (.func 114) #[] #[.pointer (some a2)]]) ca113 rfl rfl) (zas Tryd.func113 rfl Tryd.ntmps113 rfl ?_)
 refine zag <| zah (l := [0]) rfl <| p_v (v := .bool false) rfl rfl rfl (zaj rfl) <| zac <| zag <| zah (l := [0, 1, 2, 3, 4]) rfl <| p_v (v := .slice A0 l.length c0) rfl rfl rfl (zai rfl) <| p_v (v := .func (.func 114) #[] #[.pointer (some a2)]) rfl rfl rfl (zai rfl) ?_
 refine p_i rfl rfl rfl (zba (args := [.slice A0 l.length c0, .func (.func 114) #[] #[.pointer (some a2)]]) ca154 rfl rfl) (zas Tryd.func154 rfl Tryd.ntmps154 rfl ?_)
 refine zag <| zah (l := [0]) rfl <| p_v (v := .int .i64 0) rfl rfl rfl (zaj rfl) <| zac <| zag <| zag <| zah (l := [0, 1, 2]) rfl <| p_v (v := .slice A0 l.length c0) rfl rfl rfl (zai rfl) <| p_v (v := .int .i64 (l.length : Int)) rfl rfl rfl (zbe u23 rfl) <| p_v (v := .int .i64 0) rfl rfl rfl (zai rfl) <| zac <| zay ?_
 refine zce (S := Int) (fun (q_ : Int) ρ w' => match q_ with | t8 => ∃ (h : Ghost), Le (fun _ => none) h ∧ St w.heap.size w h w' [] ∧ ρ 0 = .slice A0 l.length c0 ∧ ρ 1 = .func (.func 114) #[] #[.pointer (some a2)] ∧ ρ 7 = .int .i64 (l.length : Int) ∧ ρ 8 = .int .i64 t8 ∧ inK .i64 t8 ∧ (0 ≤ t8 ∧ t8 ≤ (l.length : Int) ∧ (l.take t8.toNat).any (badQ n) = false)) (fun q_ => match q_ with | t8 => (l.length - t8).toNat) (0) ⟨(fun _ => none), Le.refl _, S0.sub [] (by decide) rfl _ rfl, rfl, rfl, rfl, rfl, (zar (by omega) (by omega)), (by exact ⟨by omega, by omega, rfl⟩)⟩ ?_
 rintro t8 ih5 ρ5 w5 ⟨h5, le5, S5, r5_0, r5_1, r5_7, r5_8, f5_0, hI5⟩
 have lf5_0 := zbf f5_0; have hf5_0 := zbg f5_0
 have hq_ := hI5.1
 refine zag <| zah (l := [0]) rfl <| p_v (v := .bool (decide (t8 < (l.length : Int)))) rfl rfl rfl (zd6 r5_8 r5_7) <| zac <| zag ?_
 refine zau (p := t8 < (l.length : Int)) rfl (fun hc6 => ?_) (fun hc6 => ?_)
 ·skip
  refine za6 <| zag <| zay <| zag <| zah (l := [0, 1]) rfl <| p_v (v := .int .i64 t8) rfl rfl rfl (zai r5_8) <| p_v (v := .int .i64 t8) rfl rfl rfl (zaj rfl) <| zac <| zag <| zah (l := [0, 1, 2, 3, 4, 5]) rfl <| p_v (v := .func (.func 114) #[] #[.pointer (some a2)]) rfl rfl rfl (zai r5_1) <| p_v (v := .slice A0 l.length c0) rfl rfl rfl (zai r5_0) ?_
  refine p_v (v := .int .i64 t8) rfl rfl rfl (zai rfl) ?_
  obtain ⟨ad7, seg7, a7, rp7, ce7⟩ := zbj (q := t8) (m := 1) l0 rfl (by omega) (by omega)
  refine p_v (v := .pointer (some ad7)) rfl rfl rfl (zbi u23 ty3 rfl rfl a7 (by omega) (by omega)) ?_
  obtain ⟨rfl, in7⟩ := rp7
  have lo7 := zbf in7; have hi7 := zbg in7
  refine p_v (v := .int .i64 (at_ l t8)) rfl rfl rfl (zam (seg := [.int .i64 (at_ l t8)]) ty3 rfl (by simp) rfl (CF.ghost ce7 (St.le0 S5))) <| p_c rfl rfl rfl (zba (args := [.int .i64 (at_ l t8), .pointer (some a2)]) ca114 rfl rfl) (right11_calls w5 (at_ l t8) (zar (by omega) (by omega)) n (zar (by omega) (by omega)) a2 (fun j v h => gcell_mono (St.le0 S5) (pc2 j v h))) ?_
  rintro _ w8 ⟨h8, T8, rfl⟩
  have S9 := S5.keep (Chg.of_below T8.below)
  refine zac ?_
  refine zci (b := badQ n (at_ l t8)) rfl (fun hc10 => ?_) (fun hc10 => ?_)
  ·skip
   refine zag <| zah (l := [0, 1]) rfl <| p_v (v := .int .i64 t8) rfl rfl rfl (zai rfl) <| p_v (v := .int .i64 t8) rfl rfl rfl (zaj rfl) <| zac <| zax Tryd.func154 (res1 rfl (za4 (v := .int .i64 t8) rfl)) ?_
   refine ⟨_, rfl, ?_⟩
   refine p_v (v := .bool (decide (0 ≤ t8))) rfl rfl rfl (x_geq rfl rfl) <| p_v (v := .bool (decide (0 ≤ t8))) rfl rfl rfl (zaj rfl) <| zac <| zax Tryd.func113 (res1 rfl (za4 (v := .bool (decide (0 ≤ t8))) rfl)) ?_
   refine ⟨_, rfl, ?_⟩
   refine p_v (v := .bool (decide (0 ≤ t8))) rfl rfl rfl (zck (bF hc4) rfl) <| p_v (v := .bool (decide (0 ≤ t8))) rfl rfl rfl (zaj rfl) <| zac ?_
   have hc11 : (0 ≤ t8) := by
    omega
   refine zax Tryd.func112 (res1 rfl (za4 (v := .bool true) (bT hc11))) ?_
   have q0 : (zd0 d n l : Bool) = true := by
    exact badRow_2 hI5.1 (by omega) (by assumption)
   refine ⟨_, rfl, h5, ?_, ?_⟩
   · exact S9.sub [] (by decide) rfl _ rfl
   · first | rfl | (simp only [q0]; rfl) | (simp only [q0])
  refine za6 <| za3 <| zah (l := [0, 1]) rfl <| p_v (v := .int .i64 (t8 + 1)) rfl rfl rfl (zdj r5_8 rfl (zar (by omega) (by omega))) <| p_v (v := .int .i64 (t8 + 1)) rfl rfl rfl (zai rfl) <| zac ?_
  refine ih5 (t8 + 1) _ _ (by dsimp only; omega) ⟨h5, le5, S9.sub [] (by decide) rfl _ rfl, r5_0, r5_1, r5_7, rfl, (zar (by omega) (by omega)), (by exact ⟨by omega, by omega, any_step hI5.1 (by omega) hI5.2.2 (by assumption)⟩)⟩
 refine zcf rfl <| zag <| zah (l := [0]) rfl <| p_v (v := .int .i64 (-1)) rfl rfl rfl (zaj rfl) <| zac <| zax Tryd.func154 (res1 rfl (za4 (v := .int .i64 (-1)) rfl)) ?_
 refine ⟨_, rfl, ?_⟩
 refine p_v (v := .bool (decide (0 ≤ (-1)))) rfl rfl rfl (x_geq rfl rfl) <| p_v (v := .bool (decide (0 ≤ (-1)))) rfl rfl rfl (zaj rfl) <| zac <| zax Tryd.func113 (res1 rfl (za4 (v := .bool (decide (0 ≤ (-1)))) rfl)) ?_
 refine ⟨_, rfl, ?_⟩
 refine p_v (v := .bool (decide (0 ≤ (-1)))) rfl rfl rfl (zck (bF hc4) rfl) <| p_v (v := .bool (decide (0 ≤ (-1)))) rfl rfl rfl (zaj rfl) <| zac <| zax Tryd.func112 (res1 rfl (za4 (v := .bool (decide (0 ≤ (-1)))) rfl)) ?_
 have q0 : (zd0 d n l : Bool) = decide (0 ≤ (-1)) := by
  exact badRow_3 (by assumption) (by omega) hI5.2.2
 refine ⟨_, rfl, h5, ?_, ?_⟩
 · exact S5.sub [] (by decide) rfl _ rfl
 · (simp only [q0])
theorem zea (w : World) (d : Dfa) (o0_0 : okPart d.part) (A0_1 : Option Addr) (c0_1 : Nat) (b0_1 : d.next.length ≤ c0_1 ∧ c0_1 ≤ maxLen) (l0_1 : zbz (Kd.int .i64).slice (hp w) A0_1 d.next) (A0_2 : Option Addr) (c0_2 : Nat) (b0_2 : d.final.length ≤ c0_2 ∧ c0_2 ≤ maxLen) (l0_2 : zbz Kd.bool (hp w) A0_2 d.final) :
    Calls Tryd.prog 48 #[.agg ((zad d.part) ++ ([.slice A0_1 d.next.length c0_1, .slice A0_2 d.final.length c0_2] : List Value)).toArray] w fun e w' => ∃ v, e = .returned v ∧ ∃ (hn : Ghost), St w.heap.size w hn w' [] ∧ v = .bool (zb7 d) := by
 refine zas Tryd.func48 rfl Tryd.ntmps48 rfl ?_
 have S0 := St.init w
 have ploo0_0 := zbf o0_0.2; have phio0_0 := zbg o0_0.2
 have bb0_1 := b0_1.1; have bc0_1 := b0_1.2; simp only [maxLen] at bc0_1
 have bb0_2 := b0_2.1; have bc0_2 := b0_2.2; simp only [maxLen] at bc0_2
 refine zag <| zah (l := [0, 1]) rfl ?_
 obtain ⟨b1, w1, r1, g1, T1⟩ := zb0 (P := Tryd.prog) S0 35 (v := .agg ((zad d.part) ++ ([.slice A0_1 d.next.length c0_1, .slice A0_2 d.final.length c0_2] : List Value)).toArray) ((zad d.part) ++ ([.slice A0_1 d.next.length c0_1, .slice A0_2 d.final.length c0_2] : List Value)) rfl
 have S2 := T1
 dsimp only [lAa, lAn, lA0, lAs] at S2
 refine p_v (v := .pointer (some ⟨b1, 0, none⟩)) rfl rfl rfl (zdi rfl r1) <| p_v (v := .bool false) rfl rfl rfl (zaj rfl) <| zac <| zag <| zah (l := [0, 1, 2, 3, 4]) rfl <| p_v (v := .pointer (some ⟨b1, 257, none⟩)) rfl rfl rfl (zaq zef ty24 rfl rfl) <| p_v (v := .slice A0_1 d.next.length c0_1) rfl rfl rfl (zam (seg := [.slice A0_1 d.next.length c0_1]) ty24 rfl (by simp) rfl (CF.box (m := 1) (S2.box_at (j := 0) rfl) (zbc (a := (zad d.part)) (pre := []) (seg := [.slice A0_1 d.next.length c0_1]) (post := [.slice A0_2 d.final.length c0_2]) (zaf o0_0) rfl rfl))) <| p_v (v := .int .i64 (d.next.length : Int)) rfl rfl rfl (zbe u24 rfl) ?_
 obtain ⟨b3, w3, r3, g3, T3⟩ := zb0 (P := Tryd.prog) S2 3 (v := (.int .i64 0)) [.int .i64 0] rfl
 have S4 := T3
 dsimp only [lAa, lAn, lA0, lAs] at S4
 refine p_v (v := .pointer (some ⟨b3, 0, none⟩)) rfl rfl rfl (zbr ty3 r3) ?_
 obtain ⟨w5, r5, g5, T5⟩ := zcj (P := Tryd.prog) (off := 0) (v := .int .i64 (d.next.length : Int)) (vs := [.int .i64 (d.next.length : Int)]) S4 ty3 rfl rfl (j := 1) rfl (by first | decide | exact Nat.le_of_ble_eq_true rfl) (by simp [Value.oneCell'])
 have S6 := T5.fx 1 (box b3 3 [.int .i64 (d.next.length : Int)]) rfl
 dsimp only [lAa, lAn, lA0, lAs] at S6
 refine p_s rfl rfl (za2 rfl rfl r5) <| zac <| zag <| zag <| zah (l := [0, 1, 2, 3, 4, 5, 6, 7, 8, 9, 10, 11, 12, 13, 14]) rfl <| p_v (v := .int .i64 (d.next.length : Int)) rfl rfl rfl (zam (seg := [.int .i64 (d.next.length : Int)]) ty3 rfl (by simp) rfl (CF.box (m := 1) (S6.box_at (j := 1) rfl) rfl)) <| p_v (v := .bool (decide ((d.next.length : Int) = 0))) rfl rfl rfl (x_eql rfl rfl) <| p_v (v := .bool (decide ((d.next.length : Int) = 0))) rfl rfl rfl (zai rfl) ?_
 by_cases hc7 : (d.next.length : Int) = 0
 ·skip
  refine zby rfl (wo 2 9 rfl rfl (bT hc7) rfl) rfl <| zby rfl (wo 2 9 rfl rfl (bT hc7) rfl) rfl <| zby rfl (wo 2 9 rfl rfl (bT hc7) rfl) rfl <| zby rfl (wo 2 9 rfl rfl (bT hc7) rfl) rfl <| zby rfl (wo 2 9 rfl rfl (bT hc7) rfl) rfl <| p_v (v := .bool true) rfl rfl rfl (zbs (bT hc7) rfl) <| p_v (v := .bool true) rfl rfl rfl (zai rfl) <| zby rfl rfl rfl <| zby rfl rfl rfl <| zby rfl rfl rfl <| zby rfl rfl rfl <| p_v (v := .bool true) rfl rfl rfl (zbs rfl rfl) ?_
  refine zac <| zcy (b := true) rfl ?_
  simp only [if_true, if_false, Bool.false_eq_true]
  refine zag <| zah (l := [0]) rfl <| p_v (v := .bool false) rfl rfl rfl (zaj rfl) <| zac <| zax Tryd.func48 (res1 rfl (za4 (v := .bool false) rfl)) ?_
  have q0 : (zb7 d : Bool) = false := by
   exact rightD_1 (by assumption)
  refine ⟨_, rfl, (fun _ => none), ?_, ?_⟩
  · exact S6.sub [] (by decide) rfl _ rfl
  · first | rfl | (simp only [q0]; rfl) | (simp only [q0])
 refine p_v (v := .pointer (some ⟨b1, 258, none⟩)) rfl (wo 2 9 rfl rfl (bF hc7) rfl) rfl (zaq fd35_2 ty25 rfl rfl) <| p_v (v := .slice A0_2 d.final.length c0_2) rfl (wo 2 9 rfl rfl (bF hc7) rfl) rfl (zam (seg := [.slice A0_2 d.final.length c0_2]) ty25 rfl (by simp) rfl (CF.box (m := 1) (S6.box_at (j := 0) rfl) (zbc (a := (zad d.part)) (pre := [.slice A0_1 d.next.length c0_1]) (seg := [.slice A0_2 d.final.length c0_2]) (post := []) (zaf o0_0) rfl rfl))) <| p_v (v := .int .i64 (d.final.length : Int)) rfl (wo 2 9 rfl rfl (bF hc7) rfl) rfl (zbe u25 rfl) <| p_v (v := .int .i64 (d.next.length : Int)) rfl (wo 2 9 rfl rfl (bF hc7) rfl) rfl (zam (seg := [.int .i64 (d.next.length : Int)]) ty3 rfl (by simp) rfl (CF.box (m := 1) (S6.box_at (j := 1) rfl) rfl)) <| p_v (v := .bool (decide ((d.final.length : Int) ≠ (d.next.length : Int)))) rfl (wo 2 9 rfl rfl (bF hc7) rfl) rfl (x_neq rfl rfl) <| p_v (v := .bool (decide ((d.final.length : Int) ≠ (d.next.length : Int)))) rfl rfl rfl (zck (bF hc7) rfl) <| p_v (v := .bool (decide ((d.final.length : Int) ≠ (d.next.length : Int)))) rfl rfl rfl (zai rfl) ?_
 by_cases hc8 : (d.final.length : Int) ≠ (d.next.length : Int)
 ·skip
  refine zby rfl (wo 9 16 rfl rfl (bT hc8) rfl) rfl <| zby rfl (wo 9 16 rfl rfl (bT hc8) rfl) rfl <| zby rfl (wo 9 16 rfl rfl (bT hc8) rfl) rfl <| zby rfl (wo 9 16 rfl rfl (bT hc8) rfl) rfl <| p_v (v := .bool true) rfl rfl rfl (zbs (bT hc8) rfl) <| zac <| zcy (b := true) rfl ?_
  simp only [if_true, if_false, Bool.false_eq_true]
  refine zag <| zah (l := [0]) rfl <| p_v (v := .bool false) rfl rfl rfl (zaj rfl) <| zac <| zax Tryd.func48 (res1 rfl (za4 (v := .bool false) rfl)) ?_
  have q0 : (zb7 d : Bool) = false := by
   exact rightD_2 (by assumption)
  refine ⟨_, rfl, (fun _ => none), ?_, ?_⟩
  · exact S6.sub [] (by decide) rfl _ rfl
  · first | rfl | (simp only [q0]; rfl) | (simp only [q0])
 refine p_v (v := .pointer (some ⟨b1, 0, none⟩)) rfl (wo 9 16 rfl rfl (bF hc8) rfl) rfl (zaq fd35_0 ty32 rfl rfl) <| p_v (v := .agg (zad d.part).toArray) rfl (wo 9 16 rfl rfl (bF hc8) rfl) rfl (zam (seg := ((zad d.part))) ty32 (zaf o0_0) (by simp) rfl (CF.box (m := 257) (S6.box_at (j := 0) rfl) (seg_mid (pre := []) (seg := ((zad d.part))) (post := [.slice A0_1 d.next.length c0_1, .slice A0_2 d.final.length c0_2]) rfl (zaf o0_0)))) <| p_c rfl (wo 9 16 rfl rfl (bF hc8) rfl) rfl (zba (args := [.agg (zad d.part).toArray]) ca26 rfl rfl) (right_calls w5 d.part o0_0) ?_
 rintro _ w9 ⟨h9, T9, rfl⟩
 have S10 := S6.keep (Chg.of_below T9.below)
 refine p_v (v := .bool (!(zdu d.part))) rfl (wo 9 16 rfl rfl (bF hc8) rfl) rfl (x_not rfl) <| p_v (v := .bool (!(zdu d.part))) rfl rfl rfl (zck (bF hc8) rfl) <| zac ?_
 refine zct (b := zdu d.part) rfl (fun hc11 => ?_) (fun hc11 => ?_)
 ·skip
  refine zag <| zah (l := [0]) rfl <| p_v (v := .bool false) rfl rfl rfl (zaj rfl) <| zac <| zax Tryd.func48 (res1 rfl (za4 (v := .bool false) rfl)) ?_
  have q0 : (zb7 d : Bool) = false := by
   exact rightD_3 (by assumption)
  refine ⟨_, rfl, (fun _ => none), ?_, ?_⟩
  · exact S10.sub [] (by decide) rfl _ rfl
  · first | rfl | (simp only [q0]; rfl) | (simp only [q0])
 refine za6 <| zag <| zah (l := [0, 1, 2, 3, 4, 5]) rfl <| p_v (v := .pointer (some ⟨b1, 257, none⟩)) rfl rfl rfl (zaq zef ty24 rfl rfl) <| p_v (v := .slice A0_1 d.next.length c0_1) rfl rfl rfl (zam (seg := [.slice A0_1 d.next.length c0_1]) ty24 rfl (by simp) rfl (CF.box (m := 1) (S10.box_at (j := 0) rfl) (zbc (a := (zad d.part)) (pre := []) (seg := [.slice A0_1 d.next.length c0_1]) (post := [.slice A0_2 d.final.length c0_2]) (zaf o0_0) rfl rfl))) <| p_v (v := .func (.func 112) #[] #[.pointer (some ⟨b1, 0, none⟩), .pointer (some ⟨b3, 0, none⟩)]) rfl rfl rfl (zed (fv := []) (cv := [.pointer (some ⟨b1, 0, none⟩), .pointer (some ⟨b3, 0, none⟩)]) rfl rfl) ?_
 refine p_i rfl rfl rfl (zba (args := [.slice A0_1 d.next.length c0_1, .func (.func 112) #[] #[.pointer (some ⟨b1, 0, none⟩), .pointer (some ⟨b3, 0, none⟩)]]) ca111 rfl rfl) (zas Tryd.func111 rfl Tryd.ntmps111 rfl ?_)
 refine zag <| zah (l := [0]) rfl <| p_v (v := .bool false) rfl rfl rfl (zaj rfl) <| zac <| zag <| zah (l := [0, 1, 2, 3, 4]) rfl <| p_v (v := .slice A0_1 d.next.length c0_1) rfl rfl rfl (zai rfl) <| p_v (v := .func (.func 112) #[] #[.pointer (some ⟨b1, 0, none⟩), .pointer (some ⟨b3, 0, none⟩)]) rfl rfl rfl (zai rfl) ?_
 refine p_i rfl rfl rfl (zba (args := [.slice A0_1 d.next.length c0_1, .func (.func 112) #[] #[.pointer (some ⟨b1, 0, none⟩), .pointer (some ⟨b3, 0, none⟩)]]) ca153 rfl rfl) (zas Tryd.func153 rfl Tryd.ntmps153 rfl ?_)
 refine zag <| zah (l := [0]) rfl <| p_v (v := .int .i64 0) rfl rfl rfl (zaj rfl) <| zac <| zag <| zag <| zah (l := [0, 1, 2]) rfl <| p_v (v := .slice A0_1 d.next.length c0_1) rfl rfl rfl (zai rfl) <| p_v (v := .int .i64 (d.next.length : Int)) rfl rfl rfl (zbe u24 rfl) <| p_v (v := .int .i64 0) rfl rfl rfl (zai rfl) <| zac <| zay ?_
 refine zce (S := Int) (fun (q_ : Int) ρ w' => match q_ with | t8 => ∃ (h : Ghost), Le (fun _ => none) h ∧ St w.heap.size w h w' [box b1 35 ((zad d.part) ++ ([.slice A0_1 d.next.length c0_1, .slice A0_2 d.final.length c0_2] : List Value)), box b3 3 [.int .i64 (d.next.length : Int)]] ∧ ρ 0 = .slice A0_1 d.next.length c0_1 ∧ ρ 1 = .func (.func 112) #[] #[.pointer (some ⟨b1, 0, none⟩), .pointer (some ⟨b3, 0, none⟩)] ∧ ρ 7 = .int .i64 (d.next.length : Int) ∧ ρ 8 = .int .i64 t8 ∧ inK .i64 t8 ∧ (0 ≤ t8 ∧ t8 ≤ (d.next.length : Int) ∧ (d.next.take t8.toNat).any (zd0 d d.next.length) = false)) (fun q_ => match q_ with | t8 => (d.next.length - t8).toNat) (0) ⟨(fun _ => none), Le.refl _, S10.sub [0, 1] (by decide) rfl _ rfl, rfl, rfl, rfl, rfl, (zar (by omega) (by omega)), (by exact ⟨by omega, by omega, rfl⟩)⟩ ?_
 rintro t8 ih12 ρ12 w12 ⟨h12, le12, S12, r12_0, r12_1, r12_7, r12_8, f12_0, hI12⟩
 have lf12_0 := zbf f12_0; have hf12_0 := zbg f12_0
 have hq_ := hI12.1
 refine zag <| zah (l := [0]) rfl <| p_v (v := .bool (decide (t8 < (d.next.length : Int)))) rfl rfl rfl (zd6 r12_8 r12_7) <| zac <| zag ?_
 refine zau (p := t8 < (d.next.length : Int)) rfl (fun hc13 => ?_) (fun hc13 => ?_)
 ·skip
  refine za6 <| zag <| zay <| zag <| zah (l := [0, 1]) rfl <| p_v (v := .int .i64 t8) rfl rfl rfl (zai r12_8) <| p_v (v := .int .i64 t8) rfl rfl rfl (zaj rfl) <| zac <| zag <| zah (l := [0, 1, 2, 3, 4, 5]) rfl <| p_v (v := .func (.func 112) #[] #[.pointer (some ⟨b1, 0, none⟩), .pointer (some ⟨b3, 0, none⟩)]) rfl rfl rfl (zai r12_1) <| p_v (v := .slice A0_1 d.next.length c0_1) rfl rfl rfl (zai r12_0) ?_
  refine p_v (v := .int .i64 t8) rfl rfl rfl (zai rfl) ?_
  obtain ⟨ad14, seg14, a14, rp14, ce14⟩ := zbj (q := t8) (m := 1) l0_1 rfl (by omega) (by omega)
  refine p_v (v := .pointer (some ad14)) rfl rfl rfl (zbi u24 ty23 rfl rfl a14 (by omega) (by omega)) ?_
  obtain ⟨A14, c14, rfl, lc14, cm14, ld14⟩ := rp14
  have cn14 := cm14; simp only [maxLen] at cn14
  refine p_v (v := .slice A14 (at_ d.next t8).length c14) rfl rfl rfl (zam (seg := [.slice A14 (at_ d.next t8).length c14]) ty23 rfl (by simp) rfl (CF.ghost ce14 (St.le0 S12))) <| p_c rfl rfl rfl (zba (args := [.slice A14 (at_ d.next t8).length c14, .pointer (some ⟨b1, 0, none⟩), .pointer (some ⟨b3, 0, none⟩)]) ca112 rfl rfl) (right1_calls w12 (at_ d.next t8) A14 c14 (And.intro lc14 cm14) (ld14.mono (St.le0 S12)) d o0_0 A0_1 c0_1 b0_1 (l0_1.mono (St.le0 S12)) A0_2 c0_2 b0_2 (l0_2.mono (St.le0 S12)) ⟨b1, 0, none⟩ (zco (S12.box_at (j := 0) rfl)) (d.next.length : Int) (zar (by omega) (by omega)) ⟨b3, 0, none⟩ (zco (S12.box_at (j := 1) rfl))) ?_
  rintro _ w15 ⟨h15, T15, rfl⟩
  have S16 := S12.keep (Chg.of_below T15.below)
  refine zac ?_
  refine zci (b := zd0 d (d.next.length : Int) (at_ d.next t8)) rfl (fun hc17 => ?_) (fun hc17 => ?_)
  ·skip
   refine zag <| zah (l := [0, 1]) rfl <| p_v (v := .int .i64 t8) rfl rfl rfl (zai rfl) <| p_v (v := .int .i64 t8) rfl rfl rfl (zaj rfl) <| zac <| zax Tryd.func153 (res1 rfl (za4 (v := .int .i64 t8) rfl)) ?_
   refine ⟨_, rfl, ?_⟩
   refine p_v (v := .bool (decide (0 ≤ t8))) rfl rfl rfl (x_geq rfl rfl) <| p_v (v := .bool (decide (0 ≤ t8))) rfl rfl rfl (zaj rfl) <| zac <| zax Tryd.func111 (res1 rfl (za4 (v := .bool (decide (0 ≤ t8))) rfl)) ?_
   refine ⟨_, rfl, ?_⟩
   refine p_v (v := .bool (!(decide (0 ≤ t8)))) rfl rfl rfl (x_not rfl) <| p_v (v := .bool (!(decide (0 ≤ t8)))) rfl rfl rfl (zaj rfl) <| zac ?_
   have hc18 : (0 ≤ t8) := by
    omega
   refine zax Tryd.func48 (res1 rfl (za4 (v := .bool false) (congrArg (fun z => Value.bool (!z)) (decide_eq_true hc18)))) ?_
   have q0 : (zb7 d : Bool) = false := by
    exact rightD_4 hI12.1 (by omega) (by assumption)
   refine ⟨_, rfl, h12, ?_, ?_⟩
   · exact S16.sub [] (by decide) rfl _ rfl
   · first | rfl | (simp only [q0]; rfl) | (simp only [q0])
  refine za6 <| za3 <| zah (l := [0, 1]) rfl <| p_v (v := .int .i64 (t8 + 1)) rfl rfl rfl (zdj r12_8 rfl (zar (by omega) (by omega))) <| p_v (v := .int .i64 (t8 + 1)) rfl rfl rfl (zai rfl) <| zac ?_
  refine ih12 (t8 + 1) _ _ (by dsimp only; omega) ⟨h12, le12, S16.sub [0, 1] (by decide) rfl _ rfl, r12_0, r12_1, r12_7, rfl, (zar (by omega) (by omega)), (by exact ⟨by omega, by omega, any_step hI12.1 (by omega) hI12.2.2 (by assumption)⟩)⟩
 refine zcf rfl <| zag <| zah (l := [0]) rfl <| p_v (v := .int .i64 (-1)) rfl rfl rfl (zaj rfl) <| zac <| zax Tryd.func153 (res1 rfl (za4 (v := .int .i64 (-1)) rfl)) ?_
 refine ⟨_, rfl, ?_⟩
 refine p_v (v := .bool (decide (0 ≤ (-1)))) rfl rfl rfl (x_geq rfl rfl) <| p_v (v := .bool (decide (0 ≤ (-1)))) rfl rfl rfl (zaj rfl) <| zac <| zax Tryd.func111 (res1 rfl (za4 (v := .bool (decide (0 ≤ (-1)))) rfl)) ?_
 refine ⟨_, rfl, ?_⟩
 refine p_v (v := .bool (!(decide (0 ≤ (-1))))) rfl rfl rfl (x_not rfl) <| p_v (v := .bool (!(decide (0 ≤ (-1))))) rfl rfl rfl (zaj rfl) <| zac <| zax Tryd.func48 (res1 rfl (za4 (v := .bool (!(decide (0 ≤ (-1))))) rfl)) ?_
 have q0 : (zb7 d : Bool) = !(decide (0 ≤ (-1))) := by
  exact rightD_5 (by assumption) (by assumption) (by assumption) (by omega) hI12.2.2
 refine ⟨_, rfl, h12, ?_, ?_⟩
 · exact S12.sub [] (by decide) rfl _ rfl
 · (simp only [q0])
theorem zd8 (w : World) (d : Dfa) (o0_0 : okPart d.part) (A0_1 : Option Addr) (c0_1 : Nat) (b0_1 : d.next.length ≤ c0_1 ∧ c0_1 ≤ maxLen) (l0_1 : zbz (Kd.int .i64).slice (hp w) A0_1 d.next) (A0_2 : Option Addr) (c0_2 : Nat) (b0_2 : d.final.length ≤ c0_2 ∧ c0_2 ≤ maxLen) (l0_2 : zbz Kd.bool (hp w) A0_2 d.final) (xw : ByteArray) (s1 : xw.size ≤ maxLen) :
    Calls Tryd.prog 24 #[.agg ((zad d.part) ++ ([.slice A0_1 d.next.length c0_1, .slice A0_2 d.final.length c0_2] : List Value)).toArray, .string xw] w fun e w' => ∃ v, e = .returned v ∧ ∃ (hn : Ghost), St w.heap.size w hn w' [] ∧ v = .bool (runD d xw) := by
 refine zas Tryd.func24 rfl Tryd.ntmps24 rfl ?_
 have S0 := St.init w
 have ploo0_0 := zbf o0_0.2; have phio0_0 := zbg o0_0.2
 have bb0_1 := b0_1.1; have bc0_1 := b0_1.2; simp only [maxLen] at bc0_1
 have bb0_2 := b0_2.1; have bc0_2 := b0_2.2; simp only [maxLen] at bc0_2
 have sz1 := s1; simp only [maxLen] at sz1
 refine zag <| zah (l := [0, 1]) rfl ?_
 obtain ⟨b1, w1, r1, g1, T1⟩ := zb0 (P := Tryd.prog) S0 35 (v := .agg ((zad d.part) ++ ([.slice A0_1 d.next.length c0_1, .slice A0_2 d.final.length c0_2] : List Value)).toArray) ((zad d.part) ++ ([.slice A0_1 d.next.length c0_1, .slice A0_2 d.final.length c0_2] : List Value)) rfl
 have S2 := T1
 dsimp only [lAa, lAn, lA0, lAs] at S2
 refine p_v (v := .pointer (some ⟨b1, 0, none⟩)) rfl rfl rfl (zdi rfl r1) <| p_v (v := .bool false) rfl rfl rfl (zaj rfl) <| zac <| zag <| zag <| zah (l := [0, 1, 2]) rfl <| p_v (v := .agg ((zad d.part) ++ ([.slice A0_1 d.next.length c0_1, .slice A0_2 d.final.length c0_2] : List Value)).toArray) rfl rfl rfl (zam (seg := ((zad d.part) ++ ([.slice A0_1 d.next.length c0_1, .slice A0_2 d.final.length c0_2] : List Value))) ty35 (zal (zaf o0_0) rfl) (by simp) rfl (CF.box (m := 259) (S2.box_at (j := 0) rfl) (zaw (zal (zaf o0_0) rfl)))) <| p_c rfl rfl rfl (zba (args := [.agg ((zad d.part) ++ ([.slice A0_1 d.next.length c0_1, .slice A0_2 d.final.length c0_2] : List Value)).toArray]) ca48 rfl rfl) (zea w1 d o0_0 A0_1 c0_1 b0_1 (l0_1.mono (St.le0 S2)) A0_2 c0_2 b0_2 (l0_2.mono (St.le0 S2))) ?_
 rintro _ w3 ⟨h3, T3, rfl⟩
 have S4 := S2.keep (Chg.of_below T3.below)
 refine p_v (v := .bool (!(zb7 d))) rfl rfl rfl (x_not rfl) <| zac ?_
 refine zct (b := zb7 d) rfl (fun hc5 => ?_) (fun hc5 => ?_)
 ·skip
  refine zag <| zah (l := [0]) rfl <| p_v (v := .bool false) rfl rfl rfl (zaj rfl) <| zac <| zax Tryd.func24 (res1 rfl (za4 (v := .bool false) rfl)) ?_
  have q0 : (runD d xw : Bool) = false := by
   exact runD_no (by assumption)
  refine ⟨_, rfl, (fun _ => none), ?_, ?_⟩
  · exact S4.sub [] (by decide) rfl _ rfl
  · first | rfl | (simp only [q0]; rfl) | (simp only [q0])
 have hD_ := rightD_of o0_0 hc5; have hfl_ := hD_.final; have hsm_ := hD_.some_
 refine za6 <| zag <| zah (l := [0]) rfl <| p_v (v := .int .i64 0) rfl rfl rfl (zaj rfl) <| zac <| zag <| zag <| zah (l := [0, 1, 2]) rfl <| p_v (v := .string xw) rfl rfl rfl (zai rfl) <| p_v (v := .int .i64 (xw.size : Int)) rfl rfl rfl (x_len_string u9 rfl) <| p_v (v := .int .i64 0) rfl rfl rfl (zai rfl) <| zac ?_
 refine zay <| zce (S := Int × Int) (fun (q_ : Int × Int) ρ w' => match q_ with | (q, t12) => ∃ (h : Ghost), Le (fun _ => none) h ∧ St w.heap.size w h w' [box b1 35 ((zad d.part) ++ ([.slice A0_1 d.next.length c0_1, .slice A0_2 d.final.length c0_2] : List Value))] ∧ ρ 1 = .string xw ∧ ρ 2 = .pointer (some ⟨b1, 0, none⟩) ∧ ρ 5 = .int .i64 q ∧ ρ 11 = .int .i64 (xw.size : Int) ∧ ρ 12 = .int .i64 t12 ∧ inK .i64 q ∧ inK .i64 t12 ∧ (0 ≤ t12 ∧ t12 ≤ (xw.size : Int) ∧ q = goD d xw t12.toNat)) (fun q_ => match q_ with | (q, t12) => (xw.size - t12).toNat) (0, 0) ⟨(fun _ => none), Le.refl _, S4.sub [0] (by decide) rfl _ rfl, rfl, rfl, rfl, rfl, rfl, (zar (by omega) (by omega)), (zar (by omega) (by omega)), (by exact ⟨by omega, by omega, goD_0 d xw⟩)⟩ ?_
 rintro ⟨q, t12⟩ ih6 ρ6 w6 ⟨h6, le6, S6, r6_1, r6_2, r6_5, r6_11, r6_12, f6_0, f6_1, hI6⟩
 have lf6_0 := zbf f6_0; have hf6_0 := zbg f6_0
 have lf6_1 := zbf f6_1; have hf6_1 := zbg f6_1
 have hq_ := goD_in o0_0 hD_ xw t12.toNat; rw [← hI6.2.2] at hq_; have hc_ := of_in o0_0 hD_ xw t12; have hr_ := hD_.row q hq_.1 hq_.2; have hb_ := byt_range xw t12
 refine zag <| zah (l := [0]) rfl <| p_v (v := .bool (decide (t12 < (xw.size : Int)))) rfl rfl rfl (zd6 r6_12 r6_11) <| zac <| zag ?_
 refine zau (p := t12 < (xw.size : Int)) rfl (fun hc7 => ?_) (fun hc7 => ?_)
 ·skip
  refine za6 <| zag <| zay <| zag <| zah (l := [0, 1]) rfl <| p_v (v := .int .i64 t12) rfl rfl rfl (zai r6_12) <| p_v (v := .int .i64 t12) rfl rfl rfl (zaj rfl) <| zac ?_
  obtain ⟨ad8, seg8, a8, rp8, ce8⟩ := zbj (q := q) (m := 1) l0_1 rfl (by omega) (by omega)
  obtain ⟨A8, c8, rfl, lc8, cm8, ld8⟩ := rp8
  have cn8 := cm8; simp only [maxLen] at cn8
  have by9 := byt_range xw t12
  have in10 := zcv (o0_0).1 (i := (byt xw t12)) (by omega) (by omega)
  have lo10 := u8_lo in10; have hi10 := u8_hi in10
  obtain ⟨ad11, seg11, a11, rp11, ce11⟩ := zbj (q := at_ d.part.of (byt xw t12)) (m := 1) ld8 rfl (by omega) (by omega)
  obtain ⟨rfl, in11⟩ := rp11
  have lo11 := zbf in11; have hi11 := zbg in11
  have hf12 : (CFs ⟨b1, 257, none⟩ [.slice A0_1 d.next.length c0_1]).1 w6 := (CF.box (m := 1) (S6.box_at (j := 0) rfl) (zbc (a := (zad d.part)) (pre := []) (seg := [.slice A0_1 d.next.length c0_1]) (post := [.slice A0_2 d.final.length c0_2]) (zaf o0_0) rfl rfl))
  have hf13 : (CFs ad8 [.slice A8 (at_ d.next q).length c8]).1 w6 := (CF.ghost ce8 (St.le0 S6))
  have hf14 : (CFs ⟨b1, 0 + (byt xw t12).toNat * 1, none⟩ [.int .u8 (at_ d.part.of (byt xw t12))]).1 w6 := (CF.box (m := 1) (S6.box_at (j := 0) rfl) (cs := ((zad d.part) ++ ([.slice A0_1 d.next.length c0_1, .slice A0_2 d.final.length c0_2] : List Value))) (app_seg (encPart_at o0_0 (by omega) (by omega)) rfl))
  have hf15 : (CFs ad11 [.int .i64 (at_ (at_ d.next q) (at_ d.part.of (byt xw t12)))]).1 w6 := (CF.ghost ce11 (St.le0 S6))
  refine daS (hkC 1 hf12 (hkC 4 hf13 (hkC 11 hf14 (hkC 13 hf15 (hkN (w := w6)))))) 15 rfl mixed ?_
  intro wd16 gd16 hd16
  have S17 := S6.keep gd16
  have hf18 := spUp gd16 hf12
  have hf19 := spUp gd16 hf13
  have hf20 := spUp gd16 hf14
  have hf21 := spUp gd16 hf15
  refine qd0 (i := 0) (v := .pointer (some ⟨b1, 257, none⟩)) rfl (by decide +kernel) rfl rfl (zaq zef ty24 rfl r6_2) (zan rfl) <| qd1 0 (i := 1) (v := .slice A0_1 d.next.length c0_1) rfl rfl (by decide +kernel) rfl rfl (fun wq hq => (zam (seg := [.slice A0_1 d.next.length c0_1]) ty24 rfl (by simp) rfl hq)) (zbm hf18 (zan rfl)) <| qd0 (i := 2) (v := .int .i64 q) rfl (by decide +kernel) rfl rfl (zai r6_5) (zan rfl) <| qd0 (i := 3) (v := .pointer (some ad8)) rfl (by decide +kernel) rfl rfl (zbi u24 ty23 rfl rfl a8 (by omega) (by omega)) (zan rfl) <| qd1 1 (i := 4) (v := .slice A8 (at_ d.next q).length c8) rfl rfl (by decide +kernel) rfl rfl (fun wq hq => (zam (seg := [.slice A8 (at_ d.next q).length c8]) ty23 rfl (by simp) rfl hq)) (za8 rfl (zbm hf19 (zan rfl))) <| qd0 (i := 5) (v := .string xw) rfl (by decide +kernel) rfl rfl (zai r6_1) (zan rfl) <| qd0 (i := 6) (v := .int .i64 t12) rfl (by decide +kernel) rfl rfl (zai rfl) (zan rfl) <| qd0 (i := 7) (v := .int .u8 (byt xw t12)) rfl (by decide +kernel) rfl rfl (x_index_byt u9 rfl rfl (by omega) (by omega)) (zan rfl) <| qd0 (i := 8) (v := .pointer (some ⟨b1, 0, none⟩)) rfl (by decide +kernel) rfl rfl (zaq fd35_0 ty32 rfl r6_2) (zan rfl) <| qd0 (i := 9) (v := .pointer (some ⟨b1, 0, none⟩)) rfl (by decide +kernel) rfl rfl (zaq fd32_0 ty30 rfl rfl) (zan rfl) <| qd0 (i := 10) (v := .pointer (some ⟨b1, 0 + (byt xw t12).toNat * 1, none⟩)) rfl (by decide +kernel) rfl rfl (zbq u30 ty5 rfl rfl (by omega) (by omega)) (zan rfl) <| qd1 2 (i := 11) (v := .int .u8 (at_ d.part.of (byt xw t12))) rfl rfl (by decide +kernel) rfl rfl (fun wq hq => (zam (seg := [.int .u8 (at_ d.part.of (byt xw t12))]) ty5 rfl (by simp) rfl hq)) (za8 rfl (za8 rfl (zbm hf20 (zan rfl)))) ?_
  refine qd0 (i := 12) (v := .pointer (some ad11)) rfl (by decide +kernel) rfl rfl (zbi u23 ty3 rfl rfl a11 (by omega) (by omega)) (zan rfl) <| qd1 3 (i := 13) (v := .int .i64 (at_ (at_ d.next q) (at_ d.part.of (byt xw t12)))) rfl rfl (by decide +kernel) rfl rfl (fun wq hq => (zam (seg := [.int .i64 (at_ (at_ d.next q) (at_ d.part.of (byt xw t12)))]) ty3 rfl (by simp) rfl hq)) (za8 rfl (za8 rfl (za8 rfl (zbm hf21 (zan rfl))))) <| qd0 (i := 14) (v := .int .i64 (at_ (at_ d.next q) (at_ d.part.of (byt xw t12)))) rfl (by decide +kernel) rfl rfl (zaj rfl) (zan rfl) <| zcb (by decide +kernel) ?_
  intro wd22 gd22
  have S23 := S17.keep gd22
  refine za3 <| zah (l := [0, 1]) rfl <| p_v (v := .int .i64 (t12 + 1)) rfl rfl rfl (zdj r6_12 rfl (zar (by omega) (by omega))) <| p_v (v := .int .i64 (t12 + 1)) rfl rfl rfl (zai rfl) <| zac ?_
  refine ih6 (at_ (at_ d.next q) (at_ d.part.of (byt xw t12)), t12 + 1) _ _ (by dsimp only; omega) ⟨h6, le6, S23.sub [0] (by decide) rfl _ rfl, r6_1, r6_2, rfl, r6_11, rfl, (zar (by omega) (by omega)), (zar (by omega) (by omega)), (by exact ⟨by omega, by omega, by rw [hI6.2.2]; exact goD_step d xw hI6.1⟩)⟩
 refine zcf rfl <| zag <| zah (l := [0, 1, 2, 3, 4, 5]) rfl <| p_v (v := .pointer (some ⟨b1, 258, none⟩)) rfl rfl rfl (zaq fd35_2 ty25 rfl r6_2) <| p_v (v := .slice A0_2 d.final.length c0_2) rfl rfl rfl (zam (seg := [.slice A0_2 d.final.length c0_2]) ty25 rfl (by simp) rfl (CF.box (m := 1) (S6.box_at (j := 0) rfl) (zbc (a := (zad d.part)) (pre := [.slice A0_1 d.next.length c0_1]) (seg := [.slice A0_2 d.final.length c0_2]) (post := []) (zaf o0_0) rfl rfl))) <| p_v (v := .int .i64 q) rfl rfl rfl (zai r6_5) ?_
 obtain ⟨ad24, seg24, a24, rp24, ce24⟩ := zbj (q := q) (m := 1) l0_2 rfl (by omega) (by omega)
 refine p_v (v := .pointer (some ad24)) rfl rfl rfl (zbi u25 ty4 rfl rfl a24 (by omega) (by omega)) ?_
 obtain ⟨rfl, _⟩ := rp24
 refine p_v (v := .bool (at_ d.final q)) rfl rfl rfl (zam (seg := [.bool (at_ d.final q)]) ty4 rfl (by simp) rfl (CF.ghost ce24 (St.le0 S6))) <| p_v (v := .bool (at_ d.final q)) rfl rfl rfl (zaj rfl) <| zac <| zax Tryd.func24 (res1 rfl (za4 (v := .bool (at_ d.final q)) rfl)) ?_
 have q0 : (runD d xw : Bool) = at_ d.final q := by
  (rw [runD_yes (by assumption) (by omega : t12 = xw.size), ← hI6.2.2])
 refine ⟨_, rfl, h6, ?_, ?_⟩
 · exact S6.sub [] (by decide) rfl _ rfl
 · (simp only [q0])
end Go.Proofs.YtfoemogojbnfhaaDoor
