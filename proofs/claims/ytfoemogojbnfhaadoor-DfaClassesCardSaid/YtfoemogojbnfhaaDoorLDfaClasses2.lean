/- My own library for walks through the translated code, and the walks of the functions that the law DfaClasses comes to, part 3; no conditions but those that each contract tells. -/
import Derived.Lib.Bytealg
import Derived.Test.YtfoemogojbnfhaaDoorLDfaClasses1
namespace Go.Proofs.YtfoemogojbnfhaaDoor
open Go Go.RowKit Gx
set_option maxHeartbeats 1000000
set_option linter.unusedVariables false
set_option linter.unusedSimpArgs false
set_option maxRecDepth 8000
attribute [local irreducible] zbj count first someIn has zbd wbits Lib.ctz zdz zci rowOk tab markP intoP behindP runTo endsIn runM anyTo allTo lfp placeF trues addS zds zdk badQ zd0 zcd goD runD notD errD notTo nextP finalP howB zbt nextC outTo readTo rowIn zdh lastB zat zdx zai errB fitsP madeM allM bfs zdl putB beginB okB
theorem key115 : KeyK Tryd.prog 115 (fun x : BSet => Value.agg (zaf x).toArray) := keyk_set u115 u56 ty56
theorem dhas_calls (w : World) (s : BSet) (n : Int) (i1 : inK .i64 n) (pre0 : 0 ≤ n ∧ n < 256) :
    Calls Tryd.prog 83 #[.agg (zaf s).toArray, .int .i64 n] w fun e w' => ∃ v, e = .returned v ∧ ∃ (hn : Ghost), St w.heap.size w hn w' [] ∧ v = .bool (has s n) := by
 refine zak Tryd.func83 rfl Tryd.ntmps83 rfl ?_
 have S0 := St.init w
 have lo1 := zbb i1; have hi1 := zbc i1
 have h0_ := pre0.1; have h1_ := pre0.2
 refine zac <| zae (l := [0, 1]) rfl ?_
 obtain ⟨b1, w1, r1, g1, T1⟩ := zcb (P := Tryd.prog) S0 115 (v := .agg (zaf s).toArray) (zaf s) rfl
 have S2 := T1
 dsimp only [lAa, lAn, lA0, lAs] at S2
 refine p_v (v := .pointer (some ⟨b1, 0, none⟩)) rfl rfl rfl (zdo rfl r1) <| p_v (v := .bool false) rfl rfl rfl (zag rfl) <| zaa <| zac <| zae (l := [0, 1, 2, 3, 4, 5, 6, 7, 8, 9]) rfl <| p_v (v := .int .i64 n) rfl rfl rfl (zah rfl) <| p_v (v := .int .i64 (n / 64)) rfl rfl rfl (x_quo rfl rfl (by omega) (by omega) (zal (by omega) (by omega))) <| p_v (v := .pointer (some ⟨b1, 0 + (n / 64).toNat * 1, none⟩)) rfl rfl rfl (za3 u115 ty56 rfl rfl (by omega) (by omega)) ?_
 have S3 : St w.heap.size w (fun _ => none) w1 [box b1 115 (zav .u64 (zaz s))] := S2
 have in4 := zb2 (zcr s) (i := n / 64) (by omega) (by omega)
 have lo4 := zcf in4; have hi4 := zck in4
 refine p_v (v := .int .u64 (at_ (zaz s) (n / 64))) rfl rfl rfl (zaj (seg := [.int .u64 (at_ (zaz s) (n / 64))]) ty56 rfl (by simp) rfl (CF.box (m := 1) (S3.box_at (j := 0) rfl) (cs := (zav .u64 (zaz s))) (zde (zcr s) (by omega) (by omega)))) <| p_v (v := .int .i64 n) rfl rfl rfl (zah rfl) <| p_v (v := .int .i64 (n % 64)) rfl rfl rfl (x_rem rfl rfl (by omega) (by omega)) ?_
 have in5 : inK .u64 ((at_ (zaz s) (n / 64)) / 2 ^ (n % 64).toNat) := shr_in (zc0 (by omega) (by omega))
 have lo5 := zcf in5; have hi5 := zck in5
 refine p_v (v := .int .u64 ((at_ (zaz s) (n / 64)) / 2 ^ (n % 64).toNat)) rfl rfl rfl (x_shr rfl rfl (by omega) (show _ ≤ 64 by omega)) ?_
 have in6 : inK .u64 (iand ((at_ (zaz s) (n / 64)) / 2 ^ (n % 64).toNat) 1) := iand_in 1 in5
 have lo6 := zcf in6; have hi6 := zck in6
 have lm6 := iand_le' (a := (at_ (zaz s) (n / 64)) / 2 ^ (n % 64).toNat) (b := 1) (by decide)
 refine p_v (v := .int .u64 (iand ((at_ (zaz s) (n / 64)) / 2 ^ (n % 64).toNat) 1)) rfl rfl rfl (x_and_u64 rfl rfl in5 (zc0 (by omega) (by omega))) <| p_v (v := .bool (decide ((iand ((at_ (zaz s) (n / 64)) / 2 ^ (n % 64).toNat) 1) = 1))) rfl rfl rfl (x_eql rfl rfl) <| p_v (v := .bool (decide ((iand ((at_ (zaz s) (n / 64)) / 2 ^ (n % 64).toNat) 1) = 1))) rfl rfl rfl (zag rfl) <| zaa <| zar Tryd.func83 (res1 rfl (zaw (v := .bool (decide ((iand ((at_ (zaz s) (n / 64)) / 2 ^ (n % 64).toNat) 1) = 1))) rfl)) ?_
 have q0 : (has s n : Bool) = decide ((iand ((at_ (zaz s) (n / 64)) / 2 ^ (n % 64).toNat) 1) = 1) := by
  exact (has_shift s h0_ h1_).symm
 refine ⟨_, rfl, (fun _ => none), ?_, ?_⟩
 · exact S3.sub [] (by decide) rfl _ rfl
 · (simp only [q0])
theorem begun_calls (w : World) :
    Calls Tryd.prog 82 #[] w fun e w' => ∃ v, e = .returned v ∧ ∃ (hn : Ghost), St w.heap.size w hn w' [] ∧ v = .agg (zaf beginB).toArray := by
 refine zak Tryd.func82 rfl Tryd.ntmps82 rfl ?_
 have S0 := St.init w
 refine zac <| zae (l := [0]) rfl ?_
 obtain ⟨b1, w1, r1, g1, T1⟩ := zcb (P := Tryd.prog) S0 115 (v := (.agg #[.int .u64 0, .int .u64 0, .int .u64 0, .int .u64 0])) (zaf (0 : BSet)) rfl
 have S2 := T1
 dsimp only [lAa, lAn, lA0, lAs] at S2
 refine p_v (v := .pointer (some ⟨b1, 0, none⟩)) rfl rfl rfl (zch zd2 r1) <| zaa <| zac <| zae (l := [0, 1]) rfl <| p_v (v := .agg (zaf (zbl [0, 0, 0, 9223372036854775808])).toArray) rfl rfl rfl (zd9 (pv := [(3, .int .u64 9223372036854775808)]) rfl (run_build_array u115 ty56 zd2 (cs := (zaf (zbl [0, 0, 0, 9223372036854775808]))) (by rfl))) ?_
 obtain ⟨w3, r3, g3, T3⟩ := zb9 (P := Tryd.prog) (off := 0) (v := .agg (zaf (zbl [0, 0, 0, 9223372036854775808])).toArray) (vs := (zaf (zbl [0, 0, 0, 9223372036854775808]))) S2 zd2 rfl rfl (j := 0) rfl (by first | decide | exact Nat.le_of_ble_eq_true rfl) (zdn _)
 have S4 := T3.fx 0 (box b1 115 (zaf (zbl [0, 0, 0, 9223372036854775808]))) rfl
 dsimp only [lAa, lAn, lA0, lAs] at S4
 refine p_s rfl rfl (za7 rfl rfl r3) <| zaa <| zar Tryd.func82 (res1 rfl (zdg S4 zd2 rfl (j := 0) rfl rfl (by simp) rfl)) ?_
 have q0 : (beginB : BSet) = (zbl [0, 0, 0, 9223372036854775808]) := by
  exact begin_words.symm
 refine ⟨_, rfl, (fun _ => none), ?_, ?_⟩
 · exact S4.sub [] (by decide) rfl _ rfl
 · (simp only [q0]; rfl)
theorem next_calls (w : World) (s : BSet) (k : Int) (i1 : inK .i64 k) (m : Mach) (A2_0 : Option Addr) (c2_0 : Nat) (b2_0 : m.spots.length ≤ c2_0 ∧ c2_0 ≤ maxLen) (l2_0 : zbo kSpot (hp w) A2_0 m.spots) (A2_1 : Option Addr) (c2_1 : Nat) (b2_1 : m.first.length ≤ c2_1 ∧ c2_1 ≤ maxLen) (l2_1 : zbo (Kd.int .i64) (hp w) A2_1 m.first) (A2_2 : Option Addr) (c2_2 : Nat) (b2_2 : m.follow.length ≤ c2_2 ∧ c2_2 ≤ maxLen) (l2_2 : zbo (Kd.int .i64).slice (hp w) A2_2 m.follow) (A2_3 : Option Addr) (c2_3 : Nat) (b2_3 : m.last.length ≤ c2_3 ∧ c2_3 ≤ maxLen) (l2_3 : zbo Kd.bool (hp w) A2_3 m.last) (a2 : Addr) (pc2 : ∀ j v, [.slice A2_0 m.spots.length c2_0, .slice A2_1 m.first.length c2_1, .slice A2_2 m.follow.length c2_2, .slice A2_3 m.last.length c2_3, .bool m.empty][j]? = some v → gcell (hp w) (a2.add j) = some v) (b : List Int) (A3 : Option Addr) (c3 : Nat) (b3 : b.length ≤ c3 ∧ c3 ≤ maxLen) (l3 : zbo (Kd.int .u8) (hp w) A3 b) (a3 : Addr) (pc3 : ∀ j v, [.slice A3 b.length c3][j]? = some v → gcell (hp w) (a3.add j) = some v) (pre0 : Right m ∧ 0 ≤ k ∧ k < (b.length : Int)) :
    Calls Tryd.prog 78 #[.agg (zaf s).toArray, .int .i64 k, .pointer (some a2), .pointer (some a3)] w fun e w' => ∃ v, e = .returned v ∧ ∃ (hn : Ghost), St w.heap.size w hn w' [] ∧ v = .agg (zaf (zbt m b s k)).toArray := by
 refine zak Tryd.func78 rfl Tryd.ntmps78 rfl ?_
 have S0 := St.init w
 have lo1 := zbb i1; have hi1 := zbc i1
 have bb2_0 := b2_0.1; have bc2_0 := b2_0.2; simp only [maxLen] at bc2_0
 have bb2_1 := b2_1.1; have bc2_1 := b2_1.2; simp only [maxLen] at bc2_1
 have bb2_2 := b2_2.1; have bc2_2 := b2_2.2; simp only [maxLen] at bc2_2
 have bb2_3 := b2_3.1; have bc2_3 := b2_3.2; simp only [maxLen] at bc2_3
 have bb3 := b3.1; have bc3 := b3.2; simp only [maxLen] at bc3
 have hR_ := pre0.1; have hsm_ := hR_.small; have hfo_ := hR_.follow; have hla_ := hR_.last; have hss_ := hR_.small'; have hfi_ := hss_.first; have hk0_ := pre0.2.1; have hk1_ := pre0.2.2
 refine zac <| zae (l := [0, 1, 2]) rfl ?_
 obtain ⟨b1, w1, r1, g1, T1⟩ := zcb (P := Tryd.prog) S0 115 (v := .agg (zaf s).toArray) (zaf s) rfl
 have S2 := T1
 dsimp only [lAa, lAn, lA0, lAs] at S2
 refine p_v (v := .pointer (some ⟨b1, 0, none⟩)) rfl rfl rfl (zdo rfl r1) ?_
 obtain ⟨b3, w3, r3, g3, T3⟩ := zcb (P := Tryd.prog) S2 3 (v := .int .i64 k) [.int .i64 k] rfl
 have S4 := T3
 dsimp only [lAa, lAn, lA0, lAs] at S4
 refine p_v (v := .pointer (some ⟨b3, 0, none⟩)) rfl rfl rfl (zdo rfl r3) ?_
 obtain ⟨b5, w5, r5, g5, T5⟩ := zcb (P := Tryd.prog) S4 115 (v := (.agg #[.int .u64 0, .int .u64 0, .int .u64 0, .int .u64 0])) (zaf (0 : BSet)) rfl
 have S6 := T5
 dsimp only [lAa, lAn, lA0, lAs] at S6
 refine p_v (v := .pointer (some ⟨b5, 0, none⟩)) rfl rfl rfl (zch zd2 r5) <| zaa <| zac <| zae (l := [0]) rfl ?_
 obtain ⟨b7, w7, r7, g7, T7⟩ := zcb (P := Tryd.prog) S6 115 (v := (.agg #[.int .u64 0, .int .u64 0, .int .u64 0, .int .u64 0])) (zaf (0 : BSet)) rfl
 have S8 := T7
 dsimp only [lAa, lAn, lA0, lAs] at S8
 refine p_v (v := .pointer (some ⟨b7, 0, none⟩)) rfl rfl rfl (zch zd2 r7) <| zaa <| zac <| zae (l := [0, 1]) rfl <| p_v (v := .func (.func 79) #[] #[.pointer (some a2), .pointer (some a3), .pointer (some ⟨b3, 0, none⟩), .pointer (some ⟨b7, 0, none⟩)]) rfl rfl rfl (y_makeFunc (fv := []) (cv := [.pointer (some a2), .pointer (some a3), .pointer (some ⟨b3, 0, none⟩), .pointer (some ⟨b7, 0, none⟩)]) rfl rfl) <| p_v (v := .func (.func 79) #[] #[.pointer (some a2), .pointer (some a3), .pointer (some ⟨b3, 0, none⟩), .pointer (some ⟨b7, 0, none⟩)]) rfl rfl rfl (zag rfl) <| zaa <| zac <| zac ?_
 have hf10 : (CFs ⟨b1, 0, none⟩ (zaf s)).1 w7 := (CF.box (m := 4) (S8.box_at (j := 0) rfl) rfl)
 refine daS (hkC 0 hf10 (hkN (w := w7))) 3 rfl mixed ?_
 intro wd11 gd11 hd11
 have S12 := S8.keep gd11
 have hf13 := spUp gd11 hf10
 refine qd1 0 (i := 0) (v := .agg (zaf s).toArray) rfl rfl (by decide +kernel) rfl rfl (fun wq hq => (zaj (seg := (zaf s)) zd2 rfl (by simp) rfl hq)) (zbz hf13 (of_nil _ _)) <| d_m (i := 1) (v := .agg (zaf beginB).toArray) (fun _ => True) (fun _ ho => trivial) rfl (by decide +kernel) (by decide +kernel) (by decide +kernel) rfl rfl (fun wq => (za2 (args := []) ca82 rfl rfl)) (fun wq hq => (begun_calls wq ).mono fun e w2 he => by obtain ⟨_, rfl, _, T, rfl⟩ := he; exact ⟨rfl, Chg.of_below T.below⟩) (zam rfl) <| qd0 (i := 2) (v := .bool (decide (s = beginB))) rfl (by decide +kernel) rfl rfl (x_eql_set u115 u56 ty56 q115 rfl rfl) (zam rfl) <| zco (by decide +kernel) ?_
 intro wd14 gd14
 have S15 := S12.keep gd14
 refine zan (p := s = beginB) rfl (fun hc16 => ?_) (fun hc16 => ?_)
 ·skip
  refine zae (l := [0, 1, 2, 3]) rfl <| p_v (v := .func (.func 79) #[] #[.pointer (some a2), .pointer (some a3), .pointer (some ⟨b3, 0, none⟩), .pointer (some ⟨b7, 0, none⟩)]) rfl rfl rfl (zah rfl) <| p_v (v := .pointer (some (a2.add 1))) rfl rfl rfl (zc6 fd27_1 ty23 rfl rfl) <| p_v (v := .slice A2_1 m.first.length c2_1) rfl rfl rfl (zaj (seg := [.slice A2_1 m.first.length c2_1]) ty23 rfl (by simp) rfl (CF.ghost (zea (o := 1) (m := 1) (ds := [.slice A2_1 m.first.length c2_1]) pc2 rfl) (St.le0 S15))) ?_
  refine p_i rfl rfl rfl (za2 (args := [.slice A2_1 m.first.length c2_1, .pointer (some a2), .pointer (some a3), .pointer (some ⟨b3, 0, none⟩), .pointer (some ⟨b7, 0, none⟩)]) ca79 rfl rfl) (zak Tryd.func79 rfl Tryd.ntmps79 rfl ?_)
  refine zac <| zae (l := [0, 1, 2]) rfl <| p_v (v := .slice A2_1 m.first.length c2_1) rfl rfl rfl (zah rfl) <| p_v (v := .int .i64 (m.first.length : Int)) rfl rfl rfl (za0 u23 rfl) <| p_v (v := .int .i64 0) rfl rfl rfl (zah rfl) <| zaa <| zaq ?_
  have S18 : St w.heap.size w (fun _ => none) wd14 [box b1 115 (zaf s), box b3 3 [.int .i64 k], box b5 115 (zaf (0 : BSet)), box b7 115 (zav .u64 (zaz (0 : BSet)))] := S15
  refine zbu (S := (List Int) × Int) (fun (q_ : (List Int) × Int) ρ w' => match q_ with | (o0, q0) => ∃ (h : Ghost), Le (fun _ => none) h ∧ St w.heap.size w h w' [box b1 115 (zaf s), box b3 3 [.int .i64 k], box b5 115 (zaf (0 : BSet)), box b7 115 (zav .u64 o0)] ∧ ρ 1 = .pointer (some a2) ∧ ρ 2 = .pointer (some a3) ∧ ρ 3 = .pointer (some ⟨b3, 0, none⟩) ∧ ρ 4 = .pointer (some ⟨b7, 0, none⟩) ∧ ρ 8 = .slice A2_1 m.first.length c2_1 ∧ ρ 9 = .int .i64 (m.first.length : Int) ∧ ρ 10 = .int .i64 q0 ∧ zcy .u64 4 o0 ∧ inK .i64 q0 ∧ (0 ≤ q0 ∧ q0 ≤ (m.first.length : Int) ∧ o0 = zaz (readTo m (at_ b k) m.first q0 0))) (fun q_ => match q_ with | (o0, q0) => (m.first.length - q0).toNat) ((zaz (0 : BSet)), 0) ⟨(fun _ => none), Le.refl _, S18.sub [0, 1, 2, 3] (by decide) rfl _ rfl, rfl, rfl, rfl, rfl, rfl, rfl, rfl, (zcr (0 : BSet)), (zal (by omega) (by omega)), (by exact ⟨by omega, by omega, congrArg zaz (read_0 _ _ _ _)⟩)⟩ ?_
  rintro ⟨o0, q0⟩ ih19 ρ19 w19 ⟨h19, le19, S19, r19_1, r19_2, r19_3, r19_4, r19_8, r19_9, r19_10, f19_0, f19_1, hI19⟩
  have lf19_1 := zbb f19_1; have hf19_1 := zbc f19_1
  have hq0_ := hI19.1
  have hx_ : q0 < (m.first.length : Int) → 0 ≤ at_ m.first q0 ∧ at_ m.first q0 < (m.spots.length : Int) := fun h => hR_.firsts _ (zee hI19.1 h)
  refine zac <| zae (l := [0]) rfl <| p_v (v := .bool (decide (q0 < (m.first.length : Int)))) rfl rfl rfl (zdy r19_10 r19_9) <| zaa <| zac ?_
  refine zan (p := q0 < (m.first.length : Int)) rfl (fun hc20 => ?_) (fun hc20 => ?_)
  ·skip
   refine zau <| zac <| zaq <| zac <| zae (l := [0, 1, 2]) rfl ?_
   obtain ⟨ad21, seg21, a21, rp21, ce21⟩ := za9 (q := q0) (m := 1) l2_1 rfl (by omega) (by omega)
   refine p_v (v := .pointer (some ad21)) rfl rfl rfl (za8 u23 ty3 r19_8 r19_10 a21 (by omega) (by omega)) ?_
   obtain ⟨rfl, in21⟩ := rp21
   have lo21 := zbb in21; have hi21 := zbc in21
   refine p_v (v := .int .i64 (at_ m.first q0)) rfl rfl rfl (zaj (seg := [.int .i64 (at_ m.first q0)]) ty3 rfl (by simp) rfl (CF.ghost ce21 (St.le0 S19))) <| p_v (v := .int .i64 (at_ m.first q0)) rfl rfl rfl (zag rfl) <| zaa <| zac ?_
   obtain ⟨ad23, seg23, a23, rp23, ce23⟩ := za9 (q := at_ m.first q0) (m := 5) l2_0 rfl (by omega) (by omega)
   obtain ⟨rfl, ok23⟩ := rp23
   have slook23 := u8_lo ok23; have shiok23 := u8_hi ok23
   obtain ⟨ad25, seg25, a25, rp25, ce25⟩ := za9 (q := k) (m := 1) l3 rfl (by omega) (by omega)
   obtain ⟨rfl, in25⟩ := rp25
   have lo25 := u8_lo in25; have hi25 := u8_hi in25
   have hf27 : (CFs (a2.add 0) [.slice A2_0 m.spots.length c2_0]).1 w19 := (CF.ghost (zea (o := 0) (m := 1) (ds := [.slice A2_0 m.spots.length c2_0]) pc2 rfl) (St.le0 S19))
   have hf28 : (CFs (ad23.add 0) (zaf ((at_ m.spots (at_ m.first q0)).set))).1 w19 := (CF.ghost (zea (o := 0) (m := 4) (ds := (zaf ((at_ m.spots (at_ m.first q0)).set))) ce23 rfl) (St.le0 S19))
   have hf29 : (CFs a3 [.slice A3 b.length c3]).1 w19 := (CF.ghost pc3 (St.le0 S19))
   have hf30 : (CFs ⟨b3, 0, none⟩ [.int .i64 k]).1 w19 := (CF.box (m := 1) (S19.box_at (j := 1) rfl) rfl)
   have hf31 : (CFs ad25 [.int .u8 (at_ b k)]).1 w19 := (CF.ghost ce25 (St.le0 S19))
   refine daS (hkC 1 hf27 (hkC 5 hf28 (hkC 6 hf29 (hkC 7 hf30 (hkC 9 hf31 (hkN (w := w19))))))) 11 rfl mixed ?_
   intro wd32 gd32 hd32
   have S33 := S19.keep gd32
   have hf34 := spUp gd32 hf27
   have hf35 := spUp gd32 hf28
   have hf36 := spUp gd32 hf29
   have hf37 := spUp gd32 hf30
   have hf38 := spUp gd32 hf31
   refine qd0 (i := 0) (v := .pointer (some (a2.add 0))) rfl (by decide +kernel) rfl rfl (zc6 fd27_0 ty22 rfl r19_1) (zam rfl) <| qd1 0 (i := 1) (v := .slice A2_0 m.spots.length c2_0) rfl rfl (by decide +kernel) rfl rfl (fun wq hq => (zaj (seg := [.slice A2_0 m.spots.length c2_0]) ty22 rfl (by simp) rfl hq)) (zbz hf34 (zam rfl)) <| qd0 (i := 2) (v := .int .i64 (at_ m.first q0)) rfl (by decide +kernel) rfl rfl (zah rfl) (zam rfl) <| qd0 (i := 3) (v := .pointer (some ad23)) rfl (by decide +kernel) rfl rfl (za8 u22 ty101 rfl rfl a23 (by omega) (by omega)) (zam rfl) <| qd0 (i := 4) (v := .pointer (some (ad23.add 0))) rfl (by decide +kernel) rfl rfl (zc6 fd101_0 ty74 rfl rfl) (zam rfl) <| qd1 1 (i := 5) (v := .agg (zaf ((at_ m.spots (at_ m.first q0)).set)).toArray) rfl rfl (by decide +kernel) rfl rfl (fun wq hq => (zaj (seg := (zaf ((at_ m.spots (at_ m.first q0)).set))) ty74 rfl (by simp) rfl hq)) (zbw rfl (zbz hf35 (zam rfl))) <| qd1 2 (i := 6) (v := .slice A3 b.length c3) rfl rfl (by decide +kernel) rfl rfl (fun wq hq => (zaj (seg := [.slice A3 b.length c3]) ty39 rfl (by simp) r19_2 hq)) (zbw rfl (zbw rfl (zbz hf36 (zam rfl)))) <| qd1 3 (i := 7) (v := .int .i64 k) rfl rfl (by decide +kernel) rfl rfl (fun wq hq => (zaj (seg := [.int .i64 k]) ty3 rfl (by simp) r19_3 hq)) (zbw rfl (zbw rfl (zbw rfl (zbz hf37 (zam rfl))))) <| qd0 (i := 8) (v := .pointer (some ad25)) rfl (by decide +kernel) rfl rfl (za8 u39 ty5 rfl rfl a25 (by omega) (by omega)) (zam rfl) <| qd1 4 (i := 9) (v := .int .u8 (at_ b k)) rfl rfl (by decide +kernel) rfl rfl (fun wq hq => (zaj (seg := [.int .u8 (at_ b k)]) ty5 rfl (by simp) rfl hq)) (zbw rfl (zbw rfl (zbw rfl (zbw rfl (zbz hf38 (zam rfl)))))) <| d_m (i := 10) (v := .bool (has ((at_ m.spots (at_ m.first q0)).set) (at_ b k))) (fun _ => True) (fun _ ho => trivial) rfl (by decide +kernel) (by decide +kernel) (by decide +kernel) rfl rfl (fun wq => (za2 (args := [.agg (zaf ((at_ m.spots (at_ m.first q0)).set)).toArray, .int .u8 (at_ b k)]) ca80 rfl rfl)) (fun wq hq => (has_calls wq ((at_ m.spots (at_ m.first q0)).set) (at_ b k) (in_u8 (by omega) (by omega))).mono fun e w2 he => by obtain ⟨_, rfl, _, T, rfl⟩ := he; exact ⟨rfl, Chg.of_below T.below⟩) (zam rfl) <| zco (by decide +kernel) ?_
   intro wd39 gd39
   have S40 := S33.keep gd39
   refine zb0 (b := has ((at_ m.spots (at_ m.first q0)).set) (at_ b k)) rfl (fun hc41 => ?_) (fun hc41 => ?_)
   ·skip
    refine zae (l := [0, 1]) rfl <| p_v (v := .int .i64 (at_ m.first q0)) rfl rfl rfl (zah rfl) ?_
    refine p_i rfl rfl rfl (za2 (args := [.pointer (some ⟨b7, 0, none⟩), .int .i64 (at_ m.first q0)]) ca81 rfl (zdv r19_4 (zdv rfl rfl))) (zak Tryd.func81 rfl Tryd.ntmps81 rfl ?_)
    have in42 := zb2 f19_0 (i := (at_ m.first q0) / 64) (by omega) (by omega)
    have lo42 := zcf in42; have hi42 := zck in42
    have in43 := pow_in (b := (at_ m.first q0) % 64) (by omega) (by omega)
    have lo43 := zcf in43; have hi43 := zck in43
    have in44 : inK .u64 (ior (at_ o0 ((at_ m.first q0) / 64)) (2 ^ ((at_ m.first q0) % 64).toNat)) := ior_in (zc0 (by omega) (by omega)) (zc0 (by omega) (by omega))
    have lo44 := zcf in44; have hi44 := zck in44
    have hf45 : (CFs ⟨b7, 0 + ((at_ m.first q0) / 64).toNat * 1, none⟩ [.int .u64 (at_ o0 ((at_ m.first q0) / 64))]).1 wd39 := (CF.box (m := 1) (S40.box_at (j := 3) rfl) (cs := (zav .u64 o0)) (zde f19_0 (by omega) (by omega)))
    refine daS (hkC 5 hf45 (hkN (w := wd39))) 13 rfl mixed ?_
    intro wd46 gd46 hd46
    have S47 := S40.keep gd46
    have hf48 := spUp gd46 hf45
    refine qd0 (i := 0) (v := .pointer (some ⟨b7, 0, none⟩)) rfl (by decide +kernel) rfl rfl (zah rfl) (zam rfl) <| qd0 (i := 1) (v := .int .i64 (at_ m.first q0)) rfl (by decide +kernel) rfl rfl (zah rfl) (zam rfl) <| qd0 (i := 2) (v := .int .i64 ((at_ m.first q0) / 64)) rfl (by decide +kernel) rfl rfl (x_quo rfl rfl (by omega) (by omega) (zal (by omega) (by omega))) (zam rfl) <| qd0 (i := 3) (v := .pointer (some ⟨b7, 0, none⟩)) rfl (by decide +kernel) rfl rfl (zca rfl) (zam rfl) <| qd0 (i := 4) (v := .pointer (some ⟨b7, 0 + ((at_ m.first q0) / 64).toNat * 1, none⟩)) rfl (by decide +kernel) rfl rfl (za3 u115 ty56 rfl rfl (by omega) (by omega)) (zam rfl) <| qd1 0 (i := 5) (v := .int .u64 (at_ o0 ((at_ m.first q0) / 64))) rfl rfl (by decide +kernel) rfl rfl (fun wq hq => (zaj (seg := [.int .u64 (at_ o0 ((at_ m.first q0) / 64))]) ty56 rfl (by simp) rfl hq)) (zbz hf48 (of_nil _ _)) <| qd0 (i := 6) (v := .int .i64 (at_ m.first q0)) rfl (by decide +kernel) rfl rfl (zah rfl) (zam rfl) <| qd0 (i := 7) (v := .int .i64 ((at_ m.first q0) % 64)) rfl (by decide +kernel) rfl rfl (x_rem rfl rfl (by omega) (by omega)) (zam rfl) <| qd0 (i := 8) (v := .int .u64 (2 ^ ((at_ m.first q0) % 64).toNat)) rfl (by decide +kernel) rfl rfl (x_shl_one rfl rfl (by omega) (by omega)) (zam rfl) <| qd0 (i := 9) (v := .int .u64 (ior (at_ o0 ((at_ m.first q0) / 64)) (2 ^ ((at_ m.first q0) % 64).toNat))) rfl (by decide +kernel) rfl rfl (x_or_u64 rfl rfl (zc0 (by omega) (by omega)) (zc0 (by omega) (by omega))) (zam rfl) <| qd0 (i := 10) (v := .pointer (some ⟨b7, 0, none⟩)) rfl (by decide +kernel) rfl rfl (zca rfl) (zam rfl) <| qd0 (i := 11) (v := .pointer (some ⟨b7, 0 + ((at_ m.first q0) / 64).toNat * 1, none⟩)) rfl (by decide +kernel) rfl rfl (za3 u115 ty56 rfl rfl (by omega) (by omega)) (zam rfl) ?_
    refine zb6 (i := 12) (by decide +kernel) ?_
    intro wd49 gd49
    have S50 := S47.keep gd49
    have hf51 := spUp gd49 hf48
    obtain ⟨w52, r52, g52, T52⟩ := zb9 (P := Tryd.prog) (off := 0 + ((at_ m.first q0) / 64).toNat * 1) (v := .int .u64 (ior (at_ o0 ((at_ m.first q0) / 64)) (2 ^ ((at_ m.first q0) % 64).toNat))) (vs := [.int .u64 (ior (at_ o0 ((at_ m.first q0) / 64)) (2 ^ ((at_ m.first q0) % 64).toNat))]) S50 ty56 rfl rfl (j := 3) rfl (by rw [zdt f19_0]; first|omega|(simp;omega)|assumption|simp) (by simp [Value.oneCell'])
    rw [encInts_put] at T52
    have ok52 : zcy .u64 4 (o0.set ((at_ m.first q0) / 64).toNat (ior (at_ o0 ((at_ m.first q0) / 64)) (2 ^ ((at_ m.first q0) % 64).toNat))) := zed f19_0 _ in44
    have S53 := T52.fx 3 (box b7 115 (zav .u64 (o0.set ((at_ m.first q0) / 64).toNat (ior (at_ o0 ((at_ m.first q0) / 64)) (2 ^ ((at_ m.first q0) % 64).toNat))))) rfl
    dsimp only [lAa, lAn, lA0, lAs] at S53
    refine d_s rfl rfl (za7 rfl rfl r52) (.inr (zbh (by decide +kernel) trivial)) <| zco (by decide +kernel) ?_
    intro wd54 gd54
    have S55 := S53.keep gd54
    refine run_end Tryd.func81 (res0 rfl) ?_
    refine ⟨_, rfl, ?_⟩
    refine zaa <| zas <| zae (l := [0, 1]) rfl <| p_v (v := .int .i64 (q0 + 1)) rfl rfl rfl (zc7 r19_10 rfl (zal (by omega) (by omega))) <| p_v (v := .int .i64 (q0 + 1)) rfl rfl rfl (zah rfl) <| zaa ?_
    refine ih19 (o0.set ((at_ m.first q0) / 64).toNat (ior (at_ o0 ((at_ m.first q0) / 64)) (2 ^ ((at_ m.first q0) % 64).toNat)), q0 + 1) _ _ (by dsimp only; omega) ⟨h19, le19, S55.sub [0, 1, 2, 3] (by decide) rfl _ rfl, r19_1, r19_2, r19_3, r19_4, r19_8, r19_9, rfl, ok52, (zal (by omega) (by omega)), (by first | exact ⟨by omega, by omega, by rw [hI19.2.2, putB_words _ (hx_ (by omega)).1 (by have := hx_ (by omega); omega), read_yes hI19.1 (by omega) (by assumption)]⟩ | exact ⟨by omega, by omega, by rw [hI19.2.2, read_no hI19.1 (by omega) (by assumption)]⟩)⟩
   refine zau <| zas <| zae (l := [0, 1]) rfl <| p_v (v := .int .i64 (q0 + 1)) rfl rfl rfl (zc7 r19_10 rfl (zal (by omega) (by omega))) <| p_v (v := .int .i64 (q0 + 1)) rfl rfl rfl (zah rfl) <| zaa ?_
   refine ih19 (o0, q0 + 1) _ _ (by dsimp only; omega) ⟨h19, le19, S40.sub [0, 1, 2, 3] (by decide) rfl _ rfl, r19_1, r19_2, r19_3, r19_4, r19_8, r19_9, rfl, f19_0, (zal (by omega) (by omega)), (by first | exact ⟨by omega, by omega, by rw [hI19.2.2, putB_words _ (hx_ (by omega)).1 (by have := hx_ (by omega); omega), read_yes hI19.1 (by omega) (by assumption)]⟩ | exact ⟨by omega, by omega, by rw [hI19.2.2, read_no hI19.1 (by omega) (by assumption)]⟩)⟩
  refine zbv rfl <| run_end Tryd.func79 (res0 rfl) ?_
  refine ⟨_, rfl, ?_⟩
  refine zaa <| zac <| zac <| zae (l := [0, 1, 2, 3]) rfl <| p_v (v := .pointer (some (a2.add 0))) rfl rfl rfl (zc6 fd27_0 ty22 rfl rfl) <| p_v (v := .slice A2_0 m.spots.length c2_0) rfl rfl rfl (zaj (seg := [.slice A2_0 m.spots.length c2_0]) ty22 rfl (by simp) rfl (CF.ghost (zea (o := 0) (m := 1) (ds := [.slice A2_0 m.spots.length c2_0]) pc2 rfl) (St.le0 S19))) <| p_v (v := .int .i64 (m.spots.length : Int)) rfl rfl rfl (za0 u22 rfl) <| p_v (v := .int .i64 0) rfl rfl rfl (zah rfl) <| zaa <| zaq <| zbu (S := (List Int) × Int) (fun (q_ : (List Int) × Int) ρ w' => match q_ with | (out, t21) => ∃ (h : Ghost), Le h19 h ∧ St w.heap.size w h w' [box b1 115 (zaf s), box b3 3 [.int .i64 k], box b5 115 (zaf (0 : BSet)), box b7 115 (zav .u64 out)] ∧ ρ 2 = .pointer (some a2) ∧ ρ 4 = .pointer (some ⟨b1, 0, none⟩) ∧ ρ 6 = .pointer (some ⟨b5, 0, none⟩) ∧ ρ 7 = .pointer (some ⟨b7, 0, none⟩) ∧ ρ 8 = .func (.func 79) #[] #[.pointer (some a2), .pointer (some a3), .pointer (some ⟨b3, 0, none⟩), .pointer (some ⟨b7, 0, none⟩)] ∧ ρ 20 = .int .i64 (m.spots.length : Int) ∧ ρ 21 = .int .i64 t21 ∧ zcy .u64 4 out ∧ inK .i64 t21 ∧ (0 ≤ t21 ∧ t21 ≤ (m.spots.length : Int) ∧ out = zaz (outTo m (at_ b k) s t21 (if s = beginB then rowIn m (at_ b k) m.first 0 else 0)))) (fun q_ => match q_ with | (out, t21) => (m.spots.length - t21).toNat) (o0, 0) ⟨h19, Le.refl _, S19.sub [0, 1, 2, 3] (by decide) rfl _ rfl, rfl, rfl, rfl, rfl, rfl, rfl, rfl, f19_0, (zal (by omega) (by omega)), (by first | exact ⟨by omega, by omega, by rw [hI19.2.2, read_end (by omega), if_pos (by assumption)]; exact congrArg zaz (out_0 _ _ _ _)⟩ | exact ⟨by omega, by omega, by rw [if_neg (by assumption)]; exact congrArg zaz (out_0 _ _ _ _)⟩)⟩ ?_
  rintro ⟨out, t21⟩ ih57 ρ57 w57 ⟨h57, le57, S57, r57_2, r57_4, r57_6, r57_7, r57_8, r57_20, r57_21, f57_0, f57_1, hI57⟩
  have lf57_1 := zbb f57_1; have hf57_1 := zbc f57_1
  have hi0_ := hI57.1
  refine zac <| zae (l := [0]) rfl <| p_v (v := .bool (decide (t21 < (m.spots.length : Int)))) rfl rfl rfl (zdy r57_21 r57_20) <| zaa <| zac ?_
  refine zan (p := t21 < (m.spots.length : Int)) rfl (fun hc58 => ?_) (fun hc58 => ?_)
  ·skip
   refine zau <| zac <| zaq <| zac <| zae (l := [0, 1]) rfl <| p_v (v := .int .i64 t21) rfl rfl rfl (zah r57_21) <| p_v (v := .int .i64 t21) rfl rfl rfl (zag rfl) <| zaa <| zac <| zae (l := [0, 1, 2]) rfl <| p_v (v := .agg (zaf s).toArray) rfl rfl rfl (zaj (seg := (zaf s)) zd2 rfl (by simp) r57_4 (CF.box (m := 4) (S57.box_at (j := 0) rfl) rfl)) <| p_v (v := .int .i64 t21) rfl rfl rfl (zah rfl) ?_
   refine p_c rfl rfl rfl (za2 (args := [.agg (zaf s).toArray, .int .i64 t21]) ca83 rfl rfl) (dhas_calls w57 s t21 f57_1 (by first | assumption | exact ⟨by omega, by omega⟩)) ?_
   rintro _ w59 ⟨h59, T59, rfl⟩
   have S60 := S57.keep (Chg.of_below T59.below)
   refine zaa ?_
   refine zb0 (b := has s t21) rfl (fun hc61 => ?_) (fun hc61 => ?_)
   ·skip
    refine zae (l := [0, 1, 2, 3, 4, 5, 6]) rfl <| p_v (v := .func (.func 79) #[] #[.pointer (some a2), .pointer (some a3), .pointer (some ⟨b3, 0, none⟩), .pointer (some ⟨b7, 0, none⟩)]) rfl rfl rfl (zah r57_8) <| p_v (v := .pointer (some (a2.add 2))) rfl rfl rfl (zc6 fd27_2 ty24 rfl r57_2) <| p_v (v := .slice A2_2 m.follow.length c2_2) rfl rfl rfl (zaj (seg := [.slice A2_2 m.follow.length c2_2]) ty24 rfl (by simp) rfl (CF.ghost (zea (o := 2) (m := 1) (ds := [.slice A2_2 m.follow.length c2_2]) pc2 rfl) (St.le0 S60))) <| p_v (v := .int .i64 t21) rfl rfl rfl (zah rfl) ?_
    obtain ⟨ad63, seg63, a63, rp63, ce63⟩ := za9 (q := t21) (m := 1) l2_2 rfl (by omega) (by omega)
    refine p_v (v := .pointer (some ad63)) rfl rfl rfl (za8 u24 ty23 rfl rfl a63 (by omega) (by omega)) ?_
    obtain ⟨A63, c63, rfl, lc63, cm63, ld63⟩ := rp63
    have cn63 := cm63; simp only [maxLen] at cn63
    refine p_v (v := .slice A63 (at_ m.follow t21).length c63) rfl rfl rfl (zaj (seg := [.slice A63 (at_ m.follow t21).length c63]) ty23 rfl (by simp) rfl (CF.ghost ce63 (St.le0 S60))) ?_
    refine p_i rfl rfl rfl (za2 (args := [.slice A63 (at_ m.follow t21).length c63, .pointer (some a2), .pointer (some a3), .pointer (some ⟨b3, 0, none⟩), .pointer (some ⟨b7, 0, none⟩)]) ca79 rfl rfl) (zak Tryd.func79 rfl Tryd.ntmps79 rfl ?_)
    refine zac <| zae (l := [0, 1, 2]) rfl <| p_v (v := .slice A63 (at_ m.follow t21).length c63) rfl rfl rfl (zah rfl) <| p_v (v := .int .i64 ((at_ m.follow t21).length : Int)) rfl rfl rfl (za0 u23 rfl) <| p_v (v := .int .i64 0) rfl rfl rfl (zah rfl) <| zaa <| zaq <| zbu (S := (List Int) × Int) (fun (q_ : (List Int) × Int) ρ w' => match q_ with | (o2, q2) => ∃ (h : Ghost), Le h57 h ∧ St w.heap.size w h w' [box b1 115 (zaf s), box b3 3 [.int .i64 k], box b5 115 (zaf (0 : BSet)), box b7 115 (zav .u64 o2)] ∧ ρ 1 = .pointer (some a2) ∧ ρ 2 = .pointer (some a3) ∧ ρ 3 = .pointer (some ⟨b3, 0, none⟩) ∧ ρ 4 = .pointer (some ⟨b7, 0, none⟩) ∧ ρ 8 = .slice A63 (at_ m.follow t21).length c63 ∧ ρ 9 = .int .i64 ((at_ m.follow t21).length : Int) ∧ ρ 10 = .int .i64 q2 ∧ zcy .u64 4 o2 ∧ inK .i64 q2 ∧ (0 ≤ q2 ∧ q2 ≤ ((at_ m.follow t21).length : Int) ∧ o2 = zaz (readTo m (at_ b k) (at_ m.follow t21) q2 (outTo m (at_ b k) s t21 (if s = beginB then rowIn m (at_ b k) m.first 0 else 0))))) (fun q_ => match q_ with | (o2, q2) => ((at_ m.follow t21).length - q2).toNat) (out, 0) ⟨h57, Le.refl _, S60.sub [0, 1, 2, 3] (by decide) rfl _ rfl, rfl, rfl, rfl, rfl, rfl, rfl, rfl, f57_0, (zal (by omega) (by omega)), (by exact ⟨by omega, by omega, by rw [hI57.2.2]; exact congrArg zaz (read_0 _ _ _ _)⟩)⟩ ?_
    rintro ⟨o2, q2⟩ ih64 ρ64 w64 ⟨h64, le64, S64, r64_1, r64_2, r64_3, r64_4, r64_8, r64_9, r64_10, f64_0, f64_1, hI64⟩
    have lf64_1 := zbb f64_1; have hf64_1 := zbc f64_1
    have hq2_ := hI64.1
    have hx_ : q2 < ((at_ m.follow t21).length : Int) → 0 ≤ at_ (at_ m.follow t21) q2 ∧ at_ (at_ m.follow t21) q2 < (m.spots.length : Int) := fun h => hR_.rows hI57.1 (by omega) _ (zee hI64.1 h)
    refine zac <| zae (l := [0]) rfl <| p_v (v := .bool (decide (q2 < ((at_ m.follow t21).length : Int)))) rfl rfl rfl (zdy r64_10 r64_9) <| zaa <| zac ?_
    refine zan (p := q2 < ((at_ m.follow t21).length : Int)) rfl (fun hc65 => ?_) (fun hc65 => ?_)
    ·skip
     refine zau <| zac <| zaq <| zac <| zae (l := [0, 1, 2]) rfl ?_
     obtain ⟨ad66, seg66, a66, rp66, ce66⟩ := za9 (q := q2) (m := 1) ld63 rfl (by omega) (by omega)
     refine p_v (v := .pointer (some ad66)) rfl rfl rfl (za8 u23 ty3 r64_8 r64_10 a66 (by omega) (by omega)) ?_
     obtain ⟨rfl, in66⟩ := rp66
     have lo66 := zbb in66; have hi66 := zbc in66
     refine p_v (v := .int .i64 (at_ (at_ m.follow t21) q2)) rfl rfl rfl (zaj (seg := [.int .i64 (at_ (at_ m.follow t21) q2)]) ty3 rfl (by simp) rfl (CF.ghost ce66 (St.le0 S64))) <| p_v (v := .int .i64 (at_ (at_ m.follow t21) q2)) rfl rfl rfl (zag rfl) <| zaa <| zac ?_
     obtain ⟨ad68, seg68, a68, rp68, ce68⟩ := za9 (q := at_ (at_ m.follow t21) q2) (m := 5) l2_0 rfl (by omega) (by omega)
     obtain ⟨rfl, ok68⟩ := rp68
     have slook68 := u8_lo ok68; have shiok68 := u8_hi ok68
     obtain ⟨ad70, seg70, a70, rp70, ce70⟩ := za9 (q := k) (m := 1) l3 rfl (by omega) (by omega)
     obtain ⟨rfl, in70⟩ := rp70
     have lo70 := u8_lo in70; have hi70 := u8_hi in70
     have hf72 : (CFs (a2.add 0) [.slice A2_0 m.spots.length c2_0]).1 w64 := (CF.ghost (zea (o := 0) (m := 1) (ds := [.slice A2_0 m.spots.length c2_0]) pc2 rfl) (St.le0 S64))
     have hf73 : (CFs (ad68.add 0) (zaf ((at_ m.spots (at_ (at_ m.follow t21) q2)).set))).1 w64 := (CF.ghost (zea (o := 0) (m := 4) (ds := (zaf ((at_ m.spots (at_ (at_ m.follow t21) q2)).set))) ce68 rfl) (St.le0 S64))
     have hf74 : (CFs a3 [.slice A3 b.length c3]).1 w64 := (CF.ghost pc3 (St.le0 S64))
     have hf75 : (CFs ⟨b3, 0, none⟩ [.int .i64 k]).1 w64 := (CF.box (m := 1) (S64.box_at (j := 1) rfl) rfl)
     have hf76 : (CFs ad70 [.int .u8 (at_ b k)]).1 w64 := (CF.ghost ce70 (St.le0 S64))
     refine daS (hkC 1 hf72 (hkC 5 hf73 (hkC 6 hf74 (hkC 7 hf75 (hkC 9 hf76 (hkN (w := w64))))))) 11 rfl mixed ?_
     intro wd77 gd77 hd77
     have S78 := S64.keep gd77
     have hf79 := spUp gd77 hf72
     have hf80 := spUp gd77 hf73
     have hf81 := spUp gd77 hf74
     have hf82 := spUp gd77 hf75
     have hf83 := spUp gd77 hf76
     refine qd0 (i := 0) (v := .pointer (some (a2.add 0))) rfl (by decide +kernel) rfl rfl (zc6 fd27_0 ty22 rfl r64_1) (zam rfl) <| qd1 0 (i := 1) (v := .slice A2_0 m.spots.length c2_0) rfl rfl (by decide +kernel) rfl rfl (fun wq hq => (zaj (seg := [.slice A2_0 m.spots.length c2_0]) ty22 rfl (by simp) rfl hq)) (zbz hf79 (zam rfl)) <| qd0 (i := 2) (v := .int .i64 (at_ (at_ m.follow t21) q2)) rfl (by decide +kernel) rfl rfl (zah rfl) (zam rfl) <| qd0 (i := 3) (v := .pointer (some ad68)) rfl (by decide +kernel) rfl rfl (za8 u22 ty101 rfl rfl a68 (by omega) (by omega)) (zam rfl) <| qd0 (i := 4) (v := .pointer (some (ad68.add 0))) rfl (by decide +kernel) rfl rfl (zc6 fd101_0 ty74 rfl rfl) (zam rfl) <| qd1 1 (i := 5) (v := .agg (zaf ((at_ m.spots (at_ (at_ m.follow t21) q2)).set)).toArray) rfl rfl (by decide +kernel) rfl rfl (fun wq hq => (zaj (seg := (zaf ((at_ m.spots (at_ (at_ m.follow t21) q2)).set))) ty74 rfl (by simp) rfl hq)) (zbw rfl (zbz hf80 (zam rfl))) <| qd1 2 (i := 6) (v := .slice A3 b.length c3) rfl rfl (by decide +kernel) rfl rfl (fun wq hq => (zaj (seg := [.slice A3 b.length c3]) ty39 rfl (by simp) r64_2 hq)) (zbw rfl (zbw rfl (zbz hf81 (zam rfl)))) <| qd1 3 (i := 7) (v := .int .i64 k) rfl rfl (by decide +kernel) rfl rfl (fun wq hq => (zaj (seg := [.int .i64 k]) ty3 rfl (by simp) r64_3 hq)) (zbw rfl (zbw rfl (zbw rfl (zbz hf82 (zam rfl))))) <| qd0 (i := 8) (v := .pointer (some ad70)) rfl (by decide +kernel) rfl rfl (za8 u39 ty5 rfl rfl a70 (by omega) (by omega)) (zam rfl) <| qd1 4 (i := 9) (v := .int .u8 (at_ b k)) rfl rfl (by decide +kernel) rfl rfl (fun wq hq => (zaj (seg := [.int .u8 (at_ b k)]) ty5 rfl (by simp) rfl hq)) (zbw rfl (zbw rfl (zbw rfl (zbw rfl (zbz hf83 (zam rfl)))))) <| d_m (i := 10) (v := .bool (has ((at_ m.spots (at_ (at_ m.follow t21) q2)).set) (at_ b k))) (fun _ => True) (fun _ ho => trivial) rfl (by decide +kernel) (by decide +kernel) (by decide +kernel) rfl rfl (fun wq => (za2 (args := [.agg (zaf ((at_ m.spots (at_ (at_ m.follow t21) q2)).set)).toArray, .int .u8 (at_ b k)]) ca80 rfl rfl)) (fun wq hq => (has_calls wq ((at_ m.spots (at_ (at_ m.follow t21) q2)).set) (at_ b k) (in_u8 (by omega) (by omega))).mono fun e w2 he => by obtain ⟨_, rfl, _, T, rfl⟩ := he; exact ⟨rfl, Chg.of_below T.below⟩) (zam rfl) <| zco (by decide +kernel) ?_
     intro wd84 gd84
     have S85 := S78.keep gd84
     refine zb0 (b := has ((at_ m.spots (at_ (at_ m.follow t21) q2)).set) (at_ b k)) rfl (fun hc86 => ?_) (fun hc86 => ?_)
     ·skip
      refine zae (l := [0, 1]) rfl <| p_v (v := .int .i64 (at_ (at_ m.follow t21) q2)) rfl rfl rfl (zah rfl) ?_
      refine p_i rfl rfl rfl (za2 (args := [.pointer (some ⟨b7, 0, none⟩), .int .i64 (at_ (at_ m.follow t21) q2)]) ca81 rfl (zdv r64_4 (zdv rfl rfl))) (zak Tryd.func81 rfl Tryd.ntmps81 rfl ?_)
      have in87 := zb2 f64_0 (i := (at_ (at_ m.follow t21) q2) / 64) (by omega) (by omega)
      have lo87 := zcf in87; have hi87 := zck in87
      have in88 := pow_in (b := (at_ (at_ m.follow t21) q2) % 64) (by omega) (by omega)
      have lo88 := zcf in88; have hi88 := zck in88
      have in89 : inK .u64 (ior (at_ o2 ((at_ (at_ m.follow t21) q2) / 64)) (2 ^ ((at_ (at_ m.follow t21) q2) % 64).toNat)) := ior_in (zc0 (by omega) (by omega)) (zc0 (by omega) (by omega))
      have lo89 := zcf in89; have hi89 := zck in89
      have hf90 : (CFs ⟨b7, 0 + ((at_ (at_ m.follow t21) q2) / 64).toNat * 1, none⟩ [.int .u64 (at_ o2 ((at_ (at_ m.follow t21) q2) / 64))]).1 wd84 := (CF.box (m := 1) (S85.box_at (j := 3) rfl) (cs := (zav .u64 o2)) (zde f64_0 (by omega) (by omega)))
      refine daS (hkC 5 hf90 (hkN (w := wd84))) 13 rfl mixed ?_
      intro wd91 gd91 hd91
      have S92 := S85.keep gd91
      have hf93 := spUp gd91 hf90
      refine qd0 (i := 0) (v := .pointer (some ⟨b7, 0, none⟩)) rfl (by decide +kernel) rfl rfl (zah rfl) (zam rfl) <| qd0 (i := 1) (v := .int .i64 (at_ (at_ m.follow t21) q2)) rfl (by decide +kernel) rfl rfl (zah rfl) (zam rfl) <| qd0 (i := 2) (v := .int .i64 ((at_ (at_ m.follow t21) q2) / 64)) rfl (by decide +kernel) rfl rfl (x_quo rfl rfl (by omega) (by omega) (zal (by omega) (by omega))) (zam rfl) <| qd0 (i := 3) (v := .pointer (some ⟨b7, 0, none⟩)) rfl (by decide +kernel) rfl rfl (zca rfl) (zam rfl) <| qd0 (i := 4) (v := .pointer (some ⟨b7, 0 + ((at_ (at_ m.follow t21) q2) / 64).toNat * 1, none⟩)) rfl (by decide +kernel) rfl rfl (za3 u115 ty56 rfl rfl (by omega) (by omega)) (zam rfl) <| qd1 0 (i := 5) (v := .int .u64 (at_ o2 ((at_ (at_ m.follow t21) q2) / 64))) rfl rfl (by decide +kernel) rfl rfl (fun wq hq => (zaj (seg := [.int .u64 (at_ o2 ((at_ (at_ m.follow t21) q2) / 64))]) ty56 rfl (by simp) rfl hq)) (zbz hf93 (of_nil _ _)) <| qd0 (i := 6) (v := .int .i64 (at_ (at_ m.follow t21) q2)) rfl (by decide +kernel) rfl rfl (zah rfl) (zam rfl) <| qd0 (i := 7) (v := .int .i64 ((at_ (at_ m.follow t21) q2) % 64)) rfl (by decide +kernel) rfl rfl (x_rem rfl rfl (by omega) (by omega)) (zam rfl) <| qd0 (i := 8) (v := .int .u64 (2 ^ ((at_ (at_ m.follow t21) q2) % 64).toNat)) rfl (by decide +kernel) rfl rfl (x_shl_one rfl rfl (by omega) (by omega)) (zam rfl) <| qd0 (i := 9) (v := .int .u64 (ior (at_ o2 ((at_ (at_ m.follow t21) q2) / 64)) (2 ^ ((at_ (at_ m.follow t21) q2) % 64).toNat))) rfl (by decide +kernel) rfl rfl (x_or_u64 rfl rfl (zc0 (by omega) (by omega)) (zc0 (by omega) (by omega))) (zam rfl) <| qd0 (i := 10) (v := .pointer (some ⟨b7, 0, none⟩)) rfl (by decide +kernel) rfl rfl (zca rfl) (zam rfl) <| qd0 (i := 11) (v := .pointer (some ⟨b7, 0 + ((at_ (at_ m.follow t21) q2) / 64).toNat * 1, none⟩)) rfl (by decide +kernel) rfl rfl (za3 u115 ty56 rfl rfl (by omega) (by omega)) (zam rfl) ?_
      refine zb6 (i := 12) (by decide +kernel) ?_
      intro wd94 gd94
      have S95 := S92.keep gd94
      have hf96 := spUp gd94 hf93
      obtain ⟨w97, r97, g97, T97⟩ := zb9 (P := Tryd.prog) (off := 0 + ((at_ (at_ m.follow t21) q2) / 64).toNat * 1) (v := .int .u64 (ior (at_ o2 ((at_ (at_ m.follow t21) q2) / 64)) (2 ^ ((at_ (at_ m.follow t21) q2) % 64).toNat))) (vs := [.int .u64 (ior (at_ o2 ((at_ (at_ m.follow t21) q2) / 64)) (2 ^ ((at_ (at_ m.follow t21) q2) % 64).toNat))]) S95 ty56 rfl rfl (j := 3) rfl (by rw [zdt f64_0]; first|omega|(simp;omega)|assumption|simp) (by simp [Value.oneCell'])
      rw [encInts_put] at T97
      have ok97 : zcy .u64 4 (o2.set ((at_ (at_ m.follow t21) q2) / 64).toNat (ior (at_ o2 ((at_ (at_ m.follow t21) q2) / 64)) (2 ^ ((at_ (at_ m.follow t21) q2) % 64).toNat))) := zed f64_0 _ in89
      have S98 := T97.fx 3 (box b7 115 (zav .u64 (o2.set ((at_ (at_ m.follow t21) q2) / 64).toNat (ior (at_ o2 ((at_ (at_ m.follow t21) q2) / 64)) (2 ^ ((at_ (at_ m.follow t21) q2) % 64).toNat))))) rfl
      dsimp only [lAa, lAn, lA0, lAs] at S98
      refine d_s rfl rfl (za7 rfl rfl r97) (.inr (zbh (by decide +kernel) trivial)) <| zco (by decide +kernel) ?_
      intro wd99 gd99
      have S100 := S98.keep gd99
      refine run_end Tryd.func81 (res0 rfl) ?_
      refine ⟨_, rfl, ?_⟩
      refine zaa <| zas <| zae (l := [0, 1]) rfl <| p_v (v := .int .i64 (q2 + 1)) rfl rfl rfl (zc7 r64_10 rfl (zal (by omega) (by omega))) <| p_v (v := .int .i64 (q2 + 1)) rfl rfl rfl (zah rfl) <| zaa ?_
      refine ih64 (o2.set ((at_ (at_ m.follow t21) q2) / 64).toNat (ior (at_ o2 ((at_ (at_ m.follow t21) q2) / 64)) (2 ^ ((at_ (at_ m.follow t21) q2) % 64).toNat)), q2 + 1) _ _ (by dsimp only; omega) ⟨h64, le64, S100.sub [0, 1, 2, 3] (by decide) rfl _ rfl, r64_1, r64_2, r64_3, r64_4, r64_8, r64_9, rfl, ok97, (zal (by omega) (by omega)), (by first | exact ⟨by omega, by omega, by rw [hI64.2.2, putB_words _ (hx_ (by omega)).1 (by have := hx_ (by omega); omega), read_yes hI64.1 (by omega) (by assumption)]⟩ | exact ⟨by omega, by omega, by rw [hI64.2.2, read_no hI64.1 (by omega) (by assumption)]⟩)⟩
     refine zau <| zas <| zae (l := [0, 1]) rfl <| p_v (v := .int .i64 (q2 + 1)) rfl rfl rfl (zc7 r64_10 rfl (zal (by omega) (by omega))) <| p_v (v := .int .i64 (q2 + 1)) rfl rfl rfl (zah rfl) <| zaa ?_
     refine ih64 (o2, q2 + 1) _ _ (by dsimp only; omega) ⟨h64, le64, S85.sub [0, 1, 2, 3] (by decide) rfl _ rfl, r64_1, r64_2, r64_3, r64_4, r64_8, r64_9, rfl, f64_0, (zal (by omega) (by omega)), (by first | exact ⟨by omega, by omega, by rw [hI64.2.2, putB_words _ (hx_ (by omega)).1 (by have := hx_ (by omega); omega), read_yes hI64.1 (by omega) (by assumption)]⟩ | exact ⟨by omega, by omega, by rw [hI64.2.2, read_no hI64.1 (by omega) (by assumption)]⟩)⟩
    refine zbv rfl <| run_end Tryd.func79 (res0 rfl) ?_
    refine ⟨_, rfl, ?_⟩
    refine zaa <| zas <| zae (l := [0, 1]) rfl <| p_v (v := .int .i64 (t21 + 1)) rfl rfl rfl (zc7 r57_21 rfl (zal (by omega) (by omega))) <| p_v (v := .int .i64 (t21 + 1)) rfl rfl rfl (zah rfl) <| zaa ?_
    refine ih57 (o2, t21 + 1) _ _ (by dsimp only; omega) ⟨h64, ((le57).trans le64), S64.sub [0, 1, 2, 3] (by decide) rfl _ rfl, r57_2, r57_4, r57_6, r57_7, r57_8, r57_20, rfl, f64_0, (zal (by omega) (by omega)), (by first | exact ⟨by omega, by omega, by rw [hI64.2.2, read_end (by omega), out_yes hI57.1 (by assumption)]⟩ | exact ⟨by omega, by omega, by rw [hI57.2.2, out_no hI57.1 (by assumption)]⟩)⟩
   refine zau <| zas <| zae (l := [0, 1]) rfl <| p_v (v := .int .i64 (t21 + 1)) rfl rfl rfl (zc7 r57_21 rfl (zal (by omega) (by omega))) <| p_v (v := .int .i64 (t21 + 1)) rfl rfl rfl (zah rfl) <| zaa ?_
   refine ih57 (out, t21 + 1) _ _ (by dsimp only; omega) ⟨h57, le57, S60.sub [0, 1, 2, 3] (by decide) rfl _ rfl, r57_2, r57_4, r57_6, r57_7, r57_8, r57_20, rfl, f57_0, (zal (by omega) (by omega)), (by first | exact ⟨by omega, by omega, by rw [hI64.2.2, read_end (by omega), out_yes hI57.1 (by assumption)]⟩ | exact ⟨by omega, by omega, by rw [hI57.2.2, out_no hI57.1 (by assumption)]⟩)⟩
  refine zbv rfl <| zac <| zae (l := [0, 1]) rfl <| p_v (v := .agg (zaf (zbl out)).toArray) rfl rfl rfl (zaj (seg := (zaf (zbl out))) zd2 rfl (by simp) r57_7 (CF.box (m := 4) (S57.box_at (j := 3) rfl) (by rw [← encSet_of f57_0]; exact encInts_full f57_0))) ?_
  obtain ⟨w101, r101, g101, T101⟩ := zb9 (P := Tryd.prog) (off := 0) (v := .agg (zaf (zbl out)).toArray) (vs := (zaf (zbl out))) S57 zd2 rfl rfl (j := 2) rfl (by first | decide | exact Nat.le_of_ble_eq_true rfl) (zdn _)
  have S102 := T101.fx 2 (box b5 115 (zaf (zbl out))) rfl
  dsimp only [lAa, lAn, lA0, lAs] at S102
  refine p_s rfl rfl (za7 r57_6 rfl r101) <| zaa <| zar Tryd.func78 (res1 rfl (zdg S102 zd2 r57_6 (j := 2) rfl rfl (by simp) rfl)) ?_
  have q0 : (zbt m b s k : BSet) = (zbl out) := by
   rw [hI57.2.2, of_words, nextB_eq, show t21 = (m.spots.length : Int) by omega]
  refine ⟨_, rfl, h57, ?_, ?_⟩
  · exact S102.sub [] (by decide) rfl _ rfl
  · first | rfl | (simp only [q0]; rfl) | (simp only [q0])
 refine zau <| zac <| zac <| zae (l := [0, 1, 2, 3]) rfl <| p_v (v := .pointer (some (a2.add 0))) rfl rfl rfl (zc6 fd27_0 ty22 rfl rfl) <| p_v (v := .slice A2_0 m.spots.length c2_0) rfl rfl rfl (zaj (seg := [.slice A2_0 m.spots.length c2_0]) ty22 rfl (by simp) rfl (CF.ghost (zea (o := 0) (m := 1) (ds := [.slice A2_0 m.spots.length c2_0]) pc2 rfl) (St.le0 S15))) <| p_v (v := .int .i64 (m.spots.length : Int)) rfl rfl rfl (za0 u22 rfl) <| p_v (v := .int .i64 0) rfl rfl rfl (zah rfl) <| zaa <| zaq ?_
 have S104 : St w.heap.size w (fun _ => none) wd14 [box b1 115 (zaf s), box b3 3 [.int .i64 k], box b5 115 (zaf (0 : BSet)), box b7 115 (zav .u64 (zaz (0 : BSet)))] := S15
 refine zbu (S := (List Int) × Int) (fun (q_ : (List Int) × Int) ρ w' => match q_ with | (out, t21) => ∃ (h : Ghost), Le (fun _ => none) h ∧ St w.heap.size w h w' [box b1 115 (zaf s), box b3 3 [.int .i64 k], box b5 115 (zaf (0 : BSet)), box b7 115 (zav .u64 out)] ∧ ρ 2 = .pointer (some a2) ∧ ρ 4 = .pointer (some ⟨b1, 0, none⟩) ∧ ρ 6 = .pointer (some ⟨b5, 0, none⟩) ∧ ρ 7 = .pointer (some ⟨b7, 0, none⟩) ∧ ρ 8 = .func (.func 79) #[] #[.pointer (some a2), .pointer (some a3), .pointer (some ⟨b3, 0, none⟩), .pointer (some ⟨b7, 0, none⟩)] ∧ ρ 20 = .int .i64 (m.spots.length : Int) ∧ ρ 21 = .int .i64 t21 ∧ zcy .u64 4 out ∧ inK .i64 t21 ∧ (0 ≤ t21 ∧ t21 ≤ (m.spots.length : Int) ∧ out = zaz (outTo m (at_ b k) s t21 (if s = beginB then rowIn m (at_ b k) m.first 0 else 0)))) (fun q_ => match q_ with | (out, t21) => (m.spots.length - t21).toNat) ((zaz (0 : BSet)), 0) ⟨(fun _ => none), Le.refl _, S104.sub [0, 1, 2, 3] (by decide) rfl _ rfl, rfl, rfl, rfl, rfl, rfl, rfl, rfl, (zcr (0 : BSet)), (zal (by omega) (by omega)), (by first | exact ⟨by omega, by omega, by rw [hI19.2.2, read_end (by omega), if_pos (by assumption)]; exact congrArg zaz (out_0 _ _ _ _)⟩ | exact ⟨by omega, by omega, by rw [if_neg (by assumption)]; exact congrArg zaz (out_0 _ _ _ _)⟩)⟩ ?_
 rintro ⟨out, t21⟩ ih105 ρ105 w105 ⟨h105, le105, S105, r105_2, r105_4, r105_6, r105_7, r105_8, r105_20, r105_21, f105_0, f105_1, hI105⟩
 have lf105_1 := zbb f105_1; have hf105_1 := zbc f105_1
 have hi0_ := hI105.1
 refine zac <| zae (l := [0]) rfl <| p_v (v := .bool (decide (t21 < (m.spots.length : Int)))) rfl rfl rfl (zdy r105_21 r105_20) <| zaa <| zac ?_
 refine zan (p := t21 < (m.spots.length : Int)) rfl (fun hc106 => ?_) (fun hc106 => ?_)
 ·skip
  refine zau <| zac <| zaq <| zac <| zae (l := [0, 1]) rfl <| p_v (v := .int .i64 t21) rfl rfl rfl (zah r105_21) <| p_v (v := .int .i64 t21) rfl rfl rfl (zag rfl) <| zaa <| zac <| zae (l := [0, 1, 2]) rfl <| p_v (v := .agg (zaf s).toArray) rfl rfl rfl (zaj (seg := (zaf s)) zd2 rfl (by simp) r105_4 (CF.box (m := 4) (S105.box_at (j := 0) rfl) rfl)) <| p_v (v := .int .i64 t21) rfl rfl rfl (zah rfl) ?_
  refine p_c rfl rfl rfl (za2 (args := [.agg (zaf s).toArray, .int .i64 t21]) ca83 rfl rfl) (dhas_calls w105 s t21 f105_1 (by first | assumption | exact ⟨by omega, by omega⟩)) ?_
  rintro _ w107 ⟨h107, T107, rfl⟩
  have S108 := S105.keep (Chg.of_below T107.below)
  refine zaa ?_
  refine zb0 (b := has s t21) rfl (fun hc109 => ?_) (fun hc109 => ?_)
  ·skip
   refine zae (l := [0, 1, 2, 3, 4, 5, 6]) rfl <| p_v (v := .func (.func 79) #[] #[.pointer (some a2), .pointer (some a3), .pointer (some ⟨b3, 0, none⟩), .pointer (some ⟨b7, 0, none⟩)]) rfl rfl rfl (zah r105_8) <| p_v (v := .pointer (some (a2.add 2))) rfl rfl rfl (zc6 fd27_2 ty24 rfl r105_2) <| p_v (v := .slice A2_2 m.follow.length c2_2) rfl rfl rfl (zaj (seg := [.slice A2_2 m.follow.length c2_2]) ty24 rfl (by simp) rfl (CF.ghost (zea (o := 2) (m := 1) (ds := [.slice A2_2 m.follow.length c2_2]) pc2 rfl) (St.le0 S108))) <| p_v (v := .int .i64 t21) rfl rfl rfl (zah rfl) ?_
   obtain ⟨ad111, seg111, a111, rp111, ce111⟩ := za9 (q := t21) (m := 1) l2_2 rfl (by omega) (by omega)
   refine p_v (v := .pointer (some ad111)) rfl rfl rfl (za8 u24 ty23 rfl rfl a111 (by omega) (by omega)) ?_
   obtain ⟨A111, c111, rfl, lc111, cm111, ld111⟩ := rp111
   have cn111 := cm111; simp only [maxLen] at cn111
   refine p_v (v := .slice A111 (at_ m.follow t21).length c111) rfl rfl rfl (zaj (seg := [.slice A111 (at_ m.follow t21).length c111]) ty23 rfl (by simp) rfl (CF.ghost ce111 (St.le0 S108))) ?_
   refine p_i rfl rfl rfl (za2 (args := [.slice A111 (at_ m.follow t21).length c111, .pointer (some a2), .pointer (some a3), .pointer (some ⟨b3, 0, none⟩), .pointer (some ⟨b7, 0, none⟩)]) ca79 rfl rfl) (zak Tryd.func79 rfl Tryd.ntmps79 rfl ?_)
   refine zac <| zae (l := [0, 1, 2]) rfl <| p_v (v := .slice A111 (at_ m.follow t21).length c111) rfl rfl rfl (zah rfl) <| p_v (v := .int .i64 ((at_ m.follow t21).length : Int)) rfl rfl rfl (za0 u23 rfl) <| p_v (v := .int .i64 0) rfl rfl rfl (zah rfl) <| zaa <| zaq <| zbu (S := (List Int) × Int) (fun (q_ : (List Int) × Int) ρ w' => match q_ with | (o2, q2) => ∃ (h : Ghost), Le h105 h ∧ St w.heap.size w h w' [box b1 115 (zaf s), box b3 3 [.int .i64 k], box b5 115 (zaf (0 : BSet)), box b7 115 (zav .u64 o2)] ∧ ρ 1 = .pointer (some a2) ∧ ρ 2 = .pointer (some a3) ∧ ρ 3 = .pointer (some ⟨b3, 0, none⟩) ∧ ρ 4 = .pointer (some ⟨b7, 0, none⟩) ∧ ρ 8 = .slice A111 (at_ m.follow t21).length c111 ∧ ρ 9 = .int .i64 ((at_ m.follow t21).length : Int) ∧ ρ 10 = .int .i64 q2 ∧ zcy .u64 4 o2 ∧ inK .i64 q2 ∧ (0 ≤ q2 ∧ q2 ≤ ((at_ m.follow t21).length : Int) ∧ o2 = zaz (readTo m (at_ b k) (at_ m.follow t21) q2 (outTo m (at_ b k) s t21 (if s = beginB then rowIn m (at_ b k) m.first 0 else 0))))) (fun q_ => match q_ with | (o2, q2) => ((at_ m.follow t21).length - q2).toNat) (out, 0) ⟨h105, Le.refl _, S108.sub [0, 1, 2, 3] (by decide) rfl _ rfl, rfl, rfl, rfl, rfl, rfl, rfl, rfl, f105_0, (zal (by omega) (by omega)), (by exact ⟨by omega, by omega, by rw [hI105.2.2]; exact congrArg zaz (read_0 _ _ _ _)⟩)⟩ ?_
   rintro ⟨o2, q2⟩ ih112 ρ112 w112 ⟨h112, le112, S112, r112_1, r112_2, r112_3, r112_4, r112_8, r112_9, r112_10, f112_0, f112_1, hI112⟩
   have lf112_1 := zbb f112_1; have hf112_1 := zbc f112_1
   have hq2_ := hI112.1
   have hx_ : q2 < ((at_ m.follow t21).length : Int) → 0 ≤ at_ (at_ m.follow t21) q2 ∧ at_ (at_ m.follow t21) q2 < (m.spots.length : Int) := fun h => hR_.rows hI105.1 (by omega) _ (zee hI112.1 h)
   refine zac <| zae (l := [0]) rfl <| p_v (v := .bool (decide (q2 < ((at_ m.follow t21).length : Int)))) rfl rfl rfl (zdy r112_10 r112_9) <| zaa <| zac ?_
   refine zan (p := q2 < ((at_ m.follow t21).length : Int)) rfl (fun hc113 => ?_) (fun hc113 => ?_)
   ·skip
    refine zau <| zac <| zaq <| zac <| zae (l := [0, 1, 2]) rfl ?_
    obtain ⟨ad114, seg114, a114, rp114, ce114⟩ := za9 (q := q2) (m := 1) ld111 rfl (by omega) (by omega)
    refine p_v (v := .pointer (some ad114)) rfl rfl rfl (za8 u23 ty3 r112_8 r112_10 a114 (by omega) (by omega)) ?_
    obtain ⟨rfl, in114⟩ := rp114
    have lo114 := zbb in114; have hi114 := zbc in114
    refine p_v (v := .int .i64 (at_ (at_ m.follow t21) q2)) rfl rfl rfl (zaj (seg := [.int .i64 (at_ (at_ m.follow t21) q2)]) ty3 rfl (by simp) rfl (CF.ghost ce114 (St.le0 S112))) <| p_v (v := .int .i64 (at_ (at_ m.follow t21) q2)) rfl rfl rfl (zag rfl) <| zaa <| zac ?_
    obtain ⟨ad116, seg116, a116, rp116, ce116⟩ := za9 (q := at_ (at_ m.follow t21) q2) (m := 5) l2_0 rfl (by omega) (by omega)
    obtain ⟨rfl, ok116⟩ := rp116
    have slook116 := u8_lo ok116; have shiok116 := u8_hi ok116
    obtain ⟨ad118, seg118, a118, rp118, ce118⟩ := za9 (q := k) (m := 1) l3 rfl (by omega) (by omega)
    obtain ⟨rfl, in118⟩ := rp118
    have lo118 := u8_lo in118; have hi118 := u8_hi in118
    have hf120 : (CFs (a2.add 0) [.slice A2_0 m.spots.length c2_0]).1 w112 := (CF.ghost (zea (o := 0) (m := 1) (ds := [.slice A2_0 m.spots.length c2_0]) pc2 rfl) (St.le0 S112))
    have hf121 : (CFs (ad116.add 0) (zaf ((at_ m.spots (at_ (at_ m.follow t21) q2)).set))).1 w112 := (CF.ghost (zea (o := 0) (m := 4) (ds := (zaf ((at_ m.spots (at_ (at_ m.follow t21) q2)).set))) ce116 rfl) (St.le0 S112))
    have hf122 : (CFs a3 [.slice A3 b.length c3]).1 w112 := (CF.ghost pc3 (St.le0 S112))
    have hf123 : (CFs ⟨b3, 0, none⟩ [.int .i64 k]).1 w112 := (CF.box (m := 1) (S112.box_at (j := 1) rfl) rfl)
    have hf124 : (CFs ad118 [.int .u8 (at_ b k)]).1 w112 := (CF.ghost ce118 (St.le0 S112))
    refine daS (hkC 1 hf120 (hkC 5 hf121 (hkC 6 hf122 (hkC 7 hf123 (hkC 9 hf124 (hkN (w := w112))))))) 11 rfl mixed ?_
    intro wd125 gd125 hd125
    have S126 := S112.keep gd125
    have hf127 := spUp gd125 hf120
    have hf128 := spUp gd125 hf121
    have hf129 := spUp gd125 hf122
    have hf130 := spUp gd125 hf123
    have hf131 := spUp gd125 hf124
    refine qd0 (i := 0) (v := .pointer (some (a2.add 0))) rfl (by decide +kernel) rfl rfl (zc6 fd27_0 ty22 rfl r112_1) (zam rfl) <| qd1 0 (i := 1) (v := .slice A2_0 m.spots.length c2_0) rfl rfl (by decide +kernel) rfl rfl (fun wq hq => (zaj (seg := [.slice A2_0 m.spots.length c2_0]) ty22 rfl (by simp) rfl hq)) (zbz hf127 (zam rfl)) <| qd0 (i := 2) (v := .int .i64 (at_ (at_ m.follow t21) q2)) rfl (by decide +kernel) rfl rfl (zah rfl) (zam rfl) <| qd0 (i := 3) (v := .pointer (some ad116)) rfl (by decide +kernel) rfl rfl (za8 u22 ty101 rfl rfl a116 (by omega) (by omega)) (zam rfl) <| qd0 (i := 4) (v := .pointer (some (ad116.add 0))) rfl (by decide +kernel) rfl rfl (zc6 fd101_0 ty74 rfl rfl) (zam rfl) <| qd1 1 (i := 5) (v := .agg (zaf ((at_ m.spots (at_ (at_ m.follow t21) q2)).set)).toArray) rfl rfl (by decide +kernel) rfl rfl (fun wq hq => (zaj (seg := (zaf ((at_ m.spots (at_ (at_ m.follow t21) q2)).set))) ty74 rfl (by simp) rfl hq)) (zbw rfl (zbz hf128 (zam rfl))) <| qd1 2 (i := 6) (v := .slice A3 b.length c3) rfl rfl (by decide +kernel) rfl rfl (fun wq hq => (zaj (seg := [.slice A3 b.length c3]) ty39 rfl (by simp) r112_2 hq)) (zbw rfl (zbw rfl (zbz hf129 (zam rfl)))) <| qd1 3 (i := 7) (v := .int .i64 k) rfl rfl (by decide +kernel) rfl rfl (fun wq hq => (zaj (seg := [.int .i64 k]) ty3 rfl (by simp) r112_3 hq)) (zbw rfl (zbw rfl (zbw rfl (zbz hf130 (zam rfl))))) <| qd0 (i := 8) (v := .pointer (some ad118)) rfl (by decide +kernel) rfl rfl (za8 u39 ty5 rfl rfl a118 (by omega) (by omega)) (zam rfl) <| qd1 4 (i := 9) (v := .int .u8 (at_ b k)) rfl rfl (by decide +kernel) rfl rfl (fun wq hq => (zaj (seg := [.int .u8 (at_ b k)]) ty5 rfl (by simp) rfl hq)) (zbw rfl (zbw rfl (zbw rfl (zbw rfl (zbz hf131 (zam rfl)))))) <| d_m (i := 10) (v := .bool (has ((at_ m.spots (at_ (at_ m.follow t21) q2)).set) (at_ b k))) (fun _ => True) (fun _ ho => trivial) rfl (by decide +kernel) (by decide +kernel) (by decide +kernel) rfl rfl (fun wq => (za2 (args := [.agg (zaf ((at_ m.spots (at_ (at_ m.follow t21) q2)).set)).toArray, .int .u8 (at_ b k)]) ca80 rfl rfl)) (fun wq hq => (has_calls wq ((at_ m.spots (at_ (at_ m.follow t21) q2)).set) (at_ b k) (in_u8 (by omega) (by omega))).mono fun e w2 he => by obtain ⟨_, rfl, _, T, rfl⟩ := he; exact ⟨rfl, Chg.of_below T.below⟩) (zam rfl) <| zco (by decide +kernel) ?_
    intro wd132 gd132
    have S133 := S126.keep gd132
    refine zb0 (b := has ((at_ m.spots (at_ (at_ m.follow t21) q2)).set) (at_ b k)) rfl (fun hc134 => ?_) (fun hc134 => ?_)
    ·skip
     refine zae (l := [0, 1]) rfl <| p_v (v := .int .i64 (at_ (at_ m.follow t21) q2)) rfl rfl rfl (zah rfl) ?_
     refine p_i rfl rfl rfl (za2 (args := [.pointer (some ⟨b7, 0, none⟩), .int .i64 (at_ (at_ m.follow t21) q2)]) ca81 rfl (zdv r112_4 (zdv rfl rfl))) (zak Tryd.func81 rfl Tryd.ntmps81 rfl ?_)
     have in135 := zb2 f112_0 (i := (at_ (at_ m.follow t21) q2) / 64) (by omega) (by omega)
     have lo135 := zcf in135; have hi135 := zck in135
     have in136 := pow_in (b := (at_ (at_ m.follow t21) q2) % 64) (by omega) (by omega)
     have lo136 := zcf in136; have hi136 := zck in136
     have in137 : inK .u64 (ior (at_ o2 ((at_ (at_ m.follow t21) q2) / 64)) (2 ^ ((at_ (at_ m.follow t21) q2) % 64).toNat)) := ior_in (zc0 (by omega) (by omega)) (zc0 (by omega) (by omega))
     have lo137 := zcf in137; have hi137 := zck in137
     have hf138 : (CFs ⟨b7, 0 + ((at_ (at_ m.follow t21) q2) / 64).toNat * 1, none⟩ [.int .u64 (at_ o2 ((at_ (at_ m.follow t21) q2) / 64))]).1 wd132 := (CF.box (m := 1) (S133.box_at (j := 3) rfl) (cs := (zav .u64 o2)) (zde f112_0 (by omega) (by omega)))
     refine daS (hkC 5 hf138 (hkN (w := wd132))) 13 rfl mixed ?_
     intro wd139 gd139 hd139
     have S140 := S133.keep gd139
     have hf141 := spUp gd139 hf138
     refine qd0 (i := 0) (v := .pointer (some ⟨b7, 0, none⟩)) rfl (by decide +kernel) rfl rfl (zah rfl) (zam rfl) <| qd0 (i := 1) (v := .int .i64 (at_ (at_ m.follow t21) q2)) rfl (by decide +kernel) rfl rfl (zah rfl) (zam rfl) <| qd0 (i := 2) (v := .int .i64 ((at_ (at_ m.follow t21) q2) / 64)) rfl (by decide +kernel) rfl rfl (x_quo rfl rfl (by omega) (by omega) (zal (by omega) (by omega))) (zam rfl) <| qd0 (i := 3) (v := .pointer (some ⟨b7, 0, none⟩)) rfl (by decide +kernel) rfl rfl (zca rfl) (zam rfl) <| qd0 (i := 4) (v := .pointer (some ⟨b7, 0 + ((at_ (at_ m.follow t21) q2) / 64).toNat * 1, none⟩)) rfl (by decide +kernel) rfl rfl (za3 u115 ty56 rfl rfl (by omega) (by omega)) (zam rfl) <| qd1 0 (i := 5) (v := .int .u64 (at_ o2 ((at_ (at_ m.follow t21) q2) / 64))) rfl rfl (by decide +kernel) rfl rfl (fun wq hq => (zaj (seg := [.int .u64 (at_ o2 ((at_ (at_ m.follow t21) q2) / 64))]) ty56 rfl (by simp) rfl hq)) (zbz hf141 (of_nil _ _)) <| qd0 (i := 6) (v := .int .i64 (at_ (at_ m.follow t21) q2)) rfl (by decide +kernel) rfl rfl (zah rfl) (zam rfl) <| qd0 (i := 7) (v := .int .i64 ((at_ (at_ m.follow t21) q2) % 64)) rfl (by decide +kernel) rfl rfl (x_rem rfl rfl (by omega) (by omega)) (zam rfl) <| qd0 (i := 8) (v := .int .u64 (2 ^ ((at_ (at_ m.follow t21) q2) % 64).toNat)) rfl (by decide +kernel) rfl rfl (x_shl_one rfl rfl (by omega) (by omega)) (zam rfl) <| qd0 (i := 9) (v := .int .u64 (ior (at_ o2 ((at_ (at_ m.follow t21) q2) / 64)) (2 ^ ((at_ (at_ m.follow t21) q2) % 64).toNat))) rfl (by decide +kernel) rfl rfl (x_or_u64 rfl rfl (zc0 (by omega) (by omega)) (zc0 (by omega) (by omega))) (zam rfl) <| qd0 (i := 10) (v := .pointer (some ⟨b7, 0, none⟩)) rfl (by decide +kernel) rfl rfl (zca rfl) (zam rfl) <| qd0 (i := 11) (v := .pointer (some ⟨b7, 0 + ((at_ (at_ m.follow t21) q2) / 64).toNat * 1, none⟩)) rfl (by decide +kernel) rfl rfl (za3 u115 ty56 rfl rfl (by omega) (by omega)) (zam rfl) ?_
     refine zb6 (i := 12) (by decide +kernel) ?_
     intro wd142 gd142
     have S143 := S140.keep gd142
     have hf144 := spUp gd142 hf141
     obtain ⟨w145, r145, g145, T145⟩ := zb9 (P := Tryd.prog) (off := 0 + ((at_ (at_ m.follow t21) q2) / 64).toNat * 1) (v := .int .u64 (ior (at_ o2 ((at_ (at_ m.follow t21) q2) / 64)) (2 ^ ((at_ (at_ m.follow t21) q2) % 64).toNat))) (vs := [.int .u64 (ior (at_ o2 ((at_ (at_ m.follow t21) q2) / 64)) (2 ^ ((at_ (at_ m.follow t21) q2) % 64).toNat))]) S143 ty56 rfl rfl (j := 3) rfl (by rw [zdt f112_0]; first|omega|(simp;omega)|assumption|simp) (by simp [Value.oneCell'])
     rw [encInts_put] at T145
     have ok145 : zcy .u64 4 (o2.set ((at_ (at_ m.follow t21) q2) / 64).toNat (ior (at_ o2 ((at_ (at_ m.follow t21) q2) / 64)) (2 ^ ((at_ (at_ m.follow t21) q2) % 64).toNat))) := zed f112_0 _ in137
     have S146 := T145.fx 3 (box b7 115 (zav .u64 (o2.set ((at_ (at_ m.follow t21) q2) / 64).toNat (ior (at_ o2 ((at_ (at_ m.follow t21) q2) / 64)) (2 ^ ((at_ (at_ m.follow t21) q2) % 64).toNat))))) rfl
     dsimp only [lAa, lAn, lA0, lAs] at S146
     refine d_s rfl rfl (za7 rfl rfl r145) (.inr (zbh (by decide +kernel) trivial)) <| zco (by decide +kernel) ?_
     intro wd147 gd147
     have S148 := S146.keep gd147
     refine run_end Tryd.func81 (res0 rfl) ?_
     refine ⟨_, rfl, ?_⟩
     refine zaa <| zas <| zae (l := [0, 1]) rfl <| p_v (v := .int .i64 (q2 + 1)) rfl rfl rfl (zc7 r112_10 rfl (zal (by omega) (by omega))) <| p_v (v := .int .i64 (q2 + 1)) rfl rfl rfl (zah rfl) <| zaa ?_
     refine ih112 (o2.set ((at_ (at_ m.follow t21) q2) / 64).toNat (ior (at_ o2 ((at_ (at_ m.follow t21) q2) / 64)) (2 ^ ((at_ (at_ m.follow t21) q2) % 64).toNat)), q2 + 1) _ _ (by dsimp only; omega) ⟨h112, le112, S148.sub [0, 1, 2, 3] (by decide) rfl _ rfl, r112_1, r112_2, r112_3, r112_4, r112_8, r112_9, rfl, ok145, (zal (by omega) (by omega)), (by first | exact ⟨by omega, by omega, by rw [hI112.2.2, putB_words _ (hx_ (by omega)).1 (by have := hx_ (by omega); omega), read_yes hI112.1 (by omega) (by assumption)]⟩ | exact ⟨by omega, by omega, by rw [hI112.2.2, read_no hI112.1 (by omega) (by assumption)]⟩)⟩
    refine zau <| zas <| zae (l := [0, 1]) rfl <| p_v (v := .int .i64 (q2 + 1)) rfl rfl rfl (zc7 r112_10 rfl (zal (by omega) (by omega))) <| p_v (v := .int .i64 (q2 + 1)) rfl rfl rfl (zah rfl) <| zaa ?_
    refine ih112 (o2, q2 + 1) _ _ (by dsimp only; omega) ⟨h112, le112, S133.sub [0, 1, 2, 3] (by decide) rfl _ rfl, r112_1, r112_2, r112_3, r112_4, r112_8, r112_9, rfl, f112_0, (zal (by omega) (by omega)), (by first | exact ⟨by omega, by omega, by rw [hI112.2.2, putB_words _ (hx_ (by omega)).1 (by have := hx_ (by omega); omega), read_yes hI112.1 (by omega) (by assumption)]⟩ | exact ⟨by omega, by omega, by rw [hI112.2.2, read_no hI112.1 (by omega) (by assumption)]⟩)⟩
   refine zbv rfl <| run_end Tryd.func79 (res0 rfl) ?_
   refine ⟨_, rfl, ?_⟩
   refine zaa <| zas <| zae (l := [0, 1]) rfl <| p_v (v := .int .i64 (t21 + 1)) rfl rfl rfl (zc7 r105_21 rfl (zal (by omega) (by omega))) <| p_v (v := .int .i64 (t21 + 1)) rfl rfl rfl (zah rfl) <| zaa ?_
   refine ih105 (o2, t21 + 1) _ _ (by dsimp only; omega) ⟨h112, ((le105).trans le112), S112.sub [0, 1, 2, 3] (by decide) rfl _ rfl, r105_2, r105_4, r105_6, r105_7, r105_8, r105_20, rfl, f112_0, (zal (by omega) (by omega)), (by first | exact ⟨by omega, by omega, by rw [hI112.2.2, read_end (by omega), out_yes hI105.1 (by assumption)]⟩ | exact ⟨by omega, by omega, by rw [hI105.2.2, out_no hI105.1 (by assumption)]⟩)⟩
  refine zau <| zas <| zae (l := [0, 1]) rfl <| p_v (v := .int .i64 (t21 + 1)) rfl rfl rfl (zc7 r105_21 rfl (zal (by omega) (by omega))) <| p_v (v := .int .i64 (t21 + 1)) rfl rfl rfl (zah rfl) <| zaa ?_
  refine ih105 (out, t21 + 1) _ _ (by dsimp only; omega) ⟨h105, le105, S108.sub [0, 1, 2, 3] (by decide) rfl _ rfl, r105_2, r105_4, r105_6, r105_7, r105_8, r105_20, rfl, f105_0, (zal (by omega) (by omega)), (by first | exact ⟨by omega, by omega, by rw [hI112.2.2, read_end (by omega), out_yes hI105.1 (by assumption)]⟩ | exact ⟨by omega, by omega, by rw [hI105.2.2, out_no hI105.1 (by assumption)]⟩)⟩
 refine zbv rfl <| zac <| zae (l := [0, 1]) rfl <| p_v (v := .agg (zaf (zbl out)).toArray) rfl rfl rfl (zaj (seg := (zaf (zbl out))) zd2 rfl (by simp) r105_7 (CF.box (m := 4) (S105.box_at (j := 3) rfl) (by rw [← encSet_of f105_0]; exact encInts_full f105_0))) ?_
 obtain ⟨w149, r149, g149, T149⟩ := zb9 (P := Tryd.prog) (off := 0) (v := .agg (zaf (zbl out)).toArray) (vs := (zaf (zbl out))) S105 zd2 rfl rfl (j := 2) rfl (by first | decide | exact Nat.le_of_ble_eq_true rfl) (zdn _)
 have S150 := T149.fx 2 (box b5 115 (zaf (zbl out))) rfl
 dsimp only [lAa, lAn, lA0, lAs] at S150
 refine p_s rfl rfl (za7 r105_6 rfl r149) <| zaa <| zar Tryd.func78 (res1 rfl (zdg S150 zd2 r105_6 (j := 2) rfl rfl (by simp) rfl)) ?_
 have q0 : (zbt m b s k : BSet) = (zbl out) := by
  rw [hI105.2.2, of_words, nextB_eq, show t21 = (m.spots.length : Int) by omega]
 refine ⟨_, rfl, h105, ?_, ?_⟩
 · exact S150.sub [] (by decide) rfl _ rfl
 · (simp only [q0]; rfl)
theorem final_calls (w : World) (s : BSet) (m : Mach) (A1_0 : Option Addr) (c1_0 : Nat) (b1_0 : m.spots.length ≤ c1_0 ∧ c1_0 ≤ maxLen) (l1_0 : zbo kSpot (hp w) A1_0 m.spots) (A1_1 : Option Addr) (c1_1 : Nat) (b1_1 : m.first.length ≤ c1_1 ∧ c1_1 ≤ maxLen) (l1_1 : zbo (Kd.int .i64) (hp w) A1_1 m.first) (A1_2 : Option Addr) (c1_2 : Nat) (b1_2 : m.follow.length ≤ c1_2 ∧ c1_2 ≤ maxLen) (l1_2 : zbo (Kd.int .i64).slice (hp w) A1_2 m.follow) (A1_3 : Option Addr) (c1_3 : Nat) (b1_3 : m.last.length ≤ c1_3 ∧ c1_3 ≤ maxLen) (l1_3 : zbo Kd.bool (hp w) A1_3 m.last) (a1 : Addr) (pc1 : ∀ j v, [.slice A1_0 m.spots.length c1_0, .slice A1_1 m.first.length c1_1, .slice A1_2 m.follow.length c1_2, .slice A1_3 m.last.length c1_3, .bool m.empty][j]? = some v → gcell (hp w) (a1.add j) = some v) (pre0 : Right m) :
    Calls Tryd.prog 84 #[.agg (zaf s).toArray, .pointer (some a1)] w fun e w' => ∃ v, e = .returned v ∧ ∃ (hn : Ghost), St w.heap.size w hn w' [] ∧ v = .bool (zdh m s) := by
 refine zak Tryd.func84 rfl Tryd.ntmps84 rfl ?_
 have S0 := St.init w
 have bb1_0 := b1_0.1; have bc1_0 := b1_0.2; simp only [maxLen] at bc1_0
 have bb1_1 := b1_1.1; have bc1_1 := b1_1.2; simp only [maxLen] at bc1_1
 have bb1_2 := b1_2.1; have bc1_2 := b1_2.2; simp only [maxLen] at bc1_2
 have bb1_3 := b1_3.1; have bc1_3 := b1_3.2; simp only [maxLen] at bc1_3
 have hR_ := pre0; have hsm_ := hR_.small; have hla_ := hR_.last
 refine zac <| zae (l := [0, 1]) rfl ?_
 obtain ⟨b1, w1, r1, g1, T1⟩ := zcb (P := Tryd.prog) S0 115 (v := .agg (zaf s).toArray) (zaf s) rfl
 have S2 := T1
 dsimp only [lAa, lAn, lA0, lAs] at S2
 refine p_v (v := .pointer (some ⟨b1, 0, none⟩)) rfl rfl rfl (zdo rfl r1) <| p_v (v := .bool false) rfl rfl rfl (zag rfl) <| zaa <| zac <| zac ?_
 have hf4 : (CFs ⟨b1, 0, none⟩ (zaf s)).1 w1 := (CF.box (m := 4) (S2.box_at (j := 0) rfl) rfl)
 refine daS (hkC 0 hf4 (hkN (w := w1))) 3 rfl mixed ?_
 intro wd5 gd5 hd5
 have S6 := S2.keep gd5
 have hf7 := spUp gd5 hf4
 refine qd1 0 (i := 0) (v := .agg (zaf s).toArray) rfl rfl (by decide +kernel) rfl rfl (fun wq hq => (zaj (seg := (zaf s)) zd2 rfl (by simp) rfl hq)) (zbz hf7 (of_nil _ _)) <| d_m (i := 1) (v := .agg (zaf beginB).toArray) (fun _ => True) (fun _ ho => trivial) rfl (by decide +kernel) (by decide +kernel) (by decide +kernel) rfl rfl (fun wq => (za2 (args := []) ca82 rfl rfl)) (fun wq hq => (begun_calls wq ).mono fun e w2 he => by obtain ⟨_, rfl, _, T, rfl⟩ := he; exact ⟨rfl, Chg.of_below T.below⟩) (zam rfl) <| qd0 (i := 2) (v := .bool (decide (s = beginB))) rfl (by decide +kernel) rfl rfl (x_eql_set u115 u56 ty56 q115 rfl rfl) (zam rfl) <| zco (by decide +kernel) ?_
 intro wd8 gd8
 have S9 := S6.keep gd8
 refine zan (p := s = beginB) rfl (fun hc10 => ?_) (fun hc10 => ?_)
 ·skip
  refine zac <| zae (l := [0, 1, 2]) rfl <| p_v (v := .pointer (some (a1.add 4))) rfl rfl rfl (zc6 fd27_4 ty4 rfl rfl) <| p_v (v := .bool m.empty) rfl rfl rfl (zaj (seg := [.bool m.empty]) ty4 rfl (by simp) rfl (CF.ghost (zea (o := 4) (m := 1) (ds := [.bool m.empty]) pc1 rfl) (St.le0 S9))) <| p_v (v := .bool m.empty) rfl rfl rfl (zag rfl) <| zaa <| zar Tryd.func84 (res1 rfl (zaw (v := .bool m.empty) rfl)) ?_
  have q0 : (zdh m s : Bool) = m.empty := by
   exact finalB_begin (by assumption)
  refine ⟨_, rfl, (fun _ => none), ?_, ?_⟩
  · exact S9.sub [] (by decide) rfl _ rfl
  · first | rfl | (simp only [q0]; rfl) | (simp only [q0])
 refine zau <| zac <| zac <| zae (l := [0, 1, 2, 3]) rfl <| p_v (v := .pointer (some (a1.add 3))) rfl rfl rfl (zc6 fd27_3 ty25 rfl rfl) <| p_v (v := .slice A1_3 m.last.length c1_3) rfl rfl rfl (zaj (seg := [.slice A1_3 m.last.length c1_3]) ty25 rfl (by simp) rfl (CF.ghost (zea (o := 3) (m := 1) (ds := [.slice A1_3 m.last.length c1_3]) pc1 rfl) (St.le0 S9))) <| p_v (v := .int .i64 (m.last.length : Int)) rfl rfl rfl (za0 u25 rfl) <| p_v (v := .int .i64 0) rfl rfl rfl (zah rfl) <| zaa <| zaq <| zbu (S := Int) (fun (q_ : Int) ρ w' => match q_ with | t14 => ∃ (h : Ghost), Le (fun _ => none) h ∧ St w.heap.size w h w' [box b1 115 (zaf s)] ∧ ρ 2 = .pointer (some ⟨b1, 0, none⟩) ∧ ρ 12 = .slice A1_3 m.last.length c1_3 ∧ ρ 13 = .int .i64 (m.last.length : Int) ∧ ρ 14 = .int .i64 t14 ∧ inK .i64 t14 ∧ (0 ≤ t14 ∧ t14 ≤ (m.last.length : Int) ∧ lastB m s t14 = false)) (fun q_ => match q_ with | t14 => (m.last.length - t14).toNat) (0) ⟨(fun _ => none), Le.refl _, S9.sub [0] (by decide) rfl _ rfl, rfl, rfl, rfl, rfl, (zal (by omega) (by omega)), (by exact ⟨by omega, by omega, lastB_0 m s⟩)⟩ ?_
 rintro t14 ih14 ρ14 w14 ⟨h14, le14, S14, r14_2, r14_12, r14_13, r14_14, f14_0, hI14⟩
 have lf14_0 := zbb f14_0; have hf14_0 := zbc f14_0
 have hi0_ := hI14.1
 refine zac <| zae (l := [0]) rfl <| p_v (v := .bool (decide (t14 < (m.last.length : Int)))) rfl rfl rfl (zdy r14_14 r14_13) <| zaa <| zac ?_
 refine zan (p := t14 < (m.last.length : Int)) rfl (fun hc15 => ?_) (fun hc15 => ?_)
 ·skip
  refine zau <| zac <| zaq <| zac <| zae (l := [0, 1, 2, 3, 4]) rfl <| p_v (v := .int .i64 t14) rfl rfl rfl (zah r14_14) ?_
  obtain ⟨ad16, seg16, a16, rp16, ce16⟩ := za9 (q := t14) (m := 1) l1_3 rfl (by omega) (by omega)
  refine p_v (v := .pointer (some ad16)) rfl rfl rfl (za8 u25 ty4 r14_12 r14_14 a16 (by omega) (by omega)) ?_
  obtain ⟨rfl, _⟩ := rp16
  refine p_v (v := .bool (at_ m.last t14)) rfl rfl rfl (zaj (seg := [.bool (at_ m.last t14)]) ty4 rfl (by simp) rfl (CF.ghost ce16 (St.le0 S14))) <| p_v (v := .int .i64 t14) rfl rfl rfl (zag rfl) <| p_v (v := .bool (at_ m.last t14)) rfl rfl rfl (zag rfl) <| zaa <| zac <| zae (l := [0, 1, 2, 3, 4, 5]) rfl <| p_v (v := .bool (at_ m.last t14)) rfl rfl rfl (zah rfl) <| p_v (v := .bool (at_ m.last t14)) rfl rfl rfl (zah rfl) ?_
  rcases Bool.eq_false_or_eq_true (at_ m.last t14) with hc17 | hc17
  ·skip
   refine p_v (v := .agg (zaf s).toArray) rfl (wo 1 20 rfl rfl (congrArg Value.bool hc17) rfl) rfl (zaj (seg := (zaf s)) zd2 rfl (by simp) r14_2 (CF.box (m := 4) (S14.box_at (j := 0) rfl) rfl)) <| p_v (v := .int .i64 t14) rfl (wo 1 20 rfl rfl (congrArg Value.bool hc17) rfl) rfl (zah rfl) <| p_c rfl (wo 1 20 rfl rfl (congrArg Value.bool hc17) rfl) rfl (za2 (args := [.agg (zaf s).toArray, .int .i64 t14]) ca83 rfl rfl) (dhas_calls w14 s t14 f14_0 (by first | assumption | exact ⟨by omega, by omega⟩)) ?_
   rintro _ w18 ⟨h18, T18, rfl⟩
   have S19 := S14.keep (Chg.of_below T18.below)
   refine p_v (v := .bool (has s t14)) rfl rfl rfl (zby (congrArg Value.bool hc17) rfl) <| zaa ?_
   refine zb0 (b := has s t14) rfl (fun hc20 => ?_) (fun hc20 => ?_)
   ·skip
    refine zac <| zae (l := [0]) rfl <| p_v (v := .bool true) rfl rfl rfl (zag rfl) <| zaa <| zar Tryd.func84 (res1 rfl (zaw (v := .bool true) rfl)) ?_
    have q0 : (zdh m s : Bool) = true := by
     exact finalB_yes (by assumption) hI14.1 (by omega) (by assumption) (by assumption)
    refine ⟨_, rfl, h14, ?_, ?_⟩
    · exact S19.sub [] (by decide) rfl _ rfl
    · first | rfl | (simp only [q0]; rfl) | (simp only [q0])
   refine zau <| zas <| zae (l := [0, 1]) rfl <| p_v (v := .int .i64 (t14 + 1)) rfl rfl rfl (zc7 r14_14 rfl (zal (by omega) (by omega))) <| p_v (v := .int .i64 (t14 + 1)) rfl rfl rfl (zah rfl) <| zaa ?_
   refine ih14 (t14 + 1) _ _ (by dsimp only; omega) ⟨h14, le14, S19.sub [0] (by decide) rfl _ rfl, r14_2, r14_12, r14_13, rfl, (zal (by omega) (by omega)), (by first | exact ⟨by omega, by omega, lastB_step hI14.1 hI14.2.2 (by rw [(by assumption : at_ m.last t14 = false)]; rfl)⟩ | exact ⟨by omega, by omega, lastB_step hI14.1 hI14.2.2 (by rw [(by assumption : has s t14 = false)]; simp)⟩)⟩
  refine zbi rfl (wo 1 20 rfl rfl (congrArg Value.bool hc17) rfl) rfl <| zbi rfl (wo 1 20 rfl rfl (congrArg Value.bool hc17) rfl) rfl <| zbi rfl (wo 1 20 rfl rfl (congrArg Value.bool hc17) rfl) rfl <| p_v (v := .bool false) rfl rfl rfl (zc2 (congrArg Value.bool hc17) rfl) <| zaa <| zc3 (b := false) rfl ?_
  simp only [if_true, if_false, Bool.false_eq_true]
  refine zau <| zas <| zae (l := [0, 1]) rfl <| p_v (v := .int .i64 (t14 + 1)) rfl rfl rfl (zc7 r14_14 rfl (zal (by omega) (by omega))) <| p_v (v := .int .i64 (t14 + 1)) rfl rfl rfl (zah rfl) <| zaa ?_
  refine ih14 (t14 + 1) _ _ (by dsimp only; omega) ⟨h14, le14, S14.sub [0] (by decide) rfl _ rfl, r14_2, r14_12, r14_13, rfl, (zal (by omega) (by omega)), (by first | exact ⟨by omega, by omega, lastB_step hI14.1 hI14.2.2 (by rw [(by assumption : at_ m.last t14 = false)]; rfl)⟩ | exact ⟨by omega, by omega, lastB_step hI14.1 hI14.2.2 (by rw [(by assumption : has s t14 = false)]; simp)⟩)⟩
 refine zbv rfl <| zac <| zae (l := [0]) rfl <| p_v (v := .bool false) rfl rfl rfl (zag rfl) <| zaa <| zar Tryd.func84 (res1 rfl (zaw (v := .bool false) rfl)) ?_
 have q0 : (zdh m s : Bool) = false := by
  exact finalB_no (by assumption) (by omega) (by omega) hI14.2.2
 refine ⟨_, rfl, h14, ?_, ?_⟩
 · exact S14.sub [] (by decide) rfl _ rfl
 · (simp only [q0])
theorem leastD_calls (w : World) (p : PartM) (o0 : zbx p) (tb : Block 0 tzTab w) :
    Calls Tryd.prog 77 #[.agg (zab p).toArray] w fun e w' => ∃ v, e = .returned v ∧ ∃ (hn : Ghost) (r0 : Value), St w.heap.size w hn w' [row 5 (Kd.int .u8) r0 (zat p)] ∧ v = r0 := by
 refine zak Tryd.func77 rfl Tryd.ntmps77 rfl ?_
 have S0 := St.init w
 have ploo0 := zbb o0.2; have phio0 := zbc o0.2
 refine zac <| zae (l := [0, 1]) rfl ?_
 obtain ⟨b1, w1, r1, g1, T1⟩ := zcb (P := Tryd.prog) S0 32 (v := .agg (zab p).toArray) (zab p) rfl
 have S2 := T1
 dsimp only [lAa, lAn, lA0, lAs] at S2
 refine p_v (v := .pointer (some ⟨b1, 0, none⟩)) rfl rfl rfl (zdo rfl r1) <| p_v (v := .slice none 0 0) rfl rfl rfl (zag rfl) <| zaa <| zac <| zae (l := [0]) rfl <| p_v (v := .slice none 0 0) rfl rfl rfl (zag rfl) <| zaa <| zac <| zac <| zae (l := [0, 1, 2, 3]) rfl <| p_v (v := .agg (zab p).toArray) rfl rfl rfl (zaj (seg := (zab p)) ty32 (zad o0) (by simp) rfl (CF.box (m := 257) (S2.box_at (j := 0) rfl) (by rw [List.drop_zero, List.take_of_length_le (by rw [zad o0]; exact Nat.le_refl _)]))) <| p_c rfl rfl rfl (za2 (args := [.agg (zab p).toArray, .int .i64 1]) ca86 rfl rfl) (least_calls w1 p o0 1 (zal (by omega) (by omega)) (Block.st S2 tb)) ?_
 rintro v3_0 w3 ⟨h3, _, T3, rfl⟩
 obtain ⟨k3, lk3, ll3, U3⟩ := zcl S2 T3
 have S4 := U3
 dsimp only [lAa, lAn, lA0, lAs] at S4
 obtain ⟨h5, le5, T5, rp5⟩ := S4.freeze (i := 1) rfl
 have lf5_0 := (lk3).trans le5
 have S6 := T5.fx 1 (emp) rfl
 dsimp only [lAa, lAn, lA0, lAs] at S6
 obtain ⟨A5, c5, e5, lc5, cm5, ld5⟩ := rp5
 injection e5 with e5 _; subst e5
 have cn5 := cm5; simp only [maxLen] at cn5
 refine p_v (v := .int .i64 ((zb1 p 1).length : Int)) rfl rfl rfl (za0 u124 rfl) <| p_v (v := .int .i64 0) rfl rfl rfl (zah rfl) <| zaa <| zaq ?_
 have T7 := S6.row_nil 5 (Kd.int .u8)
 obtain ⟨vn7, ev7, T7⟩ : ∃ v, v = (.slice none 0 0 : Value) ∧ St w.heap.size w h5 w3 ([box b1 32 (zab p), emp] ++ [row 5 (Kd.int .u8) v []]) := ⟨_, rfl, T7⟩
 have S8 := T7
 dsimp only [lAa, lAn, lA0, lAs] at S8
 refine zbu (S := (List Int) × Int) (fun (q_ : (List Int) × Int) ρ w' => match q_ with | (out, t9) => ∃ (h : Ghost) (v_out : Value), Le h5 h ∧ St w.heap.size w h w' [row 5 (Kd.int .u8) v_out out] ∧ ρ 3 = v_out ∧ ρ 7 = .slice A5 (zb1 p 1).length c5 ∧ ρ 8 = .int .i64 ((zb1 p 1).length : Int) ∧ ρ 9 = .int .i64 t9 ∧ inK .i64 t9 ∧ (0 ≤ t9 ∧ t9 ≤ ((zb1 p 1).length : Int) ∧ out = zdx p t9)) (fun q_ => match q_ with | (out, t9) => ((zb1 p 1).length - t9).toNat) (([] : List Int), 0) ⟨h5, vn7, Le.refl _, S8.sub [2] (by decide) rfl _ rfl, (ev7.symm), rfl, rfl, rfl, (zal (by omega) (by omega)), (by exact ⟨by omega, by omega, leastB_0 p⟩)⟩ ?_
 rintro ⟨out, t9⟩ ih9 ρ9 w9 ⟨h9, v_out, le9, S9, r9_3, r9_7, r9_8, r9_9, f9_0, hI9⟩
 have lf9_0 := zbb f9_0; have hf9_0 := zbc f9_0
 have rl9_0 := S9.row_le (j := 0) rfl; simp only [maxLen] at rl9_0
 have hl_ : (out.length : Int) ≤ 256 := by rw [hI9.2.2]; exact leastBTo_len p _
 have hq_ := hI9.1
 have hr_ : t9 < ((zb1 p 1).length : Int) → ((at_ (zb1 p 1) t9).length : Int) ≤ 1 := fun h => leastP_row p hI9.1 h
 refine zac <| zae (l := [0]) rfl <| p_v (v := .bool (decide (t9 < ((zb1 p 1).length : Int)))) rfl rfl rfl (zdy r9_9 r9_8) <| zaa <| zac ?_
 refine zan (p := t9 < ((zb1 p 1).length : Int)) rfl (fun hc10 => ?_) (fun hc10 => ?_)
 ·skip
  refine zau <| zac <| zaq <| zac <| zae (l := [0, 1, 2]) rfl ?_
  obtain ⟨ad11, seg11, a11, rp11, ce11⟩ := za9 (q := t9) (m := 1) ld5 rfl (by omega) (by omega)
  refine p_v (v := .pointer (some ad11)) rfl rfl rfl (za8 u124 ty39 r9_7 r9_9 a11 (by omega) (by omega)) ?_
  obtain ⟨A11, c11, rfl, lc11, cm11, ld11⟩ := rp11
  have cn11 := cm11; simp only [maxLen] at cn11
  refine p_v (v := .slice A11 (at_ (zb1 p 1) t9).length c11) rfl rfl rfl (zaj (seg := [.slice A11 (at_ (zb1 p 1) t9).length c11]) ty39 rfl (by simp) rfl (CF.ghost ce11 (le9.trans S9.ghost))) <| p_v (v := .slice A11 (at_ (zb1 p 1) t9).length c11) rfl rfl rfl (zag rfl) <| zaa <| zae (l := [0, 1, 2, 3]) rfl <| p_v (v := v_out) rfl rfl rfl (zah r9_3) <| p_v (v := .slice A11 (at_ (zb1 p 1) t9).length c11) rfl rfl rfl (zah rfl) ?_
  obtain ⟨v13, w13, r13, g13, T13⟩ := zcw (kd := (Kd.int .u8)) (A := A11) (c := c11) (ys := (at_ (zb1 p 1) t9)) (len := (at_ (zb1 p 1) t9).length) 39 S9 u39 ty5 rfl rfl (j := 0) rfl rfl (news_flat (ld11.mono (le9.trans S9.ghost)) (fun _ _ hr => hr)) (by omega) (by omega)
  have S14 := T13.fx 0 (row 5 (Kd.int .u8) v13 (out ++ (at_ (zb1 p 1) t9))) rfl
  dsimp only [lAa, lAn, lA0, lAs] at S14
  refine p_v (v := v13) rfl rfl rfl (zcv rfl rfl r13) <| p_v (v := v13) rfl rfl rfl (zag rfl) <| zaa <| zas <| zae (l := [0, 1]) rfl <| p_v (v := .int .i64 (t9 + 1)) rfl rfl rfl (zc7 r9_9 rfl (zal (by omega) (by omega))) <| p_v (v := .int .i64 (t9 + 1)) rfl rfl rfl (zah rfl) <| zaa ?_
  refine ih9 (out ++ (at_ (zb1 p 1) t9), t9 + 1) _ _ (by dsimp only; omega) ⟨h9, v13, le9, S14.sub [0] (by decide) rfl _ rfl, rfl, r9_7, r9_8, rfl, (zal (by omega) (by omega)), (by exact ⟨by omega, by omega, by rw [hI9.2.2]; exact leastB_step p hI9.1 (by omega)⟩)⟩
 refine zbv rfl <| zac <| zae (l := [0, 1]) rfl <| p_v (v := v_out) rfl rfl rfl (zah r9_3) <| p_v (v := v_out) rfl rfl rfl (zag rfl) <| zaa <| zar Tryd.func77 (res1 rfl (zaw (v := v_out) rfl)) ?_
 have q0 : (zat p : List Int) = out := by
  rw [hI9.2.2]; exact leastB_end p (by omega)
 refine ⟨_, rfl, h9, v_out, ?_, ?_⟩
 · rw [q0]; exact S9.sub [0] (by decide) rfl _ rfl
 · rfl
theorem leastL_calls (w : World) (p : PartM) (o0 : zbx p) (tb : Block 0 tzTab w) :
    Calls Tryd.prog 22 #[.agg (zab p).toArray] w fun e w' => ∃ v, e = .returned v ∧ ∃ (hn : Ghost) (r0 : Value), St w.heap.size w hn w' [row 5 (Kd.int .u8) r0 (zat p)] ∧ v = r0 := by
 refine zak Tryd.func22 rfl Tryd.ntmps22 rfl ?_
 have S0 := St.init w
 have ploo0 := zbb o0.2; have phio0 := zbc o0.2
 refine zac <| zae (l := [0, 1]) rfl ?_
 obtain ⟨b1, w1, r1, g1, T1⟩ := zcb (P := Tryd.prog) S0 32 (v := .agg (zab p).toArray) (zab p) rfl
 have S2 := T1
 dsimp only [lAa, lAn, lA0, lAs] at S2
 refine p_v (v := .pointer (some ⟨b1, 0, none⟩)) rfl rfl rfl (zdo rfl r1) <| p_v (v := .slice none 0 0) rfl rfl rfl (zag rfl) <| zaa <| zac <| zae (l := [0]) rfl <| p_v (v := .slice none 0 0) rfl rfl rfl (zag rfl) <| zaa <| zac <| zae (l := [0, 1, 2]) rfl <| p_v (v := .agg (zab p).toArray) rfl rfl rfl (zaj (seg := (zab p)) ty32 (zad o0) (by simp) rfl (CF.box (m := 257) (S2.box_at (j := 0) rfl) (by rw [List.drop_zero, List.take_of_length_le (by rw [zad o0]; exact Nat.le_refl _)]))) <| p_c rfl rfl rfl (za2 (args := [.agg (zab p).toArray, .int .i64 1]) ca86 rfl rfl) (least_calls w1 p o0 1 (zal (by omega) (by omega)) (Block.st S2 tb)) ?_
 rintro v3_0 w3 ⟨h3, _, T3, rfl⟩
 obtain ⟨k3, lk3, ll3, U3⟩ := zcl S2 T3
 have S4 := U3
 dsimp only [lAa, lAn, lA0, lAs] at S4
 obtain ⟨h5, le5, T5, rp5⟩ := S4.freeze (i := 1) rfl
 have lf5_0 := (lk3).trans le5
 have S6 := T5.fx 1 (emp) rfl
 dsimp only [lAa, lAn, lA0, lAs] at S6
 obtain ⟨A5, c5, e5, lc5, cm5, ld5⟩ := rp5
 injection e5 with e5 _; subst e5
 have cn5 := cm5; simp only [maxLen] at cn5
 refine p_v (v := .slice A5 (zb1 p 1).length c5) rfl rfl rfl (zag rfl) <| zaa <| zac <| zac <| zae (l := [0]) rfl <| p_v (v := .int .i64 0) rfl rfl rfl (zag rfl) <| zaa <| zaq ?_
 have T7 := S6.row_nil 5 (Kd.int .u8)
 obtain ⟨vn7, ev7, T7⟩ : ∃ v, v = (.slice none 0 0 : Value) ∧ St w.heap.size w h5 w3 ([box b1 32 (zab p), emp] ++ [row 5 (Kd.int .u8) v []]) := ⟨_, rfl, T7⟩
 have S8 := T7
 dsimp only [lAa, lAn, lA0, lAs] at S8
 refine zbu (S := (List Int) × Int) (fun (q_ : (List Int) × Int) ρ w' => match q_ with | (out, i) => ∃ (h : Ghost) (v_out : Value), Le h5 h ∧ St w.heap.size w h w' [row 5 (Kd.int .u8) v_out out] ∧ ρ 3 = v_out ∧ ρ 4 = .slice A5 (zb1 p 1).length c5 ∧ ρ 5 = .int .i64 i ∧ inK .i64 i ∧ (0 ≤ i ∧ i ≤ ((zb1 p 1).length : Int) ∧ out = zdx p i)) (fun q_ => match q_ with | (out, i) => ((zb1 p 1).length - i).toNat) (([] : List Int), 0) ⟨h5, vn7, Le.refl _, S8.sub [2] (by decide) rfl _ rfl, (ev7.symm), rfl, rfl, (zal (by omega) (by omega)), (by exact ⟨by omega, by omega, leastB_0 p⟩)⟩ ?_
 rintro ⟨out, i⟩ ih9 ρ9 w9 ⟨h9, v_out, le9, S9, r9_3, r9_4, r9_5, f9_0, hI9⟩
 have lf9_0 := zbb f9_0; have hf9_0 := zbc f9_0
 have rl9_0 := S9.row_le (j := 0) rfl; simp only [maxLen] at rl9_0
 have hl_ : (out.length : Int) ≤ 256 := by rw [hI9.2.2]; exact leastBTo_len p _
 have hq_ := hI9.1
 have hr_ : i < ((zb1 p 1).length : Int) → ((at_ (zb1 p 1) i).length : Int) ≤ 1 := fun h => leastP_row p hI9.1 h
 refine zac <| zac <| zae (l := [0, 1, 2, 3]) rfl <| p_v (v := .int .i64 i) rfl rfl rfl (zah r9_5) <| p_v (v := .slice A5 (zb1 p 1).length c5) rfl rfl rfl (zah r9_4) <| p_v (v := .int .i64 ((zb1 p 1).length : Int)) rfl rfl rfl (za0 u124 rfl) <| p_v (v := .bool (decide (i < ((zb1 p 1).length : Int)))) rfl rfl rfl (zdy rfl rfl) <| zaa ?_
 refine zan (p := i < ((zb1 p 1).length : Int)) rfl (fun hc10 => ?_) (fun hc10 => ?_)
 ·skip
  refine zau <| zac <| zaq <| zae (l := [0, 1, 2, 3, 4, 5, 6]) rfl <| p_v (v := v_out) rfl rfl rfl (zah r9_3) <| p_v (v := .slice A5 (zb1 p 1).length c5) rfl rfl rfl (zah r9_4) <| p_v (v := .int .i64 i) rfl rfl rfl (zah r9_5) ?_
  obtain ⟨ad11, seg11, a11, rp11, ce11⟩ := za9 (q := i) (m := 1) ld5 rfl (by omega) (by omega)
  refine p_v (v := .pointer (some ad11)) rfl rfl rfl (za8 u124 ty39 rfl rfl a11 (by omega) (by omega)) ?_
  obtain ⟨A11, c11, rfl, lc11, cm11, ld11⟩ := rp11
  have cn11 := cm11; simp only [maxLen] at cn11
  refine p_v (v := .slice A11 (at_ (zb1 p 1) i).length c11) rfl rfl rfl (zaj (seg := [.slice A11 (at_ (zb1 p 1) i).length c11]) ty39 rfl (by simp) rfl (CF.ghost ce11 (le9.trans S9.ghost))) ?_
  obtain ⟨v13, w13, r13, g13, T13⟩ := zcw (kd := (Kd.int .u8)) (A := A11) (c := c11) (ys := (at_ (zb1 p 1) i)) (len := (at_ (zb1 p 1) i).length) 39 S9 u39 ty5 rfl rfl (j := 0) rfl rfl (news_flat (ld11.mono (le9.trans S9.ghost)) (fun _ _ hr => hr)) (by omega) (by omega)
  have S14 := T13.fx 0 (row 5 (Kd.int .u8) v13 (out ++ (at_ (zb1 p 1) i))) rfl
  dsimp only [lAa, lAn, lA0, lAs] at S14
  refine p_v (v := v13) rfl rfl rfl (zcv rfl rfl r13) <| p_v (v := v13) rfl rfl rfl (zag rfl) <| zaa <| zas <| zae (l := [0, 1, 2]) rfl <| p_v (v := .int .i64 i) rfl rfl rfl (zah r9_5) <| p_v (v := .int .i64 (i + 1)) rfl rfl rfl (zc7 rfl rfl (zal (by omega) (by omega))) <| p_v (v := .int .i64 (i + 1)) rfl rfl rfl (zag rfl) <| zaa ?_
  refine ih9 (out ++ (at_ (zb1 p 1) i), i + 1) _ _ (by dsimp only; omega) ⟨h9, v13, le9, S14.sub [0] (by decide) rfl _ rfl, rfl, r9_4, rfl, (zal (by omega) (by omega)), (by exact ⟨by omega, by omega, by rw [hI9.2.2]; exact leastB_step p hI9.1 (by omega)⟩)⟩
 refine zbv rfl <| zac <| zae (l := [0, 1]) rfl <| p_v (v := v_out) rfl rfl rfl (zah r9_3) <| p_v (v := v_out) rfl rfl rfl (zag rfl) <| zaa <| zar Tryd.func22 (res1 rfl (zaw (v := v_out) rfl)) ?_
 have q0 : (zat p : List Int) = out := by
  rw [hI9.2.2]; exact leastB_end p (by omega)
 refine ⟨_, rfl, h9, v_out, ?_, ?_⟩
 · rw [q0]; exact S9.sub [0] (by decide) rfl _ rfl
 · rfl
theorem fits1_calls (w : World) (s : BSet) (p : PartM) (o1 : zbx p) (a1 : Addr) (pc1 : ∀ j v, (zab p)[j]? = some v → gcell (hp w) (a1.add j) = some v) :
    Calls Tryd.prog 132 #[.agg (zaf s).toArray, .pointer (some a1)] w fun e w' => ∃ v, e = .returned v ∧ ∃ (hn : Ghost), St w.heap.size w hn w' [] ∧ v = .bool (zdr p s) := by
 refine zak Tryd.func132 rfl Tryd.ntmps132 rfl ?_
 have S0 := St.init w
 have ploo1 := zbb o1.2; have phio1 := zbc o1.2
 refine zac <| zae (l := [0, 1]) rfl ?_
 obtain ⟨b1, w1, r1, g1, T1⟩ := zcb (P := Tryd.prog) S0 74 (v := .agg (zaf s).toArray) (zaf s) rfl
 have S2 := T1
 dsimp only [lAa, lAn, lA0, lAs] at S2
 refine p_v (v := .pointer (some ⟨b1, 0, none⟩)) rfl rfl rfl (zdo rfl r1) <| p_v (v := .bool false) rfl rfl rfl (zag rfl) <| zaa <| zac <| zae (l := [0, 1, 2, 3]) rfl <| p_v (v := .agg (zab p).toArray) rfl rfl rfl (zaj (seg := (zab p)) ty32 (zad o1) (by simp) rfl (CF.ghost pc1 (St.le0 S2))) <| p_v (v := .agg (zaf s).toArray) rfl rfl rfl (zaj (seg := (zaf s)) ty74 rfl (by simp) rfl (CF.box (m := 4) (S2.box_at (j := 0) rfl) rfl)) <| p_c rfl rfl rfl (za2 (args := [.agg (zab p).toArray, .agg (zaf s).toArray]) ca89 rfl rfl) (splits_calls w1 p o1 s) ?_
 rintro _ w3 ⟨h3, T3, rfl⟩
 have S4 := S2.keep (Chg.of_below T3.below)
 refine p_v (v := .bool (zdr p s)) rfl rfl rfl (zag rfl) <| zaa <| zar Tryd.func132 (res1 rfl (zaw (v := .bool (zdr p s)) rfl)) ?_
 have q0 : (zdr p s : Bool) = zdr p s := rfl
 refine ⟨_, rfl, (fun _ => none), ?_, ?_⟩
 · exact S4.sub [] (by decide) rfl _ rfl
 · rfl
theorem fits_calls (w : World) (p : PartM) (o0 : zbx p) (l : List BSet) (A1 : Option Addr) (c1 : Nat) (b1 : l.length ≤ c1 ∧ c1 ≤ maxLen) (l1 : zbo kSet (hp w) A1 l) :
    Calls Tryd.prog 76 #[.agg (zab p).toArray, .slice A1 l.length c1] w fun e w' => ∃ v, e = .returned v ∧ ∃ (hn : Ghost), St w.heap.size w hn w' [] ∧ v = .bool (fitsP p l) := by
 refine zak Tryd.func76 rfl Tryd.ntmps76 rfl ?_
 have S0 := St.init w
 have ploo0 := zbb o0.2; have phio0 := zbc o0.2
 have bb1 := b1.1; have bc1 := b1.2; simp only [maxLen] at bc1
 refine zac <| zae (l := [0, 1]) rfl ?_
 obtain ⟨b1, w1, r1, g1, T1⟩ := zcb (P := Tryd.prog) S0 32 (v := .agg (zab p).toArray) (zab p) rfl
 have S2 := T1
 dsimp only [lAa, lAn, lA0, lAs] at S2
 refine p_v (v := .pointer (some ⟨b1, 0, none⟩)) rfl rfl rfl (zdo rfl r1) <| p_v (v := .bool false) rfl rfl rfl (zag rfl) <| zaa <| zac <| zae (l := [0, 1, 2, 3, 4, 5, 6, 7, 8]) rfl <| p_v (v := .agg (zab p).toArray) rfl rfl rfl (zaj (seg := (zab p)) ty32 (zad o0) (by simp) rfl (CF.box (m := 257) (S2.box_at (j := 0) rfl) (by rw [List.drop_zero, List.take_of_length_le (by rw [zad o0]; exact Nat.le_refl _)]))) <| p_c rfl rfl rfl (za2 (args := [.agg (zab p).toArray]) ca26 rfl rfl) (right_calls w1 p o0) ?_
 rintro _ w3 ⟨h3, T3, rfl⟩
 have S4 := S2.keep (Chg.of_below T3.below)
 refine p_v (v := .bool (zc8 p)) rfl rfl rfl (zah rfl) ?_
 rcases Bool.eq_false_or_eq_true (zc8 p) with hc5 | hc5
 ·skip
  refine p_v (v := .slice A1 l.length c1) rfl (wo 2 7 rfl rfl (congrArg Value.bool hc5) rfl) rfl (zah rfl) <| p_v (v := .func (.func 132) #[] #[.pointer (some ⟨b1, 0, none⟩)]) rfl (wo 2 7 rfl rfl (congrArg Value.bool hc5) rfl) rfl (y_makeFunc (fv := []) (cv := [.pointer (some ⟨b1, 0, none⟩)]) rfl rfl) ?_
  refine p_i rfl (wo 2 7 rfl rfl (congrArg Value.bool hc5) rfl) rfl (za2 (args := [.slice A1 l.length c1, .func (.func 132) #[] #[.pointer (some ⟨b1, 0, none⟩)]]) ca131 rfl rfl) (zak Tryd.func131 rfl Tryd.ntmps131 rfl ?_)
  refine zac <| zae (l := [0]) rfl <| p_v (v := .bool false) rfl rfl rfl (zag rfl) <| zaa <| zac <| zae (l := [0, 1, 2, 3, 4]) rfl <| p_v (v := .slice A1 l.length c1) rfl rfl rfl (zah rfl) <| p_v (v := .func (.func 132) #[] #[.pointer (some ⟨b1, 0, none⟩)]) rfl rfl rfl (zah rfl) ?_
  refine p_i rfl rfl rfl (za2 (args := [.slice A1 l.length c1, .func (.func 132) #[] #[.pointer (some ⟨b1, 0, none⟩)]]) ca160 rfl rfl) (zak Tryd.func160 rfl Tryd.ntmps160 rfl ?_)
  refine zac <| zae (l := [0]) rfl <| p_v (v := .int .i64 0) rfl rfl rfl (zag rfl) <| zaa <| zac <| zac <| zae (l := [0, 1, 2]) rfl <| p_v (v := .slice A1 l.length c1) rfl rfl rfl (zah rfl) <| p_v (v := .int .i64 (l.length : Int)) rfl rfl rfl (za0 u62 rfl) <| p_v (v := .int .i64 0) rfl rfl rfl (zah rfl) <| zaa <| zaq ?_
  refine zbu (S := Int) (fun (q_ : Int) ρ w' => match q_ with | t8 => ∃ (h : Ghost), Le (fun _ => none) h ∧ St w.heap.size w h w' [box b1 32 (zab p)] ∧ ρ 0 = .slice A1 l.length c1 ∧ ρ 1 = .func (.func 132) #[] #[.pointer (some ⟨b1, 0, none⟩)] ∧ ρ 7 = .int .i64 (l.length : Int) ∧ ρ 8 = .int .i64 t8 ∧ inK .i64 t8 ∧ (0 ≤ t8 ∧ t8 ≤ (l.length : Int) ∧ (l.take t8.toNat).any (zdr p) = false)) (fun q_ => match q_ with | t8 => (l.length - t8).toNat) (0) ⟨(fun _ => none), Le.refl _, S4.sub [0] (by decide) rfl _ rfl, rfl, rfl, rfl, rfl, (zal (by omega) (by omega)), (by exact ⟨by omega, by omega, rfl⟩)⟩ ?_
  rintro t8 ih6 ρ6 w6 ⟨h6, le6, S6, r6_0, r6_1, r6_7, r6_8, f6_0, hI6⟩
  have lf6_0 := zbb f6_0; have hf6_0 := zbc f6_0
  have hq_ := hI6.1
  refine zac <| zae (l := [0]) rfl <| p_v (v := .bool (decide (t8 < (l.length : Int)))) rfl rfl rfl (zdy r6_8 r6_7) <| zaa <| zac ?_
  refine zan (p := t8 < (l.length : Int)) rfl (fun hc7 => ?_) (fun hc7 => ?_)
  ·skip
   refine zau <| zac <| zaq <| zac <| zae (l := [0, 1]) rfl <| p_v (v := .int .i64 t8) rfl rfl rfl (zah r6_8) <| p_v (v := .int .i64 t8) rfl rfl rfl (zag rfl) <| zaa <| zac <| zae (l := [0, 1, 2, 3, 4, 5]) rfl <| p_v (v := .func (.func 132) #[] #[.pointer (some ⟨b1, 0, none⟩)]) rfl rfl rfl (zah r6_1) <| p_v (v := .slice A1 l.length c1) rfl rfl rfl (zah r6_0) ?_
   refine p_v (v := .int .i64 t8) rfl rfl rfl (zah rfl) ?_
   obtain ⟨ad8, seg8, a8, rp8, ce8⟩ := za9 (q := t8) (m := 4) l1 rfl (by omega) (by omega)
   refine p_v (v := .pointer (some ad8)) rfl rfl rfl (za8 u62 ty74 rfl rfl a8 (by omega) (by omega)) ?_
   obtain ⟨rfl, ok8⟩ := rp8
   refine p_v (v := .agg (zaf (at_ l t8)).toArray) rfl rfl rfl (zaj (seg := (zaf (at_ l t8))) ty74 rfl (by simp) rfl (CF.ghost ce8 (St.le0 S6))) <| p_c rfl rfl rfl (za2 (args := [.agg (zaf (at_ l t8)).toArray, .pointer (some ⟨b1, 0, none⟩)]) ca132 rfl rfl) (fits1_calls w6 (at_ l t8) p o0 ⟨b1, 0, none⟩ (zd8 (S6.box_at (j := 0) rfl))) ?_
   rintro _ w9 ⟨h9, T9, rfl⟩
   have S10 := S6.keep (Chg.of_below T9.below)
   refine zaa ?_
   refine zb0 (b := zdr p (at_ l t8)) rfl (fun hc11 => ?_) (fun hc11 => ?_)
   ·skip
    refine zac <| zae (l := [0, 1]) rfl <| p_v (v := .int .i64 t8) rfl rfl rfl (zah rfl) <| p_v (v := .int .i64 t8) rfl rfl rfl (zag rfl) <| zaa <| zar Tryd.func160 (res1 rfl (zaw (v := .int .i64 t8) rfl)) ?_
    refine ⟨_, rfl, ?_⟩
    refine p_v (v := .bool (decide (0 ≤ t8))) rfl rfl rfl (x_geq rfl rfl) <| p_v (v := .bool (decide (0 ≤ t8))) rfl rfl rfl (zag rfl) <| zaa <| zar Tryd.func131 (res1 rfl (zaw (v := .bool (decide (0 ≤ t8))) rfl)) ?_
    refine ⟨_, rfl, ?_⟩
    refine p_v (v := .bool (!(decide (0 ≤ t8)))) rfl (wo 2 7 rfl rfl (congrArg Value.bool hc5) rfl) rfl (x_not rfl) <| p_v (v := .bool (!(decide (0 ≤ t8)))) rfl rfl rfl (zby (congrArg Value.bool hc5) rfl) <| p_v (v := .bool (!(decide (0 ≤ t8)))) rfl rfl rfl (zag rfl) <| zaa ?_
    have hc12 : (0 ≤ t8) := by
     omega
    refine zar Tryd.func76 (res1 rfl (zaw (v := .bool false) (congrArg (fun z => Value.bool (!z)) (decide_eq_true hc12)))) ?_
    have q0 : (fitsP p l : Bool) = false := by
     exact fits_no2 hI6.1 (by omega) (by assumption)
    refine ⟨_, rfl, h6, ?_, ?_⟩
    · exact S10.sub [] (by decide) rfl _ rfl
    · first | rfl | (simp only [q0]; rfl) | (simp only [q0])
   refine zau <| zas <| zae (l := [0, 1]) rfl <| p_v (v := .int .i64 (t8 + 1)) rfl rfl rfl (zc7 r6_8 rfl (zal (by omega) (by omega))) <| p_v (v := .int .i64 (t8 + 1)) rfl rfl rfl (zah rfl) <| zaa ?_
   refine ih6 (t8 + 1) _ _ (by dsimp only; omega) ⟨h6, le6, S10.sub [0] (by decide) rfl _ rfl, r6_0, r6_1, r6_7, rfl, (zal (by omega) (by omega)), (by exact ⟨by omega, by omega, any_step hI6.1 (by omega) hI6.2.2 (by assumption)⟩)⟩
  refine zbv rfl <| zac <| zae (l := [0]) rfl <| p_v (v := .int .i64 (-1)) rfl rfl rfl (zag rfl) <| zaa <| zar Tryd.func160 (res1 rfl (zaw (v := .int .i64 (-1)) rfl)) ?_
  refine ⟨_, rfl, ?_⟩
  refine p_v (v := .bool (decide (0 ≤ (-1)))) rfl rfl rfl (x_geq rfl rfl) <| p_v (v := .bool (decide (0 ≤ (-1)))) rfl rfl rfl (zag rfl) <| zaa <| zar Tryd.func131 (res1 rfl (zaw (v := .bool (decide (0 ≤ (-1)))) rfl)) ?_
  refine ⟨_, rfl, ?_⟩
  refine p_v (v := .bool (!(decide (0 ≤ (-1))))) rfl (wo 2 7 rfl rfl (congrArg Value.bool hc5) rfl) rfl (x_not rfl) <| p_v (v := .bool (!(decide (0 ≤ (-1))))) rfl rfl rfl (zby (congrArg Value.bool hc5) rfl) <| p_v (v := .bool (!(decide (0 ≤ (-1))))) rfl rfl rfl (zag rfl) <| zaa <| zar Tryd.func76 (res1 rfl (zaw (v := .bool (!(decide (0 ≤ (-1))))) rfl)) ?_
  have q0 : (fitsP p l : Bool) = !(decide (0 ≤ (-1))) := by
   exact fits_yes (by assumption) (by omega) hI6.2.2
  refine ⟨_, rfl, h6, ?_, ?_⟩
  · exact S6.sub [] (by decide) rfl _ rfl
  · first | rfl | (simp only [q0]; rfl) | (simp only [q0])
 refine zbi rfl (wo 2 7 rfl rfl (congrArg Value.bool hc5) rfl) rfl <| zbi rfl (wo 2 7 rfl rfl (congrArg Value.bool hc5) rfl) rfl <| zbi rfl (wo 2 7 rfl rfl (congrArg Value.bool hc5) rfl) rfl <| zbi rfl (wo 2 7 rfl rfl (congrArg Value.bool hc5) rfl) rfl <| p_v (v := .bool false) rfl rfl rfl (zc2 (congrArg Value.bool hc5) rfl) <| p_v (v := .bool false) rfl rfl rfl (zag rfl) <| zaa <| zar Tryd.func76 (res1 rfl (zaw (v := .bool false) rfl)) ?_
 have q0 : (fitsP p l : Bool) = false := by
  exact fits_no1 (by assumption)
 refine ⟨_, rfl, (fun _ => none), ?_, ?_⟩
 · exact S4.sub [] (by decide) rfl _ rfl
 · (simp only [q0])
theorem build_calls (w : World) (m : Mach) (A0_0 : Option Addr) (c0_0 : Nat) (b0_0 : m.spots.length ≤ c0_0 ∧ c0_0 ≤ maxLen) (l0_0 : zbo kSpot (hp w) A0_0 m.spots) (A0_1 : Option Addr) (c0_1 : Nat) (b0_1 : m.first.length ≤ c0_1 ∧ c0_1 ≤ maxLen) (l0_1 : zbo (Kd.int .i64) (hp w) A0_1 m.first) (A0_2 : Option Addr) (c0_2 : Nat) (b0_2 : m.follow.length ≤ c0_2 ∧ c0_2 ≤ maxLen) (l0_2 : zbo (Kd.int .i64).slice (hp w) A0_2 m.follow) (A0_3 : Option Addr) (c0_3 : Nat) (b0_3 : m.last.length ≤ c0_3 ∧ c0_3 ≤ maxLen) (l0_3 : zbo Kd.bool (hp w) A0_3 m.last) (p : PartM) (o1 : zbx p) (u : Unit) (pre0 : (m.spots.length : Int) ≤ 20) (tb : Block 0 tzTab w) :
    Calls Tryd.prog 21 #[.agg #[.slice A0_0 m.spots.length c0_0, .slice A0_1 m.first.length c0_1, .slice A0_2 m.follow.length c0_2, .slice A0_3 m.last.length c0_3, .bool m.empty], .agg (zab p).toArray, .pointer none] w fun e w' => ∃ v, e = .returned v ∧ ∃ (hn : Ghost) (r0 : Value) (r1 : Value), St w.heap.size w hn w' [row 23 (Kd.int .i64).slice r0 ((zai m p).next), row 4 Kd.bool r1 ((zai m p).final)] ∧ v = .tuple #[.agg ((zab ((zai m p).part)) ++ ([r0, r1] : List Value)).toArray, .int .i64 (errB m p)] ∧ zbx ((zai m p).part) ∧ inK .i64 (errB m p) := by
 refine zak Tryd.func21 rfl Tryd.ntmps21 rfl ?_
 have S0 := St.init w
 have bb0_0 := b0_0.1; have bc0_0 := b0_0.2; simp only [maxLen] at bc0_0
 have bb0_1 := b0_1.1; have bc0_1 := b0_1.2; simp only [maxLen] at bc0_1
 have bb0_2 := b0_2.1; have bc0_2 := b0_2.2; simp only [maxLen] at bc0_2
 have bb0_3 := b0_3.1; have bc0_3 := b0_3.2; simp only [maxLen] at bc0_3
 have ploo1 := zbb o1.2; have phio1 := zbc o1.2
 refine zac <| zae (l := [0, 1, 2, 3]) rfl ?_
 obtain ⟨b1, w1, r1, g1, T1⟩ := zcb (P := Tryd.prog) S0 27 (v := .agg #[.slice A0_0 m.spots.length c0_0, .slice A0_1 m.first.length c0_1, .slice A0_2 m.follow.length c0_2, .slice A0_3 m.last.length c0_3, .bool m.empty]) [.slice A0_0 m.spots.length c0_0, .slice A0_1 m.first.length c0_1, .slice A0_2 m.follow.length c0_2, .slice A0_3 m.last.length c0_3, .bool m.empty] rfl
 have S2 := T1
 dsimp only [lAa, lAn, lA0, lAs] at S2
 refine p_v (v := .pointer (some ⟨b1, 0, none⟩)) rfl rfl rfl (zdo rfl r1) ?_
 obtain ⟨b3, w3, r3, g3, T3⟩ := zcb (P := Tryd.prog) S2 32 (v := .agg (zab p).toArray) (zab p) rfl
 have S4 := T3
 dsimp only [lAa, lAn, lA0, lAs] at S4
 refine p_v (v := .pointer (some ⟨b3, 0, none⟩)) rfl rfl rfl (zdo rfl r3) ?_
 obtain ⟨b5, w5, r5, g5, T5⟩ := zcb (P := Tryd.prog) S4 35 (v := zv35) ((zab zPart) ++ ([.slice none 0 0, .slice none 0 0] : List Value)) (by kernel_rfl)
 have S6 := T5
 dsimp only [lAa, lAn, lA0, lAs] at S6
 refine p_v (v := .pointer (some ⟨b5, 0, none⟩)) rfl rfl rfl (zch ty35 r5) <| p_v (v := .int .i64 0) rfl rfl rfl (zag rfl) <| zaa <| zac <| zac ?_
 rcases Bool.eq_false_or_eq_true (zci m) with hc8 | hc8
 ·skip
  have hR_ := right_iff.1 hc8
  have hf9 : (CFs ⟨b1, 0, none⟩ [.slice A0_0 m.spots.length c0_0, .slice A0_1 m.first.length c0_1, .slice A0_2 m.follow.length c0_2, .slice A0_3 m.last.length c0_3, .bool m.empty]).1 w5 := (CF.box (m := 5) (S6.box_at (j := 0) rfl) rfl)
  have hf10 : (zdc kSpot A0_0 m.spots).1 w5 := (l0_0.mono (St.le0 S6))
  have hf11 : (zdc (Kd.int .i64) A0_1 m.first).1 w5 := (l0_1.mono (St.le0 S6))
  have hf12 : (zdc (Kd.int .i64).slice A0_2 m.follow).1 w5 := (l0_2.mono (St.le0 S6))
  have hf13 : (zdc Kd.bool A0_3 m.last).1 w5 := (l0_3.mono (St.le0 S6))
  have hf14 : (CFs ⟨b3, 0, none⟩ (zab p)).1 w5 := (CF.box (m := 257) (S6.box_at (j := 1) rfl) (by rw [List.drop_zero, List.take_of_length_le (by rw [zad o1]; exact Nat.le_refl _)]))
  have hf15 : (CFs ⟨b1, 0, none⟩ [.slice A0_0 m.spots.length c0_0, .slice A0_1 m.first.length c0_1, .slice A0_2 m.follow.length c0_2, .slice A0_3 m.last.length c0_3, .bool m.empty]).1 w5 := (CF.box (m := 5) (S6.box_at (j := 0) rfl) rfl)
  refine daS (hkC 0 hf9 (hkC 1 hf10 (hkC 1 hf11 (hkC 1 hf12 (hkC 1 hf13 (hkC 4 hf14 (hkC 5 hf15 (hkN (w := w5))))))))) 10 rfl mixed ?_
  intro wd16 gd16 hd16
  have S17 := S6.keep gd16
  have hf18 := spUp gd16 hf9
  have hf19 := spUp gd16 hf10
  have hf20 := spUp gd16 hf11
  have hf21 := spUp gd16 hf12
  have hf22 := spUp gd16 hf13
  have hf23 := spUp gd16 hf14
  have hf24 := spUp gd16 hf15
  refine qd1 0 (i := 0) (v := .agg #[.slice A0_0 m.spots.length c0_0, .slice A0_1 m.first.length c0_1, .slice A0_2 m.follow.length c0_2, .slice A0_3 m.last.length c0_3, .bool m.empty]) rfl rfl (by decide +kernel) rfl rfl (fun wq hq => (zaj (seg := [.slice A0_0 m.spots.length c0_0, .slice A0_1 m.first.length c0_1, .slice A0_2 m.follow.length c0_2, .slice A0_3 m.last.length c0_3, .bool m.empty]) ty27 rfl (by simp) rfl hq)) (zbz hf18 (zam rfl)) <| d_m (i := 1) (v := .bool (zci m)) (fun wf => zbo kSpot (hp wf) A0_0 m.spots ∧ zbo (Kd.int .i64) (hp wf) A0_1 m.first ∧ zbo (Kd.int .i64).slice (hp wf) A0_2 m.follow ∧ zbo Kd.bool (hp wf) A0_3 m.last) (fun _ ho => ⟨ho _ (List.mem_of_getElem? (i := 1) rfl) rfl, ho _ (List.mem_of_getElem? (i := 2) rfl) rfl, ho _ (List.mem_of_getElem? (i := 3) rfl) rfl, ho _ (List.mem_of_getElem? (i := 4) rfl) rfl⟩) rfl (by decide +kernel) (by decide +kernel) (by decide +kernel) rfl rfl (fun wq => (za2 (args := [.agg #[.slice A0_0 m.spots.length c0_0, .slice A0_1 m.first.length c0_1, .slice A0_2 m.follow.length c0_2, .slice A0_3 m.last.length c0_3, .bool m.empty]]) ca37 rfl rfl)) (fun wq hq => (rightN_calls wq m A0_0 c0_0 b0_0 hq.1 A0_1 c0_1 b0_1 hq.2.1 A0_2 c0_2 b0_2 hq.2.2.1 A0_3 c0_3 b0_3 hq.2.2.2).mono fun e w2 he => by obtain ⟨_, rfl, _, T, rfl⟩ := he; exact ⟨rfl, Chg.of_below T.below⟩) (zbw rfl (zbz hf19 (zbz hf20 (zbz hf21 (zbz hf22 (zam rfl)))))) <| qd0 (i := 2) (v := .bool (!(zci m))) rfl (by decide +kernel) rfl rfl (x_not rfl) (zam rfl) <| qd0 (i := 3) (v := .bool (!(zci m))) rfl (by decide +kernel) rfl rfl (zah rfl) (zam rfl) <| qd1 5 (i := 4) (v := .agg (zab p).toArray) rfl rfl (by decide +kernel) (wo 3 14 rfl rfl (congrArg (fun z => Value.bool (!z)) hc8) rfl) rfl (fun wq hq => (zaj (seg := (zab p)) ty32 (zad o1) (by simp) rfl hq)) (zbw rfl (zbw rfl (zbw rfl (zbw rfl (zbw rfl (zbz hf23 (zam rfl))))))) <| qd1 6 (i := 5) (v := .agg #[.slice A0_0 m.spots.length c0_0, .slice A0_1 m.first.length c0_1, .slice A0_2 m.follow.length c0_2, .slice A0_3 m.last.length c0_3, .bool m.empty]) rfl rfl (by decide +kernel) (wo 3 14 rfl rfl (congrArg (fun z => Value.bool (!z)) hc8) rfl) rfl (fun wq hq => (zaj (seg := [.slice A0_0 m.spots.length c0_0, .slice A0_1 m.first.length c0_1, .slice A0_2 m.follow.length c0_2, .slice A0_3 m.last.length c0_3, .bool m.empty]) ty27 rfl (by simp) rfl hq)) (zbw rfl (zbw rfl (zbw rfl (zbw rfl (zbw rfl (zbw rfl (zbz hf24 (zam rfl)))))))) <| zb6 (i := 6) (by decide +kernel) ?_
  intro wd25 gd25
  have S26 := S17.keep gd25
  have hf27 := spUp gd25 hf18
  have hf28 := spUp gd25 hf19
  have hf29 := spUp gd25 hf20
  have hf30 := spUp gd25 hf21
  have hf31 := spUp gd25 hf22
  have hf32 := spUp gd25 hf23
  have hf33 := spUp gd25 hf24
  refine d_c rfl (wo 3 14 rfl rfl (congrArg (fun z => Value.bool (!z)) hc8) rfl) rfl (za2 (args := [.agg #[.slice A0_0 m.spots.length c0_0, .slice A0_1 m.first.length c0_1, .slice A0_2 m.follow.length c0_2, .slice A0_3 m.last.length c0_3, .bool m.empty]]) ca63 rfl rfl) (setsN_calls wd25 m A0_0 c0_0 b0_0 (l0_0.mono (St.le0 S26)) A0_1 c0_1 b0_1 (l0_1.mono (St.le0 S26)) A0_2 c0_2 b0_2 (l0_2.mono (St.le0 S26)) A0_3 c0_3 b0_3 (l0_3.mono (St.le0 S26)) (by first | assumption | omega | decide)) ?_
  rintro v34_0 w34 ⟨h34, _, T34, rfl⟩
  obtain ⟨k34, lk34, ll34, U34⟩ := zcl S26 T34
  have S35 := U34
  dsimp only [lAa, lAn, lA0, lAs] at S35
  have hf36 := spUp (Chg.of_below T34.below) hf27
  have hf37 := spUp (Chg.of_below T34.below) hf28
  have hf38 := spUp (Chg.of_below T34.below) hf29
  have hf39 := spUp (Chg.of_below T34.below) hf30
  have hf40 := spUp (Chg.of_below T34.below) hf31
  have hf41 := spUp (Chg.of_below T34.below) hf32
  have hf42 := spUp (Chg.of_below T34.below) hf33
  refine ⟨.inl (Chg.of_below T34.below), ?_⟩
  obtain ⟨h43, le43, T43, rp43⟩ := S35.freeze (i := 3) rfl
  have lf43_0 := (lk34).trans le43
  have S44 := T43.fx 3 (emp) rfl
  dsimp only [lAa, lAn, lA0, lAs] at S44
  obtain ⟨A43, c43, e43, lc43, cm43, ld43⟩ := rp43
  injection e43 with e43 _; subst e43
  have cn43 := cm43; simp only [maxLen] at cn43
  have hf46 : (zdc kSet A43 (zdk m)).1 w34 := (ld43.mono ((Le.refl _).trans S44.ghost))
  refine raMo (hkC 7 hf46 (hkN (w := w34))) <| d_m (i := 7) (v := .bool (fitsP p (zdk m))) (fun wf => zbo kSet (hp wf) A43 (zdk m)) (fun _ ho => ho _ (List.mem_of_getElem? (i := 0) rfl) rfl) rfl (by decide +kernel) (by decide +kernel) (by decide +kernel) (wo 3 14 rfl rfl (congrArg (fun z => Value.bool (!z)) hc8) rfl) rfl (fun wq => (za2 (args := [.agg (zab p).toArray, .slice A43 (zdk m).length c43]) ca76 rfl rfl)) (fun wq hq => (fits_calls wq p o1 (zdk m) A43 c43 (And.intro lc43 cm43) hq).mono fun e w2 he => by obtain ⟨_, rfl, _, T, rfl⟩ := he; exact ⟨rfl, Chg.of_below T.below⟩) (zbz hf46 (zam rfl)) <| qd0 (i := 8) (v := .bool (!(fitsP p (zdk m)))) rfl (by decide +kernel) (wo 3 14 rfl rfl (congrArg (fun z => Value.bool (!z)) hc8) rfl) rfl (x_not rfl) (zam rfl) <| qd0 (i := 9) (v := .bool (!(fitsP p (zdk m)))) rfl (by decide +kernel) rfl rfl (zc2 (congrArg (fun z => Value.bool (!z)) hc8) rfl) (zam rfl) <| zco (by decide +kernel) ?_
  intro wd47 gd47
  have S48 := S44.keep gd47
  refine zcp (b := fitsP p (zdk m)) rfl (fun hc49 => ?_) (fun hc49 => ?_)
  ·skip
   refine zac <| zae (l := [0, 1, 2]) rfl <| p_v (v := .agg ((zab zPart) ++ ([.slice none 0 0, .slice none 0 0] : List Value)).toArray) rfl rfl rfl (zd9 (pv := []) rfl (zbq pl35 ty35 rfl (cs := ((zab zPart) ++ ([.slice none 0 0, .slice none 0 0] : List Value))) (by kernel_rfl))) ?_
   obtain ⟨w50, r50, g50, T50⟩ := zc9 (P := Tryd.prog) (v := .agg ((zab zPart) ++ ([.slice none 0 0, .slice none 0 0] : List Value)).toArray) (vs := ((zab zPart) ++ ([.slice none 0 0, .slice none 0 0] : List Value))) (cs := ((zab zPart) ++ ([.slice none 0 0, .slice none 0 0] : List Value))) S48 ty35 rfl (zbg (zad (zay)) rfl) (zbg (zad (zay)) rfl) (j := 2) rfl (one_app (zb3 _) (by simp [Value.oneCell']))
   have S51 : St w.heap.size w h43 w50 [box b1 27 [.slice A0_0 m.spots.length c0_0, .slice A0_1 m.first.length c0_1, .slice A0_2 m.follow.length c0_2, .slice A0_3 m.last.length c0_3, .bool m.empty], box b3 32 (zab p), box b5 35 ((zab zPart) ++ ([.slice none 0 0, .slice none 0 0] : List Value)), emp] := T50
   refine p_s rfl rfl (za7 rfl rfl r50) <| p_v (v := .int .i64 1) rfl rfl rfl (zag rfl) <| zaa ?_
   have T52 := S51.row_nil 23 (Kd.int .i64).slice
   have S53 := T52
   dsimp only [lAa, lAn, lA0, lAs] at S53
   have T54 := S53.row_nil 4 Kd.bool
   have S55 := T54
   dsimp only [lAa, lAn, lA0, lAs] at S55
   refine zar Tryd.func21 (res2 rfl (zdg S51 ty35 rfl (j := 2) rfl (zbg (zad (zay)) rfl) (by simp) rfl) (zaw (v := .int .i64 1) rfl)) ?_
   have q0 : ((zai m p).part : PartM) = zPart := by
    first | (rw [(zbf (by assumption)).1]; done) | (rw [(zbf (by assumption)).1]) | exact (zbf (by assumption)).2 | (rw [(zbe (by assumption)).1]; done) | (rw [(zbe (by assumption)).1]) | exact (zbe (by assumption)).2 | exact err_yes (by assumption) (by assumption) | (rw [za1 (by assumption) (by assumption), zbr]; done) | (rw [za1 (by assumption) (by assumption), zbr]) | (rw [za1 (by assumption) (by assumption), zcs]; exact (zcm hI_ (by omega)).2.1.symm) | (rw [za1 (by assumption) (by assumption), zcj]; exact (zcm hI_ (by omega)).2.2.symm)
   have q1 : ((zai m p).next : List (List Int)) = ([] : List (List Int)) := by
    first | (rw [(zbf (by assumption)).1]; done) | (rw [(zbf (by assumption)).1]) | exact (zbf (by assumption)).2 | (rw [(zbe (by assumption)).1]; done) | (rw [(zbe (by assumption)).1]) | exact (zbe (by assumption)).2 | exact err_yes (by assumption) (by assumption) | (rw [za1 (by assumption) (by assumption), zbr]; done) | (rw [za1 (by assumption) (by assumption), zbr]) | (rw [za1 (by assumption) (by assumption), zcs]; exact (zcm hI_ (by omega)).2.1.symm) | (rw [za1 (by assumption) (by assumption), zcj]; exact (zcm hI_ (by omega)).2.2.symm)
   have q2 : ((zai m p).final : List Bool) = ([] : List Bool) := by
    first | (rw [(zbf (by assumption)).1]; done) | (rw [(zbf (by assumption)).1]) | exact (zbf (by assumption)).2 | (rw [(zbe (by assumption)).1]; done) | (rw [(zbe (by assumption)).1]) | exact (zbe (by assumption)).2 | exact err_yes (by assumption) (by assumption) | (rw [za1 (by assumption) (by assumption), zbr]; done) | (rw [za1 (by assumption) (by assumption), zbr]) | (rw [za1 (by assumption) (by assumption), zcs]; exact (zcm hI_ (by omega)).2.1.symm) | (rw [za1 (by assumption) (by assumption), zcj]; exact (zcm hI_ (by omega)).2.2.symm)
   have q3 : (errB m p : Int) = 1 := by
    first | (rw [(zbf (by assumption)).1]; done) | (rw [(zbf (by assumption)).1]) | exact (zbf (by assumption)).2 | (rw [(zbe (by assumption)).1]; done) | (rw [(zbe (by assumption)).1]) | exact (zbe (by assumption)).2 | exact err_yes (by assumption) (by assumption) | (rw [za1 (by assumption) (by assumption), zbr]; done) | (rw [za1 (by assumption) (by assumption), zbr]) | (rw [za1 (by assumption) (by assumption), zcs]; exact (zcm hI_ (by omega)).2.1.symm) | (rw [za1 (by assumption) (by assumption), zcj]; exact (zcm hI_ (by omega)).2.2.symm)
   refine ⟨_, rfl, h43, (.slice none 0 0), (.slice none 0 0), ?_, ?_, ?_, ?_⟩
   · rw [q1]; rw [q2]; exact S55.sub [4, 5] (by decide) rfl _ rfl
   · first | rfl | (simp only [q0, q1, q2, q3]; rfl) | (simp only [q0, q1, q2, q3])
   · rw [q0]; first | assumption | exact zay
   · rw [q3]; exact (zal (by omega) (by omega))
  have hP_ := rightP_of o1 (fits_right hc49); have hll_ := leastB_len hP_; have hpn_ := hP_.lo; have hpm_ := hP_.hi
  refine zau <| zac <| zae (l := [0, 1, 2, 3]) rfl <| p_v (v := .agg (zab p).toArray) rfl rfl rfl (zaj (seg := (zab p)) ty32 (zad o1) (by simp) rfl (CF.box (m := 257) (S48.box_at (j := 1) rfl) (by rw [List.drop_zero, List.take_of_length_le (by rw [zad o1]; exact Nat.le_refl _)]))) <| p_c rfl rfl rfl (za2 (args := [.agg (zab p).toArray]) ca77 rfl rfl) (leastD_calls wd47 p o1 (Block.st S48 tb)) ?_
  rintro v56_0 w56 ⟨h56, _, T56, rfl⟩
  obtain ⟨k56, lk56, ll56, U56⟩ := zcl S48 T56
  have lc56_0 := (lf43_0).trans lk56
  have lc56_1 := (le43).trans lk56
  have S57 := U56
  dsimp only [lAa, lAn, lA0, lAs] at S57
  obtain ⟨h58, le58, T58, rp58⟩ := S57.freeze (i := 4) rfl
  have lf58_0 := (lc56_0).trans le58
  have lf58_1 := (lc56_1).trans le58
  have lf58_2 := (lk56).trans le58
  have S59 := T58.fx 4 (emp) rfl
  dsimp only [lAa, lAn, lA0, lAs] at S59
  obtain ⟨A58, c58, e58, lc58, cm58, ld58⟩ := rp58
  injection e58 with e58 _; subst e58
  have cn58 := cm58; simp only [maxLen] at cn58
  obtain ⟨b60, w60, r60, g60, T60⟩ := zcb (P := Tryd.prog) S59 39 (v := (.slice none 0 0)) [.slice none 0 0] rfl
  have S61 := T60
  dsimp only [lAa, lAn, lA0, lAs] at S61
  refine p_v (v := .pointer (some ⟨b60, 0, none⟩)) rfl rfl rfl (zch ty39 r60) ?_
  obtain ⟨w62, r62, g62, T62⟩ := zb9 (P := Tryd.prog) (off := 0) (v := .slice A58 (zat p).length c58) (vs := [.slice A58 (zat p).length c58]) S61 ty39 rfl rfl (j := 5) rfl (by first | decide | exact Nat.le_of_ble_eq_true rfl) (by simp [Value.oneCell'])
  have S63 := T62.fx 5 (box b60 39 [.slice A58 (zat p).length c58]) rfl
  dsimp only [lAa, lAn, lA0, lAs] at S63
  refine p_s rfl rfl (za7 rfl rfl r62) <| zaa <| zac <| zae (l := [0, 1]) rfl <| p_v (v := .func (.func 78) #[] #[.pointer (some ⟨b1, 0, none⟩), .pointer (some ⟨b60, 0, none⟩)]) rfl rfl rfl (y_makeFunc (fv := []) (cv := [.pointer (some ⟨b1, 0, none⟩), .pointer (some ⟨b60, 0, none⟩)]) rfl rfl) <| p_v (v := .func (.func 78) #[] #[.pointer (some ⟨b1, 0, none⟩), .pointer (some ⟨b60, 0, none⟩)]) rfl rfl rfl (zag rfl) <| zaa <| zac <| zae (l := [0, 1]) rfl <| p_v (v := .func (.func 84) #[] #[.pointer (some ⟨b1, 0, none⟩)]) rfl rfl rfl (y_makeFunc (fv := []) (cv := [.pointer (some ⟨b1, 0, none⟩)]) rfl rfl) <| p_v (v := .func (.func 84) #[] #[.pointer (some ⟨b1, 0, none⟩)]) rfl rfl rfl (zag rfl) <| zaa ?_
  refine zac ?_
  have hf65 : (CFs ⟨b3, 0, none⟩ (zab p)).1 w62 := (CF.box (m := 257) (S63.box_at (j := 1) rfl) (by rw [List.drop_zero, List.take_of_length_le (by rw [zad o1]; exact Nat.le_refl _)]))
  refine daS (hkC 0 hf65 (hkN (w := w62))) 8 rfl mixed ?_
  intro wd66 gd66 hd66
  have S67 := S63.keep gd66
  have hf68 := spUp gd66 hf65
  refine qd1 0 (i := 0) (v := .agg (zab p).toArray) rfl rfl (by decide +kernel) rfl rfl (fun wq hq => (zaj (seg := (zab p)) ty32 (zad o1) (by simp) rfl hq)) (zbz hf68 (of_nil _ _)) <| qd0 (i := 1) (v := .pointer none) rfl (by decide +kernel) rfl rfl (zah rfl) (zam rfl) <| d_m (i := 2) (v := .agg (zaf beginB).toArray) (fun _ => True) (fun _ ho => trivial) rfl (by decide +kernel) (by decide +kernel) (by decide +kernel) rfl rfl (fun wq => (za2 (args := []) ca82 rfl rfl)) (fun wq hq => (begun_calls wq ).mono fun e w2 he => by obtain ⟨_, rfl, _, T, rfl⟩ := he; exact ⟨rfl, Chg.of_below T.below⟩) (zam rfl) <| qd0 (i := 3) (v := .func (.func 78) #[] #[.pointer (some ⟨b1, 0, none⟩), .pointer (some ⟨b60, 0, none⟩)]) rfl (by decide +kernel) rfl rfl (zah rfl) (zam rfl) <| qd0 (i := 4) (v := .func (.func 84) #[] #[.pointer (some ⟨b1, 0, none⟩)]) rfl (by decide +kernel) rfl rfl (zah rfl) (zam rfl) <| zb6 (i := 5) (by decide +kernel) ?_
  intro wd69 gd69
  have S70 := S67.keep gd69
  have hf71 := spUp gd69 hf68
  refine d_i rfl rfl rfl (za2 (args := [.agg (zab p).toArray, .pointer none, .agg (zaf beginB).toArray, .func (.func 78) #[] #[.pointer (some ⟨b1, 0, none⟩), .pointer (some ⟨b60, 0, none⟩)], .func (.func 84) #[] #[.pointer (some ⟨b1, 0, none⟩)]]) ca85 rfl rfl) (zak Tryd.func85 rfl Tryd.ntmps85 rfl ?_)
  refine zac <| zae (l := [0, 1, 2]) rfl ?_
  obtain ⟨b72, w72, r72, g72, T72⟩ := zcb (P := Tryd.prog) S70 32 (v := .agg (zab p).toArray) (zab p) rfl
  have S73 := T72
  dsimp only [lAa, lAn, lA0, lAs] at S73
  refine p_v (v := .pointer (some ⟨b72, 0, none⟩)) rfl rfl rfl (zdo rfl r72) ?_
  obtain ⟨b74, w74, r74, g74, T74⟩ := zcb (P := Tryd.prog) S73 115 (v := .agg (zaf beginB).toArray) (zaf beginB) rfl
  have S75 := T74
  dsimp only [lAa, lAn, lA0, lAs] at S75
  refine p_v (v := .pointer (some ⟨b74, 0, none⟩)) rfl rfl rfl (zdo rfl r74) ?_
  obtain ⟨b76, w76, r76, g76, T76⟩ := zcb (P := Tryd.prog) S75 35 (v := zv35) ((zab zPart) ++ ([.slice none 0 0, .slice none 0 0] : List Value)) (by kernel_rfl)
  have S77 := T76
  dsimp only [lAa, lAn, lA0, lAs] at S77
  refine p_v (v := .pointer (some ⟨b76, 0, none⟩)) rfl rfl rfl (zch ty35 r76) <| zaa <| zac <| zae (l := [0, 1, 2, 3, 4]) rfl <| p_v (v := .pointer none) rfl rfl rfl (zah rfl) ?_
  obtain ⟨b78, w78, r78, g78, T78⟩ := e_makeMap (P := Tryd.prog) S77 182 (fun x : BSet => Value.agg (zaf x).toArray) (fun x : Int => Value.int .i64 x)
  have S79 := T78
  dsimp only [lAa, lAn, lA0, lAs] at S79
  refine p_v (v := .map (some b78)) rfl rfl rfl (x_makeMap r78) <| p_v (v := .agg #[.pointer none, .map (some b78), .slice none 0 0]) rfl rfl rfl (zd9 (pv := [(0, .pointer none), (1, .map (some b78))]) rfl (zbq pl185 ty185 rfl (cs := [.pointer none, .map (some b78), .slice none 0 0]) rfl)) ?_
  obtain ⟨b80, w80, r80, g80, T80⟩ := zcb (P := Tryd.prog) S79 185 (v := .agg #[.pointer none, .map (some b78), .slice none 0 0]) [.pointer none, .map (some b78), .slice none 0 0] rfl
  have S81 := T80
  dsimp only [lAa, lAn, lA0, lAs] at S81
  refine p_v (v := .pointer (some ⟨b80, 0, none⟩)) rfl rfl rfl (zdo rfl r80) <| p_v (v := .pointer (some ⟨b80, 0, none⟩)) rfl rfl rfl (zag rfl) <| zaa <| zac <| zae (l := [0, 1, 2]) rfl <| p_v (v := .pointer (some ⟨b80, 0, none⟩)) rfl rfl rfl (zah rfl) <| p_v (v := .agg (zaf beginB).toArray) rfl rfl rfl (zaj (seg := (zaf beginB)) zd2 rfl (by simp) rfl (CF.box (m := 4) (S81.box_at (j := 7) rfl) rfl)) ?_
  refine p_i rfl rfl rfl (za2 (args := [.pointer (some ⟨b80, 0, none⟩), .agg (zaf beginB).toArray]) ca133 rfl rfl) (zak Tryd.func133 rfl Tryd.ntmps133 rfl ?_)
  refine zac <| zae (l := [0, 1]) rfl ?_
  obtain ⟨b82, w82, r82, g82, T82⟩ := zcb (P := Tryd.prog) S81 115 (v := .agg (zaf beginB).toArray) (zaf beginB) rfl
  have S83 := T82
  dsimp only [lAa, lAn, lA0, lAs] at S83
  refine p_v (v := .pointer (some ⟨b82, 0, none⟩)) rfl rfl rfl (zdo rfl r82) <| p_v (v := .int .i64 0) rfl rfl rfl (zag rfl) <| zaa <| zac ?_
  have hf84 : (CFs ⟨b80, 1, none⟩ [.map (some b78)]).1 w82 := (CF.box (m := 1) (S83.box_at (j := 10) rfl) rfl)
  have hf85 : (CFs ⟨b82, 0, none⟩ (zaf beginB)).1 w82 := (CF.box (m := 4) (S83.box_at (j := 11) rfl) rfl)
  have hf86 : (MapHs (fun x : BSet => Value.agg (zaf x).toArray) (fun x : Int => Value.int .i64 x) b78 ([] : List (BSet × Int))).1 w82 := (S83.map_at (j := 9) rfl)
  refine daS (hkC 3 hf84 (hkC 4 hf85 (hkC 5 hf86 (hkN (w := w82))))) 11 rfl mixed ?_
  intro wd87 gd87 hd87
  have S88 := S83.keep gd87
  have hf89 := spUp gd87 hf84
  have hf90 := spUp gd87 hf85
  have hf91 := spUp gd87 hf86
  refine qd0 (i := 0) (v := .pointer (some ⟨b80, 0, none⟩)) rfl (by decide +kernel) rfl rfl (zah rfl) (zam rfl) <| qd0 (i := 1) (v := .pointer (some ⟨b80, 0, none⟩)) rfl (by decide +kernel) rfl rfl (zca rfl) (zam rfl) <| qd0 (i := 2) (v := .pointer (some ⟨b80, 1, none⟩)) rfl (by decide +kernel) rfl rfl (zao fd185_1 ty182 rfl rfl) (zam rfl) <| qd1 0 (i := 3) (v := .map (some b78)) rfl rfl (by decide +kernel) rfl rfl (fun wq hq => (zaj (seg := [.map (some b78)]) ty182 rfl (by simp) rfl hq)) (zbz hf89 (zam rfl)) <| qd1 1 (i := 4) (v := .agg (zaf beginB).toArray) rfl rfl (by decide +kernel) rfl rfl (fun wq hq => (zaj (seg := (zaf beginB)) zd2 rfl (by simp) rfl hq)) (zbw rfl (zbz hf90 (zam rfl))) <| qdn (i := 5) (v := .tuple #[.int .i64 ((zbn beginB ([] : List (BSet × Int))).getD 0), .bool ((zbn beginB ([] : List (BSet × Int))).isSome)]) (fun wf => MapH (fun x : BSet => Value.agg (zaf x).toArray) (fun x : Int => Value.int .i64 x) b78 ([] : List (BSet × Int)) wf) (fun _ ho => ho _ (List.mem_of_getElem? (i := 2) rfl) rfl) rfl (by decide +kernel) rfl rfl (fun wq hq => (x_lookup (a := .map (some b78)) (k := .agg (zaf beginB).toArray) rfl rfl (e_lookup_h (kvs := ([] : List (BSet × Int))) key115 hq u182 (zero_cells ty3) 0 beginB))) (zbw rfl (zbw rfl (zbz hf91 (zam rfl)))) <| qd0 (i := 6) (v := .tuple #[.int .i64 ((zbn beginB ([] : List (BSet × Int))).getD 0), .bool ((zbn beginB ([] : List (BSet × Int))).isSome)]) rfl (by decide +kernel) rfl rfl (zah rfl) (zam rfl) <| qd0 (i := 7) (v := .int .i64 ((zbn beginB ([] : List (BSet × Int))).getD 0)) rfl (by decide +kernel) rfl rfl (zc1 (vs := [.int .i64 ((zbn beginB ([] : List (BSet × Int))).getD 0), .bool ((zbn beginB ([] : List (BSet × Int))).isSome)]) rfl rfl) (zam rfl) <| qd0 (i := 8) (v := .bool ((zbn beginB ([] : List (BSet × Int))).isSome)) rfl (by decide +kernel) rfl rfl (zc1 (vs := [.int .i64 ((zbn beginB ([] : List (BSet × Int))).getD 0), .bool ((zbn beginB ([] : List (BSet × Int))).isSome)]) rfl rfl) (zam rfl) <| qd0 (i := 9) (v := .int .i64 ((zbn beginB ([] : List (BSet × Int))).getD 0)) rfl (by decide +kernel) rfl rfl (zag rfl) (zam rfl) <| qd0 (i := 10) (v := .bool ((zbn beginB ([] : List (BSet × Int))).isSome)) rfl (by decide +kernel) rfl rfl (zag rfl) (zam rfl) <| zco (by decide +kernel) ?_
  intro wd92 gd92
  have S93 := S88.keep gd92
  refine zac <| zac <| zae (l := [0, 1]) rfl <| p_v (v := .bool ((zbn beginB ([] : List (BSet × Int))).isSome)) rfl rfl rfl (zah rfl) <| p_v (v := .bool (!((zbn beginB ([] : List (BSet × Int))).isSome))) rfl rfl rfl (x_not rfl) <| zaa ?_
  have hc94 : ((zbn beginB ([] : List (BSet × Int))).isSome) = false := by
   rfl
  refine zc3 (b := true) (congrArg (fun z => Value.bool (!z)) hc94) ?_
  simp only [if_true, if_false, Bool.false_eq_true]
  refine zac <| zae (l := [0, 1, 2, 3, 4]) rfl <| p_v (v := .pointer (some ⟨b80, 0, none⟩)) rfl rfl rfl (zah rfl) <| p_v (v := .pointer (some ⟨b80, 0, none⟩)) rfl rfl rfl (zca rfl) <| p_v (v := .pointer (some ⟨b80, 0, none⟩)) rfl rfl rfl (zao fd185_0 ty54 rfl rfl) <| p_v (v := .pointer none) rfl rfl rfl (zaj (seg := [.pointer none]) ty54 rfl (by simp) rfl (CF.box (m := 1) (S93.box_at (j := 10) rfl) rfl)) ?_
  refine p_i rfl rfl rfl (za2 (args := [.pointer none, .int .i64 1]) ca161 rfl rfl) (zak Tryd.func161 rfl Tryd.ntmps161 rfl ?_)
  refine zac <| zac <| zae (l := [0, 1, 2, 3, 4, 5]) rfl <| p_v (v := .pointer none) rfl rfl rfl (zah rfl) <| p_v (v := .bool true) rfl rfl rfl (x_eql_ptr (p := none) u54 rfl rfl) <| p_v (v := .bool true) rfl rfl rfl (zah rfl) <| zbi rfl rfl rfl <| zbi rfl rfl rfl <| p_v (v := .bool true) rfl rfl rfl (zby rfl rfl) <| zaa <| zc3 (b := true) rfl ?_
  simp only [if_true, if_false, Bool.false_eq_true]
  refine zar Tryd.func161 (res0 rfl) ?_
  refine ⟨_, rfl, ?_⟩
  refine zaa <| zac <| zae (l := [0, 1, 2, 3, 4, 5]) rfl <| p_v (v := .pointer (some ⟨b80, 0, none⟩)) rfl rfl rfl (zah rfl) <| p_v (v := .pointer (some ⟨b80, 0, none⟩)) rfl rfl rfl (zca rfl) <| p_v (v := .pointer (some ⟨b80, 2, none⟩)) rfl rfl rfl (zao fd185_2 ty183 rfl rfl) <| p_v (v := .slice none 0 0) rfl rfl rfl (zaj (seg := [.slice none 0 0]) ty183 rfl (by simp) rfl (CF.box (m := 1) (S93.box_at (j := 10) rfl) rfl)) <| p_v (v := .int .i64 0) rfl rfl rfl (za0 u183 rfl) <| p_v (v := .int .i64 0) rfl rfl rfl (zag rfl) <| zaa <| zac ?_
  have hf95 : (CFs ⟨b80, 1, none⟩ [.map (some b78)]).1 wd92 := (CF.box (m := 1) (S93.box_at (j := 10) rfl) rfl)
  have hf96 : (CFs ⟨b82, 0, none⟩ (zaf beginB)).1 wd92 := (CF.box (m := 4) (S93.box_at (j := 11) rfl) rfl)
  refine daS (hkC 3 hf95 (hkC 4 hf96 (hkN (w := wd92)))) 7 rfl mixed ?_
  intro wd97 gd97 hd97
  have S98 := S93.keep gd97
  have hf99 := spUp gd97 hf95
  have hf100 := spUp gd97 hf96
  refine qd0 (i := 0) (v := .pointer (some ⟨b80, 0, none⟩)) rfl (by decide +kernel) rfl rfl (zah rfl) (zam rfl) <| qd0 (i := 1) (v := .pointer (some ⟨b80, 0, none⟩)) rfl (by decide +kernel) rfl rfl (zca rfl) (zam rfl) <| qd0 (i := 2) (v := .pointer (some ⟨b80, 1, none⟩)) rfl (by decide +kernel) rfl rfl (zao fd185_1 ty182 rfl rfl) (zam rfl) <| qd1 0 (i := 3) (v := .map (some b78)) rfl rfl (by decide +kernel) rfl rfl (fun wq hq => (zaj (seg := [.map (some b78)]) ty182 rfl (by simp) rfl hq)) (zbz hf99 (zam rfl)) <| qd1 1 (i := 4) (v := .agg (zaf beginB).toArray) rfl rfl (by decide +kernel) rfl rfl (fun wq hq => (zaj (seg := (zaf beginB)) zd2 rfl (by simp) rfl hq)) (zbw rfl (zbz hf100 (zam rfl))) <| qd0 (i := 5) (v := .int .i64 0) rfl (by decide +kernel) rfl rfl (zah rfl) (zam rfl) <| zb6 (i := 6) (by decide +kernel) ?_
  intro wd101 gd101
  have S102 := S98.keep gd101
  have hf103 := spUp gd101 hf99
  have hf104 := spUp gd101 hf100
  obtain ⟨w105, r105, g105, T105⟩ := e_mapUpdate key115 S102 (j := 9) rfl u182 beginB 0
  have S106 := T105.fx 9 (amap (fun x : BSet => Value.agg (zaf x).toArray) (fun x : Int => Value.int .i64 x) b78 (putAt beginB 0 ([] : List (BSet × Int)))) rfl
  dsimp only [lAa, lAn, lA0, lAs] at S106
  have hf107 : (CFs ⟨b80, 1, none⟩ [.map (some b78)]).1 w105 := (CF.box (m := 1) (S106.box_at (j := 10) rfl) rfl)
  have hf108 : (CFs ⟨b82, 0, none⟩ (zaf beginB)).1 w105 := (CF.box (m := 4) (S106.box_at (j := 11) rfl) rfl)
  refine d_s rfl rfl (x_mapUpdate rfl rfl rfl r105) (.inr (zbh (by decide +kernel) (zbh (by decide +kernel) trivial))) <| zco (by decide +kernel) ?_
  intro wd109 gd109
  have S110 := S106.keep gd109
  have hf111 : (CFs ⟨b80, 2, none⟩ [.slice none 0 0]).1 wd109 := (CF.box (m := 1) (S110.box_at (j := 10) rfl) rfl)
  have hf112 : (CFs ⟨b82, 0, none⟩ (zaf beginB)).1 wd109 := (CF.box (m := 4) (S110.box_at (j := 11) rfl) rfl)
  refine daS (hkC 4 hf111 (hkC 5 hf112 (hkN (w := wd109)))) 11 rfl mixed ?_
  intro wd113 gd113 hd113
  have S114 := S110.keep gd113
  have hf115 := spUp gd113 hf111
  have hf116 := spUp gd113 hf112
  refine qd0 (i := 0) (v := .pointer (some ⟨b80, 0, none⟩)) rfl (by decide +kernel) rfl rfl (zah rfl) (zam rfl) <| qd0 (i := 1) (v := .pointer (some ⟨b80, 0, none⟩)) rfl (by decide +kernel) rfl rfl (zah rfl) (zam rfl) <| qd0 (i := 2) (v := .pointer (some ⟨b80, 0, none⟩)) rfl (by decide +kernel) rfl rfl (zca rfl) (zam rfl) <| qd0 (i := 3) (v := .pointer (some ⟨b80, 2, none⟩)) rfl (by decide +kernel) rfl rfl (zao fd185_2 ty183 rfl rfl) (zam rfl) <| qd1 0 (i := 4) (v := .slice none 0 0) rfl rfl (by decide +kernel) rfl rfl (fun wq hq => (zaj (seg := [.slice none 0 0]) ty183 rfl (by simp) rfl hq)) (zbz hf115 (zam rfl)) <| qd1 1 (i := 5) (v := .agg (zaf beginB).toArray) rfl rfl (by decide +kernel) rfl rfl (fun wq hq => (zaj (seg := (zaf beginB)) zd2 rfl (by simp) rfl hq)) (zbw rfl (zbz hf116 (zam rfl))) <| zb6 (i := 6) (by decide +kernel) ?_
  intro wd117 gd117
  have S118 := S114.keep gd117
  have hf119 := spUp gd117 hf115
  have hf120 := spUp gd117 hf116
  obtain ⟨v121, w121, r121, g121, T121⟩ := e_build_segs (kd := kSet) (xs := ([beginB] : List BSet)) (len := 1) (m := 4) [(.agg (zaf beginB).toArray, (zaf beginB))] S118 u183 zd2 rfl rfl rfl rfl (segs_cons rfl rfl segs_nil) (cs := (zaf beginB)) (zb5.single (k := kSet) (h := h58) (x := beginB) (cs := (zaf beginB)) ⟨rfl, trivial⟩) (by simp)
  have S122 := T121
  dsimp only [lAa, lAn, lA0, lAs] at S122
  have hf123 := spUp g121 hf119
  have hf124 := spUp g121 hf120
  refine d_v (v := v121) rfl rfl rfl (zax (pv := [(0, .agg (zaf beginB).toArray)]) rfl r121) (.inl g121) <| zb6 (i := 7) (by decide +kernel) ?_
  intro wd125 gd125
  have S126 := S122.keep gd125
  have hf127 := spUp gd125 hf123
  have hf128 := spUp gd125 hf124
  have T129 := S126.row_nil 115 kSet
  have S130 := T129
  dsimp only [lAa, lAn, lA0, lAs] at S130
  obtain ⟨A131, c131, ev131, lc131, cm131⟩ := S130.row_val (j := 12) rfl
  obtain ⟨v132, w132, r132, g132, T132⟩ := zcw (kd := kSet) (A := A131) (c := c131) (ys := ([beginB] : List BSet)) (len := ([beginB] : List BSet).length) 183 S130 u183 zd2 rfl rfl (j := 13) rfl rfl (zdb S130 (j := 12) rfl ev131) (by first|omega|(simp;omega)|assumption|simp) (by first|omega|(simp;omega)|assumption|simp)
  have S133 := T132.fx 13 (row 115 kSet v132 (([] : List BSet) ++ ([beginB] : List BSet))) rfl
  dsimp only [lAa, lAn, lA0, lAs] at S133
  have hf134 : (CFs ⟨b80, 2, none⟩ [.slice none 0 0]).1 w132 := (CF.box (m := 1) (S133.box_at (j := 10) rfl) rfl)
  have hf135 : (CFs ⟨b82, 0, none⟩ (zaf beginB)).1 w132 := (CF.box (m := 4) (S133.box_at (j := 11) rfl) rfl)
  refine d_v (v := v132) rfl rfl rfl (zcv rfl ev131 r132) (.inr (zbh (by decide +kernel) (zce hf135 trivial))) <| qd0 (i := 8) (v := .pointer (some ⟨b80, 0, none⟩)) rfl (by decide +kernel) rfl rfl (zca rfl) (zam rfl) <| qd0 (i := 9) (v := .pointer (some ⟨b80, 2, none⟩)) rfl (by decide +kernel) rfl rfl (zao fd185_2 ty183 rfl rfl) (zam rfl) <| zb6 (i := 10) (by decide +kernel) ?_
  intro wd136 gd136
  have S137 := S133.keep gd136
  have hf138 := spUp gd136 hf134
  have hf139 := spUp gd136 hf135
  have oc141 := zcx S137 (j := 13) rfl
  obtain ⟨w140, r140, g140, T140⟩ := zb9 (P := Tryd.prog) (off := 2) (v := v132) (vs := [v132]) S137 ty183 (zcq S137 (j := 13) rfl) rfl (j := 10) rfl (by first | decide | exact Nat.le_of_ble_eq_true rfl) (zb7 oc141 zdu)
  have S142 := T140.fx 10 (box b80 185 [.pointer none, .map (some b78), v132]) rfl
  dsimp only [lAa, lAn, lA0, lAs] at S142
  have hf143 : (CFs ⟨b82, 0, none⟩ (zaf beginB)).1 w140 := (CF.box (m := 4) (S142.box_at (j := 11) rfl) rfl)
  refine d_s rfl rfl (za7 rfl rfl r140) (.inr (zbh (by decide +kernel) (zbh (by decide +kernel) trivial))) <| zco (by decide +kernel) ?_
  intro wd144 gd144
  have S145 := S142.keep gd144
  refine zac <| zae (l := [0, 1]) rfl <| p_v (v := .int .i64 0) rfl rfl rfl (zah rfl) <| p_v (v := .int .i64 0) rfl rfl rfl (zag rfl) <| zaa <| zar Tryd.func133 (res1 rfl (zaw (v := .int .i64 0) rfl)) ?_
  refine ⟨_, rfl, ?_⟩
  refine zaa <| zac <| zae (l := [0, 1, 2, 3]) rfl <| p_v (v := .agg (zab p).toArray) rfl rfl rfl (zaj (seg := (zab p)) ty32 (zad o1) (by simp) rfl (CF.box (m := 257) (S145.box_at (j := 6) rfl) (by rw [List.drop_zero, List.take_of_length_le (by rw [zad o1]; exact Nat.le_refl _)]))) <| p_v (v := .agg ((zab p) ++ ([.slice none 0 0, .slice none 0 0] : List Value)).toArray) rfl rfl rfl (zd9 (pv := [(0, .agg (zab p).toArray)]) rfl (zbq pl35 ty35 rfl (cs := ((zab p) ++ ([.slice none 0 0, .slice none 0 0] : List Value))) (fill_mid (vc := (zab p)) (pre := []) (seg := (zab zPart)) (post := [.slice none 0 0, .slice none 0 0]) rfl rfl (zad o1) (by kernel_rfl) rfl (zad (zay)) rfl))) ?_
  obtain ⟨b146, w146, r146, g146, T146⟩ := zcb (P := Tryd.prog) S145 35 (v := zv35) ((zab zPart) ++ ([.slice none 0 0, .slice none 0 0] : List Value)) (by kernel_rfl)
  have S147 := T146
  dsimp only [lAa, lAn, lA0, lAs] at S147
  refine p_v (v := .pointer (some ⟨b146, 0, none⟩)) rfl rfl rfl (zch ty35 r146) ?_
  obtain ⟨w148, r148, g148, T148⟩ := zc9 (P := Tryd.prog) (v := .agg ((zab p) ++ ([.slice none 0 0, .slice none 0 0] : List Value)).toArray) (vs := ((zab p) ++ ([.slice none 0 0, .slice none 0 0] : List Value))) (cs := ((zab zPart) ++ ([.slice none 0 0, .slice none 0 0] : List Value))) S147 ty35 rfl (zbg (zad o1) rfl) (zbg (zad (zay)) rfl) (j := 14) rfl (one_app (zb3 _) (by simp [Value.oneCell']))
  have S149 := T148.fx 14 (box b146 35 ((zab p) ++ ([.slice none 0 0, .slice none 0 0] : List Value))) rfl
  dsimp only [lAa, lAn, lA0, lAs] at S149
  refine p_s rfl rfl (za7 rfl rfl r148) <| zaa <| zac <| zac <| zae (l := [0]) rfl <| p_v (v := .int .i64 0) rfl rfl rfl (zag rfl) <| zaa <| zaq ?_
  have T150 := S149.row_nil 23 (Kd.int .i64).slice
  obtain ⟨vn150, ev150, T150⟩ : ∃ v, v = (.slice none 0 0 : Value) ∧ St w.heap.size w h58 w148 [box b1 27 [.slice A0_0 m.spots.length c0_0, .slice A0_1 m.first.length c0_1, .slice A0_2 m.follow.length c0_2, .slice A0_3 m.last.length c0_3, .bool m.empty], box b3 32 (zab p), box b5 35 ((zab zPart) ++ ([.slice none 0 0, .slice none 0 0] : List Value)), emp, emp, box b60 39 [.slice A58 (zat p).length c58], box b72 32 (zab p), box b74 115 (zaf beginB), box b76 35 ((zab zPart) ++ ([.slice none 0 0, .slice none 0 0] : List Value)), amap (fun x : BSet => Value.agg (zaf x).toArray) (fun x : Int => Value.int .i64 x) b78 (putAt beginB 0 ([] : List (BSet × Int))), box b80 185 [.pointer none, .map (some b78), v132], box b82 115 (zaf beginB), row 115 kSet v121 ([beginB] : List BSet), row 115 kSet v132 (([] : List BSet) ++ ([beginB] : List BSet)), box b146 35 ((zab p) ++ ([v, .slice none 0 0] : List Value)), row 23 (Kd.int .i64).slice v ([] : List (List Int))] := ⟨_, rfl, T150⟩
  have S151 : St w.heap.size w h58 w148 [box b1 27 [.slice A0_0 m.spots.length c0_0, .slice A0_1 m.first.length c0_1, .slice A0_2 m.follow.length c0_2, .slice A0_3 m.last.length c0_3, .bool m.empty], box b3 32 (zab p), box b5 35 ((zab zPart) ++ ([.slice none 0 0, .slice none 0 0] : List Value)), emp, emp, box b60 39 [.slice A58 (zat p).length c58], box b72 32 (zab p), box b74 115 (zaf beginB), box b76 35 ((zab zPart) ++ ([.slice none 0 0, .slice none 0 0] : List Value)), amap (fun x : BSet => Value.agg (zaf x).toArray) (fun x : Int => Value.int .i64 x) b78 (putAt beginB 0 ([] : List (BSet × Int))), box b80 185 [.pointer none, .map (some b78), v132], box b82 115 (zaf beginB), row 115 kSet v121 ([beginB] : List BSet), row 115 kSet v132 (([] : List BSet) ++ ([beginB] : List BSet)), box b146 35 ((zab p) ++ ([vn150, .slice none 0 0] : List Value)), row 23 (Kd.int .i64).slice vn150 ([] : List (List Int))] := T150
  have T152 := S151.row_nil 4 Kd.bool
  obtain ⟨vn152, ev152, T152⟩ : ∃ v, v = (.slice none 0 0 : Value) ∧ St w.heap.size w h58 w148 [box b1 27 [.slice A0_0 m.spots.length c0_0, .slice A0_1 m.first.length c0_1, .slice A0_2 m.follow.length c0_2, .slice A0_3 m.last.length c0_3, .bool m.empty], box b3 32 (zab p), box b5 35 ((zab zPart) ++ ([.slice none 0 0, .slice none 0 0] : List Value)), emp, emp, box b60 39 [.slice A58 (zat p).length c58], box b72 32 (zab p), box b74 115 (zaf beginB), box b76 35 ((zab zPart) ++ ([.slice none 0 0, .slice none 0 0] : List Value)), amap (fun x : BSet => Value.agg (zaf x).toArray) (fun x : Int => Value.int .i64 x) b78 (putAt beginB 0 ([] : List (BSet × Int))), box b80 185 [.pointer none, .map (some b78), v132], box b82 115 (zaf beginB), row 115 kSet v121 ([beginB] : List BSet), row 115 kSet v132 (([] : List BSet) ++ ([beginB] : List BSet)), box b146 35 ((zab p) ++ ([vn150, v] : List Value)), row 23 (Kd.int .i64).slice vn150 ([] : List (List Int)), row 4 Kd.bool v ([] : List Bool)] := ⟨_, rfl, T152⟩
  have S153 : St w.heap.size w h58 w148 [box b1 27 [.slice A0_0 m.spots.length c0_0, .slice A0_1 m.first.length c0_1, .slice A0_2 m.follow.length c0_2, .slice A0_3 m.last.length c0_3, .bool m.empty], box b3 32 (zab p), box b5 35 ((zab zPart) ++ ([.slice none 0 0, .slice none 0 0] : List Value)), emp, emp, box b60 39 [.slice A58 (zat p).length c58], box b72 32 (zab p), box b74 115 (zaf beginB), box b76 35 ((zab zPart) ++ ([.slice none 0 0, .slice none 0 0] : List Value)), amap (fun x : BSet => Value.agg (zaf x).toArray) (fun x : Int => Value.int .i64 x) b78 (putAt beginB 0 ([] : List (BSet × Int))), box b80 185 [.pointer none, .map (some b78), v132], box b82 115 (zaf beginB), row 115 kSet v121 ([beginB] : List BSet), row 115 kSet v132 (([] : List BSet) ++ ([beginB] : List BSet)), box b146 35 ((zab p) ++ ([vn150, vn152] : List Value)), row 23 (Kd.int .i64).slice vn150 ([] : List (List Int)), row 4 Kd.bool vn152 ([] : List Bool)] := T152
  refine zbu (S := (List BSet) × (List (List Int)) × (List Bool) × (List (BSet × Int)) × Int) (fun (q_ : (List BSet) × (List (List Int)) × (List Bool) × (List (BSet × Int)) × Int) ρ w' => match q_ with | (m_2, d_1, d_2, b, i) => ∃ (h : Ghost) (v_m_2 : Value) (v_d_1 : Value) (v_d_2 : Value), Le h58 h ∧ St w.heap.size w h w' [box b1 27 [.slice A0_0 m.spots.length c0_0, .slice A0_1 m.first.length c0_1, .slice A0_2 m.follow.length c0_2, .slice A0_3 m.last.length c0_3, .bool m.empty], box b3 32 (zab p), box b5 35 ((zab zPart) ++ ([.slice none 0 0, .slice none 0 0] : List Value)), box b60 39 [.slice A58 (zat p).length c58], box b72 32 (zab p), box b74 115 (zaf beginB), box b76 35 ((zab zPart) ++ ([.slice none 0 0, .slice none 0 0] : List Value)), amap (fun x : BSet => Value.agg (zaf x).toArray) (fun x : Int => Value.int .i64 x) b78 b, box b80 185 [.pointer none, .map (some b78), v_m_2], box b82 115 (zaf beginB), row 115 kSet v121 ([beginB] : List BSet), row 115 kSet v_m_2 m_2, box b146 35 ((zab p) ++ ([v_d_1, v_d_2] : List Value)), row 23 (Kd.int .i64).slice v_d_1 d_1, row 4 Kd.bool v_d_2 d_2] ∧ ρ 3 = .func (.func 78) #[] #[.pointer (some ⟨b1, 0, none⟩), .pointer (some ⟨b60, 0, none⟩)] ∧ ρ 4 = .func (.func 84) #[] #[.pointer (some ⟨b1, 0, none⟩)] ∧ ρ 5 = .pointer (some ⟨b72, 0, none⟩) ∧ ρ 10 = .pointer (some ⟨b76, 0, none⟩) ∧ ρ 11 = .pointer (some ⟨b80, 0, none⟩) ∧ ρ 12 = .pointer (some ⟨b146, 0, none⟩) ∧ ρ 13 = .int .i64 i ∧ inK .i64 i ∧ (MadeI (zbt m (zat p)) p.n beginB (zdh m) m_2 b d_1 d_2 i)) (fun q_ => match q_ with | (m_2, d_1, d_2, b, i) => (1048578 - i).toNat) (([] : List BSet) ++ ([beginB] : List BSet), ([] : List (List Int)), ([] : List Bool), putAt beginB 0 ([] : List (BSet × Int)), 0) ⟨h58, v132, vn150, vn152, Le.refl _, S153.sub [0, 1, 2, 5, 6, 7, 8, 9, 10, 11, 12, 13, 14, 15, 16] (by decide) rfl _ rfl, rfl, rfl, rfl, rfl, rfl, rfl, rfl, (zal (by omega) (by omega)), (by exact made_0)⟩ ?_
  rintro ⟨m_2, d_1, d_2, b, i⟩ ih154 ρ154 w154 ⟨h154, v_m_2, v_d_1, v_d_2, le154, S154, r154_3, r154_4, r154_5, r154_10, r154_11, r154_12, r154_13, f154_0, hI154⟩
  have lf154_0 := zbb f154_0; have hf154_0 := zbc f154_0
  have rl154_10 := S154.row_le (j := 10) rfl; simp only [maxLen] at rl154_10
  have rl154_11 := S154.row_le (j := 11) rfl; simp only [maxLen] at rl154_11
  have rl154_13 := S154.row_le (j := 13) rfl; simp only [maxLen] at rl154_13
  have rl154_14 := S154.row_le (j := 14) rfl; simp only [maxLen] at rl154_14
  have hi0_ := hI154.lo; have hi1_ := hI154.hi; have hb0_ := spots_bound hR_ pre0 hI154; have hn0_ := (made_len hI154).1; have hf0_ := (made_len hI154).2
  refine zac <| zac <| zae (l := [0, 1, 2, 3, 4, 5, 6]) rfl <| p_v (v := .int .i64 i) rfl rfl rfl (zah r154_13) <| p_v (v := .pointer (some ⟨b80, 0, none⟩)) rfl rfl rfl (zah r154_11) <| p_v (v := .pointer (some ⟨b80, 0, none⟩)) rfl rfl rfl (zca rfl) <| p_v (v := .pointer (some ⟨b80, 2, none⟩)) rfl rfl rfl (zao fd185_2 ty183 rfl rfl) <| p_v (v := v_m_2) rfl rfl rfl (zaj (seg := [v_m_2]) ty183 rfl (by simp) rfl (CF.box (m := 1) (S154.box_at (j := 8) rfl) rfl)) ?_
  have lb155 := S154.row_le (j := 11) rfl; simp only [maxLen] at lb155
  refine p_v (v := .int .i64 (m_2.length : Int)) rfl rfl rfl (x_len_own u183 rfl (e_len_own S154 (j := 11) rfl)) <| p_v (v := .bool (decide (i < (m_2.length : Int)))) rfl rfl rfl (zdy rfl rfl) <| zaa ?_
  refine zan (p := i < (m_2.length : Int)) rfl (fun hc156 => ?_) (fun hc156 => ?_)
  ·skip
   refine zau <| zac <| zaq <| zac <| zae (l := [0, 1, 2, 3, 4, 5, 6, 7, 8]) rfl <| p_v (v := .pointer (some ⟨b80, 0, none⟩)) rfl rfl rfl (zah r154_11) <| p_v (v := .pointer (some ⟨b80, 0, none⟩)) rfl rfl rfl (zca rfl) <| p_v (v := .pointer (some ⟨b80, 2, none⟩)) rfl rfl rfl (zao fd185_2 ty183 rfl rfl) <| p_v (v := v_m_2) rfl rfl rfl (zaj (seg := [v_m_2]) ty183 rfl (by simp) rfl (CF.box (m := 1) (S154.box_at (j := 8) rfl) rfl)) <| p_v (v := .int .i64 i) rfl rfl rfl (zah r154_13) ?_
   obtain ⟨ad157, a157, at157⟩ := zeb (q := i) (m := 4) S154 (j := 11) rfl rfl (by omega) (by omega)
   refine p_v (v := .pointer (some ad157)) rfl rfl rfl (zdj u183 zd2 rfl rfl a157 (by omega) (by omega)) ?_
   obtain ⟨seg158, rp158, cf158⟩ := e_load_own (q := i) S154 (j := 11) rfl rfl at157 (by omega) (by omega)
   obtain ⟨rfl, ok158⟩ := rp158
   refine p_v (v := .agg (zaf (at_ m_2 i)).toArray) rfl rfl rfl (zaj (seg := (zaf (at_ m_2 i))) zd2 rfl (by simp) rfl cf158) ?_
   obtain ⟨b159, w159, r159, g159, T159⟩ := zcb (P := Tryd.prog) S154 115 (v := (.agg #[.int .u64 0, .int .u64 0, .int .u64 0, .int .u64 0])) (zaf (0 : BSet)) rfl
   have S160 := T159
   dsimp only [lAa, lAn, lA0, lAs] at S160
   refine p_v (v := .pointer (some ⟨b159, 0, none⟩)) rfl rfl rfl (zch zd2 r159) ?_
   obtain ⟨w161, r161, g161, T161⟩ := zb9 (P := Tryd.prog) (off := 0) (v := .agg (zaf (at_ m_2 i)).toArray) (vs := (zaf (at_ m_2 i))) S160 zd2 rfl rfl (j := 15) rfl (by first | decide | exact Nat.le_of_ble_eq_true rfl) (zdn _)
   have S162 := T161.fx 15 (box b159 115 (zaf (at_ m_2 i))) rfl
   dsimp only [lAa, lAn, lA0, lAs] at S162
   refine p_s rfl rfl (za7 rfl rfl r161) <| zaa <| zac <| zae (l := [0]) rfl <| p_v (v := .slice none 0 0) rfl rfl rfl (zag rfl) <| zaa <| zac <| zac <| zae (l := [0, 1, 2]) rfl <| p_v (v := .pointer (some ⟨b72, 256, none⟩)) rfl rfl rfl (zao fd32_1 ty3 rfl r154_5) ?_
   have in163 := (o1).2
   have lo163 := zbb in163; have hi163 := zbc in163
   refine p_v (v := .int .i64 p.n) rfl rfl rfl (zaj (seg := [.int .i64 p.n]) ty3 rfl (by simp) rfl (CF.box (m := 1) (S162.box_at (j := 4) rfl) (encPart_n o1))) <| p_v (v := .int .i64 0) rfl rfl rfl (zah rfl) <| zaa <| zaq ?_
   have T164 := S162.row_nil 3 (Kd.int .i64)
   obtain ⟨vn164, ev164, T164⟩ : ∃ v, v = (.slice none 0 0 : Value) ∧ St w.heap.size w h154 w161 ([box b1 27 [.slice A0_0 m.spots.length c0_0, .slice A0_1 m.first.length c0_1, .slice A0_2 m.follow.length c0_2, .slice A0_3 m.last.length c0_3, .bool m.empty], box b3 32 (zab p), box b5 35 ((zab zPart) ++ ([.slice none 0 0, .slice none 0 0] : List Value)), box b60 39 [.slice A58 (zat p).length c58], box b72 32 (zab p), box b74 115 (zaf beginB), box b76 35 ((zab zPart) ++ ([.slice none 0 0, .slice none 0 0] : List Value)), amap (fun x : BSet => Value.agg (zaf x).toArray) (fun x : Int => Value.int .i64 x) b78 b, box b80 185 [.pointer none, .map (some b78), v_m_2], box b82 115 (zaf beginB), row 115 kSet v121 ([beginB] : List BSet), row 115 kSet v_m_2 m_2, box b146 35 ((zab p) ++ ([v_d_1, v_d_2] : List Value)), row 23 (Kd.int .i64).slice v_d_1 d_1, row 4 Kd.bool v_d_2 d_2, box b159 115 (zaf (at_ m_2 i))] ++ [row 3 (Kd.int .i64) v []]) := ⟨_, rfl, T164⟩
   have S165 := T164
   dsimp only [lAa, lAn, lA0, lAs] at S165
   refine zbu (S := (List BSet) × (List Int) × (List (BSet × Int)) × Int) (fun (q_ : (List BSet) × (List Int) × (List (BSet × Int)) × Int) ρ w' => match q_ with | (m_22, l, b2, t44) => ∃ (h : Ghost) (v_m_22 : Value) (v_l : Value), Le h154 h ∧ St w.heap.size w h w' [box b1 27 [.slice A0_0 m.spots.length c0_0, .slice A0_1 m.first.length c0_1, .slice A0_2 m.follow.length c0_2, .slice A0_3 m.last.length c0_3, .bool m.empty], box b3 32 (zab p), box b5 35 ((zab zPart) ++ ([.slice none 0 0, .slice none 0 0] : List Value)), box b60 39 [.slice A58 (zat p).length c58], box b72 32 (zab p), box b74 115 (zaf beginB), box b76 35 ((zab zPart) ++ ([.slice none 0 0, .slice none 0 0] : List Value)), amap (fun x : BSet => Value.agg (zaf x).toArray) (fun x : Int => Value.int .i64 x) b78 b2, box b80 185 [.pointer none, .map (some b78), v_m_22], box b82 115 (zaf beginB), row 115 kSet v121 ([beginB] : List BSet), row 115 kSet v_m_22 m_22, box b146 35 ((zab p) ++ ([v_d_1, v_d_2] : List Value)), row 23 (Kd.int .i64).slice v_d_1 d_1, row 4 Kd.bool v_d_2 d_2, box b159 115 (zaf (at_ m_2 i)), row 3 (Kd.int .i64) v_l l] ∧ ρ 3 = .func (.func 78) #[] #[.pointer (some ⟨b1, 0, none⟩), .pointer (some ⟨b60, 0, none⟩)] ∧ ρ 4 = .func (.func 84) #[] #[.pointer (some ⟨b1, 0, none⟩)] ∧ ρ 5 = .pointer (some ⟨b72, 0, none⟩) ∧ ρ 10 = .pointer (some ⟨b76, 0, none⟩) ∧ ρ 11 = .pointer (some ⟨b80, 0, none⟩) ∧ ρ 12 = .pointer (some ⟨b146, 0, none⟩) ∧ ρ 13 = .int .i64 i ∧ ρ 14 = .pointer (some ⟨b159, 0, none⟩) ∧ ρ 15 = v_l ∧ ρ 43 = .int .i64 p.n ∧ ρ 44 = .int .i64 t44 ∧ inK .i64 t44 ∧ (0 ≤ t44 ∧ t44 ≤ p.n ∧ MadeK (zbt m (zat p)) (at_ m_2 i) m_2 m_22 b2 l t44)) (fun q_ => match q_ with | (m_22, l, b2, t44) => (p.n - t44).toNat) (m_2, ([] : List Int), b, 0) ⟨h154, v_m_2, vn164, Le.refl _, S165.sub [0, 1, 2, 3, 4, 5, 6, 7, 8, 9, 10, 11, 12, 13, 14, 15, 16] (by decide) rfl _ rfl, r154_3, r154_4, r154_5, r154_10, r154_11, r154_12, r154_13, rfl, (ev164.symm), rfl, rfl, (zal (by omega) (by omega)), (by exact ⟨by omega, by omega, made_k0 hI154⟩)⟩ ?_
   rintro ⟨m_22, l, b2, t44⟩ ih166 ρ166 w166 ⟨h166, v_m_22, v_l, le166, S166, r166_3, r166_4, r166_5, r166_10, r166_11, r166_12, r166_13, r166_14, r166_15, r166_43, r166_44, f166_0, hI166⟩
   have lf166_0 := zbb f166_0; have hf166_0 := zbc f166_0
   have rl166_10 := S166.row_le (j := 10) rfl; simp only [maxLen] at rl166_10
   have rl166_11 := S166.row_le (j := 11) rfl; simp only [maxLen] at rl166_11
   have rl166_13 := S166.row_le (j := 13) rfl; simp only [maxLen] at rl166_13
   have rl166_14 := S166.row_le (j := 14) rfl; simp only [maxLen] at rl166_14
   have rl166_16 := S166.row_le (j := 16) rfl; simp only [maxLen] at rl166_16
   have hk0_ := hI166.1; have hk1_ := hI166.2.1; have hb1_ := spots_bound2 hR_ pre0 hI154 (zee hI154.lo (by omega)) hI166.2.2 hI166.2.1; have hl1_ := madeK_len hI166.2.2; have hv_ := made_val hI166.2.2 (zbt m (zat p) (at_ m_2 i) t44)
   refine zac <| zae (l := [0]) rfl <| p_v (v := .bool (decide (t44 < p.n))) rfl rfl rfl (zdy r166_44 r166_43) <| zaa <| zac ?_
   refine zan (p := t44 < p.n) rfl (fun hc167 => ?_) (fun hc167 => ?_)
   ·skip
    refine zau <| zac <| zaq <| zac <| zae (l := [0, 1]) rfl <| p_v (v := .int .i64 t44) rfl rfl rfl (zah r166_44) <| p_v (v := .int .i64 t44) rfl rfl rfl (zag rfl) <| zaa <| zae (l := [0, 1, 2, 3, 4, 5, 6, 7, 8, 9]) rfl <| p_v (v := v_l) rfl rfl rfl (zah r166_15) <| p_v (v := .pointer (some ⟨b80, 0, none⟩)) rfl rfl rfl (zah r166_11) <| p_v (v := .func (.func 78) #[] #[.pointer (some ⟨b1, 0, none⟩), .pointer (some ⟨b60, 0, none⟩)]) rfl rfl rfl (zah r166_3) ?_
    refine p_v (v := .agg (zaf (at_ m_2 i)).toArray) rfl rfl rfl (zaj (seg := (zaf (at_ m_2 i))) zd2 rfl (by simp) r166_14 (CF.box (m := 4) (S166.box_at (j := 15) rfl) rfl)) <| p_v (v := .int .i64 t44) rfl rfl rfl (zah rfl) <| p_c rfl rfl rfl (za2 (args := [.agg (zaf (at_ m_2 i)).toArray, .int .i64 t44, .pointer (some ⟨b1, 0, none⟩), .pointer (some ⟨b60, 0, none⟩)]) ca78 rfl rfl) (next_calls w166 (at_ m_2 i) t44 f166_0 m A0_0 c0_0 b0_0 (l0_0.mono (St.le0 S166)) A0_1 c0_1 b0_1 (l0_1.mono (St.le0 S166)) A0_2 c0_2 b0_2 (l0_2.mono (St.le0 S166)) A0_3 c0_3 b0_3 (l0_3.mono (St.le0 S166)) ⟨b1, 0, none⟩ (zd8 (S166.box_at (j := 0) rfl)) (zat p) A58 c58 (And.intro lc58 cm58) (ld58.mono (((le154).trans le166).trans S166.ghost)) ⟨b60, 0, none⟩ (zd8 (S166.box_at (j := 3) rfl)) (by first | assumption | exact ⟨by assumption, by omega, by omega⟩)) ?_
    rintro _ w168 ⟨h168, T168, rfl⟩
    have S169 := S166.keep (Chg.of_below T168.below)
    refine p_i rfl rfl rfl (za2 (args := [.pointer (some ⟨b80, 0, none⟩), .agg (zaf (zbt m (zat p) (at_ m_2 i) t44)).toArray]) ca133 rfl rfl) (zak Tryd.func133 rfl Tryd.ntmps133 rfl ?_)
    refine zac <| zae (l := [0, 1]) rfl ?_
    obtain ⟨b170, w170, r170, g170, T170⟩ := zcb (P := Tryd.prog) S169 115 (v := .agg (zaf (zbt m (zat p) (at_ m_2 i) t44)).toArray) (zaf (zbt m (zat p) (at_ m_2 i) t44)) rfl
    have S171 := T170
    dsimp only [lAa, lAn, lA0, lAs] at S171
    refine p_v (v := .pointer (some ⟨b170, 0, none⟩)) rfl rfl rfl (zdo rfl r170) <| p_v (v := .int .i64 0) rfl rfl rfl (zag rfl) <| zaa <| zac ?_
    have hf172 : (CFs ⟨b80, 1, none⟩ [.map (some b78)]).1 w170 := (CF.box (m := 1) (S171.box_at (j := 8) rfl) rfl)
    have hf173 : (CFs ⟨b170, 0, none⟩ (zaf (zbt m (zat p) (at_ m_2 i) t44))).1 w170 := (CF.box (m := 4) (S171.box_at (j := 17) rfl) rfl)
    have hf174 : (MapHs (fun x : BSet => Value.agg (zaf x).toArray) (fun x : Int => Value.int .i64 x) b78 b2).1 w170 := (S171.map_at (j := 7) rfl)
    refine daS (hkC 3 hf172 (hkC 4 hf173 (hkC 5 hf174 (hkN (w := w170))))) 11 rfl mixed ?_
    intro wd175 gd175 hd175
    have S176 := S171.keep gd175
    have hf177 := spUp gd175 hf172
    have hf178 := spUp gd175 hf173
    have hf179 := spUp gd175 hf174
    refine qd0 (i := 0) (v := .pointer (some ⟨b80, 0, none⟩)) rfl (by decide +kernel) rfl rfl (zah rfl) (zam rfl) <| qd0 (i := 1) (v := .pointer (some ⟨b80, 0, none⟩)) rfl (by decide +kernel) rfl rfl (zca rfl) (zam rfl) <| qd0 (i := 2) (v := .pointer (some ⟨b80, 1, none⟩)) rfl (by decide +kernel) rfl rfl (zao fd185_1 ty182 rfl rfl) (zam rfl) <| qd1 0 (i := 3) (v := .map (some b78)) rfl rfl (by decide +kernel) rfl rfl (fun wq hq => (zaj (seg := [.map (some b78)]) ty182 rfl (by simp) rfl hq)) (zbz hf177 (zam rfl)) <| qd1 1 (i := 4) (v := .agg (zaf (zbt m (zat p) (at_ m_2 i) t44)).toArray) rfl rfl (by decide +kernel) rfl rfl (fun wq hq => (zaj (seg := (zaf (zbt m (zat p) (at_ m_2 i) t44))) zd2 rfl (by simp) rfl hq)) (zbw rfl (zbz hf178 (zam rfl))) <| qdn (i := 5) (v := .tuple #[.int .i64 ((zbn (zbt m (zat p) (at_ m_2 i) t44) b2).getD 0), .bool ((zbn (zbt m (zat p) (at_ m_2 i) t44) b2).isSome)]) (fun wf => MapH (fun x : BSet => Value.agg (zaf x).toArray) (fun x : Int => Value.int .i64 x) b78 b2 wf) (fun _ ho => ho _ (List.mem_of_getElem? (i := 2) rfl) rfl) rfl (by decide +kernel) rfl rfl (fun wq hq => (x_lookup (a := .map (some b78)) (k := .agg (zaf (zbt m (zat p) (at_ m_2 i) t44)).toArray) rfl rfl (e_lookup_h (kvs := b2) key115 hq u182 (zero_cells ty3) 0 (zbt m (zat p) (at_ m_2 i) t44)))) (zbw rfl (zbw rfl (zbz hf179 (zam rfl)))) <| qd0 (i := 6) (v := .tuple #[.int .i64 ((zbn (zbt m (zat p) (at_ m_2 i) t44) b2).getD 0), .bool ((zbn (zbt m (zat p) (at_ m_2 i) t44) b2).isSome)]) rfl (by decide +kernel) rfl rfl (zah rfl) (zam rfl) <| qd0 (i := 7) (v := .int .i64 ((zbn (zbt m (zat p) (at_ m_2 i) t44) b2).getD 0)) rfl (by decide +kernel) rfl rfl (zc1 (vs := [.int .i64 ((zbn (zbt m (zat p) (at_ m_2 i) t44) b2).getD 0), .bool ((zbn (zbt m (zat p) (at_ m_2 i) t44) b2).isSome)]) rfl rfl) (zam rfl) <| qd0 (i := 8) (v := .bool ((zbn (zbt m (zat p) (at_ m_2 i) t44) b2).isSome)) rfl (by decide +kernel) rfl rfl (zc1 (vs := [.int .i64 ((zbn (zbt m (zat p) (at_ m_2 i) t44) b2).getD 0), .bool ((zbn (zbt m (zat p) (at_ m_2 i) t44) b2).isSome)]) rfl rfl) (zam rfl) <| qd0 (i := 9) (v := .int .i64 ((zbn (zbt m (zat p) (at_ m_2 i) t44) b2).getD 0)) rfl (by decide +kernel) rfl rfl (zag rfl) (zam rfl) <| qd0 (i := 10) (v := .bool ((zbn (zbt m (zat p) (at_ m_2 i) t44) b2).isSome)) rfl (by decide +kernel) rfl rfl (zag rfl) (zam rfl) <| zco (by decide +kernel) ?_
    intro wd180 gd180
    have S181 := S176.keep gd180
    refine zac <| zac <| zae (l := [0, 1]) rfl <| p_v (v := .bool ((zbn (zbt m (zat p) (at_ m_2 i) t44) b2).isSome)) rfl rfl rfl (zah rfl) <| p_v (v := .bool (!((zbn (zbt m (zat p) (at_ m_2 i) t44) b2).isSome))) rfl rfl rfl (x_not rfl) <| zaa ?_
    refine zcp (b := (zbn (zbt m (zat p) (at_ m_2 i) t44) b2).isSome) rfl (fun hc182 => ?_) (fun hc182 => ?_)
    ·skip
     refine zac <| zae (l := [0, 1, 2, 3, 4]) rfl <| p_v (v := .pointer (some ⟨b80, 0, none⟩)) rfl rfl rfl (zah rfl) <| p_v (v := .pointer (some ⟨b80, 0, none⟩)) rfl rfl rfl (zca rfl) <| p_v (v := .pointer (some ⟨b80, 0, none⟩)) rfl rfl rfl (zao fd185_0 ty54 rfl rfl) <| p_v (v := .pointer none) rfl rfl rfl (zaj (seg := [.pointer none]) ty54 rfl (by simp) rfl (CF.box (m := 1) (S181.box_at (j := 8) rfl) rfl)) ?_
     refine p_i rfl rfl rfl (za2 (args := [.pointer none, .int .i64 1]) ca161 rfl rfl) (zak Tryd.func161 rfl Tryd.ntmps161 rfl ?_)
     refine zac <| zac <| zae (l := [0, 1, 2, 3, 4, 5]) rfl <| p_v (v := .pointer none) rfl rfl rfl (zah rfl) <| p_v (v := .bool true) rfl rfl rfl (x_eql_ptr (p := none) u54 rfl rfl) <| p_v (v := .bool true) rfl rfl rfl (zah rfl) <| zbi rfl rfl rfl <| zbi rfl rfl rfl <| p_v (v := .bool true) rfl rfl rfl (zby rfl rfl) <| zaa <| zc3 (b := true) rfl ?_
     simp only [if_true, if_false, Bool.false_eq_true]
     refine zar Tryd.func161 (res0 rfl) ?_
     refine ⟨_, rfl, ?_⟩
     refine zaa <| zac <| zae (l := [0, 1, 2, 3, 4, 5]) rfl <| p_v (v := .pointer (some ⟨b80, 0, none⟩)) rfl rfl rfl (zah rfl) <| p_v (v := .pointer (some ⟨b80, 0, none⟩)) rfl rfl rfl (zca rfl) <| p_v (v := .pointer (some ⟨b80, 2, none⟩)) rfl rfl rfl (zao fd185_2 ty183 rfl rfl) <| p_v (v := v_m_22) rfl rfl rfl (zaj (seg := [v_m_22]) ty183 rfl (by simp) rfl (CF.box (m := 1) (S181.box_at (j := 8) rfl) rfl)) ?_
     have lb183 := S181.row_le (j := 11) rfl; simp only [maxLen] at lb183
     refine p_v (v := .int .i64 (m_22.length : Int)) rfl rfl rfl (x_len_own u183 rfl (e_len_own S181 (j := 11) rfl)) <| p_v (v := .int .i64 (m_22.length : Int)) rfl rfl rfl (zag rfl) <| zaa <| zac ?_
     have hf184 : (CFs ⟨b80, 1, none⟩ [.map (some b78)]).1 wd180 := (CF.box (m := 1) (S181.box_at (j := 8) rfl) rfl)
     have hf185 : (CFs ⟨b170, 0, none⟩ (zaf (zbt m (zat p) (at_ m_2 i) t44))).1 wd180 := (CF.box (m := 4) (S181.box_at (j := 17) rfl) rfl)
     refine daS (hkC 3 hf184 (hkC 4 hf185 (hkN (w := wd180)))) 7 rfl mixed ?_
     intro wd186 gd186 hd186
     have S187 := S181.keep gd186
     have hf188 := spUp gd186 hf184
     have hf189 := spUp gd186 hf185
     refine qd0 (i := 0) (v := .pointer (some ⟨b80, 0, none⟩)) rfl (by decide +kernel) rfl rfl (zah rfl) (zam rfl) <| qd0 (i := 1) (v := .pointer (some ⟨b80, 0, none⟩)) rfl (by decide +kernel) rfl rfl (zca rfl) (zam rfl) <| qd0 (i := 2) (v := .pointer (some ⟨b80, 1, none⟩)) rfl (by decide +kernel) rfl rfl (zao fd185_1 ty182 rfl rfl) (zam rfl) <| qd1 0 (i := 3) (v := .map (some b78)) rfl rfl (by decide +kernel) rfl rfl (fun wq hq => (zaj (seg := [.map (some b78)]) ty182 rfl (by simp) rfl hq)) (zbz hf188 (zam rfl)) <| qd1 1 (i := 4) (v := .agg (zaf (zbt m (zat p) (at_ m_2 i) t44)).toArray) rfl rfl (by decide +kernel) rfl rfl (fun wq hq => (zaj (seg := (zaf (zbt m (zat p) (at_ m_2 i) t44))) zd2 rfl (by simp) rfl hq)) (zbw rfl (zbz hf189 (zam rfl))) <| qd0 (i := 5) (v := .int .i64 (m_22.length : Int)) rfl (by decide +kernel) rfl rfl (zah rfl) (zam rfl) <| zb6 (i := 6) (by decide +kernel) ?_
     intro wd190 gd190
     have S191 := S187.keep gd190
     have hf192 := spUp gd190 hf188
     have hf193 := spUp gd190 hf189
     obtain ⟨w194, r194, g194, T194⟩ := e_mapUpdate key115 S191 (j := 7) rfl u182 (zbt m (zat p) (at_ m_2 i) t44) (m_22.length : Int)
     have S195 := T194.fx 7 (amap (fun x : BSet => Value.agg (zaf x).toArray) (fun x : Int => Value.int .i64 x) b78 (putAt (zbt m (zat p) (at_ m_2 i) t44) (m_22.length : Int) b2)) rfl
     dsimp only [lAa, lAn, lA0, lAs] at S195
     have hf196 : (CFs ⟨b80, 1, none⟩ [.map (some b78)]).1 w194 := (CF.box (m := 1) (S195.box_at (j := 8) rfl) rfl)
     have hf197 : (CFs ⟨b170, 0, none⟩ (zaf (zbt m (zat p) (at_ m_2 i) t44))).1 w194 := (CF.box (m := 4) (S195.box_at (j := 17) rfl) rfl)
     refine d_s rfl rfl (x_mapUpdate rfl rfl rfl r194) (.inr (zbh (by decide +kernel) (zbh (by decide +kernel) trivial))) <| zco (by decide +kernel) ?_
     intro wd198 gd198
     have S199 := S195.keep gd198
     have hf200 : (CFs ⟨b80, 2, none⟩ [v_m_22]).1 wd198 := (CF.box (m := 1) (S199.box_at (j := 8) rfl) rfl)
     have hf201 : (CFs ⟨b170, 0, none⟩ (zaf (zbt m (zat p) (at_ m_2 i) t44))).1 wd198 := (CF.box (m := 4) (S199.box_at (j := 17) rfl) rfl)
     refine daS (hkC 4 hf200 (hkC 5 hf201 (hkN (w := wd198)))) 11 rfl mixed ?_
     intro wd202 gd202 hd202
     have S203 := S199.keep gd202
     have hf204 := spUp gd202 hf200
     have hf205 := spUp gd202 hf201
     refine qd0 (i := 0) (v := .pointer (some ⟨b80, 0, none⟩)) rfl (by decide +kernel) rfl rfl (zah rfl) (zam rfl) <| qd0 (i := 1) (v := .pointer (some ⟨b80, 0, none⟩)) rfl (by decide +kernel) rfl rfl (zah rfl) (zam rfl) <| qd0 (i := 2) (v := .pointer (some ⟨b80, 0, none⟩)) rfl (by decide +kernel) rfl rfl (zca rfl) (zam rfl) <| qd0 (i := 3) (v := .pointer (some ⟨b80, 2, none⟩)) rfl (by decide +kernel) rfl rfl (zao fd185_2 ty183 rfl rfl) (zam rfl) <| qd1 0 (i := 4) (v := v_m_22) rfl rfl (by decide +kernel) rfl rfl (fun wq hq => (zaj (seg := [v_m_22]) ty183 rfl (by simp) rfl hq)) (zbz hf204 (zam rfl)) <| qd1 1 (i := 5) (v := .agg (zaf (zbt m (zat p) (at_ m_2 i) t44)).toArray) rfl rfl (by decide +kernel) rfl rfl (fun wq hq => (zaj (seg := (zaf (zbt m (zat p) (at_ m_2 i) t44))) zd2 rfl (by simp) rfl hq)) (zbw rfl (zbz hf205 (zam rfl))) <| zb6 (i := 6) (by decide +kernel) ?_
     intro wd206 gd206
     have S207 := S203.keep gd206
     have hf208 := spUp gd206 hf204
     have hf209 := spUp gd206 hf205
     obtain ⟨v210, w210, r210, g210, T210⟩ := e_build_segs (kd := kSet) (xs := ([zbt m (zat p) (at_ m_2 i) t44] : List BSet)) (len := 1) (m := 4) [(.agg (zaf (zbt m (zat p) (at_ m_2 i) t44)).toArray, (zaf (zbt m (zat p) (at_ m_2 i) t44)))] S207 u183 zd2 rfl rfl rfl rfl (segs_cons rfl rfl segs_nil) (cs := (zaf (zbt m (zat p) (at_ m_2 i) t44))) (zb5.single (k := kSet) (h := h166) (x := zbt m (zat p) (at_ m_2 i) t44) (cs := (zaf (zbt m (zat p) (at_ m_2 i) t44))) ⟨rfl, trivial⟩) (by simp)
     have S211 := T210
     dsimp only [lAa, lAn, lA0, lAs] at S211
     have hf212 := spUp g210 hf208
     have hf213 := spUp g210 hf209
     refine d_v (v := v210) rfl rfl rfl (zax (pv := [(0, .agg (zaf (zbt m (zat p) (at_ m_2 i) t44)).toArray)]) rfl r210) (.inl g210) <| zb6 (i := 7) (by decide +kernel) ?_
     intro wd214 gd214
     have S215 := S211.keep gd214
     have hf216 := spUp gd214 hf212
     have hf217 := spUp gd214 hf213
     obtain ⟨A219, c219, ev219, lc219, cm219⟩ := S215.row_val (j := 18) rfl
     obtain ⟨v220, w220, r220, g220, T220⟩ := zcw (kd := kSet) (A := A219) (c := c219) (ys := ([zbt m (zat p) (at_ m_2 i) t44] : List BSet)) (len := ([zbt m (zat p) (at_ m_2 i) t44] : List BSet).length) 183 S215 u183 zd2 rfl rfl (j := 11) rfl rfl (zdb S215 (j := 18) rfl ev219) (by first|omega|(simp;omega)|assumption|simp) (by first|omega|(simp;omega)|assumption|simp)
     have S221 := T220.fx 11 (row 115 kSet v220 (m_22 ++ ([zbt m (zat p) (at_ m_2 i) t44] : List BSet))) rfl
     dsimp only [lAa, lAn, lA0, lAs] at S221
     have hf222 : (CFs ⟨b80, 2, none⟩ [v_m_22]).1 w220 := (CF.box (m := 1) (S221.box_at (j := 8) rfl) rfl)
     have hf223 : (CFs ⟨b170, 0, none⟩ (zaf (zbt m (zat p) (at_ m_2 i) t44))).1 w220 := (CF.box (m := 4) (S221.box_at (j := 17) rfl) rfl)
     refine d_v (v := v220) rfl rfl rfl (zcv rfl ev219 r220) (.inr (zbh (by decide +kernel) (zce hf223 trivial))) <| qd0 (i := 8) (v := .pointer (some ⟨b80, 0, none⟩)) rfl (by decide +kernel) rfl rfl (zca rfl) (zam rfl) <| qd0 (i := 9) (v := .pointer (some ⟨b80, 2, none⟩)) rfl (by decide +kernel) rfl rfl (zao fd185_2 ty183 rfl rfl) (zam rfl) <| zb6 (i := 10) (by decide +kernel) ?_
     intro wd224 gd224
     have S225 := S221.keep gd224
     have hf226 := spUp gd224 hf222
     have hf227 := spUp gd224 hf223
     have oc229 := zcx S225 (j := 11) rfl
     obtain ⟨w228, r228, g228, T228⟩ := zb9 (P := Tryd.prog) (off := 2) (v := v220) (vs := [v220]) S225 ty183 (zcq S225 (j := 11) rfl) rfl (j := 8) rfl (by first | decide | exact Nat.le_of_ble_eq_true rfl) (zb7 oc229 zdu)
     have S230 := T228.fx 8 (box b80 185 [.pointer none, .map (some b78), v220]) rfl
     dsimp only [lAa, lAn, lA0, lAs] at S230
     have hf231 : (CFs ⟨b170, 0, none⟩ (zaf (zbt m (zat p) (at_ m_2 i) t44))).1 w228 := (CF.box (m := 4) (S230.box_at (j := 17) rfl) rfl)
     refine d_s rfl rfl (za7 rfl rfl r228) (.inr (zbh (by decide +kernel) (zbh (by decide +kernel) trivial))) <| zco (by decide +kernel) ?_
     intro wd232 gd232
     have S233 := S230.keep gd232
     refine zac <| zae (l := [0, 1]) rfl <| p_v (v := .int .i64 (m_22.length : Int)) rfl rfl rfl (zah rfl) <| p_v (v := .int .i64 (m_22.length : Int)) rfl rfl rfl (zag rfl) <| zaa <| zar Tryd.func133 (res1 rfl (zaw (v := .int .i64 (m_22.length : Int)) rfl)) ?_
     refine ⟨_, rfl, ?_⟩
     obtain ⟨v234, w234, r234, g234, T234⟩ := za6 (kd := (Kd.int .i64)) (xs := ([(m_22.length : Int)] : List Int)) (len := 1) [.int .i64 (m_22.length : Int)] S233 u23 ty3 rfl rfl rfl rfl rfl (zbs rfl zcc) [.int .i64 (m_22.length : Int)] (zb5.single (k := (Kd.int .i64)) (h := h166) (x := (m_22.length : Int)) (cs := [.int .i64 (m_22.length : Int)]) ⟨rfl, (zal (by omega) (by omega))⟩) rfl
     have S235 := T234
     dsimp only [lAa, lAn, lA0, lAs] at S235
     refine p_v (v := v234) rfl rfl rfl (zax (pv := [(0, .int .i64 (m_22.length : Int))]) rfl r234) ?_
     obtain ⟨A237, c237, ev237, lc237, cm237⟩ := S235.row_val (j := 19) rfl
     obtain ⟨v238, w238, r238, g238, T238⟩ := zcw (kd := (Kd.int .i64)) (A := A237) (c := c237) (ys := ([(m_22.length : Int)] : List Int)) (len := ([(m_22.length : Int)] : List Int).length) 23 S235 u23 ty3 rfl rfl (j := 16) rfl rfl (zdb S235 (j := 19) rfl ev237) (by first|omega|(simp;omega)|assumption|simp) (by first|omega|(simp;omega)|assumption|simp)
     have S239 := T238.fx 16 (row 3 (Kd.int .i64) v238 (l ++ ([(m_22.length : Int)] : List Int))) rfl
     dsimp only [lAa, lAn, lA0, lAs] at S239
     refine p_v (v := v238) rfl rfl rfl (zcv rfl ev237 r238) <| p_v (v := v238) rfl rfl rfl (zag rfl) <| zaa <| zas <| zae (l := [0, 1]) rfl <| p_v (v := .int .i64 (t44 + 1)) rfl rfl rfl (zc7 r166_44 rfl (zal (by omega) (by omega))) <| p_v (v := .int .i64 (t44 + 1)) rfl rfl rfl (zah rfl) <| zaa ?_
     refine ih166 (m_22 ++ ([zbt m (zat p) (at_ m_2 i) t44] : List BSet), l ++ ([(m_22.length : Int)] : List Int), putAt (zbt m (zat p) (at_ m_2 i) t44) (m_22.length : Int) b2, t44 + 1) _ _ (by dsimp only; omega) ⟨h166, v220, v238, le166, S239.sub [0, 1, 2, 3, 4, 5, 6, 7, 8, 9, 10, 11, 12, 13, 14, 15, 16] (by decide) rfl _ rfl, r166_3, r166_4, r166_5, r166_10, r166_11, r166_12, r166_13, r166_14, rfl, r166_43, rfl, (zal (by omega) (by omega)), (by first | exact ⟨by omega, by omega, made_old hI166.2.2 (by assumption)⟩ | exact ⟨by omega, by omega, made_new hI166.2.2 (by assumption)⟩)⟩
    refine zau <| zac <| zae (l := [0, 1]) rfl <| p_v (v := .int .i64 ((zbn (zbt m (zat p) (at_ m_2 i) t44) b2).getD 0)) rfl rfl rfl (zah rfl) <| p_v (v := .int .i64 ((zbn (zbt m (zat p) (at_ m_2 i) t44) b2).getD 0)) rfl rfl rfl (zag rfl) <| zaa <| zar Tryd.func133 (res1 rfl (zaw (v := .int .i64 ((zbn (zbt m (zat p) (at_ m_2 i) t44) b2).getD 0)) rfl)) ?_
    refine ⟨_, rfl, ?_⟩
    obtain ⟨v240, w240, r240, g240, T240⟩ := za6 (kd := (Kd.int .i64)) (xs := ([((zbn (zbt m (zat p) (at_ m_2 i) t44) b2).getD 0)] : List Int)) (len := 1) [.int .i64 ((zbn (zbt m (zat p) (at_ m_2 i) t44) b2).getD 0)] S181 u23 ty3 rfl rfl rfl rfl rfl (zbs rfl zcc) [.int .i64 ((zbn (zbt m (zat p) (at_ m_2 i) t44) b2).getD 0)] (zb5.single (k := (Kd.int .i64)) (h := h166) (x := ((zbn (zbt m (zat p) (at_ m_2 i) t44) b2).getD 0)) (cs := [.int .i64 ((zbn (zbt m (zat p) (at_ m_2 i) t44) b2).getD 0)]) ⟨rfl, (zal (by omega) (by omega))⟩) rfl
    have S241 := T240
    dsimp only [lAa, lAn, lA0, lAs] at S241
    refine p_v (v := v240) rfl rfl rfl (zax (pv := [(0, .int .i64 ((zbn (zbt m (zat p) (at_ m_2 i) t44) b2).getD 0))]) rfl r240) ?_
    obtain ⟨A243, c243, ev243, lc243, cm243⟩ := S241.row_val (j := 18) rfl
    obtain ⟨v244, w244, r244, g244, T244⟩ := zcw (kd := (Kd.int .i64)) (A := A243) (c := c243) (ys := ([((zbn (zbt m (zat p) (at_ m_2 i) t44) b2).getD 0)] : List Int)) (len := ([((zbn (zbt m (zat p) (at_ m_2 i) t44) b2).getD 0)] : List Int).length) 23 S241 u23 ty3 rfl rfl (j := 16) rfl rfl (zdb S241 (j := 18) rfl ev243) (by first|omega|(simp;omega)|assumption|simp) (by first|omega|(simp;omega)|assumption|simp)
    have S245 := T244.fx 16 (row 3 (Kd.int .i64) v244 (l ++ ([((zbn (zbt m (zat p) (at_ m_2 i) t44) b2).getD 0)] : List Int))) rfl
    dsimp only [lAa, lAn, lA0, lAs] at S245
    refine p_v (v := v244) rfl rfl rfl (zcv rfl ev243 r244) <| p_v (v := v244) rfl rfl rfl (zag rfl) <| zaa <| zas <| zae (l := [0, 1]) rfl <| p_v (v := .int .i64 (t44 + 1)) rfl rfl rfl (zc7 r166_44 rfl (zal (by omega) (by omega))) <| p_v (v := .int .i64 (t44 + 1)) rfl rfl rfl (zah rfl) <| zaa ?_
    refine ih166 (m_22, l ++ ([((zbn (zbt m (zat p) (at_ m_2 i) t44) b2).getD 0)] : List Int), b2, t44 + 1) _ _ (by dsimp only; omega) ⟨h166, v_m_22, v244, le166, S245.sub [0, 1, 2, 3, 4, 5, 6, 7, 8, 9, 10, 11, 12, 13, 14, 15, 16] (by decide) rfl _ rfl, r166_3, r166_4, r166_5, r166_10, r166_11, r166_12, r166_13, r166_14, rfl, r166_43, rfl, (zal (by omega) (by omega)), (by first | exact ⟨by omega, by omega, made_old hI166.2.2 (by assumption)⟩ | exact ⟨by omega, by omega, made_new hI166.2.2 (by assumption)⟩)⟩
   refine zbv rfl ?_
   have hf246 : (CFs ⟨b146, 257, none⟩ [v_d_1]).1 w166 := (CF.box (m := 1) (S166.box_at (j := 12) rfl) (za5 (a := (zab p)) (pre := []) (seg := [v_d_1]) (post := [v_d_2]) (zad o1) rfl rfl))
   have hf247 : (CFs ⟨b146, 258, none⟩ [v_d_2]).1 w166 := (CF.box (m := 1) (S166.box_at (j := 12) rfl) (za5 (a := (zab p)) (pre := [v_d_1]) (seg := [v_d_2]) (post := []) (zad o1) rfl rfl))
   have hf248 : (CFs ⟨b159, 0, none⟩ (zaf (at_ m_2 i))).1 w166 := (CF.box (m := 4) (S166.box_at (j := 15) rfl) rfl)
   refine daS (hkC 1 hf246 (hkC 6 hf247 (hkC 8 hf248 (hkN (w := w166))))) 16 rfl mixed ?_
   intro wd249 gd249 hd249
   have S250 := S166.keep gd249
   have hf251 := spUp gd249 hf246
   have hf252 := spUp gd249 hf247
   have hf253 := spUp gd249 hf248
   refine qd0 (i := 0) (v := .pointer (some ⟨b146, 257, none⟩)) rfl (by decide +kernel) rfl rfl (zao fd35_1 ty24 rfl r166_12) (zam rfl) <| qd1 0 (i := 1) (v := v_d_1) rfl rfl (by decide +kernel) rfl rfl (fun wq hq => (zaj (seg := [v_d_1]) ty24 rfl (by simp) rfl hq)) (zbz hf251 (zam rfl)) <| qd0 (i := 2) (v := v_l) rfl (by decide +kernel) rfl rfl (zah r166_15) (zam rfl) <| qd0 (i := 5) (v := .pointer (some ⟨b146, 258, none⟩)) rfl (by decide +kernel) rfl rfl (zao fd35_2 ty25 rfl r166_12) (zam rfl) <| qd1 1 (i := 6) (v := v_d_2) rfl rfl (by decide +kernel) rfl rfl (fun wq hq => (zaj (seg := [v_d_2]) ty25 rfl (by simp) rfl hq)) (zbw rfl (zbz hf252 (zam rfl))) <| qd0 (i := 7) (v := .func (.func 84) #[] #[.pointer (some ⟨b1, 0, none⟩)]) rfl (by decide +kernel) rfl rfl (zah r166_4) (zam rfl) <| qd1 2 (i := 8) (v := .agg (zaf (at_ m_2 i)).toArray) rfl rfl (by decide +kernel) rfl rfl (fun wq hq => (zaj (seg := (zaf (at_ m_2 i))) zd2 rfl (by simp) r166_14 hq)) (zbw rfl (zbw rfl (zbz hf253 (zam rfl)))) <| zb6 (i := 3) (by decide +kernel) ?_
   intro wd254 gd254
   have S255 := S250.keep gd254
   have hf256 := spUp gd254 hf251
   have hf257 := spUp gd254 hf252
   have hf258 := spUp gd254 hf253
   obtain ⟨h260, le260, T260, rp260⟩ := S255.freeze (i := 16) rfl
   have lf260_0 := (((((lf58_0).trans le154)).trans le166)).trans le260
   have lf260_1 := (((((lf58_1).trans le154)).trans le166)).trans le260
   have lf260_2 := (((((lf58_2).trans le154)).trans le166)).trans le260
   have lf260_3 := (((((le58).trans le154)).trans le166)).trans le260
   have lf260_4 := (((le154).trans le166)).trans le260
   have lf260_5 := (le166).trans le260
   have S261 := T260.fx 16 (emp) rfl
   dsimp only [lAa, lAn, lA0, lAs] at S261
   obtain ⟨A260, c260, e260, lc260, cm260, ld260⟩ := rp260
   injection e260 with e260 _; subst e260
   have cn260 := cm260; simp only [maxLen] at cn260
   obtain ⟨v259, w259, r259, g259, T259⟩ := za6 (kd := (Kd.int .i64).slice) (xs := ([l] : List (List Int))) (len := 1) [.slice A260 l.length c260] S261 u24 ty23 rfl rfl rfl rfl rfl (zbs rfl zcc) [.slice A260 l.length c260] (zb5.single (k := (Kd.int .i64).slice) (h := h260) (x := l) (cs := [.slice A260 l.length c260]) ⟨_, _, rfl, (And.intro lc260 cm260).1, (And.intro lc260 cm260).2, ld260.mono (Le.refl _)⟩) rfl
   have S262 := T259
   dsimp only [lAa, lAn, lA0, lAs] at S262
   have hf263 := spUp g259 hf256
   have hf264 := spUp g259 hf257
   have hf265 := spUp g259 hf258
   refine d_v (v := v259) rfl rfl rfl (zax (pv := [(0, .slice A260 l.length c260)]) rfl r259) (.inl g259) <| zb6 (i := 4) (by decide +kernel) ?_
   intro wd266 gd266
   have S267 := S262.keep gd266
   have hf268 := spUp gd266 hf263
   have hf269 := spUp gd266 hf264
   have hf270 := spUp gd266 hf265
   obtain ⟨A272, c272, ev272, lc272, cm272⟩ := S267.row_val (j := 17) rfl
   obtain ⟨v273, w273, r273, g273, T273⟩ := zcw (kd := (Kd.int .i64).slice) (A := A272) (c := c272) (ys := ([l] : List (List Int))) (len := ([l] : List (List Int)).length) 24 S267 u24 ty23 rfl rfl (j := 13) rfl rfl (zdb S267 (j := 17) rfl ev272) (by first|omega|(simp;omega)|assumption|simp) (by first|omega|(simp;omega)|assumption|simp)
   have S274 := T273.fx 13 (row 23 (Kd.int .i64).slice v273 (d_1 ++ ([l] : List (List Int)))) rfl
   dsimp only [lAa, lAn, lA0, lAs] at S274
   have hf275 : (CFs ⟨b146, 257, none⟩ [v_d_1]).1 w273 := (CF.box (m := 1) (S274.box_at (j := 12) rfl) (za5 (a := (zab p)) (pre := []) (seg := [v_d_1]) (post := [v_d_2]) (zad o1) rfl rfl))
   have hf276 : (CFs ⟨b146, 258, none⟩ [v_d_2]).1 w273 := (CF.box (m := 1) (S274.box_at (j := 12) rfl) (za5 (a := (zab p)) (pre := [v_d_1]) (seg := [v_d_2]) (post := []) (zad o1) rfl rfl))
   have hf277 : (CFs ⟨b159, 0, none⟩ (zaf (at_ m_2 i))).1 w273 := (CF.box (m := 4) (S274.box_at (j := 15) rfl) rfl)
   refine d_v (v := v273) rfl rfl rfl (zcv rfl ev272 r273) (.inr (zbh (by decide +kernel) (zce hf276 (zce hf277 trivial)))) ?_
   have hf279 : (zdc kSpot A0_0 m.spots).1 w273 := (l0_0.mono (St.le0 S274))
   have hf280 : (zdc (Kd.int .i64) A0_1 m.first).1 w273 := (l0_1.mono (St.le0 S274))
   have hf281 : (zdc (Kd.int .i64).slice A0_2 m.follow).1 w273 := (l0_2.mono (St.le0 S274))
   have hf282 : (zdc Kd.bool A0_3 m.last).1 w273 := (l0_3.mono (St.le0 S274))
   have hf283 : (GCs ⟨b1, 0, none⟩ [.slice A0_0 m.spots.length c0_0, .slice A0_1 m.first.length c0_1, .slice A0_2 m.follow.length c0_2, .slice A0_3 m.last.length c0_3, .bool m.empty]).1 w273 := (zd8 (S274.box_at (j := 0) rfl))
   refine raMo (hkC 9 hf279 (hkC 9 hf280 (hkC 9 hf281 (hkC 9 hf282 (hkC 9 hf283 (hkN (w := w273))))))) <| d_m (i := 9) (v := .bool (zdh m (at_ m_2 i))) (fun wf => zbo kSpot (hp wf) A0_0 m.spots ∧ zbo (Kd.int .i64) (hp wf) A0_1 m.first ∧ zbo (Kd.int .i64).slice (hp wf) A0_2 m.follow ∧ zbo Kd.bool (hp wf) A0_3 m.last ∧ (GCs ⟨b1, 0, none⟩ [.slice A0_0 m.spots.length c0_0, .slice A0_1 m.first.length c0_1, .slice A0_2 m.follow.length c0_2, .slice A0_3 m.last.length c0_3, .bool m.empty]).1 wf) (fun _ ho => ⟨ho _ (List.mem_of_getElem? (i := 0) rfl) rfl, ho _ (List.mem_of_getElem? (i := 1) rfl) rfl, ho _ (List.mem_of_getElem? (i := 2) rfl) rfl, ho _ (List.mem_of_getElem? (i := 3) rfl) rfl, ho _ (List.mem_of_getElem? (i := 4) rfl) rfl⟩) rfl (by decide +kernel) (by decide +kernel) (by decide +kernel) rfl rfl (fun wq => (za2 (args := [.agg (zaf (at_ m_2 i)).toArray, .pointer (some ⟨b1, 0, none⟩)]) ca84 rfl rfl)) (fun wq hq => (final_calls wq (at_ m_2 i) m A0_0 c0_0 b0_0 hq.1 A0_1 c0_1 b0_1 hq.2.1 A0_2 c0_2 b0_2 hq.2.2.1 A0_3 c0_3 b0_3 hq.2.2.2.1 ⟨b1, 0, none⟩ hq.2.2.2.2 (by assumption)).mono fun e w2 he => by obtain ⟨_, rfl, _, T, rfl⟩ := he; exact ⟨rfl, Chg.of_below T.below⟩) (zbz hf279 (zbz hf280 (zbz hf281 (zbz hf282 (zbz hf283 (zam rfl)))))) <| qd0 (i := 12) (v := .pointer (some ⟨b146, 257, none⟩)) rfl (by decide +kernel) rfl rfl (zao fd35_1 ty24 rfl r166_12) (zam rfl) <| zb6 (i := 10) (by decide +kernel) ?_
   intro wd284 gd284
   have S285 := S274.keep gd284
   have hf286 := spUp gd284 hf279
   have hf287 := spUp gd284 hf280
   have hf288 := spUp gd284 hf281
   have hf289 := spUp gd284 hf282
   have hf290 := spUp gd284 hf283
   have hf291 := spUp gd284 hf275
   have hf292 := spUp gd284 hf276
   have hf293 := spUp gd284 hf277
   obtain ⟨v294, w294, r294, g294, T294⟩ := za6 (kd := Kd.bool) (xs := ([zdh m (at_ m_2 i)] : List Bool)) (len := 1) [.bool (zdh m (at_ m_2 i))] S285 u25 ty4 rfl rfl rfl rfl rfl (zbs rfl zcc) [.bool (zdh m (at_ m_2 i))] (zb5.single (k := Kd.bool) (h := h260) (x := zdh m (at_ m_2 i)) (cs := [.bool (zdh m (at_ m_2 i))]) ⟨rfl, trivial⟩) rfl
   have S295 := T294
   dsimp only [lAa, lAn, lA0, lAs] at S295
   have hf296 := spUp g294 hf286
   have hf297 := spUp g294 hf287
   have hf298 := spUp g294 hf288
   have hf299 := spUp g294 hf289
   have hf300 := spUp g294 hf290
   have hf301 := spUp g294 hf291
   have hf302 := spUp g294 hf292
   have hf303 := spUp g294 hf293
   refine d_v (v := v294) rfl rfl rfl (zax (pv := [(0, .bool (zdh m (at_ m_2 i)))]) rfl r294) (.inl g294) <| zb6 (i := 11) (by decide +kernel) ?_
   intro wd304 gd304
   have S305 := S295.keep gd304
   have hf306 := spUp gd304 hf296
   have hf307 := spUp gd304 hf297
   have hf308 := spUp gd304 hf298
   have hf309 := spUp gd304 hf299
   have hf310 := spUp gd304 hf300
   have hf311 := spUp gd304 hf301
   have hf312 := spUp gd304 hf302
   have hf313 := spUp gd304 hf303
   obtain ⟨A315, c315, ev315, lc315, cm315⟩ := S305.row_val (j := 18) rfl
   obtain ⟨v316, w316, r316, g316, T316⟩ := zcw (kd := Kd.bool) (A := A315) (c := c315) (ys := ([zdh m (at_ m_2 i)] : List Bool)) (len := ([zdh m (at_ m_2 i)] : List Bool).length) 25 S305 u25 ty4 rfl rfl (j := 14) rfl rfl (zdb S305 (j := 18) rfl ev315) (by first|omega|(simp;omega)|assumption|simp) (by first|omega|(simp;omega)|assumption|simp)
   have S317 := T316.fx 14 (row 4 Kd.bool v316 (d_2 ++ ([zdh m (at_ m_2 i)] : List Bool))) rfl
   dsimp only [lAa, lAn, lA0, lAs] at S317
   have hf318 : (zdc kSpot A0_0 m.spots).1 w316 := (l0_0.mono (St.le0 S317))
   have hf319 : (zdc (Kd.int .i64) A0_1 m.first).1 w316 := (l0_1.mono (St.le0 S317))
   have hf320 : (zdc (Kd.int .i64).slice A0_2 m.follow).1 w316 := (l0_2.mono (St.le0 S317))
   have hf321 : (zdc Kd.bool A0_3 m.last).1 w316 := (l0_3.mono (St.le0 S317))
   have hf322 : (GCs ⟨b1, 0, none⟩ [.slice A0_0 m.spots.length c0_0, .slice A0_1 m.first.length c0_1, .slice A0_2 m.follow.length c0_2, .slice A0_3 m.last.length c0_3, .bool m.empty]).1 w316 := (zd8 (S317.box_at (j := 0) rfl))
   have hf323 : (CFs ⟨b146, 257, none⟩ [v_d_1]).1 w316 := (CF.box (m := 1) (S317.box_at (j := 12) rfl) (za5 (a := (zab p)) (pre := []) (seg := [v_d_1]) (post := [v_d_2]) (zad o1) rfl rfl))
   have hf324 : (CFs ⟨b146, 258, none⟩ [v_d_2]).1 w316 := (CF.box (m := 1) (S317.box_at (j := 12) rfl) (za5 (a := (zab p)) (pre := [v_d_1]) (seg := [v_d_2]) (post := []) (zad o1) rfl rfl))
   have hf325 : (CFs ⟨b159, 0, none⟩ (zaf (at_ m_2 i))).1 w316 := (CF.box (m := 4) (S317.box_at (j := 15) rfl) rfl)
   refine d_v (v := v316) rfl rfl rfl (zcv rfl ev315 r316) (.inr (zbh (by decide +kernel) (zbh (by decide +kernel) (zbh (by decide +kernel) (zbh (by decide +kernel) (zbh (by decide +kernel) (zce hf323 (zbh (by decide +kernel) (zce hf325 trivial))))))))) <| zb6 (i := 13) (by decide +kernel) ?_
   intro wd326 gd326
   have S327 := S317.keep gd326
   have hf328 := spUp gd326 hf318
   have hf329 := spUp gd326 hf319
   have hf330 := spUp gd326 hf320
   have hf331 := spUp gd326 hf321
   have hf332 := spUp gd326 hf322
   have hf333 := spUp gd326 hf323
   have hf334 := spUp gd326 hf324
   have hf335 := spUp gd326 hf325
   have oc337 := zcx S327 (j := 13) rfl
   obtain ⟨w336, r336, g336, T336⟩ := zc5 (P := Tryd.prog) (off := 257) (v := v273) (vs := [v273]) (a := (zab p)) (pre := []) (seg := [v_d_1]) (post := [v_d_2]) S327 ty24 (zcq S327 (j := 13) rfl) rfl (zad o1) rfl rfl (j := 12) rfl (zb7 oc337 zdu)
   have S338 := T336.fx 12 (box b146 35 ((zab p) ++ ([v273, v_d_2] : List Value))) rfl
   dsimp only [lAa, lAn, lA0, lAs] at S338
   have hf339 : (zdc kSpot A0_0 m.spots).1 w336 := (l0_0.mono (St.le0 S338))
   have hf340 : (zdc (Kd.int .i64) A0_1 m.first).1 w336 := (l0_1.mono (St.le0 S338))
   have hf341 : (zdc (Kd.int .i64).slice A0_2 m.follow).1 w336 := (l0_2.mono (St.le0 S338))
   have hf342 : (zdc Kd.bool A0_3 m.last).1 w336 := (l0_3.mono (St.le0 S338))
   have hf343 : (GCs ⟨b1, 0, none⟩ [.slice A0_0 m.spots.length c0_0, .slice A0_1 m.first.length c0_1, .slice A0_2 m.follow.length c0_2, .slice A0_3 m.last.length c0_3, .bool m.empty]).1 w336 := (zd8 (S338.box_at (j := 0) rfl))
   have hf344 : (CFs ⟨b159, 0, none⟩ (zaf (at_ m_2 i))).1 w336 := (CF.box (m := 4) (S338.box_at (j := 15) rfl) rfl)
   refine d_s rfl rfl (za7 rfl rfl r336) (.inr (zce hf339 (zce hf340 (zce hf341 (zce hf342 (zce hf343 (zbh (by decide +kernel) (zbh (by decide +kernel) (zce hf344 trivial))))))))) <| qd0 (i := 14) (v := .pointer (some ⟨b146, 258, none⟩)) rfl (by decide +kernel) rfl rfl (zao fd35_2 ty25 rfl r166_12) (zam rfl) <| zb6 (i := 15) (by decide +kernel) ?_
   intro wd345 gd345
   have S346 := S338.keep gd345
   have hf347 := spUp gd345 hf339
   have hf348 := spUp gd345 hf340
   have hf349 := spUp gd345 hf341
   have hf350 := spUp gd345 hf342
   have hf351 := spUp gd345 hf343
   have hf352 := spUp gd345 hf344
   have oc354 := zcx S346 (j := 14) rfl
   obtain ⟨w353, r353, g353, T353⟩ := zc5 (P := Tryd.prog) (off := 258) (v := v316) (vs := [v316]) (a := (zab p)) (pre := [v273]) (seg := [v_d_2]) (post := []) S346 ty25 (zcq S346 (j := 14) rfl) rfl (zad o1) rfl rfl (j := 12) rfl (zb7 oc354 zdu)
   have S355 := T353.fx 12 (box b146 35 ((zab p) ++ ([v273, v316] : List Value))) rfl
   dsimp only [lAa, lAn, lA0, lAs] at S355
   have hf356 : (zdc kSpot A0_0 m.spots).1 w353 := (l0_0.mono (St.le0 S355))
   have hf357 : (zdc (Kd.int .i64) A0_1 m.first).1 w353 := (l0_1.mono (St.le0 S355))
   have hf358 : (zdc (Kd.int .i64).slice A0_2 m.follow).1 w353 := (l0_2.mono (St.le0 S355))
   have hf359 : (zdc Kd.bool A0_3 m.last).1 w353 := (l0_3.mono (St.le0 S355))
   have hf360 : (GCs ⟨b1, 0, none⟩ [.slice A0_0 m.spots.length c0_0, .slice A0_1 m.first.length c0_1, .slice A0_2 m.follow.length c0_2, .slice A0_3 m.last.length c0_3, .bool m.empty]).1 w353 := (zd8 (S355.box_at (j := 0) rfl))
   have hf361 : (CFs ⟨b159, 0, none⟩ (zaf (at_ m_2 i))).1 w353 := (CF.box (m := 4) (S355.box_at (j := 15) rfl) rfl)
   refine d_s rfl rfl (za7 rfl rfl r353) (.inr (zbh (by decide +kernel) (zbh (by decide +kernel) (zbh (by decide +kernel) (zbh (by decide +kernel) (zbh (by decide +kernel) (zbh (by decide +kernel) (zbh (by decide +kernel) (zbh (by decide +kernel) trivial))))))))) <| zco (by decide +kernel) ?_
   intro wd362 gd362
   have S363 := S355.keep gd362
   refine zas <| zae (l := [0, 1, 2]) rfl <| p_v (v := .int .i64 i) rfl rfl rfl (zah r166_13) <| p_v (v := .int .i64 (i + 1)) rfl rfl rfl (zc7 rfl rfl (zal (by omega) (by omega))) <| p_v (v := .int .i64 (i + 1)) rfl rfl rfl (zag rfl) <| zaa ?_
   refine ih154 (m_22, d_1 ++ ([l] : List (List Int)), d_2 ++ ([zdh m (at_ m_2 i)] : List Bool), b2, i + 1) _ _ (by dsimp only; omega) ⟨h260, v_m_22, v273, v316, lf260_4, S363.sub [0, 1, 2, 3, 4, 5, 6, 7, 8, 9, 10, 11, 12, 13, 14] (by decide) rfl _ rfl, r166_3, r166_4, r166_5, r166_10, r166_11, r166_12, rfl, (zal (by omega) (by omega)), (by exact made_next hI154 (by omega) (zda hI154.lo (by omega)) (by have := hI166.1; rw [show p.n = t44 by omega]; exact hI166.2.2))⟩
  refine zbv rfl <| zac <| zae (l := [0, 1]) rfl <| p_v (v := .agg ((zab p) ++ ([v_d_1, v_d_2] : List Value)).toArray) rfl rfl rfl (zaj (seg := ((zab p) ++ ([v_d_1, v_d_2] : List Value))) ty35 (zbg (zad o1) rfl) (by simp) r154_12 (CF.box (m := 259) (S154.box_at (j := 12) rfl) (zd4 (zbg (zad o1) rfl)))) ?_
  have oc365 := zcx S154 (j := 13) rfl
  have oc366 := zcx S154 (j := 14) rfl
  obtain ⟨w364, r364, g364, T364⟩ := zc9 (P := Tryd.prog) (v := .agg ((zab p) ++ ([v_d_1, v_d_2] : List Value)).toArray) (vs := ((zab p) ++ ([v_d_1, v_d_2] : List Value))) (cs := ((zab zPart) ++ ([.slice none 0 0, .slice none 0 0] : List Value))) S154 ty35 rfl (zbg (zad o1) rfl) (zbg (zad (zay)) rfl) (j := 6) rfl (one_app (zb3 _) (zb7 oc365 (zb7 oc366 zdu)))
  have S367 := T364.fx 6 (box b76 35 ((zab p) ++ ([v_d_1, v_d_2] : List Value))) rfl
  dsimp only [lAa, lAn, lA0, lAs] at S367
  refine p_s rfl rfl (za7 r154_10 rfl r364) <| zaa <| zar Tryd.func85 (res1 rfl (zdg S367 ty35 r154_10 (j := 6) rfl (zbg (zad o1) rfl) (by simp) rfl)) ?_
  refine ⟨_, rfl, ?_⟩
  have hf368 : (CFs ⟨b3, 0, none⟩ (zab p)).1 w364 := (CF.box (m := 257) (S367.box_at (j := 1) rfl) (by rw [List.drop_zero, List.take_of_length_le (by rw [zad o1]; exact Nat.le_refl _)]))
  refine ⟨.inr (zce hf368 trivial), ?_⟩
  refine zb6 (i := 6) (by decide +kernel) ?_
  intro wd369 gd369
  have S370 := S367.keep gd369
  have hf371 := spUp gd369 hf368
  have oc373 := zcx S370 (j := 13) rfl
  have oc374 := zcx S370 (j := 14) rfl
  obtain ⟨w372, r372, g372, T372⟩ := zc9 (P := Tryd.prog) (v := .agg ((zab p) ++ ([v_d_1, v_d_2] : List Value)).toArray) (vs := ((zab p) ++ ([v_d_1, v_d_2] : List Value))) (cs := ((zab zPart) ++ ([.slice none 0 0, .slice none 0 0] : List Value))) S370 ty35 rfl (zbg (zad o1) rfl) (zbg (zad (zay)) rfl) (j := 2) rfl (one_app (zb3 _) (zb7 oc373 (zb7 oc374 zdu)))
  have S375 := T372.fx 2 (box b5 35 ((zab p) ++ ([v_d_1, v_d_2] : List Value))) rfl
  dsimp only [lAa, lAn, lA0, lAs] at S375
  have hf376 : (CFs ⟨b3, 0, none⟩ (zab p)).1 w372 := (CF.box (m := 257) (S375.box_at (j := 1) rfl) (by rw [List.drop_zero, List.take_of_length_le (by rw [zad o1]; exact Nat.le_refl _)]))
  refine d_s rfl rfl (za7 rfl rfl r372) (.inr (zbh (by decide +kernel) trivial)) <| qd0 (i := 7) (v := .int .i64 0) rfl (by decide +kernel) rfl rfl (zag rfl) (zam rfl) <| zco (by decide +kernel) ?_
  intro wd377 gd377
  have S378 := S375.keep gd377
  refine zar Tryd.func21 (res2 rfl (zdg S378 ty35 rfl (j := 2) rfl (zbg (zad o1) rfl) (by simp) rfl) (zaw (v := .int .i64 0) rfl)) ?_
  have q0 : ((zai m p).part : PartM) = p := by
   first | (rw [(zbf (by assumption)).1]; done) | (rw [(zbf (by assumption)).1]) | exact (zbf (by assumption)).2 | (rw [(zbe (by assumption)).1]; done) | (rw [(zbe (by assumption)).1]) | exact (zbe (by assumption)).2 | exact err_yes (by assumption) (by assumption) | (rw [za1 (by assumption) (by assumption), zbr]; done) | (rw [za1 (by assumption) (by assumption), zbr]) | (rw [za1 (by assumption) (by assumption), zcs]; exact (zcm hI154 (by omega)).2.1.symm) | (rw [za1 (by assumption) (by assumption), zcj]; exact (zcm hI154 (by omega)).2.2.symm)
  have q1 : ((zai m p).next : List (List Int)) = d_1 := by
   first | (rw [(zbf (by assumption)).1]; done) | (rw [(zbf (by assumption)).1]) | exact (zbf (by assumption)).2 | (rw [(zbe (by assumption)).1]; done) | (rw [(zbe (by assumption)).1]) | exact (zbe (by assumption)).2 | exact err_yes (by assumption) (by assumption) | (rw [za1 (by assumption) (by assumption), zbr]; done) | (rw [za1 (by assumption) (by assumption), zbr]) | (rw [za1 (by assumption) (by assumption), zcs]; exact (zcm hI154 (by omega)).2.1.symm) | (rw [za1 (by assumption) (by assumption), zcj]; exact (zcm hI154 (by omega)).2.2.symm)
  have q2 : ((zai m p).final : List Bool) = d_2 := by
   first | (rw [(zbf (by assumption)).1]; done) | (rw [(zbf (by assumption)).1]) | exact (zbf (by assumption)).2 | (rw [(zbe (by assumption)).1]; done) | (rw [(zbe (by assumption)).1]) | exact (zbe (by assumption)).2 | exact err_yes (by assumption) (by assumption) | (rw [za1 (by assumption) (by assumption), zbr]; done) | (rw [za1 (by assumption) (by assumption), zbr]) | (rw [za1 (by assumption) (by assumption), zcs]; exact (zcm hI154 (by omega)).2.1.symm) | (rw [za1 (by assumption) (by assumption), zcj]; exact (zcm hI154 (by omega)).2.2.symm)
  have q3 : (errB m p : Int) = 0 := by
   first | (rw [(zbf (by assumption)).1]; done) | (rw [(zbf (by assumption)).1]) | exact (zbf (by assumption)).2 | (rw [(zbe (by assumption)).1]; done) | (rw [(zbe (by assumption)).1]) | exact (zbe (by assumption)).2 | exact err_yes (by assumption) (by assumption) | (rw [za1 (by assumption) (by assumption), zbr]; done) | (rw [za1 (by assumption) (by assumption), zbr]) | (rw [za1 (by assumption) (by assumption), zcs]; exact (zcm hI154 (by omega)).2.1.symm) | (rw [za1 (by assumption) (by assumption), zcj]; exact (zcm hI154 (by omega)).2.2.symm)
  refine ⟨_, rfl, h154, v_d_1, v_d_2, ?_, ?_, ?_, ?_⟩
  · rw [q1]; rw [q2]; exact S378.sub [13, 14] (by decide) rfl _ rfl
  · first | rfl | (simp only [q0, q1, q2, q3]; rfl) | (simp only [q0, q1, q2, q3])
  · rw [q0]; first | assumption | exact zay
  · rw [q3]; exact (zal (by omega) (by omega))
 have hf379 : (CFs ⟨b1, 0, none⟩ [.slice A0_0 m.spots.length c0_0, .slice A0_1 m.first.length c0_1, .slice A0_2 m.follow.length c0_2, .slice A0_3 m.last.length c0_3, .bool m.empty]).1 w5 := (CF.box (m := 5) (S6.box_at (j := 0) rfl) rfl)
 have hf380 : (zdc kSpot A0_0 m.spots).1 w5 := (l0_0.mono (St.le0 S6))
 have hf381 : (zdc (Kd.int .i64) A0_1 m.first).1 w5 := (l0_1.mono (St.le0 S6))
 have hf382 : (zdc (Kd.int .i64).slice A0_2 m.follow).1 w5 := (l0_2.mono (St.le0 S6))
 have hf383 : (zdc Kd.bool A0_3 m.last).1 w5 := (l0_3.mono (St.le0 S6))
 refine daS (hkC 0 hf379 (hkC 1 hf380 (hkC 1 hf381 (hkC 1 hf382 (hkC 1 hf383 (hkN (w := w5))))))) 10 rfl mixed ?_
 intro wd384 gd384 hd384
 have S385 := S6.keep gd384
 have hf386 := spUp gd384 hf379
 have hf387 := spUp gd384 hf380
 have hf388 := spUp gd384 hf381
 have hf389 := spUp gd384 hf382
 have hf390 := spUp gd384 hf383
 refine qd1 0 (i := 0) (v := .agg #[.slice A0_0 m.spots.length c0_0, .slice A0_1 m.first.length c0_1, .slice A0_2 m.follow.length c0_2, .slice A0_3 m.last.length c0_3, .bool m.empty]) rfl rfl (by decide +kernel) rfl rfl (fun wq hq => (zaj (seg := [.slice A0_0 m.spots.length c0_0, .slice A0_1 m.first.length c0_1, .slice A0_2 m.follow.length c0_2, .slice A0_3 m.last.length c0_3, .bool m.empty]) ty27 rfl (by simp) rfl hq)) (zbz hf386 (zam rfl)) <| d_m (i := 1) (v := .bool (zci m)) (fun wf => zbo kSpot (hp wf) A0_0 m.spots ∧ zbo (Kd.int .i64) (hp wf) A0_1 m.first ∧ zbo (Kd.int .i64).slice (hp wf) A0_2 m.follow ∧ zbo Kd.bool (hp wf) A0_3 m.last) (fun _ ho => ⟨ho _ (List.mem_of_getElem? (i := 1) rfl) rfl, ho _ (List.mem_of_getElem? (i := 2) rfl) rfl, ho _ (List.mem_of_getElem? (i := 3) rfl) rfl, ho _ (List.mem_of_getElem? (i := 4) rfl) rfl⟩) rfl (by decide +kernel) (by decide +kernel) (by decide +kernel) rfl rfl (fun wq => (za2 (args := [.agg #[.slice A0_0 m.spots.length c0_0, .slice A0_1 m.first.length c0_1, .slice A0_2 m.follow.length c0_2, .slice A0_3 m.last.length c0_3, .bool m.empty]]) ca37 rfl rfl)) (fun wq hq => (rightN_calls wq m A0_0 c0_0 b0_0 hq.1 A0_1 c0_1 b0_1 hq.2.1 A0_2 c0_2 b0_2 hq.2.2.1 A0_3 c0_3 b0_3 hq.2.2.2).mono fun e w2 he => by obtain ⟨_, rfl, _, T, rfl⟩ := he; exact ⟨rfl, Chg.of_below T.below⟩) (zbw rfl (zbz hf387 (zbz hf388 (zbz hf389 (zbz hf390 (zam rfl)))))) <| qd0 (i := 2) (v := .bool (!(zci m))) rfl (by decide +kernel) rfl rfl (x_not rfl) (zam rfl) <| qd0 (i := 3) (v := .bool (!(zci m))) rfl (by decide +kernel) rfl rfl (zah rfl) (zam rfl) <| d_off (i := 4) rfl (by decide +kernel) (by decide +kernel) (by decide +kernel) (wo 3 14 rfl rfl (congrArg (fun z => Value.bool (!z)) hc8) rfl) rfl (zam rfl) <| d_off (i := 5) rfl (by decide +kernel) (by decide +kernel) (by decide +kernel) (wo 3 14 rfl rfl (congrArg (fun z => Value.bool (!z)) hc8) rfl) rfl (zam rfl) <| d_off (i := 6) rfl (by decide +kernel) (by decide +kernel) (by decide +kernel) (wo 3 14 rfl rfl (congrArg (fun z => Value.bool (!z)) hc8) rfl) rfl (zam rfl) <| d_off (i := 7) rfl (by decide +kernel) (by decide +kernel) (by decide +kernel) (wo 3 14 rfl rfl (congrArg (fun z => Value.bool (!z)) hc8) rfl) rfl (zam rfl) <| d_off (i := 8) rfl (by decide +kernel) (by decide +kernel) (by decide +kernel) (wo 3 14 rfl rfl (congrArg (fun z => Value.bool (!z)) hc8) rfl) rfl (zam rfl) <| qd0 (i := 9) (v := .bool true) rfl (by decide +kernel) rfl rfl (zby (congrArg (fun z => Value.bool (!z)) hc8) rfl) (zam rfl) <| zco (by decide +kernel) ?_
 intro wd391 gd391
 have S392 := S385.keep gd391
 refine zc3 (b := true) rfl ?_
 simp only [if_true, if_false, Bool.false_eq_true]
 refine zac <| zae (l := [0, 1, 2]) rfl <| p_v (v := .agg ((zab zPart) ++ ([.slice none 0 0, .slice none 0 0] : List Value)).toArray) rfl rfl rfl (zd9 (pv := []) rfl (zbq pl35 ty35 rfl (cs := ((zab zPart) ++ ([.slice none 0 0, .slice none 0 0] : List Value))) (by kernel_rfl))) ?_
 obtain ⟨w393, r393, g393, T393⟩ := zc9 (P := Tryd.prog) (v := .agg ((zab zPart) ++ ([.slice none 0 0, .slice none 0 0] : List Value)).toArray) (vs := ((zab zPart) ++ ([.slice none 0 0, .slice none 0 0] : List Value))) (cs := ((zab zPart) ++ ([.slice none 0 0, .slice none 0 0] : List Value))) S392 ty35 rfl (zbg (zad (zay)) rfl) (zbg (zad (zay)) rfl) (j := 2) rfl (one_app (zb3 _) (by simp [Value.oneCell']))
 have S394 : St w.heap.size w (fun _ => none) w393 [box b1 27 [.slice A0_0 m.spots.length c0_0, .slice A0_1 m.first.length c0_1, .slice A0_2 m.follow.length c0_2, .slice A0_3 m.last.length c0_3, .bool m.empty], box b3 32 (zab p), box b5 35 ((zab zPart) ++ ([.slice none 0 0, .slice none 0 0] : List Value))] := T393
 refine p_s rfl rfl (za7 rfl rfl r393) <| p_v (v := .int .i64 1) rfl rfl rfl (zag rfl) <| zaa ?_
 have T395 := S394.row_nil 23 (Kd.int .i64).slice
 have S396 := T395
 dsimp only [lAa, lAn, lA0, lAs] at S396
 have T397 := S396.row_nil 4 Kd.bool
 have S398 := T397
 dsimp only [lAa, lAn, lA0, lAs] at S398
 refine zar Tryd.func21 (res2 rfl (zdg S394 ty35 rfl (j := 2) rfl (zbg (zad (zay)) rfl) (by simp) rfl) (zaw (v := .int .i64 1) rfl)) ?_
 have q0 : ((zai m p).part : PartM) = zPart := by
  first | (rw [(zbf (by assumption)).1]; done) | (rw [(zbf (by assumption)).1]) | exact (zbf (by assumption)).2 | (rw [(zbe (by assumption)).1]; done) | (rw [(zbe (by assumption)).1]) | exact (zbe (by assumption)).2 | exact err_yes (by assumption) (by assumption) | (rw [za1 (by assumption) (by assumption), zbr]; done) | (rw [za1 (by assumption) (by assumption), zbr]) | (rw [za1 (by assumption) (by assumption), zcs]; exact (zcm hI154 (by omega)).2.1.symm) | (rw [za1 (by assumption) (by assumption), zcj]; exact (zcm hI154 (by omega)).2.2.symm)
 have q1 : ((zai m p).next : List (List Int)) = ([] : List (List Int)) := by
  first | (rw [(zbf (by assumption)).1]; done) | (rw [(zbf (by assumption)).1]) | exact (zbf (by assumption)).2 | (rw [(zbe (by assumption)).1]; done) | (rw [(zbe (by assumption)).1]) | exact (zbe (by assumption)).2 | exact err_yes (by assumption) (by assumption) | (rw [za1 (by assumption) (by assumption), zbr]; done) | (rw [za1 (by assumption) (by assumption), zbr]) | (rw [za1 (by assumption) (by assumption), zcs]; exact (zcm hI154 (by omega)).2.1.symm) | (rw [za1 (by assumption) (by assumption), zcj]; exact (zcm hI154 (by omega)).2.2.symm)
 have q2 : ((zai m p).final : List Bool) = ([] : List Bool) := by
  first | (rw [(zbf (by assumption)).1]; done) | (rw [(zbf (by assumption)).1]) | exact (zbf (by assumption)).2 | (rw [(zbe (by assumption)).1]; done) | (rw [(zbe (by assumption)).1]) | exact (zbe (by assumption)).2 | exact err_yes (by assumption) (by assumption) | (rw [za1 (by assumption) (by assumption), zbr]; done) | (rw [za1 (by assumption) (by assumption), zbr]) | (rw [za1 (by assumption) (by assumption), zcs]; exact (zcm hI154 (by omega)).2.1.symm) | (rw [za1 (by assumption) (by assumption), zcj]; exact (zcm hI154 (by omega)).2.2.symm)
 have q3 : (errB m p : Int) = 1 := by
  first | (rw [(zbf (by assumption)).1]; done) | (rw [(zbf (by assumption)).1]) | exact (zbf (by assumption)).2 | (rw [(zbe (by assumption)).1]; done) | (rw [(zbe (by assumption)).1]) | exact (zbe (by assumption)).2 | exact err_yes (by assumption) (by assumption) | (rw [za1 (by assumption) (by assumption), zbr]; done) | (rw [za1 (by assumption) (by assumption), zbr]) | (rw [za1 (by assumption) (by assumption), zcs]; exact (zcm hI154 (by omega)).2.1.symm) | (rw [za1 (by assumption) (by assumption), zcj]; exact (zcm hI154 (by omega)).2.2.symm)
 refine ⟨_, rfl, (fun _ => none), (.slice none 0 0), (.slice none 0 0), ?_, ?_, ?_, ?_⟩
 · rw [q1]; rw [q2]; exact S398.sub [3, 4] (by decide) rfl _ rfl
 · first | rfl | (simp only [q0, q1, q2, q3]; rfl) | (simp only [q0, q1, q2, q3])
 · rw [q0]; first | assumption | exact zay
 · rw [q3]; exact (zal (by omega) (by omega))
theorem right11_calls (w : World) (q : Int) (i0 : inK .i64 q) (n : Int) (i1 : inK .i64 n) (a1 : Addr) (pc1 : ∀ j v, [.int .i64 n][j]? = some v → gcell (hp w) (a1.add j) = some v) :
    Calls Tryd.prog 114 #[.int .i64 q, .pointer (some a1)] w fun e w' => ∃ v, e = .returned v ∧ ∃ (hn : Ghost), St w.heap.size w hn w' [] ∧ v = .bool (badQ n q) := by
 refine zak Tryd.func114 rfl Tryd.ntmps114 rfl ?_
 have S0 := St.init w
 have lo0 := zbb i0; have hi0 := zbc i0
 have lo1 := zbb i1; have hi1 := zbc i1
 refine zac <| zae (l := [0]) rfl <| p_v (v := .bool false) rfl rfl rfl (zag rfl) <| zaa <| zac <| zae (l := [0, 1, 2, 3, 4, 5, 6, 7]) rfl <| p_v (v := .int .i64 q) rfl rfl rfl (zah rfl) <| p_v (v := .bool (decide (q < 0))) rfl rfl rfl (zdy rfl rfl) <| p_v (v := .bool (decide (q < 0))) rfl rfl rfl (zah rfl) ?_
 by_cases hc1 : q < 0
 ·skip
  refine zbi rfl (wo 2 6 rfl rfl (bT hc1) rfl) rfl <| zbi rfl (wo 2 6 rfl rfl (bT hc1) rfl) rfl <| zbi rfl (wo 2 6 rfl rfl (bT hc1) rfl) rfl <| p_v (v := .bool true) rfl rfl rfl (zby (bT hc1) rfl) <| p_v (v := .bool true) rfl rfl rfl (zag rfl) <| zaa <| zar Tryd.func114 (res1 rfl (zaw (v := .bool true) rfl)) ?_
  have q0 : (badQ n q : Bool) = true := by
   exact badQ_1 (by assumption)
  refine ⟨_, rfl, (fun _ => none), ?_, ?_⟩
  · exact S0.sub [] (by decide) rfl _ rfl
  · first | rfl | (simp only [q0]; rfl) | (simp only [q0])
 refine p_v (v := .int .i64 q) rfl (wo 2 6 rfl rfl (bF hc1) rfl) rfl (zah rfl) <| p_v (v := .int .i64 n) rfl (wo 2 6 rfl rfl (bF hc1) rfl) rfl (zaj (seg := [.int .i64 n]) ty3 rfl (by simp) rfl (CF.ghost pc1 (St.le0 S0))) <| p_v (v := .bool (decide (n ≤ q))) rfl (wo 2 6 rfl rfl (bF hc1) rfl) rfl (x_geq rfl rfl) <| p_v (v := .bool (decide (n ≤ q))) rfl rfl rfl (zc2 (bF hc1) rfl) <| p_v (v := .bool (decide (n ≤ q))) rfl rfl rfl (zag rfl) <| zaa <| zar Tryd.func114 (res1 rfl (zaw (v := .bool (decide (n ≤ q))) rfl)) ?_
 have q0 : (badQ n q : Bool) = decide (n ≤ q) := by
  exact badQ_2 (by assumption)
 refine ⟨_, rfl, (fun _ => none), ?_, ?_⟩
 · exact S0.sub [] (by decide) rfl _ rfl
 · (simp only [q0])
theorem right1_calls (w : World) (l : List Int) (A0 : Option Addr) (c0 : Nat) (b0 : l.length ≤ c0 ∧ c0 ≤ maxLen) (l0 : zbo (Kd.int .i64) (hp w) A0 l) (d : Dfa) (o1_0 : zbx d.part) (A1_1 : Option Addr) (c1_1 : Nat) (b1_1 : d.next.length ≤ c1_1 ∧ c1_1 ≤ maxLen) (l1_1 : zbo (Kd.int .i64).slice (hp w) A1_1 d.next) (A1_2 : Option Addr) (c1_2 : Nat) (b1_2 : d.final.length ≤ c1_2 ∧ c1_2 ≤ maxLen) (l1_2 : zbo Kd.bool (hp w) A1_2 d.final) (a1 : Addr) (pc1 : ∀ j v, ((zab d.part) ++ ([.slice A1_1 d.next.length c1_1, .slice A1_2 d.final.length c1_2] : List Value))[j]? = some v → gcell (hp w) (a1.add j) = some v) (n : Int) (i2 : inK .i64 n) (a2 : Addr) (pc2 : ∀ j v, [.int .i64 n][j]? = some v → gcell (hp w) (a2.add j) = some v) :
    Calls Tryd.prog 112 #[.slice A0 l.length c0, .pointer (some a1), .pointer (some a2)] w fun e w' => ∃ v, e = .returned v ∧ ∃ (hn : Ghost), St w.heap.size w hn w' [] ∧ v = .bool (zd0 d n l) := by
 refine zak Tryd.func112 rfl Tryd.ntmps112 rfl ?_
 have S0 := St.init w
 have bb0 := b0.1; have bc0 := b0.2; simp only [maxLen] at bc0
 have ploo1_0 := zbb o1_0.2; have phio1_0 := zbc o1_0.2
 have bb1_1 := b1_1.1; have bc1_1 := b1_1.2; simp only [maxLen] at bc1_1
 have bb1_2 := b1_2.1; have bc1_2 := b1_2.2; simp only [maxLen] at bc1_2
 have lo2 := zbb i2; have hi2 := zbc i2
 refine zac <| zae (l := [0]) rfl <| p_v (v := .bool false) rfl rfl rfl (zag rfl) <| zaa <| zac <| zae (l := [0, 1, 2, 3, 4, 5, 6, 7, 8, 9, 10, 11]) rfl <| p_v (v := .slice A0 l.length c0) rfl rfl rfl (zah rfl) <| p_v (v := .int .i64 (l.length : Int)) rfl rfl rfl (za0 u23 rfl) <| p_v (v := .pointer (some (a1.add 0))) rfl rfl rfl (zc6 fd35_0 ty32 rfl rfl) ?_
 have in2 := (o1_0).2
 have lo2 := zbb in2; have hi2 := zbc in2
 refine p_v (v := .pointer (some ((a1.add 0).add 256))) rfl rfl rfl (zc6 fd32_1 ty3 rfl rfl) <| p_v (v := .int .i64 d.part.n) rfl rfl rfl (zaj (seg := [.int .i64 d.part.n]) ty3 rfl (by simp) rfl (CF.ghost (zea (o := 256) (m := 1) (ds := [.int .i64 d.part.n]) (zea (o := 0) (m := 257) (ds := ((zab d.part))) pc1 (seg_mid (pre := []) (seg := ((zab d.part))) (post := [.slice A1_1 d.next.length c1_1, .slice A1_2 d.final.length c1_2]) rfl (zad o1_0))) (encPart_n o1_0)) (St.le0 S0))) <| p_v (v := .bool (decide ((l.length : Int) ≠ d.part.n))) rfl rfl rfl (x_neq rfl rfl) <| p_v (v := .bool (decide ((l.length : Int) ≠ d.part.n))) rfl rfl rfl (zah rfl) ?_
 by_cases hc4 : (l.length : Int) ≠ d.part.n
 ·skip
  refine zbi rfl (wo 6 11 rfl rfl (bT hc4) rfl) rfl <| zbi rfl (wo 6 11 rfl rfl (bT hc4) rfl) rfl <| zbi rfl (wo 6 11 rfl rfl (bT hc4) rfl) rfl <| p_v (v := .bool true) rfl rfl rfl (zby (bT hc4) rfl) <| p_v (v := .bool true) rfl rfl rfl (zag rfl) <| zaa <| zar Tryd.func112 (res1 rfl (zaw (v := .bool true) rfl)) ?_
  have q0 : (zd0 d n l : Bool) = true := by
   exact badRow_1 (by assumption)
  refine ⟨_, rfl, (fun _ => none), ?_, ?_⟩
  · exact S0.sub [] (by decide) rfl _ rfl
  · first | rfl | (simp only [q0]; rfl) | (simp only [q0])
 refine p_v (v := .slice A0 l.length c0) rfl (wo 6 11 rfl rfl (bF hc4) rfl) rfl (zah rfl) <| p_v (v := .func (.func 114) #[] #[.pointer (some a2)]) rfl (wo 6 11 rfl rfl (bF hc4) rfl) rfl (y_makeFunc (fv := []) (cv := [.pointer (some a2)]) rfl rfl) ?_
 refine p_i rfl (wo 6 11 rfl rfl (bF hc4) rfl) rfl (za2 (args := [.slice A0 l.length c0, .func (.func 114) #[] #[.pointer (some a2)]]) ca113 rfl rfl) (zak Tryd.func113 rfl Tryd.ntmps113 rfl ?_)
 refine zac <| zae (l := [0]) rfl <| p_v (v := .bool false) rfl rfl rfl (zag rfl) <| zaa <| zac <| zae (l := [0, 1, 2, 3, 4]) rfl <| p_v (v := .slice A0 l.length c0) rfl rfl rfl (zah rfl) <| p_v (v := .func (.func 114) #[] #[.pointer (some a2)]) rfl rfl rfl (zah rfl) ?_
 refine p_i rfl rfl rfl (za2 (args := [.slice A0 l.length c0, .func (.func 114) #[] #[.pointer (some a2)]]) ca154 rfl rfl) (zak Tryd.func154 rfl Tryd.ntmps154 rfl ?_)
 refine zac <| zae (l := [0]) rfl <| p_v (v := .int .i64 0) rfl rfl rfl (zag rfl) <| zaa <| zac <| zac <| zae (l := [0, 1, 2]) rfl <| p_v (v := .slice A0 l.length c0) rfl rfl rfl (zah rfl) <| p_v (v := .int .i64 (l.length : Int)) rfl rfl rfl (za0 u23 rfl) <| p_v (v := .int .i64 0) rfl rfl rfl (zah rfl) <| zaa <| zaq ?_
 refine zbu (S := Int) (fun (q_ : Int) ρ w' => match q_ with | t8 => ∃ (h : Ghost), Le (fun _ => none) h ∧ St w.heap.size w h w' [] ∧ ρ 0 = .slice A0 l.length c0 ∧ ρ 1 = .func (.func 114) #[] #[.pointer (some a2)] ∧ ρ 7 = .int .i64 (l.length : Int) ∧ ρ 8 = .int .i64 t8 ∧ inK .i64 t8 ∧ (0 ≤ t8 ∧ t8 ≤ (l.length : Int) ∧ (l.take t8.toNat).any (badQ n) = false)) (fun q_ => match q_ with | t8 => (l.length - t8).toNat) (0) ⟨(fun _ => none), Le.refl _, S0.sub [] (by decide) rfl _ rfl, rfl, rfl, rfl, rfl, (zal (by omega) (by omega)), (by exact ⟨by omega, by omega, rfl⟩)⟩ ?_
 rintro t8 ih5 ρ5 w5 ⟨h5, le5, S5, r5_0, r5_1, r5_7, r5_8, f5_0, hI5⟩
 have lf5_0 := zbb f5_0; have hf5_0 := zbc f5_0
 have hq_ := hI5.1
 refine zac <| zae (l := [0]) rfl <| p_v (v := .bool (decide (t8 < (l.length : Int)))) rfl rfl rfl (zdy r5_8 r5_7) <| zaa <| zac ?_
 refine zan (p := t8 < (l.length : Int)) rfl (fun hc6 => ?_) (fun hc6 => ?_)
 ·skip
  refine zau <| zac <| zaq <| zac <| zae (l := [0, 1]) rfl <| p_v (v := .int .i64 t8) rfl rfl rfl (zah r5_8) <| p_v (v := .int .i64 t8) rfl rfl rfl (zag rfl) <| zaa <| zac <| zae (l := [0, 1, 2, 3, 4, 5]) rfl <| p_v (v := .func (.func 114) #[] #[.pointer (some a2)]) rfl rfl rfl (zah r5_1) <| p_v (v := .slice A0 l.length c0) rfl rfl rfl (zah r5_0) ?_
  refine p_v (v := .int .i64 t8) rfl rfl rfl (zah rfl) ?_
  obtain ⟨ad7, seg7, a7, rp7, ce7⟩ := za9 (q := t8) (m := 1) l0 rfl (by omega) (by omega)
  refine p_v (v := .pointer (some ad7)) rfl rfl rfl (za8 u23 ty3 rfl rfl a7 (by omega) (by omega)) ?_
  obtain ⟨rfl, in7⟩ := rp7
  have lo7 := zbb in7; have hi7 := zbc in7
  refine p_v (v := .int .i64 (at_ l t8)) rfl rfl rfl (zaj (seg := [.int .i64 (at_ l t8)]) ty3 rfl (by simp) rfl (CF.ghost ce7 (St.le0 S5))) <| p_c rfl rfl rfl (za2 (args := [.int .i64 (at_ l t8), .pointer (some a2)]) ca114 rfl rfl) (right11_calls w5 (at_ l t8) (zal (by omega) (by omega)) n (zal (by omega) (by omega)) a2 (fun j v h => gcell_mono (St.le0 S5) (pc2 j v h))) ?_
  rintro _ w8 ⟨h8, T8, rfl⟩
  have S9 := S5.keep (Chg.of_below T8.below)
  refine zaa ?_
  refine zb0 (b := badQ n (at_ l t8)) rfl (fun hc10 => ?_) (fun hc10 => ?_)
  ·skip
   refine zac <| zae (l := [0, 1]) rfl <| p_v (v := .int .i64 t8) rfl rfl rfl (zah rfl) <| p_v (v := .int .i64 t8) rfl rfl rfl (zag rfl) <| zaa <| zar Tryd.func154 (res1 rfl (zaw (v := .int .i64 t8) rfl)) ?_
   refine ⟨_, rfl, ?_⟩
   refine p_v (v := .bool (decide (0 ≤ t8))) rfl rfl rfl (x_geq rfl rfl) <| p_v (v := .bool (decide (0 ≤ t8))) rfl rfl rfl (zag rfl) <| zaa <| zar Tryd.func113 (res1 rfl (zaw (v := .bool (decide (0 ≤ t8))) rfl)) ?_
   refine ⟨_, rfl, ?_⟩
   refine p_v (v := .bool (decide (0 ≤ t8))) rfl rfl rfl (zc2 (bF hc4) rfl) <| p_v (v := .bool (decide (0 ≤ t8))) rfl rfl rfl (zag rfl) <| zaa ?_
   have hc11 : (0 ≤ t8) := by
    omega
   refine zar Tryd.func112 (res1 rfl (zaw (v := .bool true) (bT hc11))) ?_
   have q0 : (zd0 d n l : Bool) = true := by
    exact badRow_2 hI5.1 (by omega) (by assumption)
   refine ⟨_, rfl, h5, ?_, ?_⟩
   · exact S9.sub [] (by decide) rfl _ rfl
   · first | rfl | (simp only [q0]; rfl) | (simp only [q0])
  refine zau <| zas <| zae (l := [0, 1]) rfl <| p_v (v := .int .i64 (t8 + 1)) rfl rfl rfl (zc7 r5_8 rfl (zal (by omega) (by omega))) <| p_v (v := .int .i64 (t8 + 1)) rfl rfl rfl (zah rfl) <| zaa ?_
  refine ih5 (t8 + 1) _ _ (by dsimp only; omega) ⟨h5, le5, S9.sub [] (by decide) rfl _ rfl, r5_0, r5_1, r5_7, rfl, (zal (by omega) (by omega)), (by exact ⟨by omega, by omega, any_step hI5.1 (by omega) hI5.2.2 (by assumption)⟩)⟩
 refine zbv rfl <| zac <| zae (l := [0]) rfl <| p_v (v := .int .i64 (-1)) rfl rfl rfl (zag rfl) <| zaa <| zar Tryd.func154 (res1 rfl (zaw (v := .int .i64 (-1)) rfl)) ?_
 refine ⟨_, rfl, ?_⟩
 refine p_v (v := .bool (decide (0 ≤ (-1)))) rfl rfl rfl (x_geq rfl rfl) <| p_v (v := .bool (decide (0 ≤ (-1)))) rfl rfl rfl (zag rfl) <| zaa <| zar Tryd.func113 (res1 rfl (zaw (v := .bool (decide (0 ≤ (-1)))) rfl)) ?_
 refine ⟨_, rfl, ?_⟩
 refine p_v (v := .bool (decide (0 ≤ (-1)))) rfl rfl rfl (zc2 (bF hc4) rfl) <| p_v (v := .bool (decide (0 ≤ (-1)))) rfl rfl rfl (zag rfl) <| zaa <| zar Tryd.func112 (res1 rfl (zaw (v := .bool (decide (0 ≤ (-1)))) rfl)) ?_
 have q0 : (zd0 d n l : Bool) = decide (0 ≤ (-1)) := by
  exact badRow_3 (by assumption) (by omega) hI5.2.2
 refine ⟨_, rfl, h5, ?_, ?_⟩
 · exact S5.sub [] (by decide) rfl _ rfl
 · (simp only [q0])
theorem rightD_calls (w : World) (d : Dfa) (o0_0 : zbx d.part) (A0_1 : Option Addr) (c0_1 : Nat) (b0_1 : d.next.length ≤ c0_1 ∧ c0_1 ≤ maxLen) (l0_1 : zbo (Kd.int .i64).slice (hp w) A0_1 d.next) (A0_2 : Option Addr) (c0_2 : Nat) (b0_2 : d.final.length ≤ c0_2 ∧ c0_2 ≤ maxLen) (l0_2 : zbo Kd.bool (hp w) A0_2 d.final) :
    Calls Tryd.prog 48 #[.agg ((zab d.part) ++ ([.slice A0_1 d.next.length c0_1, .slice A0_2 d.final.length c0_2] : List Value)).toArray] w fun e w' => ∃ v, e = .returned v ∧ ∃ (hn : Ghost), St w.heap.size w hn w' [] ∧ v = .bool (zcd d) := by
 refine zak Tryd.func48 rfl Tryd.ntmps48 rfl ?_
 have S0 := St.init w
 have ploo0_0 := zbb o0_0.2; have phio0_0 := zbc o0_0.2
 have bb0_1 := b0_1.1; have bc0_1 := b0_1.2; simp only [maxLen] at bc0_1
 have bb0_2 := b0_2.1; have bc0_2 := b0_2.2; simp only [maxLen] at bc0_2
 refine zac <| zae (l := [0, 1]) rfl ?_
 obtain ⟨b1, w1, r1, g1, T1⟩ := zcb (P := Tryd.prog) S0 35 (v := .agg ((zab d.part) ++ ([.slice A0_1 d.next.length c0_1, .slice A0_2 d.final.length c0_2] : List Value)).toArray) ((zab d.part) ++ ([.slice A0_1 d.next.length c0_1, .slice A0_2 d.final.length c0_2] : List Value)) rfl
 have S2 := T1
 dsimp only [lAa, lAn, lA0, lAs] at S2
 refine p_v (v := .pointer (some ⟨b1, 0, none⟩)) rfl rfl rfl (zdo rfl r1) <| p_v (v := .bool false) rfl rfl rfl (zag rfl) <| zaa <| zac <| zae (l := [0, 1, 2, 3, 4]) rfl <| p_v (v := .pointer (some ⟨b1, 257, none⟩)) rfl rfl rfl (zao fd35_1 ty24 rfl rfl) <| p_v (v := .slice A0_1 d.next.length c0_1) rfl rfl rfl (zaj (seg := [.slice A0_1 d.next.length c0_1]) ty24 rfl (by simp) rfl (CF.box (m := 1) (S2.box_at (j := 0) rfl) (za5 (a := (zab d.part)) (pre := []) (seg := [.slice A0_1 d.next.length c0_1]) (post := [.slice A0_2 d.final.length c0_2]) (zad o0_0) rfl rfl))) <| p_v (v := .int .i64 (d.next.length : Int)) rfl rfl rfl (za0 u24 rfl) ?_
 obtain ⟨b3, w3, r3, g3, T3⟩ := zcb (P := Tryd.prog) S2 3 (v := (.int .i64 0)) [.int .i64 0] rfl
 have S4 := T3
 dsimp only [lAa, lAn, lA0, lAs] at S4
 refine p_v (v := .pointer (some ⟨b3, 0, none⟩)) rfl rfl rfl (zch ty3 r3) ?_
 obtain ⟨w5, r5, g5, T5⟩ := zb9 (P := Tryd.prog) (off := 0) (v := .int .i64 (d.next.length : Int)) (vs := [.int .i64 (d.next.length : Int)]) S4 ty3 rfl rfl (j := 1) rfl (by first | decide | exact Nat.le_of_ble_eq_true rfl) (by simp [Value.oneCell'])
 have S6 := T5.fx 1 (box b3 3 [.int .i64 (d.next.length : Int)]) rfl
 dsimp only [lAa, lAn, lA0, lAs] at S6
 refine p_s rfl rfl (za7 rfl rfl r5) <| zaa <| zac <| zac <| zae (l := [0, 1, 2, 3, 4, 5, 6, 7, 8, 9, 10, 11, 12, 13, 14]) rfl <| p_v (v := .int .i64 (d.next.length : Int)) rfl rfl rfl (zaj (seg := [.int .i64 (d.next.length : Int)]) ty3 rfl (by simp) rfl (CF.box (m := 1) (S6.box_at (j := 1) rfl) rfl)) <| p_v (v := .bool (decide ((d.next.length : Int) = 0))) rfl rfl rfl (x_eql rfl rfl) <| p_v (v := .bool (decide ((d.next.length : Int) = 0))) rfl rfl rfl (zah rfl) ?_
 by_cases hc7 : (d.next.length : Int) = 0
 ·skip
  refine zbi rfl (wo 2 9 rfl rfl (bT hc7) rfl) rfl <| zbi rfl (wo 2 9 rfl rfl (bT hc7) rfl) rfl <| zbi rfl (wo 2 9 rfl rfl (bT hc7) rfl) rfl <| zbi rfl (wo 2 9 rfl rfl (bT hc7) rfl) rfl <| zbi rfl (wo 2 9 rfl rfl (bT hc7) rfl) rfl <| p_v (v := .bool true) rfl rfl rfl (zby (bT hc7) rfl) <| p_v (v := .bool true) rfl rfl rfl (zah rfl) <| zbi rfl rfl rfl <| zbi rfl rfl rfl <| zbi rfl rfl rfl <| zbi rfl rfl rfl <| p_v (v := .bool true) rfl rfl rfl (zby rfl rfl) ?_
  refine zaa <| zc3 (b := true) rfl ?_
  simp only [if_true, if_false, Bool.false_eq_true]
  refine zac <| zae (l := [0]) rfl <| p_v (v := .bool false) rfl rfl rfl (zag rfl) <| zaa <| zar Tryd.func48 (res1 rfl (zaw (v := .bool false) rfl)) ?_
  have q0 : (zcd d : Bool) = false := by
   exact rightD_1 (by assumption)
  refine ⟨_, rfl, (fun _ => none), ?_, ?_⟩
  · exact S6.sub [] (by decide) rfl _ rfl
  · first | rfl | (simp only [q0]; rfl) | (simp only [q0])
 refine p_v (v := .pointer (some ⟨b1, 258, none⟩)) rfl (wo 2 9 rfl rfl (bF hc7) rfl) rfl (zao fd35_2 ty25 rfl rfl) <| p_v (v := .slice A0_2 d.final.length c0_2) rfl (wo 2 9 rfl rfl (bF hc7) rfl) rfl (zaj (seg := [.slice A0_2 d.final.length c0_2]) ty25 rfl (by simp) rfl (CF.box (m := 1) (S6.box_at (j := 0) rfl) (za5 (a := (zab d.part)) (pre := [.slice A0_1 d.next.length c0_1]) (seg := [.slice A0_2 d.final.length c0_2]) (post := []) (zad o0_0) rfl rfl))) <| p_v (v := .int .i64 (d.final.length : Int)) rfl (wo 2 9 rfl rfl (bF hc7) rfl) rfl (za0 u25 rfl) <| p_v (v := .int .i64 (d.next.length : Int)) rfl (wo 2 9 rfl rfl (bF hc7) rfl) rfl (zaj (seg := [.int .i64 (d.next.length : Int)]) ty3 rfl (by simp) rfl (CF.box (m := 1) (S6.box_at (j := 1) rfl) rfl)) <| p_v (v := .bool (decide ((d.final.length : Int) ≠ (d.next.length : Int)))) rfl (wo 2 9 rfl rfl (bF hc7) rfl) rfl (x_neq rfl rfl) <| p_v (v := .bool (decide ((d.final.length : Int) ≠ (d.next.length : Int)))) rfl rfl rfl (zc2 (bF hc7) rfl) <| p_v (v := .bool (decide ((d.final.length : Int) ≠ (d.next.length : Int)))) rfl rfl rfl (zah rfl) ?_
 by_cases hc8 : (d.final.length : Int) ≠ (d.next.length : Int)
 ·skip
  refine zbi rfl (wo 9 16 rfl rfl (bT hc8) rfl) rfl <| zbi rfl (wo 9 16 rfl rfl (bT hc8) rfl) rfl <| zbi rfl (wo 9 16 rfl rfl (bT hc8) rfl) rfl <| zbi rfl (wo 9 16 rfl rfl (bT hc8) rfl) rfl <| p_v (v := .bool true) rfl rfl rfl (zby (bT hc8) rfl) <| zaa <| zc3 (b := true) rfl ?_
  simp only [if_true, if_false, Bool.false_eq_true]
  refine zac <| zae (l := [0]) rfl <| p_v (v := .bool false) rfl rfl rfl (zag rfl) <| zaa <| zar Tryd.func48 (res1 rfl (zaw (v := .bool false) rfl)) ?_
  have q0 : (zcd d : Bool) = false := by
   exact rightD_2 (by assumption)
  refine ⟨_, rfl, (fun _ => none), ?_, ?_⟩
  · exact S6.sub [] (by decide) rfl _ rfl
  · first | rfl | (simp only [q0]; rfl) | (simp only [q0])
 refine p_v (v := .pointer (some ⟨b1, 0, none⟩)) rfl (wo 9 16 rfl rfl (bF hc8) rfl) rfl (zao fd35_0 ty32 rfl rfl) <| p_v (v := .agg (zab d.part).toArray) rfl (wo 9 16 rfl rfl (bF hc8) rfl) rfl (zaj (seg := ((zab d.part))) ty32 (zad o0_0) (by simp) rfl (CF.box (m := 257) (S6.box_at (j := 0) rfl) (seg_mid (pre := []) (seg := ((zab d.part))) (post := [.slice A0_1 d.next.length c0_1, .slice A0_2 d.final.length c0_2]) rfl (zad o0_0)))) <| p_c rfl (wo 9 16 rfl rfl (bF hc8) rfl) rfl (za2 (args := [.agg (zab d.part).toArray]) ca26 rfl rfl) (right_calls w5 d.part o0_0) ?_
 rintro _ w9 ⟨h9, T9, rfl⟩
 have S10 := S6.keep (Chg.of_below T9.below)
 refine p_v (v := .bool (!(zc8 d.part))) rfl (wo 9 16 rfl rfl (bF hc8) rfl) rfl (x_not rfl) <| p_v (v := .bool (!(zc8 d.part))) rfl rfl rfl (zc2 (bF hc8) rfl) <| zaa ?_
 refine zcp (b := zc8 d.part) rfl (fun hc11 => ?_) (fun hc11 => ?_)
 ·skip
  refine zac <| zae (l := [0]) rfl <| p_v (v := .bool false) rfl rfl rfl (zag rfl) <| zaa <| zar Tryd.func48 (res1 rfl (zaw (v := .bool false) rfl)) ?_
  have q0 : (zcd d : Bool) = false := by
   exact rightD_3 (by assumption)
  refine ⟨_, rfl, (fun _ => none), ?_, ?_⟩
  · exact S10.sub [] (by decide) rfl _ rfl
  · first | rfl | (simp only [q0]; rfl) | (simp only [q0])
 refine zau <| zac <| zae (l := [0, 1, 2, 3, 4, 5]) rfl <| p_v (v := .pointer (some ⟨b1, 257, none⟩)) rfl rfl rfl (zao fd35_1 ty24 rfl rfl) <| p_v (v := .slice A0_1 d.next.length c0_1) rfl rfl rfl (zaj (seg := [.slice A0_1 d.next.length c0_1]) ty24 rfl (by simp) rfl (CF.box (m := 1) (S10.box_at (j := 0) rfl) (za5 (a := (zab d.part)) (pre := []) (seg := [.slice A0_1 d.next.length c0_1]) (post := [.slice A0_2 d.final.length c0_2]) (zad o0_0) rfl rfl))) <| p_v (v := .func (.func 112) #[] #[.pointer (some ⟨b1, 0, none⟩), .pointer (some ⟨b3, 0, none⟩)]) rfl rfl rfl (y_makeFunc (fv := []) (cv := [.pointer (some ⟨b1, 0, none⟩), .pointer (some ⟨b3, 0, none⟩)]) rfl rfl) ?_
 refine p_i rfl rfl rfl (za2 (args := [.slice A0_1 d.next.length c0_1, .func (.func 112) #[] #[.pointer (some ⟨b1, 0, none⟩), .pointer (some ⟨b3, 0, none⟩)]]) ca111 rfl rfl) (zak Tryd.func111 rfl Tryd.ntmps111 rfl ?_)
 refine zac <| zae (l := [0]) rfl <| p_v (v := .bool false) rfl rfl rfl (zag rfl) <| zaa <| zac <| zae (l := [0, 1, 2, 3, 4]) rfl <| p_v (v := .slice A0_1 d.next.length c0_1) rfl rfl rfl (zah rfl) <| p_v (v := .func (.func 112) #[] #[.pointer (some ⟨b1, 0, none⟩), .pointer (some ⟨b3, 0, none⟩)]) rfl rfl rfl (zah rfl) ?_
 refine p_i rfl rfl rfl (za2 (args := [.slice A0_1 d.next.length c0_1, .func (.func 112) #[] #[.pointer (some ⟨b1, 0, none⟩), .pointer (some ⟨b3, 0, none⟩)]]) ca153 rfl rfl) (zak Tryd.func153 rfl Tryd.ntmps153 rfl ?_)
 refine zac <| zae (l := [0]) rfl <| p_v (v := .int .i64 0) rfl rfl rfl (zag rfl) <| zaa <| zac <| zac <| zae (l := [0, 1, 2]) rfl <| p_v (v := .slice A0_1 d.next.length c0_1) rfl rfl rfl (zah rfl) <| p_v (v := .int .i64 (d.next.length : Int)) rfl rfl rfl (za0 u24 rfl) <| p_v (v := .int .i64 0) rfl rfl rfl (zah rfl) <| zaa <| zaq ?_
 refine zbu (S := Int) (fun (q_ : Int) ρ w' => match q_ with | t8 => ∃ (h : Ghost), Le (fun _ => none) h ∧ St w.heap.size w h w' [box b1 35 ((zab d.part) ++ ([.slice A0_1 d.next.length c0_1, .slice A0_2 d.final.length c0_2] : List Value)), box b3 3 [.int .i64 (d.next.length : Int)]] ∧ ρ 0 = .slice A0_1 d.next.length c0_1 ∧ ρ 1 = .func (.func 112) #[] #[.pointer (some ⟨b1, 0, none⟩), .pointer (some ⟨b3, 0, none⟩)] ∧ ρ 7 = .int .i64 (d.next.length : Int) ∧ ρ 8 = .int .i64 t8 ∧ inK .i64 t8 ∧ (0 ≤ t8 ∧ t8 ≤ (d.next.length : Int) ∧ (d.next.take t8.toNat).any (zd0 d d.next.length) = false)) (fun q_ => match q_ with | t8 => (d.next.length - t8).toNat) (0) ⟨(fun _ => none), Le.refl _, S10.sub [0, 1] (by decide) rfl _ rfl, rfl, rfl, rfl, rfl, (zal (by omega) (by omega)), (by exact ⟨by omega, by omega, rfl⟩)⟩ ?_
 rintro t8 ih12 ρ12 w12 ⟨h12, le12, S12, r12_0, r12_1, r12_7, r12_8, f12_0, hI12⟩
 have lf12_0 := zbb f12_0; have hf12_0 := zbc f12_0
 have hq_ := hI12.1
 refine zac <| zae (l := [0]) rfl <| p_v (v := .bool (decide (t8 < (d.next.length : Int)))) rfl rfl rfl (zdy r12_8 r12_7) <| zaa <| zac ?_
 refine zan (p := t8 < (d.next.length : Int)) rfl (fun hc13 => ?_) (fun hc13 => ?_)
 ·skip
  refine zau <| zac <| zaq <| zac <| zae (l := [0, 1]) rfl <| p_v (v := .int .i64 t8) rfl rfl rfl (zah r12_8) <| p_v (v := .int .i64 t8) rfl rfl rfl (zag rfl) <| zaa <| zac <| zae (l := [0, 1, 2, 3, 4, 5]) rfl <| p_v (v := .func (.func 112) #[] #[.pointer (some ⟨b1, 0, none⟩), .pointer (some ⟨b3, 0, none⟩)]) rfl rfl rfl (zah r12_1) <| p_v (v := .slice A0_1 d.next.length c0_1) rfl rfl rfl (zah r12_0) ?_
  refine p_v (v := .int .i64 t8) rfl rfl rfl (zah rfl) ?_
  obtain ⟨ad14, seg14, a14, rp14, ce14⟩ := za9 (q := t8) (m := 1) l0_1 rfl (by omega) (by omega)
  refine p_v (v := .pointer (some ad14)) rfl rfl rfl (za8 u24 ty23 rfl rfl a14 (by omega) (by omega)) ?_
  obtain ⟨A14, c14, rfl, lc14, cm14, ld14⟩ := rp14
  have cn14 := cm14; simp only [maxLen] at cn14
  refine p_v (v := .slice A14 (at_ d.next t8).length c14) rfl rfl rfl (zaj (seg := [.slice A14 (at_ d.next t8).length c14]) ty23 rfl (by simp) rfl (CF.ghost ce14 (St.le0 S12))) <| p_c rfl rfl rfl (za2 (args := [.slice A14 (at_ d.next t8).length c14, .pointer (some ⟨b1, 0, none⟩), .pointer (some ⟨b3, 0, none⟩)]) ca112 rfl rfl) (right1_calls w12 (at_ d.next t8) A14 c14 (And.intro lc14 cm14) (ld14.mono (St.le0 S12)) d o0_0 A0_1 c0_1 b0_1 (l0_1.mono (St.le0 S12)) A0_2 c0_2 b0_2 (l0_2.mono (St.le0 S12)) ⟨b1, 0, none⟩ (zd8 (S12.box_at (j := 0) rfl)) (d.next.length : Int) (zal (by omega) (by omega)) ⟨b3, 0, none⟩ (zd8 (S12.box_at (j := 1) rfl))) ?_
  rintro _ w15 ⟨h15, T15, rfl⟩
  have S16 := S12.keep (Chg.of_below T15.below)
  refine zaa ?_
  refine zb0 (b := zd0 d (d.next.length : Int) (at_ d.next t8)) rfl (fun hc17 => ?_) (fun hc17 => ?_)
  ·skip
   refine zac <| zae (l := [0, 1]) rfl <| p_v (v := .int .i64 t8) rfl rfl rfl (zah rfl) <| p_v (v := .int .i64 t8) rfl rfl rfl (zag rfl) <| zaa <| zar Tryd.func153 (res1 rfl (zaw (v := .int .i64 t8) rfl)) ?_
   refine ⟨_, rfl, ?_⟩
   refine p_v (v := .bool (decide (0 ≤ t8))) rfl rfl rfl (x_geq rfl rfl) <| p_v (v := .bool (decide (0 ≤ t8))) rfl rfl rfl (zag rfl) <| zaa <| zar Tryd.func111 (res1 rfl (zaw (v := .bool (decide (0 ≤ t8))) rfl)) ?_
   refine ⟨_, rfl, ?_⟩
   refine p_v (v := .bool (!(decide (0 ≤ t8)))) rfl rfl rfl (x_not rfl) <| p_v (v := .bool (!(decide (0 ≤ t8)))) rfl rfl rfl (zag rfl) <| zaa ?_
   have hc18 : (0 ≤ t8) := by
    omega
   refine zar Tryd.func48 (res1 rfl (zaw (v := .bool false) (congrArg (fun z => Value.bool (!z)) (decide_eq_true hc18)))) ?_
   have q0 : (zcd d : Bool) = false := by
    exact rightD_4 hI12.1 (by omega) (by assumption)
   refine ⟨_, rfl, h12, ?_, ?_⟩
   · exact S16.sub [] (by decide) rfl _ rfl
   · first | rfl | (simp only [q0]; rfl) | (simp only [q0])
  refine zau <| zas <| zae (l := [0, 1]) rfl <| p_v (v := .int .i64 (t8 + 1)) rfl rfl rfl (zc7 r12_8 rfl (zal (by omega) (by omega))) <| p_v (v := .int .i64 (t8 + 1)) rfl rfl rfl (zah rfl) <| zaa ?_
  refine ih12 (t8 + 1) _ _ (by dsimp only; omega) ⟨h12, le12, S16.sub [0, 1] (by decide) rfl _ rfl, r12_0, r12_1, r12_7, rfl, (zal (by omega) (by omega)), (by exact ⟨by omega, by omega, any_step hI12.1 (by omega) hI12.2.2 (by assumption)⟩)⟩
 refine zbv rfl <| zac <| zae (l := [0]) rfl <| p_v (v := .int .i64 (-1)) rfl rfl rfl (zag rfl) <| zaa <| zar Tryd.func153 (res1 rfl (zaw (v := .int .i64 (-1)) rfl)) ?_
 refine ⟨_, rfl, ?_⟩
 refine p_v (v := .bool (decide (0 ≤ (-1)))) rfl rfl rfl (x_geq rfl rfl) <| p_v (v := .bool (decide (0 ≤ (-1)))) rfl rfl rfl (zag rfl) <| zaa <| zar Tryd.func111 (res1 rfl (zaw (v := .bool (decide (0 ≤ (-1)))) rfl)) ?_
 refine ⟨_, rfl, ?_⟩
 refine p_v (v := .bool (!(decide (0 ≤ (-1))))) rfl rfl rfl (x_not rfl) <| p_v (v := .bool (!(decide (0 ≤ (-1))))) rfl rfl rfl (zag rfl) <| zaa <| zar Tryd.func48 (res1 rfl (zaw (v := .bool (!(decide (0 ≤ (-1))))) rfl)) ?_
 have q0 : (zcd d : Bool) = !(decide (0 ≤ (-1))) := by
  exact rightD_5 (by assumption) (by assumption) (by assumption) (by omega) hI12.2.2
 refine ⟨_, rfl, h12, ?_, ?_⟩
 · exact S12.sub [] (by decide) rfl _ rfl
 · (simp only [q0])
theorem runD_calls (w : World) (d : Dfa) (o0_0 : zbx d.part) (A0_1 : Option Addr) (c0_1 : Nat) (b0_1 : d.next.length ≤ c0_1 ∧ c0_1 ≤ maxLen) (l0_1 : zbo (Kd.int .i64).slice (hp w) A0_1 d.next) (A0_2 : Option Addr) (c0_2 : Nat) (b0_2 : d.final.length ≤ c0_2 ∧ c0_2 ≤ maxLen) (l0_2 : zbo Kd.bool (hp w) A0_2 d.final) (xw : ByteArray) (s1 : xw.size ≤ maxLen) :
    Calls Tryd.prog 24 #[.agg ((zab d.part) ++ ([.slice A0_1 d.next.length c0_1, .slice A0_2 d.final.length c0_2] : List Value)).toArray, .string xw] w fun e w' => ∃ v, e = .returned v ∧ ∃ (hn : Ghost), St w.heap.size w hn w' [] ∧ v = .bool (runD d xw) := by
 refine zak Tryd.func24 rfl Tryd.ntmps24 rfl ?_
 have S0 := St.init w
 have ploo0_0 := zbb o0_0.2; have phio0_0 := zbc o0_0.2
 have bb0_1 := b0_1.1; have bc0_1 := b0_1.2; simp only [maxLen] at bc0_1
 have bb0_2 := b0_2.1; have bc0_2 := b0_2.2; simp only [maxLen] at bc0_2
 have sz1 := s1; simp only [maxLen] at sz1
 refine zac <| zae (l := [0, 1]) rfl ?_
 obtain ⟨b1, w1, r1, g1, T1⟩ := zcb (P := Tryd.prog) S0 35 (v := .agg ((zab d.part) ++ ([.slice A0_1 d.next.length c0_1, .slice A0_2 d.final.length c0_2] : List Value)).toArray) ((zab d.part) ++ ([.slice A0_1 d.next.length c0_1, .slice A0_2 d.final.length c0_2] : List Value)) rfl
 have S2 := T1
 dsimp only [lAa, lAn, lA0, lAs] at S2
 refine p_v (v := .pointer (some ⟨b1, 0, none⟩)) rfl rfl rfl (zdo rfl r1) <| p_v (v := .bool false) rfl rfl rfl (zag rfl) <| zaa <| zac <| zac <| zae (l := [0, 1, 2]) rfl <| p_v (v := .agg ((zab d.part) ++ ([.slice A0_1 d.next.length c0_1, .slice A0_2 d.final.length c0_2] : List Value)).toArray) rfl rfl rfl (zaj (seg := ((zab d.part) ++ ([.slice A0_1 d.next.length c0_1, .slice A0_2 d.final.length c0_2] : List Value))) ty35 (zbg (zad o0_0) rfl) (by simp) rfl (CF.box (m := 259) (S2.box_at (j := 0) rfl) (zd4 (zbg (zad o0_0) rfl)))) <| p_c rfl rfl rfl (za2 (args := [.agg ((zab d.part) ++ ([.slice A0_1 d.next.length c0_1, .slice A0_2 d.final.length c0_2] : List Value)).toArray]) ca48 rfl rfl) (rightD_calls w1 d o0_0 A0_1 c0_1 b0_1 (l0_1.mono (St.le0 S2)) A0_2 c0_2 b0_2 (l0_2.mono (St.le0 S2))) ?_
 rintro _ w3 ⟨h3, T3, rfl⟩
 have S4 := S2.keep (Chg.of_below T3.below)
 refine p_v (v := .bool (!(zcd d))) rfl rfl rfl (x_not rfl) <| zaa ?_
 refine zcp (b := zcd d) rfl (fun hc5 => ?_) (fun hc5 => ?_)
 ·skip
  refine zac <| zae (l := [0]) rfl <| p_v (v := .bool false) rfl rfl rfl (zag rfl) <| zaa <| zar Tryd.func24 (res1 rfl (zaw (v := .bool false) rfl)) ?_
  have q0 : (runD d xw : Bool) = false := by
   exact runD_no (by assumption)
  refine ⟨_, rfl, (fun _ => none), ?_, ?_⟩
  · exact S4.sub [] (by decide) rfl _ rfl
  · first | rfl | (simp only [q0]; rfl) | (simp only [q0])
 have hD_ := rightD_of o0_0 hc5; have hfl_ := hD_.final; have hsm_ := hD_.some_
 refine zau <| zac <| zae (l := [0]) rfl <| p_v (v := .int .i64 0) rfl rfl rfl (zag rfl) <| zaa <| zac <| zac <| zae (l := [0, 1, 2]) rfl <| p_v (v := .string xw) rfl rfl rfl (zah rfl) <| p_v (v := .int .i64 (xw.size : Int)) rfl rfl rfl (x_len_string u9 rfl) <| p_v (v := .int .i64 0) rfl rfl rfl (zah rfl) <| zaa ?_
 refine zaq <| zbu (S := Int × Int) (fun (q_ : Int × Int) ρ w' => match q_ with | (q, t12) => ∃ (h : Ghost), Le (fun _ => none) h ∧ St w.heap.size w h w' [box b1 35 ((zab d.part) ++ ([.slice A0_1 d.next.length c0_1, .slice A0_2 d.final.length c0_2] : List Value))] ∧ ρ 1 = .string xw ∧ ρ 2 = .pointer (some ⟨b1, 0, none⟩) ∧ ρ 5 = .int .i64 q ∧ ρ 11 = .int .i64 (xw.size : Int) ∧ ρ 12 = .int .i64 t12 ∧ inK .i64 q ∧ inK .i64 t12 ∧ (0 ≤ t12 ∧ t12 ≤ (xw.size : Int) ∧ q = goD d xw t12.toNat)) (fun q_ => match q_ with | (q, t12) => (xw.size - t12).toNat) (0, 0) ⟨(fun _ => none), Le.refl _, S4.sub [0] (by decide) rfl _ rfl, rfl, rfl, rfl, rfl, rfl, (zal (by omega) (by omega)), (zal (by omega) (by omega)), (by exact ⟨by omega, by omega, goD_0 d xw⟩)⟩ ?_
 rintro ⟨q, t12⟩ ih6 ρ6 w6 ⟨h6, le6, S6, r6_1, r6_2, r6_5, r6_11, r6_12, f6_0, f6_1, hI6⟩
 have lf6_0 := zbb f6_0; have hf6_0 := zbc f6_0
 have lf6_1 := zbb f6_1; have hf6_1 := zbc f6_1
 have hq_ := goD_in o0_0 hD_ xw t12.toNat; rw [← hI6.2.2] at hq_; have hc_ := of_in o0_0 hD_ xw t12; have hr_ := hD_.row q hq_.1 hq_.2; have hb_ := byt_range xw t12
 refine zac <| zae (l := [0]) rfl <| p_v (v := .bool (decide (t12 < (xw.size : Int)))) rfl rfl rfl (zdy r6_12 r6_11) <| zaa <| zac ?_
 refine zan (p := t12 < (xw.size : Int)) rfl (fun hc7 => ?_) (fun hc7 => ?_)
 ·skip
  refine zau <| zac <| zaq <| zac <| zae (l := [0, 1]) rfl <| p_v (v := .int .i64 t12) rfl rfl rfl (zah r6_12) <| p_v (v := .int .i64 t12) rfl rfl rfl (zag rfl) <| zaa ?_
  obtain ⟨ad8, seg8, a8, rp8, ce8⟩ := za9 (q := q) (m := 1) l0_1 rfl (by omega) (by omega)
  obtain ⟨A8, c8, rfl, lc8, cm8, ld8⟩ := rp8
  have cn8 := cm8; simp only [maxLen] at cn8
  have by9 := byt_range xw t12
  have in10 := zb2 (o0_0).1 (i := (byt xw t12)) (by omega) (by omega)
  have lo10 := u8_lo in10; have hi10 := u8_hi in10
  obtain ⟨ad11, seg11, a11, rp11, ce11⟩ := za9 (q := at_ d.part.of (byt xw t12)) (m := 1) ld8 rfl (by omega) (by omega)
  obtain ⟨rfl, in11⟩ := rp11
  have lo11 := zbb in11; have hi11 := zbc in11
  have hf12 : (CFs ⟨b1, 257, none⟩ [.slice A0_1 d.next.length c0_1]).1 w6 := (CF.box (m := 1) (S6.box_at (j := 0) rfl) (za5 (a := (zab d.part)) (pre := []) (seg := [.slice A0_1 d.next.length c0_1]) (post := [.slice A0_2 d.final.length c0_2]) (zad o0_0) rfl rfl))
  have hf13 : (CFs ad8 [.slice A8 (at_ d.next q).length c8]).1 w6 := (CF.ghost ce8 (St.le0 S6))
  have hf14 : (CFs ⟨b1, 0 + (byt xw t12).toNat * 1, none⟩ [.int .u8 (at_ d.part.of (byt xw t12))]).1 w6 := (CF.box (m := 1) (S6.box_at (j := 0) rfl) (cs := ((zab d.part) ++ ([.slice A0_1 d.next.length c0_1, .slice A0_2 d.final.length c0_2] : List Value))) (app_seg (encPart_at o0_0 (by omega) (by omega)) rfl))
  have hf15 : (CFs ad11 [.int .i64 (at_ (at_ d.next q) (at_ d.part.of (byt xw t12)))]).1 w6 := (CF.ghost ce11 (St.le0 S6))
  refine daS (hkC 1 hf12 (hkC 4 hf13 (hkC 11 hf14 (hkC 13 hf15 (hkN (w := w6)))))) 15 rfl mixed ?_
  intro wd16 gd16 hd16
  have S17 := S6.keep gd16
  have hf18 := spUp gd16 hf12
  have hf19 := spUp gd16 hf13
  have hf20 := spUp gd16 hf14
  have hf21 := spUp gd16 hf15
  refine qd0 (i := 0) (v := .pointer (some ⟨b1, 257, none⟩)) rfl (by decide +kernel) rfl rfl (zao fd35_1 ty24 rfl r6_2) (zam rfl) <| qd1 0 (i := 1) (v := .slice A0_1 d.next.length c0_1) rfl rfl (by decide +kernel) rfl rfl (fun wq hq => (zaj (seg := [.slice A0_1 d.next.length c0_1]) ty24 rfl (by simp) rfl hq)) (zbz hf18 (zam rfl)) <| qd0 (i := 2) (v := .int .i64 q) rfl (by decide +kernel) rfl rfl (zah r6_5) (zam rfl) <| qd0 (i := 3) (v := .pointer (some ad8)) rfl (by decide +kernel) rfl rfl (za8 u24 ty23 rfl rfl a8 (by omega) (by omega)) (zam rfl) <| qd1 1 (i := 4) (v := .slice A8 (at_ d.next q).length c8) rfl rfl (by decide +kernel) rfl rfl (fun wq hq => (zaj (seg := [.slice A8 (at_ d.next q).length c8]) ty23 rfl (by simp) rfl hq)) (zbw rfl (zbz hf19 (zam rfl))) <| qd0 (i := 5) (v := .string xw) rfl (by decide +kernel) rfl rfl (zah r6_1) (zam rfl) <| qd0 (i := 6) (v := .int .i64 t12) rfl (by decide +kernel) rfl rfl (zah rfl) (zam rfl) <| qd0 (i := 7) (v := .int .u8 (byt xw t12)) rfl (by decide +kernel) rfl rfl (x_index_byt u9 rfl rfl (by omega) (by omega)) (zam rfl) <| qd0 (i := 8) (v := .pointer (some ⟨b1, 0, none⟩)) rfl (by decide +kernel) rfl rfl (zao fd35_0 ty32 rfl r6_2) (zam rfl) <| qd0 (i := 9) (v := .pointer (some ⟨b1, 0, none⟩)) rfl (by decide +kernel) rfl rfl (zao fd32_0 ty30 rfl rfl) (zam rfl) <| qd0 (i := 10) (v := .pointer (some ⟨b1, 0 + (byt xw t12).toNat * 1, none⟩)) rfl (by decide +kernel) rfl rfl (za3 u30 ty5 rfl rfl (by omega) (by omega)) (zam rfl) <| qd1 2 (i := 11) (v := .int .u8 (at_ d.part.of (byt xw t12))) rfl rfl (by decide +kernel) rfl rfl (fun wq hq => (zaj (seg := [.int .u8 (at_ d.part.of (byt xw t12))]) ty5 rfl (by simp) rfl hq)) (zbw rfl (zbw rfl (zbz hf20 (zam rfl)))) ?_
  refine qd0 (i := 12) (v := .pointer (some ad11)) rfl (by decide +kernel) rfl rfl (za8 u23 ty3 rfl rfl a11 (by omega) (by omega)) (zam rfl) <| qd1 3 (i := 13) (v := .int .i64 (at_ (at_ d.next q) (at_ d.part.of (byt xw t12)))) rfl rfl (by decide +kernel) rfl rfl (fun wq hq => (zaj (seg := [.int .i64 (at_ (at_ d.next q) (at_ d.part.of (byt xw t12)))]) ty3 rfl (by simp) rfl hq)) (zbw rfl (zbw rfl (zbw rfl (zbz hf21 (zam rfl))))) <| qd0 (i := 14) (v := .int .i64 (at_ (at_ d.next q) (at_ d.part.of (byt xw t12)))) rfl (by decide +kernel) rfl rfl (zag rfl) (zam rfl) <| zco (by decide +kernel) ?_
  intro wd22 gd22
  have S23 := S17.keep gd22
  refine zas <| zae (l := [0, 1]) rfl <| p_v (v := .int .i64 (t12 + 1)) rfl rfl rfl (zc7 r6_12 rfl (zal (by omega) (by omega))) <| p_v (v := .int .i64 (t12 + 1)) rfl rfl rfl (zah rfl) <| zaa ?_
  refine ih6 (at_ (at_ d.next q) (at_ d.part.of (byt xw t12)), t12 + 1) _ _ (by dsimp only; omega) ⟨h6, le6, S23.sub [0] (by decide) rfl _ rfl, r6_1, r6_2, rfl, r6_11, rfl, (zal (by omega) (by omega)), (zal (by omega) (by omega)), (by exact ⟨by omega, by omega, by rw [hI6.2.2]; exact goD_step d xw hI6.1⟩)⟩
 refine zbv rfl <| zac <| zae (l := [0, 1, 2, 3, 4, 5]) rfl <| p_v (v := .pointer (some ⟨b1, 258, none⟩)) rfl rfl rfl (zao fd35_2 ty25 rfl r6_2) <| p_v (v := .slice A0_2 d.final.length c0_2) rfl rfl rfl (zaj (seg := [.slice A0_2 d.final.length c0_2]) ty25 rfl (by simp) rfl (CF.box (m := 1) (S6.box_at (j := 0) rfl) (za5 (a := (zab d.part)) (pre := [.slice A0_1 d.next.length c0_1]) (seg := [.slice A0_2 d.final.length c0_2]) (post := []) (zad o0_0) rfl rfl))) <| p_v (v := .int .i64 q) rfl rfl rfl (zah r6_5) ?_
 obtain ⟨ad24, seg24, a24, rp24, ce24⟩ := za9 (q := q) (m := 1) l0_2 rfl (by omega) (by omega)
 refine p_v (v := .pointer (some ad24)) rfl rfl rfl (za8 u25 ty4 rfl rfl a24 (by omega) (by omega)) ?_
 obtain ⟨rfl, _⟩ := rp24
 refine p_v (v := .bool (at_ d.final q)) rfl rfl rfl (zaj (seg := [.bool (at_ d.final q)]) ty4 rfl (by simp) rfl (CF.ghost ce24 (St.le0 S6))) <| p_v (v := .bool (at_ d.final q)) rfl rfl rfl (zag rfl) <| zaa <| zar Tryd.func24 (res1 rfl (zaw (v := .bool (at_ d.final q)) rfl)) ?_
 have q0 : (runD d xw : Bool) = at_ d.final q := by
  (rw [runD_yes (by assumption) (by omega : t12 = xw.size), ← hI6.2.2])
 refine ⟨_, rfl, h6, ?_, ?_⟩
 · exact S6.sub [] (by decide) rfl _ rfl
 · (simp only [q0])
end Go.Proofs.YtfoemogojbnfhaaDoor
namespace Gx
open Go Go.RowKit
set_option linter.unusedSimpArgs false
set_option linter.unusedSectionVars false
set_option linter.unusedVariables false
section
variable {S : Type} [DecidableEq S]
theorem bfs_none {next : S → Int → S} {n : Int} {first : S} {i : Nat} (h : (bfs next n first i)[i]? = none) : bfs next n first (i + 1) = bfs next n first i := by
  show (match (bfs next n first i)[i]? with | some s => _ | none => _) = _
  rw [h]
theorem bfs_closed (next : S → Int → S) (n : Int) (first : S) : ∀ i, Closed next n (bfs next n first i) i
  | 0 => fun s hs => by simp at hs
  | i + 1 => by
    have ih := bfs_closed next n first i
    cases h : (bfs next n first i)[i]? with
    | none =>
      rw [bfs_none h]
      intro s hs
      have hl : (bfs next n first i).length ≤ i := List.getElem?_eq_none_iff.1 h
      rw [List.take_of_length_le (by omega)] at hs
      exact ih s (by rw [List.take_of_length_le hl]; exact hs)
    | some s =>
      have hlt := (List.getElem?_eq_some_iff.1 h).1
      rw [bfs_step h]
      obtain ⟨q, hq⟩ := fold_pre (rowsOf next n s) (bfs next n first i)
      intro t ht u hu
      rw [hq, List.take_append_of_le_length (by omega), List.take_add_one, h] at ht
      rcases List.mem_append.1 ht with ht | ht
      · rw [hq]; exact List.mem_append_left _ (ih t ht u hu)
      · simp only [Option.toList_some, List.mem_singleton] at ht
        rw [ht] at hu
        exact fold_mem _ _ u hu
theorem bfs_head (next : S → Int → S) (n : Int) (first : S) : ∀ i, (bfs next n first i)[0]? = some first
  | 0 => rfl
  | i + 1 => by
    obtain ⟨q, hq⟩ := bfs_pre next n first i
    have ih := bfs_head next n first i
    rw [hq, List.getElem?_append_left (List.getElem?_eq_some_iff.1 ih).1, ih]
structure AllOk (next : S → Int → S) (n : Int) (first : S) (all : List S) : Prop where
  head : all[0]? = some first
  nodup : all.Nodup
  cl : ∀ s ∈ all, ∀ k : Int, 0 ≤ k → k < n → next s k ∈ all
variable {next : S → Int → S} {n : Int} {first : S}
theorem mem_rows {s : S} {k : Int} (h0 : 0 ≤ k) (h1 : k < n) : next s k ∈ rowsOf next n s := by
  unfold rowsOf
  exact List.mem_map.2 ⟨k.toNat, List.mem_range.2 (by omega), by rw [Int.toNat_of_nonneg h0]⟩
theorem all_found {i : Nat} (h : (bfs next n first i).length ≤ i) : AllOk next n first (allM next n first) := by
  rw [allM_eq h]
  refine ⟨bfs_head _ _ _ _, bfs_nodup _ _ _ _, fun s hs k h0 h1 => ?_⟩
  exact bfs_closed next n first i s (by rw [List.take_of_length_le h]; exact hs) _ (mem_rows h0 h1)
theorem all_ok {P : S → Prop} {f : S → Nat} {N : Nat} (h0 : P first) (h1 : ∀ s k, P s → 0 ≤ k → k < n → P (next s k)) (hf : ∀ a b, P a → P b → f a = f b → a = b) (hN : ∀ a, P a → f a < N) : AllOk next n first (allM next n first) ∧ (allM next n first).length ≤ N ∧ ∀ s ∈ allM next n first, P s := by
  have hb := bfs_bound (P := P) (f := f) (N := N) (next := next) (n := n) (first := first) h0 h1 hf hN
  refine ⟨all_found (hb N), ?_, ?_⟩
  · rw [allM_eq (hb N)]; exact hb N
  · rw [allM_eq (hb N)]; exact bfs_all h0 h1 N
theorem rowsOf_len (s : S) (h : 0 ≤ n) : ((rowsOf next n s).length : Int) = n := by unfold rowsOf; simp; omega
variable {p : PartM} {fin : S → Bool}
theorem made_right (hp : zc8 p = true) (hR : RightP p) (A : AllOk next p.n first (allM next p.n first)) : zcd (madeM p first next fin) = true := by
  have hl : 0 < (allM next p.n first).length := (List.getElem?_eq_some_iff.1 A.head).1
  have hn : (madeM p first next fin).next.length = (allM next p.n first).length := by
    rw [zcs]; unfold nextTo; rw [List.take_length, List.length_map]
  refine rightD_to (by rw [hn]; omega) (by rw [hn, zcj, List.length_map]) hp fun l hl2 => ?_
  rw [hn]
  rw [zcs] at hl2
  unfold nextTo at hl2
  rw [List.take_length] at hl2
  obtain ⟨s, hs, rfl⟩ := List.mem_map.1 hl2
  refine ⟨by rw [List.length_map, zbr]; exact rowsOf_len s hR.lo, fun x hx => ?_⟩
  obtain ⟨t, ht, rfl⟩ := List.mem_map.1 hx
  unfold rowsOf at ht
  obtain ⟨k, hk, rfl⟩ := List.mem_map.1 ht
  rw [List.mem_range] at hk
  have := place_mem (A.cl s hs ((k : Nat) : Int) (by omega) (by omega))
  omega
def goS (next : S → Int → S) (p : PartM) (first : S) (w : ByteArray) : Nat → S
  | 0 => first
  | i + 1 => next (goS next p first w i) (at_ p.of (byt w ((i : Nat) : Int)))
theorem at_get {α : Type} [Inhabited α] {l : List α} {i : Int} {x : α} (h : l[i.toNat]? = some x) : at_ l i = x := by
  unfold at_
  rw [List.getD_eq_getElem?_getD, h]; rfl
theorem made_at {q k : Int} {s : S} (A : AllOk next p.n first (allM next p.n first)) (hq : (allM next p.n first)[q.toNat]? = some s) (h0 : 0 ≤ k) (h1 : k < p.n) : at_ (at_ (madeM p first next fin).next q) k = placeL (next s k) (allM next p.n first) := by
  have hrow : at_ (madeM p first next fin).next q = (rowsOf next p.n s).map fun t => placeL t (allM next p.n first) := by
    refine at_get ?_
    rw [zcs]; unfold nextTo
    rw [List.take_length, List.getElem?_map, hq]; rfl
  rw [hrow]
  refine at_get ?_
  rw [List.getElem?_map]
  unfold rowsOf
  rw [List.getElem?_map, List.getElem?_range (by omega)]
  simp only [Option.map_some, Int.toNat_of_nonneg h0]
theorem made_go (ho : zbx p) (hR : RightP p) (A : AllOk next p.n first (allM next p.n first)) (w : ByteArray) : ∀ i, 0 ≤ goD (madeM p first next fin) w i ∧ (allM next p.n first)[(goD (madeM p first next fin) w i).toNat]? = some (goS next p first w i)
  | 0 => ⟨Int.le_refl _, A.head⟩
  | i + 1 => by
    have ih := made_go ho hR A w i
    have hb := byt_range w ((i : Nat) : Int)
    have c0 : 0 ≤ at_ p.of (byt w ((i : Nat) : Int)) := u8_lo (zb2 ho.1 (by omega) (by omega))
    have c1 := hR.of_lt _ hb.1 (by omega : byt w ((i : Nat) : Int) < 256)
    have e : goD (madeM p first next fin) w (i + 1) = placeL (next (goS next p first w i) (at_ p.of (byt w ((i : Nat) : Int)))) (allM next p.n first) := made_at A ih.2 c0 c1
    have hm := A.cl _ (List.mem_of_getElem? ih.2) _ c0 c1
    rw [e]
    have := place_mem hm
    exact ⟨this.1, this.2.2⟩
theorem made_run (ho : zbx p) (hp : zc8 p = true) (A : AllOk next p.n first (allM next p.n first)) (w : ByteArray) : runD (madeM p first next fin) w = fin (goS next p first w w.size) := by
  have hR := rightP_of ho hp
  unfold runD
  rw [made_right hp hR A, Bool.true_and]
  refine at_get ?_
  rw [zcj, List.getElem?_map, (made_go ho hR A w w.size).2]; rfl
end
theorem spots_ok {m : Mach} {bs : List Int} {n : Int} (hR : Right m) : AllOk (zbt m bs) n beginB (allM (zbt m bs) n beginB) ∧ (allM (zbt m bs) n beginB).length ≤ 2 ^ m.spots.length + 1 ∧ ∀ s ∈ allM (zbt m bs) n beginB, InB m s :=
  all_ok (P := InB m) (f := codeB m) (.inl rfl) (fun s k _ _ _ => .inr (nextC_in hR _ s)) (fun a b => code_inj) (fun a h => code_lt h)
theorem splits_same {p : PartM} {s : BSet} (hR : RightP p) (h : zdr p s = false) {c d : Int} (c0 : 0 ≤ c) (c1 : c < 256) (d0 : 0 ≤ d) (d1 : d < 256) (k0 : 0 ≤ at_ p.of c) (e : at_ p.of c = at_ p.of d) : has s c = has s d := by
  unfold zdr at h
  have hk := hR.of_lt c c0 c1
  have hl := setsP_len p
  have := List.any_eq_false.1 h (at_ (zb4 p) (at_ p.of c)) (zee k0 (by have := hR.hi; omega))
  have hc := (cuts_iff _ _).1 (by simpa using this)
  have b1 := setsP_at k0 hk hR.hi c0 c1
  have b2 := setsP_at k0 hk hR.hi d0 d1
  rw [decide_eq_true rfl] at b1
  rw [decide_eq_true e.symm] at b2
  unfold has at b1 b2 ⊢
  rcases hc with hc | hc
  · rw [hc _ (by omega) b1, hc _ (by omega) b2]
  · rw [hc _ (by omega) b1, hc _ (by omega) b2]
theorem next_same {m : Mach} (hR : Right m) {c d : Int} (h : ∀ k : Int, 0 ≤ k → k < (m.spots.length : Int) → has (at_ m.spots k).set c = has (at_ m.spots k).set d) (s : BSet) : nextC m c s = nextC m d s := by
  refine has_ext fun k k0 k1 => ?_
  rw [nextC_has hR c s k0 k1, nextC_has hR d s k0 k1]
  by_cases hk : k < (m.spots.length : Int)
  · rw [h k k0 hk]
  · have h1 : decide (k ∈ m.first) = false := decide_eq_false fun e => hk (hR.firsts k e).2
    have h2 : anyTo (fun i => has s ((i : Nat) : Int) && decide (k ∈ at_ m.follow ((i : Nat) : Int))) m.spots.length = false := by
      refine Bool.eq_false_iff.2 fun e => ?_
      obtain ⟨i, hi, h2⟩ := (anyTo_iff _ _).1 e
      simp only [Bool.and_eq_true, decide_eq_true_eq] at h2
      exact hk (hR.rows (by omega) hi k h2.2).2
    rw [h1, h2]; simp
theorem okB_of {m : Mach} {p : PartM} (ho : zbx p) (h : okB m p = true) : zci m = true ∧ Right m ∧ zc8 p = true ∧ RightP p ∧ ∀ k : Int, 0 ≤ k → k < (m.spots.length : Int) → zdr p (at_ m.spots k).set = false := by
  unfold okB at h
  rw [Bool.and_eq_true] at h
  have h2 := h.2
  unfold fitsP at h2
  rw [Bool.and_eq_true] at h2
  refine ⟨h.1, right_iff.1 h.1, h2.1, rightP_of ho h2.1, fun k k0 k1 => ?_⟩
  have h3 : ((zdk m).any (zdr p)) = false := by simpa using h2.2
  have := spot_set m (i := k.toNat) (by omega)
  rw [Int.toNat_of_nonneg k0] at this
  simpa using List.any_eq_false.1 h3 _ this
theorem build_state {m : Mach} {p : PartM} (ho : zbx p) (h : okB m p = true) (w : ByteArray) : ∀ i, goS (zbt m (zat p)) p beginB w (i + 1) ≠ beginB ∧ ∀ k : Int, 0 ≤ k → k < (m.spots.length : Int) → has (goS (zbt m (zat p)) p beginB w (i + 1)) k = at_ (runTo m w i) k := by
  obtain ⟨hr, hR, hp, hP, hs⟩ := okB_of ho h
  have hsm := hR.small
  have step : ∀ (s : BSet) (i : Nat), zbt m (zat p) s (at_ p.of (byt w ((i : Nat) : Int))) = nextC m (byt w ((i : Nat) : Int)) s := fun s i => by
    have hb := byt_range w ((i : Nat) : Int)
    have c0 : 0 ≤ at_ p.of (byt w ((i : Nat) : Int)) := u8_lo (zb2 ho.1 (by omega) (by omega))
    have c1 := hP.of_lt _ hb.1 (by omega : byt w ((i : Nat) : Int) < 256)
    have hl := leastB_at hP c0 c1
    exact next_same hR (fun k k0 k1 => (splits_same hP (hs k k0 k1) hb.1 (by omega) hl.1 hl.2.1 c0 hl.2.2.symm).symm) s
  intro i
  refine ⟨next_ne hR _ _, ?_⟩
  induction i with
  | zero =>
    intro k k0 k1
    show has (zbt m (zat p) beginB (at_ p.of (byt w ((0 : Nat) : Int)))) k = _
    rw [step, nextC_has hR _ _ k0 (by omega)]
    unfold runTo intoP
    rw [tab_at k0 k1, Int.toNat_of_nonneg k0]
    unfold markP
    rw [tab_at k0 k1, Int.toNat_of_nonneg k0]
    have : anyTo (fun i => has beginB ((i : Nat) : Int) && decide (k ∈ at_ m.follow ((i : Nat) : Int))) m.spots.length = false := by
      refine Bool.eq_false_iff.2 fun e => ?_
      obtain ⟨i, hi, h2⟩ := (anyTo_iff _ _).1 e
      rw [has_begin (by omega) (by omega)] at h2
      simp only [Bool.and_eq_true, decide_eq_true_eq] at h2
      omega
    rw [this]; simp
  | succ i ih =>
    intro k k0 k1
    have hne := next_ne hR (at_ (zat p) (at_ p.of (byt w ((i : Nat) : Int)))) (goS (zbt m (zat p)) p beginB w i)
    show has (zbt m (zat p) (goS (zbt m (zat p)) p beginB w (i + 1)) (at_ p.of (byt w ((i + 1 : Nat) : Int)))) k = _
    rw [step, nextC_has hR _ _ k0 (by omega)]
    have hne2 : goS (zbt m (zat p)) p beginB w (i + 1) ≠ beginB := hne
    rw [decide_eq_false hne2]
    show _ = at_ (intoP m (behindP m (runTo m w i)) (byt w ((i + 1 : Nat) : Int))) k
    unfold intoP
    rw [tab_at k0 k1, Int.toNat_of_nonneg k0]
    unfold behindP
    rw [tab_at k0 k1, Int.toNat_of_nonneg k0]
    congr 1
    rw [Bool.false_and, Bool.false_or, Bool.eq_iff_iff, anyTo_iff, anyTo_iff]
    refine exists_congr fun d => and_congr_right fun hd => ?_
    rw [ih _ (by omega) hd]
theorem build_run {m : Mach} {p : PartM} (ho : zbx p) (h : okB m p = true) (w : ByteArray) : runD (zai m p) w = runM m w := by
  obtain ⟨hr, hR, hp, hP, hs⟩ := okB_of ho h
  unfold zai
  rw [if_pos h, made_run ho hp (spots_ok hR).1]
  unfold runM
  rw [hr, Bool.true_and]
  by_cases hw : w.size = 0
  · rw [hw, if_pos rfl]
    exact finalB_begin rfl
  · rw [if_neg hw]
    obtain ⟨n, hn⟩ : ∃ n, w.size = n + 1 := ⟨w.size - 1, by omega⟩
    rw [hn, Nat.add_sub_cancel]
    have := build_state ho h w n
    unfold zdh lastB endsIn
    rw [if_neg this.1, hR.last, Bool.eq_iff_iff, anyTo_iff, anyTo_iff]
    refine exists_congr fun d => and_congr_right fun hd => ?_
    rw [this.2 _ (by omega) hd, Bool.and_comm]
theorem build_right {m : Mach} {p : PartM} (ho : zbx p) (h : okB m p = true) : zcd (zai m p) = true := by
  obtain ⟨hr, hR, hp, hP, hs⟩ := okB_of ho h
  unfold zai
  rw [if_pos h]
  exact made_right hp hP (spots_ok hR).1
theorem build_part {m : Mach} {p : PartM} (h : okB m p = true) : (zai m p).part = p := by unfold zai; rw [if_pos h]; rfl
theorem made_len_eq {S : Type} [DecidableEq S] (p : PartM) (first : S) (next : S → Int → S) (fin : S → Bool) : (madeM p first next fin).next.length = (allM next p.n first).length ∧ (madeM p first next fin).final.length = (allM next p.n first).length := by
  rw [zcs, zcj]; unfold nextTo
  exact ⟨by rw [List.take_length, List.length_map], by rw [List.length_map]⟩
theorem build_len {m : Mach} {p : PartM} (h20 : (m.spots.length : Int) ≤ 20) : ((zai m p).next.length : Int) ≤ 1048577 := by
  unfold zai
  split
  · rename_i h
    have hR : Right m := by
      unfold okB at h
      rw [Bool.and_eq_true] at h
      exact right_iff.1 h.1
    rw [(made_len_eq _ _ _ _).1]
    have := (spots_ok (bs := zat p) (n := p.n) hR).2.1
    have h2 := two_pow_le (a := m.spots.length) (by omega)
    omega
  · simp
theorem errB_iff {m : Mach} {p : PartM} : errB m p = 0 ↔ okB m p = true := by
  unfold errB
  split
  · simp [*]
  · simp [*]
theorem rightP_ref (l : List BSet) : zc8 (zcu l) = true := by unfold zcu; exact right_of _
end Gx
namespace Gx
open Go Go.RowKit
set_option linter.unusedSimpArgs false
set_option linter.unusedSectionVars false
set_option linter.unusedVariables false
inductive Path (m : Mach) (src : List Int) : List Int → Int → Prop
  | one {i c : Int} : i ∈ src → 0 ≤ c → c < 256 → has (at_ m.spots i).set c = true → Path m src [c] i
  | snoc {l : List Int} {j i c : Int} : Path m src l j → i ∈ at_ m.follow j → 0 ≤ c → c < 256 → has (at_ m.spots i).set c = true → Path m src (l ++ [c]) i
theorem Path.some {m : Mach} {src l : List Int} {i : Int} (h : Path m src l i) : 0 < l.length := by cases h <;> simp
theorem Path.inn {m : Mach} (hR : Right m) {src l : List Int} {i : Int} (hs : ∀ x ∈ src, 0 ≤ x ∧ x < (m.spots.length : Int)) (h : Path m src l i) : 0 ≤ i ∧ i < (m.spots.length : Int) := by
  induction h with
  | one h3 => exact hs _ h3
  | snoc h3 h4 h5 h6 h7 ih => exact hR.rows ih.1 ih.2 _ h4
theorem Path.run {m : Mach} (hR : Right m) {l : List Int} {i : Int} (h : Path m m.first l i) : ∀ s : ByteArray, (∀ k : Nat, k < l.length → byt s ((k : Nat) : Int) = at_ l ((k : Nat) : Int)) → at_ (runTo m s (l.length - 1)) i = true := by
  induction h with
  | one h3 h4 h5 h6 =>
    intro s hb
    have hi := hR.firsts _ h3
    have h0 := hb 0 (by simp)
    show at_ (intoP m (markP m.spots.length m.first) (byt s 0)) _ = true
    unfold intoP
    rw [tab_at hi.1 hi.2]
    unfold markP
    rw [tab_at (by omega) (by omega), Int.toNat_natCast, Int.toNat_of_nonneg hi.1, decide_eq_true h3, Bool.true_and]
    have e : byt s 0 = _ := h0
    rw [e]; exact h6
  | snoc h3 h4 h5 h6 h7 ih =>
    rename_i l j i c
    intro s hb
    have hj := Path.inn hR hR.firsts h3
    have hi := hR.rows hj.1 hj.2 _ h4
    have hl := h3.some
    have h8 := ih s fun k hk => by
      rw [hb k (by simp; omega)]
      unfold at_
      rw [List.getD_eq_getElem?_getD, List.getD_eq_getElem?_getD, List.getElem?_append_left (by omega)]
    have h9 := hb l.length (by simp)
    have e1 : at_ (l ++ [c]) ((l.length : Nat) : Int) = c := by unfold at_; simp
    rw [e1] at h9
    rw [show (l ++ [c]).length - 1 = (l.length - 1) + 1 by simp; omega]
    show at_ (intoP m (behindP m (runTo m s (l.length - 1))) (byt s ((l.length - 1 + 1 : Nat) : Int))) i = true
    rw [show l.length - 1 + 1 = l.length by omega, h9]
    unfold intoP
    rw [tab_at hi.1 hi.2]
    unfold behindP
    rw [tab_at (by omega) (by omega), Int.toNat_natCast, Int.toNat_of_nonneg hi.1, h7, Bool.and_true, anyTo_iff]
    exact ⟨j.toNat, by omega, by rw [Int.toNat_of_nonneg hj.1, h8, decide_eq_true h4]; rfl⟩
def reachF (m : Mach) (src : List Int) (l : List Bool) (i : Nat) : Bool := decide (((i : Nat) : Int) ∈ src) || anyTo (fun j => at_ l ((j : Nat) : Int) && decide (((i : Nat) : Int) ∈ at_ m.follow ((j : Nat) : Int))) m.spots.length
def reachM (m : Mach) (src : List Int) : List Bool := lfp m.spots.length (reachF m src)
structure Way (m : Mach) (src : List Int) (texts : List ByteArray) (seen : List Bool) (todo : List Int) : Prop where
  lenT : (texts.length : Int) = m.spots.length
  lenS : (seen.length : Int) = m.spots.length
  inn : ∀ x ∈ todo, 0 ≤ x ∧ x < (m.spots.length : Int)
  nodup : todo.Nodup
  mem : ∀ x : Int, 0 ≤ x → x < (m.spots.length : Int) → (at_ seen x = true ↔ x ∈ todo)
  sound : ∀ x ∈ todo, at_ (reachM m src) x = true
  text : ∀ k : Int, 0 ≤ k → k < (todo.length : Int) → Path m src (zdq (at_ texts (at_ todo k))) (at_ todo k) ∧ ((at_ texts (at_ todo k)).size : Int) ≤ k + 1
  first : ∀ x ∈ src, x ∈ todo
  cnt : todo.length ≤ trues m.spots.length seen
theorem way_len {m : Mach} {src : List Int} {texts : List ByteArray} {seen : List Bool} {todo : List Int} (W : Way m src texts seen todo) : (todo.length : Int) ≤ m.spots.length := by
  have := W.cnt
  have := trues_le m.spots.length seen
  omega
theorem way_size {m : Mach} {src : List Int} {texts : List ByteArray} {seen : List Bool} {todo : List Int} (W : Way m src texts seen todo) {k : Int} (h0 : 0 ≤ k) (h1 : k < (todo.length : Int)) : ((at_ texts (at_ todo k)).size : Int) ≤ m.spots.length := by
  have := (W.text k h0 h1).2
  have := way_len W
  omega
end Gx
namespace Gx
open Go Go.RowKit
set_option linter.unusedSimpArgs false
set_option linter.unusedSectionVars false
set_option linter.unusedVariables false
def ltL : List Int → List Int → Bool
  | _, [] => false
  | [], _ :: _ => true
  | a :: x, b :: y => decide (a < b) || (decide (a = b) && ltL x y)
def lessL (x y : List Int) : Bool := decide (x.length < y.length) || (decide (x.length = y.length) && ltL x y)
def leL (x y : List Int) : Prop := x = y ∨ lessL x y = true
theorem bytesL_range (w : ByteArray) : ∀ x ∈ zdq w, 0 ≤ x ∧ x < 256 := fun x hx => by
  unfold zdq at hx
  obtain ⟨b, _, rfl⟩ := List.mem_map.1 hx
  have := b.toNat_lt
  omega
theorem strOfNums_dataL (l : List Int) : (strOfNums l).data.toList = l.map fun x => UInt8.ofNat x.toNat := by rw [strOfNums_data]
theorem bytes_str {l : List Int} (h : ∀ x ∈ l, 0 ≤ x ∧ x < 256) : zdq (strOfNums l) = l := by
  unfold zdq
  rw [strOfNums_dataL, List.map_map]
  conv => rhs; rw [← List.map_id l]
  refine List.map_congr_left fun x hx => ?_
  have := h x hx
  simp only [Function.comp, id]
  rw [UInt8.toNat_ofNat_of_lt' (by show x.toNat < 256; omega)]
  omega
end Gx
namespace Gx
open Go Go.RowKit
set_option linter.unusedSimpArgs false
set_option linter.unusedSectionVars false
set_option linter.unusedVariables false
def goL (d : Dfa) (l : List Int) : Int := l.foldl (fun q c => at_ (at_ d.next q) (at_ d.part.of c)) 0
theorem goL_snoc (d : Dfa) (l : List Int) (c : Int) : goL d (l ++ [c]) = at_ (at_ d.next (goL d l)) (at_ d.part.of c) := by unfold goL; rw [List.foldl_append]; rfl
theorem goD_take (d : Dfa) (w : ByteArray) : ∀ i, i ≤ w.size → goD d w i = goL d ((zdq w).take i)
  | 0, _ => rfl
  | i + 1, h => by
    have e : (zdq w).take (i + 1) = (zdq w).take i ++ [byt w ((i : Nat) : Int)] := by
      have := zdf (zdq w) (t := ((i : Nat) : Int)) (by omega) (by rw [bytesL_len]; omega)
      rw [bytesL_at w (by omega) (by omega), show (((i : Nat) : Int) + 1).toNat = i + 1 by omega, Int.toNat_natCast] at this
      exact this
    rw [e, goL_snoc, ← goD_take d w i (by omega)]; rfl
theorem goD_list (d : Dfa) (w : ByteArray) : goD d w w.size = goL d (zdq w) := by
  rw [goD_take d w _ (Nat.le_refl _), List.take_of_length_le (by rw [bytesL_len]; exact Nat.le_refl _)]
theorem runD_list {d : Dfa} (h : zcd d = true) (w : ByteArray) : runD d w = at_ d.final (goL d (zdq w)) := by
  unfold runD
  rw [h, goD_list]; rfl
structure StepM where
  st : Int
  fr : Int
  by_ : Int
deriving DecidableEq
instance : Inhabited StepM := ⟨⟨0, 0, 0⟩⟩
end Gx
namespace Gx
open Go Go.RowKit
set_option linter.unusedSimpArgs false
set_option linter.unusedSectionVars false
set_option linter.unusedVariables false
def overM (b : Int) (m : Mach) : Bool := decide (b < (m.spots.length : Int)) || (decide (b < (m.follow.length : Int)) || (decide (b < (m.last.length : Int)) || (decide (b < (m.first.length : Int)) || m.follow.any fun l => decide (b < (l.length : Int)))))
def zdp (m : Mach) : Bool := !overM 8 m
theorem small_1 (m : Mach) (h : (8 : Int) < (m.spots.length : Int)) : zdp m = false := by unfold zdp overM; rw [decide_eq_true h]; rfl
theorem small_2 (m : Mach) (h : (8 : Int) < (m.follow.length : Int)) : zdp m = false := by unfold zdp overM; rw [decide_eq_true h]; simp
theorem small_3 (m : Mach) (h : (8 : Int) < (m.last.length : Int)) : zdp m = false := by unfold zdp overM; rw [decide_eq_true h]; simp
theorem small_4 (m : Mach) (h : (8 : Int) < (m.first.length : Int)) : zdp m = false := by unfold zdp overM; rw [decide_eq_true h]; simp
theorem small_5 (m : Mach) {i : Int} (h0 : 0 ≤ i) (h1 : i < (m.follow.length : Int)) (h : (8 : Int) < ((at_ m.follow i).length : Int)) : zdp m = false := by
  have e : (m.follow.any fun l => decide ((8 : Int) < (l.length : Int))) = true := List.any_eq_true.2 ⟨_, zee h0 h1, decide_eq_true h⟩
  unfold zdp overM; rw [e]; simp
def smallTo (m : Mach) (i : Int) : Bool := (m.follow.take i.toNat).any fun l => decide ((8 : Int) < (l.length : Int))
theorem smallTo_0 (m : Mach) : smallTo m 0 = false := rfl
theorem smallTo_step (m : Mach) {i : Int} (h0 : 0 ≤ i) (h1 : i < (m.follow.length : Int)) (h : smallTo m i = false) (h2 : ¬ (8 : Int) < ((at_ m.follow i).length : Int)) : smallTo m (i + 1) = false := by
  unfold smallTo at h ⊢
  rw [zdf _ h0 h1, List.any_append, h]; simp; omega
theorem small_6 (m : Mach) {i : Int} (hi : (m.follow.length : Int) ≤ i) (h1 : ¬ (8 : Int) < (m.spots.length : Int)) (h2 : ¬ (8 : Int) < (m.follow.length : Int)) (h3 : ¬ (8 : Int) < (m.last.length : Int)) (h4 : ¬ (8 : Int) < (m.first.length : Int)) (h : smallTo m i = false) : zdp m = true := by
  unfold smallTo at h
  rw [List.take_of_length_le (by omega)] at h
  unfold zdp overM
  rw [decide_eq_false h1, decide_eq_false h2, decide_eq_false h3, decide_eq_false h4, h]; rfl
theorem smallM_of {m : Mach} (h : zdp m = true) : (m.spots.length : Int) ≤ 8 ∧ (m.follow.length : Int) ≤ 8 ∧ (m.last.length : Int) ≤ 8 ∧ (m.first.length : Int) ≤ 8 := by
  unfold zdp overM at h
  simp only [Bool.not_eq_true', Bool.or_eq_false_iff, decide_eq_false_iff_not] at h
  omega
def lettersP : PartM := zcu [zbd [97], zbd [98], zbd [99]]
theorem ok_some : okB zba lettersP = true := by decide +kernel
theorem letters_ok : zbx lettersP := by
  have h : lettersP.of.length = 256 := by decide +kernel
  have h2 : (lettersP.of.all fun x => decide (0 ≤ x) && decide (x ≤ 255)) = true := by decide +kernel
  have h3 : lettersP.n = 4 := by decide +kernel
  refine ⟨⟨h, fun x hx => ?_⟩, by rw [h3]; constructor <;> decide⟩
  have := List.all_eq_true.1 h2 x hx
  simp only [Bool.and_eq_true, decide_eq_true_eq] at this
  exact in_u8 this.1 this.2
theorem some_1 : errB zba lettersP = 0 := errB_iff.2 ok_some
theorem some_2 : zcd (zai zba lettersP) = true := build_right letters_ok ok_some
theorem some_all : (bfs (zbt zba (zat lettersP)) lettersP.n beginB 5).length = 5 := by decide +kernel
theorem some_3 : ((zai zba lettersP).next.length : Int) = 5 := by
  unfold zai
  rw [if_pos ok_some, (made_len_eq _ _ _ _).1, allM_eq (i := 5) (by rw [some_all]; exact Nat.le_refl _), some_all]; rfl
theorem some_4 : runD (zai zba lettersP) ⟨#[]⟩ = true := by rw [build_run letters_ok ok_some]; decide +kernel
theorem some_5 : runD (zai zba lettersP) ⟨#[97, 98]⟩ = true := by rw [build_run letters_ok ok_some]; decide +kernel
theorem some_6 : runD (zai zba lettersP) ⟨#[97, 99]⟩ = false := by rw [build_run letters_ok ok_some]; decide +kernel
theorem sets_le (m : Mach) : ((zdk m).length : Int) ≤ m.spots.length := by
  have := fold_add_len (m.spots.map fun x => x.set) []
  unfold zdk
  rw [List.length_map, List.length_nil] at this; omega
theorem okPart_ref (l : List BSet) : zbx (zcu l) := by unfold zcu; exact okPart_of _
def zap (a b : Mach) : PartM := zcu (zdk a ++ zdk b)
theorem partP_eq (a b : Mach) : zcu (zdk a ++ zdk b) = zap a b := rfl
theorem okPart_pP (a b : Mach) : zbx (zap a b) := okPart_ref _
end Gx
